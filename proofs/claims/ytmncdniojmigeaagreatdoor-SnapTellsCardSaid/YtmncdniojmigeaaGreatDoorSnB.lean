/- Parts of the proofs of SnapReads, SnapTells, SnapSpoilt: the walk through the code, and plain Lean. No condition. -/
import Derived.Test.YtmncdniojmigeaaGreatDoorSnA
import Derived.Test.YtmncdniojmigeaaGreatDoorProg
import Derived.WalkKit
import Derived.LaidEql
import Derived.Stop.Asserts
import Derived.RowKitTokens
import Derived.Elder7
set_option linter.unusedVariables false
set_option linter.unusedSimpArgs false
namespace Go.Proofs.YtmncdniojmigeaaGreatDoor
open Go Go.Lt
set_option maxRecDepth 10000
set_option linter.unusedVariables false
attribute [local irreducible] W WL AC
open Tryz
variable {c0:Cx} {G:Gm} {F:List En} {sg:Sto} {v1 v2 v3 v4 v5 v6 v7 v8 v9 v10 v11 v12 v13 v14 v15 v16 v17 v18 v19 v20 v21 v22 v23 v24 v25 v26 v27 v28 v29 v30 v31 v32 v33 v34 v35 v36 v37 v38 v39 v40 v41 v42 v43 v44 v45 v46 v47 v48 v49 v50 v51 v52 v53 v54 v55 v56 v57 v58 v59 v60:Value}
def fF (p0:Int):Option (Int):=
 some (oL 1 (mW p0 1024))
theorem kg (b:Own c0 G F) (a:Int) {r:Int} (H:fF a=some r): Calls prog 103 #[I a] c0.w (aX c0 fun c v=>Own c G (F)∧v=I r):=by
 unfold fF at H;refine en func103 rfl rfl (sr (va (I 0) (wln (sr (va (I a) (va (I (mW a 1024)) (vv (I (oL 1 (mW a 1024))) (wln (W.ret ?_)))))))));obtain rfl:=si H;exact r1 (qq c0 ⟨b,rfl⟩)
def fG (p0:Int) (p1:Int):Option (Int):=
 some (oL 0 (mW p0 (w64 (p1 - 1))))
theorem kh (d:Own c0 G F) (b:Int) (a:Int) {r:Int} (H:fG b a=some r): Calls prog 104 #[I b,I a] c0.w (aX c0 fun c v=>Own c G (F)∧v=I r):=by
 unfold fG at H;refine en func104 rfl rfl (sr (va (I 0) (wln (sr (va (I b) (va (I a) (va (I (w64 (a - 1))) (va (I (mW b (w64 (a - 1)))) (vv (I (oL 0 (mW b (w64 (a - 1))))) (wln (W.ret ?_)))))))))));obtain rfl:=si H;exact r1 (qq c0 ⟨d,rfl⟩)
def gw (p0:aF) (p1:Int) (p2:Int):Option (aF):=
 (fF p1).bind fun a=>
 (fF p2).bind fun e=>
 (fG p0.Row e).bind fun c=>
 (fG p0.Col a).bind fun d=>
 (cj p0.Pending (some (p0.Col==(w64 (a - 1))))).bind fun b=>
 some (⟨c,d,b⟩:aF)
theorem nJ (O0:Own c0 G F) (a:aF) (n:Int) (o:Int) {r:aF} (H:gw a n o=some r): Calls prog 83 #[.agg #[I a.Row,I a.Col,B a.Pending],I n,I o] c0.w (aX c0 fun c v=>Own c G (F)∧v= .agg #[I r.Row,I r.Col,B r.Pending]):=by
 unfold gw at H;refine en func83 rfl rfl (sr (me (bx 47 [I a.Row,I a.Col,B a.Pending] O0) ?_));rintro v5 c4 l4 ⟨k,rfl,O2,m⟩;refine me (al 47 [I 0,I 0,B false] O2) ?_;rintro v9 c8 l8 ⟨R,rfl,O7⟩;refine wln (sr (va (I n) (bn H fun b Z H=>cl (kg O7 n Z) ?_)));rintro v16 l0 o0 ⟨z,rfl⟩;refine va (I o) (bn H fun j a0 H=>cl (kg z o a0) ?_);rintro v23 S q0 ⟨A,rfl⟩;refine va (I b) (va (I j) (wln (W.seq (bn H fun d b0 H=>bn H fun e d0 H=>bn H fun i x H=>W.join (Jn S fun c l=>Own c G ((Eb R 47 [I d,I e,B i]) :: F)∧l= [(6,Q R)]) ?_ ?_))))
 ·clear H;refine rD [] (Kp G0 []) A ?_;intro T s0 D;have y0:Kp G0 [] T:=Kp.nil0;refine ta 0 (Q k) (tx 1 (fun h g=>l1 u_3 ((mm m) 0 _ rfl)) (ta 2 (I j) (ta 4 (Qo k (0+1)) (tx 5 (fun h g=>l1 u_3 ((mm m) 1 _ rfl)) (ta 6 (I b) (ta 8 (Qo k (0+2)) (tx 9 (fun h g=>l1 u_4 ((mm m) 2 _ rfl)) (o1 3 (gc 3 (kh D a.Row j b0) ?_)))))))));rintro v35 U t0 ⟨E,rfl⟩;have e0:Kp G0 [] U:=Kp.nil0;refine ⟨.inr e0,o1 7 (gc 7 (kh E a.Col b d0) ?_)⟩;rintro v42 X u0 ⟨p,rfl⟩;have f0:Kp G0 [] X:=Kp.nil0;refine ⟨.inr f0,?_⟩;rcases bo (a.Pending) with f | f
  ·have y:=anT f x;refine AC.takeb 10 f rfl (by kernel_rfl) (by kernel_rfl) (fun h g=>(by kernel_rfl)) (ta 11 (Qo k (0+1)) (tx 12 (fun h g=>l1 u_3 ((mm m) 1 _ rfl)) (ta 13 (I b) (ta 14 (I (w64 (b - 1))) (ta 15 (B (a.Col==(w64 (b - 1)))) ?_)))));obtain rfl:=si y;refine ta 16 (B (a.Col==(w64 (b - 1)))) (ta 17 (.agg #[I d,I e,B (a.Col==(w64 (b - 1)))]) (o1 18 (gD 18 (sA 47 [I d,I e,B (a.Col==(w64 (b - 1)))] 0 p ⟨rfl,rfl,rfl,trivial⟩) ?_)));rintro s v0 M;have g0:Kp G0 [] s:=Kp.nil0;exact ⟨.inr g0,dn (nrm (jn s ⟨M,rfl⟩))⟩
  obtain rfl:=anF f x;refine AC.takeb 10 f rfl (by kernel_rfl) (by kernel_rfl) (fun h g=>(by kernel_rfl)) (tp 11 (tp 12 (tp 13 (tp 14 (tp 15 (ta 16 (B false) (ta 17 (.agg #[I d,I e,B false]) (o1 18 (gD 18 (sA 47 [I d,I e,B false] 0 p ⟨rfl,rfl,rfl,trivial⟩) ?_)))))))));rintro t w0 N;have h0:Kp G0 [] t:=Kp.nil0;exact ⟨.inr h0,dn (nrm (jn t ⟨N,rfl⟩))⟩
 rintro e_ w_ ⟨u,m0,_,rfl,x0,rfl,q,rfl⟩;refine nrm (W.ret ?_);obtain rfl:=si H;have P:=q.sD 1 [];exact wF (c:=u) (vs:=[I d,I e,B i]) rfl (by kernel_rfl) (by kernel_rfl) (by kernel_rfl) (q.on 0 rfl _ rfl).1 ⟨_,u,rfl,rfl,pt,P,rfl⟩
def ey (p0:aF) (p1:Int) (p2:Int):Option (Bool):=
 (gw p0 p1 p2).bind fun a=>
 some (p0.Row==a.Row && (p0.Col==a.Col && (p0.Pending==a.Pending && true)))
theorem jG (l:Own c0 G F) (a:aF) (d:Int) (e:Int) {r:Bool} (H:ey a d e=some r): Calls prog 59 #[.agg #[I a.Row,I a.Col,B a.Pending],I d,I e] c0.w (aX c0 fun c v=>Own c G (F)∧v=B r):=by
 unfold ey at H;refine en func59 rfl rfl (sr (me (bx 47 [I a.Row,I a.Col,B a.Pending] l) ?_));rintro v5 t u ⟨s,rfl,m,j⟩;refine va (B false) (wln (W.seq (rD [] (Kp G0 []) m ?_)));intro o x n;have y:Kp G0 [] o:=Kp.nil0;refine tx 0 (fun i g=>lN 47 (mm j)) (tx 1 (fun i g=>lN 47 (mm j)) (ta 2 (I d) (ta 3 (I e) (bn H fun b p H=>o1 4 (gc 4 (nJ n a d e p) ?_)))));rintro v15 f q ⟨h,rfl⟩;have k:Kp G0 [] f:=Kp.nil0;refine ⟨.inr k,AC.take 5 (B (a.Row==b.Row && (a.Col==b.Col && (a.Pending==b.Pending && true)))) rfl (by kernel_rfl) (by kernel_rfl) (fun i g=>(pe (T:=47) (xs:= #[I a.Row,I a.Col,B a.Pending]) (ys:= #[I b.Row,I b.Col,B b.Pending]) (r:=(a.Row==b.Row && (a.Col==b.Col && (a.Pending==b.Pending && true)))) underlying47 (by kernel_rfl) (by kernel_rfl) (EqP.int (by kernel_rfl) u_3 rfl rfl (EqP.int (by kernel_rfl) u_3 rfl rfl (EqP.bool (by kernel_rfl) u_4 rfl rfl EqP.nil))) (by kernel_rfl) _)) (ta 6 (B (a.Row==b.Row && (a.Col==b.Col && (a.Pending==b.Pending && true)))) (dn (nrm (W.ret ?_))))⟩;obtain rfl:=si H;exact r1 (qq f ⟨h,rfl⟩)
def fj (p0:Int):Option (Bool):=
 (cj (decide (p0≥0)) (some (decide (p0 < 55296)))).bind fun b=>
 (orE b ((cj (decide (p0 > 57343)) (some (decide (p0≤1114111)))).bind fun a=>
 some a)).bind fun c=>
 some c
theorem nk (e:Own c0 G F) (a:Int) {r:Bool} (H:fj a=some r): Calls prog 107 #[J a] c0.w (aX c0 fun c v=>Own c G (F)∧v=B r):=by
 unfold fj at H;refine en func107 rfl rfl (sr (va (B false) (wln (W.seq (bn H fun z t H=>bn H fun s n H=>W.join (Jn c0 fun c l=>Own c G (F)∧l= [(2,B s)]) ?_ ?_)))))
 ·clear H;refine W.region (va (J a) (va (B (decide (a≥0))) ?_));rcases bo (decide (a≥0)) with f | f
  ·have x:=anT f t;refine vb f (wa (J a) (wa (B (decide (a < 55296))) ?_));obtain rfl:=si x;refine va (B (decide (a < 55296))) ?_;rcases bo (decide (a < 55296)) with g | g
   ·obtain rfl:=orT g n;exact vb g (pz (pz (pz (vv (B true) (wln (jn c0 ⟨e,rfl⟩))))))
   have i:=orF g n;refine vb g (wa (J a) (wa (B (decide (a > 57343))) (wn (bn i fun m u i=>?_))));rcases bo (decide (a > 57343)) with h | h
   ·have y:=anT h u;refine vb h (wa (J a) (wa (B (decide (a≤1114111))) (wn ?_)));obtain rfl:=si y;refine va (B (decide (a≤1114111))) ?_;obtain rfl:=si i;exact vv (B (decide (a≤1114111))) (wln (jn c0 ⟨e,rfl⟩))
   obtain rfl:=anF h u;refine vb h (pz (wa (B false) ?_));obtain rfl:=si i;exact vv (B false) (wln (jn c0 ⟨e,rfl⟩))
  obtain rfl:=anF f t;refine vb f (pz (va (B false) ?_));have j:false=false:=rfl;have d:=orF j n;refine vb j (wa (J a) (wa (B (decide (a > 57343))) (wn (bn d fun m k d=>?_))));rcases bo (decide (a > 57343)) with b | b
  ·have o:=anT b k;refine vb b (wa (J a) (wa (B (decide (a≤1114111))) (wn ?_)));obtain rfl:=si o;refine va (B (decide (a≤1114111))) ?_;obtain rfl:=si d;exact vv (B (decide (a≤1114111))) (wln (jn c0 ⟨e,rfl⟩))
  obtain rfl:=anF b k;refine vb b (pz (wa (B false) ?_));obtain rfl:=si d;exact vv (B false) (wln (jn c0 ⟨e,rfl⟩))
 rintro E M ⟨q,A,_,rfl,D,rfl,p,rfl⟩;refine nrm (W.ret ?_);obtain rfl:=si H;exact r1 (qq q ⟨p,rfl⟩)
def ez (p0:Int):Option (Bool):=
 (fj p0).bind fun a=>
 some (!a)
theorem nn (d:Own c0 G F) (a:Int) {r:Bool} (H:ez a=some r): Calls prog 106 #[J a] c0.w (aX c0 fun c v=>Own c G (F)∧v=B r):=by
 unfold ez at H;refine en func106 rfl rfl (sr (va (B false) (wln (sr (va (J a) (bn H fun b g H=>cl (nk d a g) ?_))))));rintro v7 f h ⟨e,rfl⟩;refine vv (B (!b)) (wln (W.ret ?_));obtain rfl:=si H;exact r1 (qq f ⟨e,rfl⟩)
def be (p0:List Int):Option (Int):=
 (ed (σ:=Int) (τ:=Int ⊕ Unit) (((p0.length:Int) - 0).toNat+1) (fun b=>
 if (decide (b < (p0.length:Int)))=true then
 (idx p0 b).bind fun c=>
 (ez c).bind fun d=>
 if d=true then
 some (.inr (.inl b))
 else
 some (.inl ((w64 (b+1))))
 else
 some (.inr (.inr ()))) (0)).bind fun a=>
 match a with
 | .inl a=>
 some a
 | .inr a=>
 some (-1)
theorem eP (U:Own c0 G F) (d:List Int) {r:Int} (j:Sl (RI .i32) c0 v1 d) (H:be d=some r): Calls prog 140 #[v1,.func (.func 106) #[] #[]] c0.w (aX c0 fun c v=>Own c G (F)∧v=I r):=by
 unfold be at H;refine en func140 rfl rfl (sr (va (I 0) (wln (W.seq (sr (va (v1) (vx (ln 3 eS j) (va (I 0) (wln (W.block (bn H fun b N i=>lp N (fun a=>Jn c0 fun c l=>Own c G (F)∧l= [(0,v1),(1,.func (.func 106) #[] #[]),(7,I (d.length:Int)),(8,I a)]) (fun t=>match t with | .inl k=>(fun R ex e w=>ex= .ret∧(Jn c0 fun c l=>Own c G (F)∧l= [(4,I R)]) e w) k | .inr k=>(fun b0 ex e w=>ex= .exit 0∧(Jn c0 fun c l=>Own c G (F)∧l= []) e w) k) ?_ ?_ ?_)))))))))))
 ·clear i N;intro a j0 y T H;revert y T;rintro x S ⟨X,g6,_,rfl,Z,rfl,q,rfl⟩;refine sr (va (B (decide (a < (d.length:Int)))) (wln (W.seq (cn H (fun A H=>?_) (fun A H=>?_)))))
  ·refine W.skip (nrm (W.seq (W.block (sr (vv (I a) (wln (sr (va (.func (.func 106) #[] #[]) (va (v1) (va (I a) (bn H fun n h H=>?_)))))))))));obtain ⟨a0,D,P⟩:=Sl.at (j.mono Z) (ba h);obtain rfl:=D;refine vx (ix eS j.m h) (vx (l1 rd (P 0 _ rfl)) (bn H fun d0 E H=>cl (nn q n E) ?_));rintro v22 g g0 ⟨f,rfl⟩;refine wln (cn H (fun M H=>?_) (fun M H=>?_))
   ·refine sr (vv (I a) (wln (W.ret (bkr (thr ?_)))));obtain rfl:=si H;exact ⟨_,rfl,⟨rfl,jn g ⟨f,rfl⟩⟩⟩
   refine W.skip (bkn (nrm (W.region (vv (I (w64 (a+1))) (WL.nil ?_)))));obtain rfl:=si H;exact ⟨_,rfl,jn g ⟨f,rfl⟩⟩
  refine W.exit (thx ?_);obtain rfl:=si H;exact ⟨_,rfl,rfl,jn X ⟨q,rfl⟩⟩
 ·exact jn c0 ⟨U,rfl⟩
 rcases b with b | b
 ·intro z; revert z;rintro _ x S ⟨rfl,s,e0,_,rfl,h0,rfl,o,rfl⟩;refine bkr (thr ?_);obtain rfl:=si i;exact r1 (qq s ⟨o,rfl⟩)
 rintro _ x S ⟨rfl,u,f0,_,rfl,i0,rfl,p,rfl⟩;refine bke (nrm (sr (va (I (-1)) (wln (W.ret ?_)))));obtain rfl:=si i;exact r1 (qq u ⟨p,rfl⟩)
def aK (p0:List Int):Option (Bool):=
 (be p0).bind fun a=>
 some (decide (a≥0))
theorem ep (d:Own c0 G F) (b:List Int) {r:Bool} (g:Sl (RI .i32) c0 v1 b) (H:aK b=some r): Calls prog 105 #[v1,.func (.func 106) #[] #[]] c0.w (aX c0 fun c v=>Own c G (F)∧v=B r):=by
 unfold aK at H;refine en func105 rfl rfl (sr (va (B false) (wln (sr (va (v1) (va (.func (.func 106) #[] #[]) (bn H fun a h H=>cl (eP d b g h) ?_)))))));rintro v9 f i ⟨e,rfl⟩;refine vv (B (decide (a≥0))) (wln (W.ret ?_));obtain rfl:=si H;exact r1 (qq f ⟨e,rfl⟩)
def eM (p0:ak):Option (Bool):=
 (if (p0.Kind==0)=true then
 some (p0.Kind==0)
 else
 some (p0.Kind==3)).bind fun e=>
 if e=true then
 some ((p0.Text.length:Int)==0)
 else
 (if (p0.Kind==1)=true then
 some (p0.Kind==1)
 else
 some (p0.Kind==2)).bind fun d=>
 if d=true then
 (cj (decide ((p0.Text.length:Int) > 0)) (some (decide ((p0.Text.length:Int)≤16)))).bind fun a=>
 (cj a ((aK p0.Text).bind fun c=>
 some (!c))).bind fun b=>
 some b
 else
 some false
theorem lf (O0:Own c0 G F) (a:ak) {r:Bool} (s:Sl (RI .i32) c0 v1 a.Text) (H:eM a=some r): Calls prog 84 #[.agg #[I a.Kind,v1]] c0.w (aX c0 fun c v=>Own c G (F)∧v=B r):=by
 unfold eM at H;refine en func84 rfl rfl (sr ?_);obtain ⟨a3,a4,a5,rfl⟩:=(s).form;refine me (bx 94 [I a.Kind,.slice a3 a4 a5] O0) ?_;rintro v10 z l9 ⟨i,rfl,P,u⟩;refine va (B false) (wln (W.seq (sr (va (Q i) (vx (l1 u_3 (u 0 _ rfl)) (wln (W.block (bn H fun e0 d e=>W.seqJ (Jn z fun c l=>Own c G (F)∧l= [(1,Q i),(4,I a.Kind),(5,B e0)]) ?_ ?_))))))))
 ·refine sr (vv (B (a.Kind==0)) (wln (cn d (fun U d=>?_) (fun U d=>?_))))
  ·refine W.skip (nrm ?_);obtain rfl:=si d;exact jn z ⟨P,rfl⟩
  refine W.region (vv (B (a.Kind==3)) (wln ?_));obtain rfl:=si d;exact jn z ⟨P,rfl⟩
 rintro T w_ ⟨n,k0,_,rfl,o0,rfl,q,rfl⟩;refine cn e (fun X e=>?_) (fun X e=>?_)
 ·refine sr (va (Qo i (0+1)) (vx (l1 eS ((mm u) 1 _ rfl)) (vx (ln 3 eS s.m) (vv (B ((a.Text.length:Int)==0)) (wln (W.ret (bkr (thr ?_))))))));obtain rfl:=si e;exact r1 (qq n ⟨q,rfl⟩)
 refine bn e fun D f b=>W.seqJ (Jn n fun c l=>Own c G (F)∧l= [(1,Q i),(12,B D)]) ?_ ?_
 ·refine sr (vv (B (a.Kind==1)) (wln (cn f (fun Z f=>?_) (fun Z f=>?_))))
  ·refine W.skip (nrm ?_);obtain rfl:=si f;exact jn n ⟨q,rfl⟩
  refine W.region (vv (B (a.Kind==2)) (wln ?_));obtain rfl:=si f;exact jn n ⟨q,rfl⟩
 rintro T w_ ⟨o,l0,_,rfl,q0,rfl,k,rfl⟩;refine cn b (fun a0 b=>?_) (fun a0 b=>?_)
 ·refine W.seq (bn b fun j0 x b=>bn b fun A t b=>W.join (Jn o fun c l=>Own c G (F)∧l= [(2,B A)]) ?_ ?_)
  ·clear b;refine W.region (va (Qo i (0+1)) (vx (l1 eS ((mm u) 1 _ rfl)) (vx (ln 3 eS s.m) (va (B (decide ((a.Text.length:Int) > 0))) ?_))));rcases bo (decide ((a.Text.length:Int) > 0)) with g | g
   ·have E:=anT g x;refine vb g (wa (Qo i (0+1)) (wn (vx (l1 eS ((mm u) 1 _ rfl)) (wn (vx (ln 3 eS s.m) (wa (B (decide ((a.Text.length:Int)≤16))) ?_))))));obtain rfl:=si E;refine va (B (decide ((a.Text.length:Int)≤16))) ?_;rcases bo (decide ((a.Text.length:Int)≤16)) with h | h
    ·have p:=anT h t;refine vb h (wa (Qo i (0+1)) (wn (vx (l1 eS ((mm u) 1 _ rfl)) (wn (bn p fun j b0 p=>cl (ep k a.Text s.m b0) ?_)))));rintro v43 R s0 ⟨M,rfl⟩;refine wa (B (!j)) ?_;obtain rfl:=si p;exact vv (B (!j)) (wln (jn R ⟨M,rfl⟩))
    obtain rfl:=anF h t;exact vb h (pz (pz (vv (B false) (wln (jn o ⟨k,rfl⟩)))))
   obtain rfl:=anF g x;refine vb g (pz (pz (va (B false) ?_)));have y:false=false:=rfl;obtain rfl:=anF y t;exact vb y (pz (pz (vv (B false) (wln (jn o ⟨k,rfl⟩)))))
  rintro T w_ ⟨S,m0,_,rfl,t0,rfl,N,rfl⟩;refine nrm (W.ret (bkr (thr ?_)));obtain rfl:=si b;exact r1 (qq S ⟨N,rfl⟩)
 refine W.skip (bkn (nrm (sr (va (B false) (wln (W.ret ?_))))));obtain rfl:=si b;exact r1 (qq o ⟨k,rfl⟩)
def fA (p0:List ak):Option (Bool):=
 (ed (σ:=Bool×Int) (τ:=Bool ⊕ Bool) (((p0.length:Int) - 0).toNat+1) (fun b=>
 if (decide (b.2 < (p0.length:Int)))=true then
 (idx p0 b.2).bind fun c=>
 (eM c).bind fun e=>
 (orE (!e) (some (!(b.1==(c.Kind==3))))).bind fun d=>
 if d=true then
 some (.inr (.inl false))
 else
 some (.inl (c.Kind==2,(w64 (b.2+1))))
 else
 some (.inr (.inr (b.1)))) (false,0)).bind fun a=>
 match a with
 | .inl a=>
 some a
 | .inr a=>
 some (!a)
theorem lc (O0:Own c0 G F) (p:List ak) {r:Bool} (M:Sl bG c0 v1 p) (H:fA p=some r): Calls prog 60 #[v1] c0.w (aX c0 fun c v=>Own c G (F)∧v=B r):=by
 unfold fA at H;refine en func60 rfl rfl (sr (va (B false) (wln (sr (va (B false) (wln (W.seq (sr (va (v1) (vx (ln 3 fe M) (va (I 0) (wln (W.block (bn H fun d h3 A=>lp h3 (fun b=>Jn c0 fun c l=>Own c G (F)∧l= [(3,B b.1),(6,v1),(7,I (p.length:Int)),(8,I b.2)]) (fun t=>match t with | .inl R=>(fun s0 ex e w=>ex= .ret∧(Jn c0 fun c l=>Own c G (F)∧l= [(2,B s0)]) e w) R | .inr R=>(fun N ex e w=>ex= .exit 0∧(Jn c0 fun c l=>Own c G (F)∧l= [(3,B N)]) e w) R) ?_ ?_ ?_))))))))))))))
 ·clear A h3;intro b h1 g0 t0 H;revert g0 t0;rintro E P ⟨c5,g6,_,rfl,l5,rfl,O7,rfl⟩;refine sr (va (B (decide (b.2 < (p.length:Int)))) (wln (W.seq (cn H (fun i0 H=>?_) (fun i0 H=>?_)))))
  ·refine W.skip (nrm (W.seq (W.block (sr (bn H fun a y H=>?_)))));obtain ⟨x0,j0,q0⟩:=Sl.at (M.mono l5) (ba y);obtain ⟨v16,rfl,o⟩:=j0;refine vx (ix fe M.m y) (vx (lN 94 q0) (me (al 94 [I 0,Y] O7) ?_));rintro v21 y0 o0 ⟨g,rfl,T⟩;obtain ⟨j,k,n,rfl⟩:=((o.mono o0)).form;refine md (sA 94 [I a.Kind,.slice j k n] 0 T ⟨rfl,o.m.one,trivial⟩) ?_;rintro d0 c1 s;refine wln (W.seq (W.seq (bn H fun q k0 H=>bn H fun D z H=>W.join (Jn d0 fun c l=>Own c G ((Eb g 94 [I a.Kind,.slice j k n]) :: F)∧l= [(5,Q g),(6,v1),(7,I (p.length:Int)),(8,I b.2),(21,B D)]) ?_ ?_)))
   ·clear H;refine W.region (vx (leN 94 0 [I a.Kind,.slice j k n] (s.on 0 rfl)) (cl (lf s a o.m k0) ?_));rintro v34 u d1 ⟨h,rfl⟩;refine va (B (!q)) ?_;rcases bo (!q) with f | f
    ·obtain rfl:=orT f z;exact vb f (pz (pz (ps (va (B true) (wln (jn u ⟨h,rfl⟩))))))
    have S:=orF f z;refine vb f (wa (B b.1) (wa (Q g) (wn (vx (le1 0 u_3 (h.on 0 rfl)) (wa (B (a.Kind==3)) (wa (B (!(b.1==(a.Kind==3)))) ?_))))));obtain rfl:=si S;exact va (B (!(b.1==(a.Kind==3)))) (wln (jn u ⟨h,rfl⟩))
   rintro E P ⟨x,z0,_,rfl,e1,rfl,i,rfl⟩;refine nrm (cn H (fun m0 H=>?_) (fun m0 H=>?_))
   ·refine sr (va (B false) (wln (W.ret (thr (bkr (thr ?_))))));obtain rfl:=si H;refine ⟨_,rfl,⟨rfl,?_⟩⟩;have U:=i.sD 1 [];exact jn x ⟨U,rfl⟩
   refine W.skip (nrm (W.region (va (Q g) (vx (le1 0 u_3 (i.on 0 rfl)) (vv (B (a.Kind==2)) (WL.nil (bkn (nrm (W.region (vv (I (w64 (b.2+1))) (WL.nil ?_)))))))))));obtain rfl:=si H;refine ⟨_,rfl,?_⟩;have X:=i.sD 1 [];exact jn x ⟨X,rfl⟩
  refine W.exit (thx ?_);obtain rfl:=si H;exact ⟨_,rfl,rfl,jn c5 ⟨O7,rfl⟩⟩
 ·exact jn c0 ⟨O0,rfl⟩
 rcases d with d | d
 ·intro h0; revert h0;rintro _ E P ⟨rfl,e0,a1,_,rfl,f1,rfl,Z,rfl⟩;refine bkr (thr ?_);obtain rfl:=si A;exact r1 (qq e0 ⟨Z,rfl⟩)
 rintro _ E P ⟨rfl,f0,b1,_,rfl,g1,rfl,a0,rfl⟩;refine bke (nrm (sr (va (B d) (vv (B (!d)) (wln (W.ret ?_))))));obtain rfl:=si A;exact r1 (qq f0 ⟨a0,rfl⟩)
def eK (p0:af):Option (Bool):=
 (orE (p0.High != (p0.Lines.length:Int)) (some (decide (p0.High < 1)))).bind fun d=>
 (orE d (some (decide (p0.High > 1024)))).bind fun e=>
 (orE e (some (decide (p0.Wide < 1)))).bind fun f=>
 (orE f (some (decide (p0.Wide > 1024)))).bind fun g=>
 (orE g ((ey p0.At p0.Wide p0.High).bind fun j=>
 some (!j))).bind fun h=>
 if h=true then
 some false
 else
 (ed (σ:=Int) (τ:=Bool ⊕ Unit) (((p0.Lines.length:Int) - 0).toNat+1) (fun b=>
 if (decide (b < (p0.Lines.length:Int)))=true then
 (idx p0.Lines b).bind fun c=>
 (orE ((c.Cells.length:Int) != p0.Wide) ((fA c.Cells).bind fun k=>
 some (!k))).bind fun i=>
 if i=true then
 some (.inr (.inl false))
 else
 some (.inl ((w64 (b+1))))
 else
 some (.inr (.inr ()))) (0)).bind fun a=>
 match a with
 | .inl a=>
 some a
 | .inr a=>
 some true
theorem iT (O0:Own c0 G F) (a:af) {r:Bool} (T:Sl aJ c0 v1 a.Lines) (H:eK a=some r): Calls prog 27 #[.agg #[I a.Wide,I a.High,v1,I a.At.Row,I a.At.Col,B a.At.Pending,B a.Auto]] c0.w (aX c0 fun c v=>Own c G (F)∧v=B r):=by
 unfold eK at H;refine en func27 rfl rfl (sr ?_);obtain ⟨a3,a4,a5,rfl⟩:=(T).form;refine me (bx 49 [I a.Wide,I a.High,.slice a3 a4 a5,I a.At.Row,I a.At.Col,B a.At.Pending,B a.Auto] O0) ?_;rintro v10 E l9 ⟨b,rfl,D,f⟩;refine va (B false) (wln (W.seq (W.seq (bn H fun u2 k0 H=>bn H fun v2 S H=>bn H fun w2 z H=>bn H fun x2 j H=>bn H fun f1 h H=>W.join (Jn E fun c l=>Own c G (F)∧l= [(1,Q b),(40,B f1)]) ?_ ?_))))
 ·clear H;refine W.region (va (Qo b (0+1)) (vx (l1 u_3 (f 1 _ rfl)) (va (Qo b (0+2)) (vx (l1 dX (f 2 _ rfl)) (vx (ln 3 dX T.m) (va (B (a.High != (a.Lines.length:Int))) ?_))))));rcases bo (a.High != (a.Lines.length:Int)) with n | n
  ·obtain rfl:=orT n k0;refine vb n (pz (ps (va (B true) ?_)));have l0:true=true:=rfl;obtain rfl:=orT l0 S;refine vb l0 (pz (ps (va (B true) ?_)));have m0:true=true:=rfl;obtain rfl:=orT m0 z;refine vb m0 (pz (ps (va (B true) ?_)));have o0:true=true:=rfl;obtain rfl:=orT o0 j;refine vb o0 (pz (ps (va (B true) ?_)));have q0:true=true:=rfl;obtain rfl:=orT q0 h;exact vb q0 (pz (pz (pz (pz (va (B true) (wln (jn E ⟨D,rfl⟩)))))))
  have i1:=orF n k0;refine vb n (wa (Qo b (0+1)) (wn (vx (l1 u_3 (f 1 _ rfl)) (wa (B (decide (a.High < 1))) ?_))));obtain rfl:=si i1;refine va (B (decide (a.High < 1))) ?_;rcases bo (decide (a.High < 1)) with o | o
  ·obtain rfl:=orT o S;refine vb o (pz (ps (va (B true) ?_)));have s0:true=true:=rfl;obtain rfl:=orT s0 z;refine vb s0 (pz (ps (va (B true) ?_)));have t0:true=true:=rfl;obtain rfl:=orT t0 j;refine vb t0 (pz (ps (va (B true) ?_)));have u0:true=true:=rfl;obtain rfl:=orT u0 h;exact vb u0 (pz (pz (pz (pz (va (B true) (wln (jn E ⟨D,rfl⟩)))))))
  have j1:=orF o S;refine vb o (wa (Qo b (0+1)) (wn (vx (l1 u_3 (f 1 _ rfl)) (wa (B (decide (a.High > 1024))) ?_))));obtain rfl:=si j1;refine va (B (decide (a.High > 1024))) ?_;rcases bo (decide (a.High > 1024)) with p | p
  ·obtain rfl:=orT p z;refine vb p (pz (ps (va (B true) ?_)));have v0:true=true:=rfl;obtain rfl:=orT v0 j;refine vb v0 (pz (ps (va (B true) ?_)));have w0:true=true:=rfl;obtain rfl:=orT w0 h;exact vb w0 (pz (pz (pz (pz (va (B true) (wln (jn E ⟨D,rfl⟩)))))))
  have k1:=orF p z;refine vb p (wa (Q b) (wn (vx (l1 u_3 (f 0 _ rfl)) (wa (B (decide (a.Wide < 1))) ?_))));obtain rfl:=si k1;refine va (B (decide (a.Wide < 1))) ?_;rcases bo (decide (a.Wide < 1)) with q | q
  ·obtain rfl:=orT q j;refine vb q (pz (ps (va (B true) ?_)));have x0:true=true:=rfl;obtain rfl:=orT x0 h;exact vb x0 (pz (pz (pz (pz (va (B true) (wln (jn E ⟨D,rfl⟩)))))))
  have m1:=orF q j;refine vb q (wa (Q b) (wn (vx (l1 u_3 (f 0 _ rfl)) (wa (B (decide (a.Wide > 1024))) ?_))));obtain rfl:=si m1;refine va (B (decide (a.Wide > 1024))) ?_;rcases bo (decide (a.Wide > 1024)) with s | s
  ·obtain rfl:=orT s h;exact vb s (pz (pz (pz (pz (va (B true) (wln (jn E ⟨D,rfl⟩)))))))
  have M:=orF s h;refine vb s (wa (Qo b (0+3)) (wn (vx (lN 47 (qQ (k:=3) (l:=[I a.At.Row,I a.At.Col,B a.At.Pending]) f rfl)) (wa (Q b) (wn (vx (l1 u_3 (f 0 _ rfl)) (wa (Qo b (0+1)) (wn (vx (l1 u_3 (f 1 _ rfl)) (wn (bn M fun U e2 M=>cl (jG D a.At a.Wide a.High e2) ?_)))))))))));rintro v42 w1 h3 ⟨n1,rfl⟩;refine wa (B (!U)) ?_;obtain rfl:=si M;exact va (B (!U)) (wln (jn w1 ⟨n1,rfl⟩))
 rintro Z w_ ⟨i,d3,_,rfl,l2,rfl,b0,rfl⟩;refine nrm (cn H (fun f2 H=>?_) (fun f2 H=>?_))
 ·refine sr (va (B false) (wln (W.ret (thr ?_))));obtain rfl:=si H;exact r1 (qq i ⟨b0,rfl⟩)
 refine W.skip (nrm (W.seq (sr (va (Qo b (0+2)) (vx (l1 dX ((mm f) 2 _ rfl)) (vx (ln 3 dX T.m) (va (I 0) (wln (W.block (bn H fun x y0 N=>lp y0 (fun d=>Jn i fun c l=>Own c G (F)∧l= [(1,Q b),(42,.slice a3 a4 a5),(43,I (a.Lines.length:Int)),(44,I d)]) (fun t=>match t with | .inl x_=>(fun p2 ex e w=>ex= .ret∧(Jn i fun c l=>Own c G (F)∧l= [(2,B p2)]) e w) x_ | .inr x_=>(fun s2 ex e w=>ex= .exit 0∧(Jn i fun c l=>Own c G (F)∧l= []) e w) x_) ?_ ?_ ?_))))))))))
 ·clear N y0;intro d q3 c2 q2 H;revert c2 q2;rintro Z w_ ⟨x1,e3,_,rfl,m2,rfl,d0,rfl⟩;refine sr (va (B (decide (d < (a.Lines.length:Int)))) (wln (W.seq (cn H (fun g2 H=>?_) (fun g2 H=>?_)))))
  ·refine W.skip (nrm (W.seq (W.block (sr (bn H fun g z0 H=>?_)))));obtain ⟨b3,i2,o2⟩:=Sl.at (T.mono (l9.trans (l2.trans m2))) (ba z0);obtain ⟨n3,rfl,A⟩:=i2;refine vx (ix dX T.m z0) (vx (lN 97 o2) (me (al 97 [Y,B false] d0) ?_));rintro o3 c3 n2 ⟨R,rfl,p1⟩;obtain ⟨f0,g0,h0,rfl⟩:=((A.mono n2)).form;refine md (sA 97 [.slice f0 g0 h0,B g.Wrap] 0 p1 ⟨A.m.one,rfl,trivial⟩) ?_;rintro i0 i3 y;refine wln (W.seq (bn H fun g1 a1 H=>W.join (Jn i0 fun c l=>Own c G ((Eb R 97 [.slice f0 g0 h0,B g.Wrap]) :: F)∧l= [(1,Q b),(42,.slice a3 a4 a5),(43,I (a.Lines.length:Int)),(44,I d),(59,B g1)]) ?_ ?_))
   ·clear H;refine W.region (va (Q R) (vx (le1 0 fe (y.on 0 rfl)) (vx (ln 3 fe A.m) (va (Q b) (vx (l1 u_3 ((mm f) 0 _ rfl)) (va (B ((g.Cells.length:Int) != a.Wide)) ?_))))));rcases bo ((g.Cells.length:Int) != a.Wide) with u | u
    ·obtain rfl:=orT u a1;exact vb u (pz (pz (va (B true) (wln (jn i0 ⟨y,rfl⟩)))))
    have P:=orF u a1;refine vb u (wa (Q R) (wn (vx (le1 0 fe (y.on 0 rfl)) (wn (bn P fun X j2 P=>cl (lc y g.Cells A.m j2) ?_)))));rintro p3 y1 j3 ⟨q1,rfl⟩;refine wa (B (!X)) ?_;obtain rfl:=si P;exact va (B (!X)) (wln (jn y1 ⟨q1,rfl⟩))
   rintro Z w_ ⟨j0,f3,_,rfl,k3,rfl,e0,rfl⟩;refine nrm (cn H (fun k2 H=>?_) (fun k2 H=>?_))
   ·refine sr (va (B false) (wln (W.ret (bkr (thr ?_)))));obtain rfl:=si H;refine ⟨_,rfl,⟨rfl,?_⟩⟩;have s1:=e0.sD 1 [];exact jn j0 ⟨s1,rfl⟩
   refine W.skip (bkn (nrm (W.region (vv (I (w64 (d+1))) (WL.nil ?_)))));obtain rfl:=si H;refine ⟨_,rfl,?_⟩;have t1:=e0.sD 1 [];exact jn j0 ⟨t1,rfl⟩
  refine W.exit (thx ?_);obtain rfl:=si H;exact ⟨_,rfl,rfl,jn x1 ⟨d0,rfl⟩⟩
 ·exact jn i ⟨b0,rfl⟩
 rcases x with x | x
 ·intro d2; revert d2;rintro _ Z w_ ⟨rfl,z1,g3,_,rfl,l3,rfl,u1,rfl⟩;refine bkr (thr ?_);obtain rfl:=si N;exact r1 (qq z1 ⟨u1,rfl⟩)
 rintro _ Z w_ ⟨rfl,b2,y2,_,rfl,m3,rfl,b1,rfl⟩;refine bke (nrm (sr (va (B true) (wln (W.ret ?_)))));obtain rfl:=si N;exact r1 (qq b2 ⟨b1,rfl⟩)
def fP (p0:ak):Option (ByteArray):=
 if (p0.Kind==0)=true then
 some (⟨#[46]⟩:ByteArray)
 else
 if (p0.Kind==3)=true then
 some (⟨#[61]⟩:ByteArray)
 else
 (ed (σ:=(List ByteArray)×Int) (τ:=(List ByteArray)) (((p0.Text.length:Int) - 0).toNat+1) (fun a=>
 if (decide (a.2 < (p0.Text.length:Int)))=true then
 (idx p0.Text a.2).bind fun d=>
 (dA (w64 d) 16).bind fun e=>
 (app a.1 ([e]:List ByteArray)).bind fun f=>
 some (.inl (f,(w64 (a.2+1))))
 else
 some (.inr (a.1))) (([]:List ByteArray),0)).bind fun c=>
 (eu c (⟨#[43]⟩:ByteArray)).bind fun b=>
 if (p0.Kind==2)=true then
 (ek (⟨#[62]⟩:ByteArray) b).bind fun g=>
 some g
 else
 some b
theorem pG (O0:Own c0 G F) (hB:Tb6 c0) (hT:Et c0) (d:ak) {r:ByteArray} (q:Sl (RI .i32) c0 v1 d.Text) (H:fP d=some r): Calls prog 56 #[.agg #[I d.Kind,v1]] c0.w (aX c0 fun c v=>Own c G (F)∧v= .string r):=by
 unfold fP at H;refine en func56 rfl rfl (sr ?_);obtain ⟨a3,a4,a5,rfl⟩:=(q).form;refine me (bx 94 [I d.Kind,.slice a3 a4 a5] O0) ?_;rintro v10 j l9 ⟨k,rfl,A,D⟩;refine va (.string (⟨#[]⟩:ByteArray)) (wln (W.seq (sr (va (Q k) (vx (l1 u_3 (D 0 _ rfl)) (wln (W.block (sr (vv (B (d.Kind==0)) (wln (cn H (fun i0 H=>?_) (fun i0 H=>?_))))))))))))
 ·refine sr (va (.string (⟨#[46]⟩:ByteArray)) (wln (W.ret (bkr (thr ?_)))));obtain rfl:=si H;exact r1 (qq j ⟨A,rfl⟩)
 refine sr (vv (B (d.Kind==3)) (wln (cn H (fun j0 H=>?_) (fun j0 H=>?_))))
 ·refine sr (va (.string (⟨#[61]⟩:ByteArray)) (wln (W.ret (bkr (thr ?_)))));obtain rfl:=si H;exact r1 (qq j ⟨A,rfl⟩)
 refine W.skip (bkn (nrm (sr (va (Y) (wln (W.seq (sr (va (Qo k (0+1)) (vx (l1 eS (D 1 _ rfl)) (vx (ln 3 eS q.m) (va (I 0) (wln (W.block (bn H fun E x a=>lp x (fun b=>Jn j fun c l=>∃v15 i,Own c G (es true RS v15 9 i b.1 :: F)∧l= [(1,Q k),(3,v15),(14,.slice a3 a4 a5),(15,I (d.Text.length:Int)),(16,I b.2)]∧OA RS c v15 i b.1) (fun h ex e w=>ex= .exit 1∧(Jn j fun c l=>∃v17 n,Own c G (es true RS v17 9 n h :: F)∧l= [(1,Q k),(3,v17)]∧OA RS c v17 n h) e w) ?_ ?_ ?_))))))))))))))
 ·clear a x;intro b i2 h0 f1 H;revert h0 f1;rintro e_ w_ ⟨f0,u1,_,rfl,c1,rfl,v15,i,s,rfl,y⟩;refine sr (va (B (decide (b.2 < (d.Text.length:Int)))) (wln (W.seq (cn H (fun k0 H=>?_) (fun k0 H=>?_)))))
  ·refine W.skip (nrm (W.seq (W.block (sr (bn H fun f z H=>?_)))));obtain ⟨j1,l0,d1⟩:=Sl.at (q.mono (l9.trans c1)) (ba z);obtain rfl:=l0;refine vx (ix eS q.m z) (vx (l1 rd (d1 0 _ rfl)) (va (J f) (wln (W.region (va (v15) (va (J f) (va (I (w64 f)) (bn H fun o m0 H=>cl (jZ s hB.m (w64 f) 16 m0) ?_))))))));rintro v37 n1 x1 ⟨M,rfl⟩;refine me (sl RS 9 [[.string o]] ([o]:List ByteArray) M ⟨rfl,trivial⟩) ?_;rintro v42 p1 y1 ⟨f2,N,o0⟩;obtain ⟨q1,s0,z1,P,q0⟩:=N.frz 0 rfl o0;refine WL.gh s0 (bn H fun m1 t0 H=>me (ap RS (.string ByteArray.empty) 16 72 1 P y.m q0 t0 dW) ?_);rintro v52 g0 b2 ⟨e1,R,u0⟩;refine va (v52) (WL.nil (bkn (nrm (W.region (vv (I (w64 (b.2+1))) (WL.nil ?_))))));obtain rfl:=si H;refine ⟨_,rfl,?_⟩;have S:=R.sD 2 [1];exact jn g0 ⟨v52,e1,S,rfl,u0⟩
  refine W.exit (thx ?_);obtain rfl:=si H;exact ⟨_,rfl,rfl,jn f0 ⟨v15,i,s,rfl,y⟩⟩
 ·have v0:OA RS j (Y) [] []:=OA.nil (fD _);have T:=A.addHole (e:=es true RS (Y) 9 [] ([]:List ByteArray)) rfl;exact jn j ⟨(Y),[],T,rfl,v0⟩
 rintro _ e_ w_ ⟨rfl,s1,w1,_,rfl,c2,rfl,v17,n,U,rfl,w0⟩;refine bke (nrm (sr (va (v17) ?_)));obtain ⟨t1,y0,d2,X,x0⟩:=U.frz 0 rfl w0;refine WL.gh y0 (bn a fun g z0 a=>cl (jv X hT.m E (⟨#[43]⟩:ByteArray) x0 z0) ?_);rintro g2 u e2 ⟨t,rfl⟩;refine va (.string g) (wln (W.seq (sr (va (Q k) (vx (l1 u_3 ((mm D) 0 _ rfl)) (va (B (d.Kind==2)) (wln (cn a (fun a1 a=>?_) (fun a1 a=>?_)))))))))
 ·refine sr (va (.string g) (bn a fun p b1 a=>vr (.string p) (rx (by kernel_rfl) (bf b1 _)) (va (.string p) (wln (W.ret (thr ?_))))));obtain rfl:=si a;have Z:=t.sD 1 [];exact r1 (qq u ⟨Z,rfl⟩)
 refine W.skip (nrm (sr (vv (.string g) (wln (W.ret ?_)))));obtain rfl:=si a;have a0:=t.sD 1 [];exact r1 (qq u ⟨a0,rfl⟩)
def eF (p0:List ByteArray):Option (ByteArray):=
 (eu p0 (⟨#[32]⟩:ByteArray)).bind fun a=>
 (ek a (⟨#[10]⟩:ByteArray)).bind fun b=>
 some b
theorem iB (e:Own c0 G F) (hT:Et c0) (b:List ByteArray) {r:ByteArray} (h:Sl RS c0 v1 b) (H:eF b=some r): Calls prog 54 #[v1] c0.w (aX c0 fun c v=>Own c G (F)∧v= .string r):=by
 unfold eF at H;refine en func54 rfl rfl (sr (va (.string (⟨#[]⟩:ByteArray)) (wln (sr (va (v1) (bn H fun j i H=>cl (jv e hT b (⟨#[32]⟩:ByteArray) h i) ?_))))));rintro v9 g k ⟨f,rfl⟩;refine bn H fun a d H=>vr (.string a) (rx (by kernel_rfl) (bf d _)) (va (.string a) (wln (W.ret ?_)));obtain rfl:=si H;exact r1 (qq g ⟨f,rfl⟩)
def eE (p0:Bool) (p1:ByteArray) (p2:ByteArray):Option (ByteArray):=
 if p0=true then
 some p1
 else
 some p2
theorem lS (e:Own c0 G F) (d:Bool) (a:ByteArray) (b:ByteArray) {r:ByteArray} (H:eE d a b=some r): Calls prog 55 #[B d,.string a,.string b] c0.w (aX c0 fun c v=>Own c G (F)∧v= .string r):=by
 unfold eE at H;refine en func55 rfl rfl (sr (va (.string (⟨#[]⟩:ByteArray)) (wln (W.seq (sr (va (B d) (wln (cn H (fun f H=>?_) (fun f H=>?_)))))))))
 ·refine sr (vv (.string a) (wln (W.ret (thr ?_))));obtain rfl:=si H;exact r1 (qq c0 ⟨e,rfl⟩)
 refine W.skip (nrm (sr (vv (.string b) (wln (W.ret ?_)))));obtain rfl:=si H;exact r1 (qq c0 ⟨e,rfl⟩)
def cE (sg:Sto) (p0:Option Nat):Option (Sto×(List ByteArray)×Bool):=
 (p0).bind fun d=>
 (sg.snap_reader[d]?).bind fun a=>
 (er a.rest 10).bind fun c=>
 if (decide (c < 0))=true then
 some (sg,([]:List ByteArray),false)
 else
 (dY a.rest 0 c).bind fun e=>
 (dY a.rest (w64 (c+1)) (bN a.rest)).bind fun f=>
 (sg.set_snap_reader d (⟨f,a.n,a.v⟩:am)).bind fun b=>
 (dZ e (⟨#[32]⟩:ByteArray)).bind fun g=>
 some (b,g,true)
theorem kx (p:Own c0 G F) (j:Rel c0 sg G) (hT:Et c0) (S:Option Nat) {r:Sto×(List ByteArray)×Bool} (X:Pt 0 c0 v1 S) (H:cE sg S=some r): Calls prog 85 #[v1] c0.w (aX c0 fun c v=>∃U,∃G_:Gm,Own c G_ (F)∧Rel c r.1 G_∧v= .tuple #[U,B r.2.2]∧Sl RS c U r.2.1):=by
 unfold cE at H;refine en func85 rfl rfl (sr (va (Y) (va (B false) (wln (sr (va (v1) (bn H fun h0 Z H=>?_)))))));obtain ⟨b,rfl,R⟩:=(X).get Z;refine vv (Q b) (bn H fun a h6 H=>?_);obtain ⟨v7,T,h,h9⟩:=Rel.open_snap_reader j h6 R;refine vx (le1 0 u_9 (p.gon h 0 rfl)) (bn H fun d z H=>cl (jX p a.rest 10 z) ?_);rintro v17 x l16 ⟨g,rfl⟩;refine va (I d) (wln (W.seq (sr (va (I d) (va (B (decide (d < 0))) (wln (cn H (fun A H=>?_) (fun A H=>?_))))))))
 ·refine sr (va (Y) (va (B false) (wln (W.ret (thr ?_)))));obtain rfl:=si H;exact r2 (qq x ⟨(Y),G,g,j.m,rfl,(Sl.nl _ _)⟩)
 refine W.skip (nrm (sr (vv (Q b) (va (Q b) (vx (le1 0 u_9 (g.gon h 0 rfl)) (va (I d) (bn H fun e D H=>vr (.string e) (rx (by kernel_rfl) (nO (k':= .i64) u_9 D _)) (va (.string e) (wln (sr (vv (Q b) (vv (Q b) (vx (le1 0 u_9 (g.gon h 0 rfl)) (va (I d) (va (I (w64 (d+1))) (bn H fun f E H=>vr (.string f) (rx (by kernel_rfl) (fN (k:= .i64) u_9 E _)) (vv (Q b) (md (gC 9 0 (.string f) [.string f,I a.n,I a.v.Wide,I a.v.High,v7,I a.v.At.Row,I a.v.At.Col,B a.v.At.Pending,B a.v.Auto] 0 g h ⟨rfl,trivial⟩) ?_))))))))))))))))));rintro f0 i q;refine bn H fun l M H=>?_;obtain ⟨o,s,u,g0,e0⟩:=Rel.put_snap_reader q (j.mono (l16.trans i)) (E':=[(Eb b 106 [.string f,I a.n,I a.v.Wide,I a.v.High,v7,I a.v.At.Row,I a.v.At.Col,B a.v.At.Pending,B a.v.Auto]),es false aJ v7 97 T a.v.Lines]) M ⟨b,v7,T,(tm R),rfl,(h9.mono (l16.trans i))⟩;refine wln (sr (va (.string e) (bn H fun d0 N H=>cl (iZ s hT.m e (⟨#[32]⟩:ByteArray) N) ?_)));rintro v30 y i0 ⟨_,t,rfl,P⟩;refine va (v30) (va (B true) (wln (W.ret ?_)));obtain rfl:=si H;exact r2 (qq y ⟨v30,o,t,u.m,rfl,P⟩)
def bE (sg:Sto) (p0:ByteArray) (d:Nat):Option (Sto×Bool):=
 (sg.api_Line[d]?).bind fun c=>
 (sg.set_api_Line d (⟨c.Cells,eqS p0 (⟨#[43]⟩:ByteArray)⟩:ah)).bind fun a=>
 (orE (eqS p0 (⟨#[43]⟩:ByteArray)) (some (eqS p0 (⟨#[45]⟩:ByteArray)))).bind fun b=>
 some (a,b)
theorem jf {b:Nat} (D:Own c0 G F) (n:Rel c0 sg G) (a:ByteArray) (y:Nat) {r:Sto×Bool} (q:c0.t 1 y=some b) (H:bE sg a y=some r): Calls prog 109 #[.string a,Q b] c0.w (aX c0 fun c v=>∃G_:Gm,Own c G_ (F)∧Rel c r.1 G_∧v=B r.2):=by
 unfold bE at H;refine en func109 rfl rfl (sr (va (B false) (wln (sr (va (.string a) (vr (B (eqS a (⟨#[43]⟩:ByteArray))) (dP (by kernel_rfl)) (va (Qo b 1) (bn H fun x M H=>?_))))))));obtain ⟨v3,A,P,N⟩:=Rel.open_api_Line n M q;refine md (gC 4 1 (B (eqS a (⟨#[43]⟩:ByteArray))) [v3,B (eqS a (⟨#[43]⟩:ByteArray))] 0 D P ⟨rfl,trivial⟩) ?_;rintro g u E;refine bn H fun z s H=>?_;obtain ⟨i,e,o,T,R⟩:=Rel.put_api_Line E (n.mono u) (E':=[(Eb b 97 [v3,B (eqS a (⟨#[43]⟩:ByteArray))]),es false bG v3 94 A x.Cells]) s ⟨b,v3,A,(tm q),rfl,(N.mono u)⟩;refine wln (W.seq (bn H fun h f H=>W.join (Jn g fun c l=>Own c i (F)∧l= [(3,B h)]) ?_ ?_))
 ·clear H;refine W.region (va (.string a) (vr (B (eqS a (⟨#[43]⟩:ByteArray))) (dP (by kernel_rfl)) ?_));rcases bo (eqS a (⟨#[43]⟩:ByteArray)) with d | d
  ·obtain rfl:=orT d f;exact vb d (pz (vv (B true) (wln (jn g ⟨e,rfl⟩))))
  have j:=orF d f;refine vb d (wa (.string a) (wn (vr (B (eqS a (⟨#[45]⟩:ByteArray))) (dP (by kernel_rfl)) ?_)));obtain rfl:=si j;exact vv (B (eqS a (⟨#[45]⟩:ByteArray))) (wln (jn g ⟨e,rfl⟩))
 rintro X Z ⟨p,S,_,rfl,U,rfl,k,rfl⟩;refine nrm (W.ret ?_);obtain rfl:=si H;exact r1 (qq p ⟨i,k,o.m,rfl⟩)
def aL (sg:Sto) (p0:ab) (p1_0:Nat):Option (Sto×ab):=
 if p0.bad=true then
 some (sg,p0)
 else
 (if (decide (p0.at_≥(p0.words.length:Int)))=true then some (true,sg) else (idx p0.words p0.at_).bind fun c=>
 (bE sg c p1_0).bind fun b=>
 some (!b.2,b.1)).bind fun a=>
 if a.1=true then
 some (a.2,(⟨p0.words,p0.at_,true⟩:ab))
 else
 some (a.2,(⟨p0.words,(w64 (p0.at_+1)),p0.bad⟩:ab))
theorem dD {a:Nat} {b1_0:Nat} (b:ab) (p1_0:Nat) (y:Own c0 G ((Eb a 144 [v1,I b.at_,B b.bad]) :: F)) (A:Rel c0 sg G) {r:Sto×ab} (h:Sl RS c0 v1 b.words) (h3:c0.t 1 p1_0=some b1_0) (H:aL sg b p1_0=some r): Calls prog 108 #[Q a,.func (.func 109) #[] #[Q b1_0]] c0.w (aX c0 fun c v=>∃y1,∃G_:Gm,Own c G_ ((Eb a 144 [y1,I r.2.at_,B r.2.bad]) :: F)∧Rel c r.1 G_∧v= .tuple #[]∧Sl RS c y1 r.2.words):=by
 unfold aL at H;refine en func108 rfl rfl (W.seq (sr (vv (Q a) (va (Qo a 2) (vx (le1 2 u_4 (y.on 0 rfl)) (wln (cn H (fun h4 H=>?_) (fun h4 H=>?_))))))))
 ·refine W.ret (thr ?_);obtain rfl:=si H;exact r0 (qq c0 ⟨v1,G,y,A,rfl,h⟩)
 refine W.skip (nrm (W.seq (W.seq (bn H fun j h5 H=>W.join (Jn c0 fun c l=>∃G_,Own c G_ ((Eb a 144 [v1,I b.at_,B b.bad]) :: F)∧l= [(0,Q a),(32,B j.1)]∧Rel c j.2 G_) ?_ ?_))))
 ·clear H;refine rD [] (Kp G0 [(Eb a 144 [v1,I b.at_,B b.bad])]) y ?_;intro T l6 z;have o:Kp G0 [(Eb a 144 [v1,I b.at_,B b.bad])] T:=(Kp.cons (z.on 0 rfl) Kp.nil0);refine ta 0 (Q a) (ta 1 (Q a) (ta 2 (Qo a 1) (tkx 3 o (fun f d g=>le1 1 u_3 (g.on 0 rfl)) (ta 4 (Q a) (ta 5 (Q a) (ta 6 (Q a) (tkx 7 o (fun f d g=>le1 0 dW (g.on 0 rfl)) (tx 8 (fun f d=>ln 3 dW h.m) (ta 9 (B (decide (b.at_≥(b.words.length:Int)))) ?_)))))))));rcases bo (decide (b.at_≥(b.words.length:Int))) with k | k
  ·obtain rfl:=ao (it k h5);exact AC.takeb 10 k rfl (by kernel_rfl) (by kernel_rfl) (fun f d=>(by kernel_rfl)) (tp 11 (tp 12 (tp 13 (tp 14 (tp 15 (tp 16 (tp 17 (tp 18 (tp 19 (tp 20 (tp 21 (tp 22 (tp 23 (ta 24 (B true) (dn (nrm (jn T ⟨G,z,rfl,A.m⟩)))))))))))))))))
  have e:=ie k h5;refine bn e fun D x e=>bn e fun n U e=>AC.takeb 10 k rfl (by kernel_rfl) (by kernel_rfl) (fun f d=>(by kernel_rfl)) (ta 11 (.func (.func 109) #[] #[Q b1_0]) (ta 12 (Q a) (ta 13 (Q a) (ta 14 (Q a) (tkx 15 o (fun f d g=>le1 0 dW (g.on 0 rfl)) (ta 16 (Q a) (ta 17 (Q a) (ta 18 (Qo a 1) (tkx 19 o (fun f d g=>le1 1 u_3 (g.on 0 rfl)) ?_)))))))));obtain ⟨i0,X,b0⟩:=Sl.at (h.mono l6) (ba x);obtain rfl:=X;refine tx 20 (fun f d=>ix dW h.m x) (tx 21 (fun f d=>l1 u_9 ((mm b0) 0 _ rfl)) (o1 22 (gc 22 (jf z A.m D p1_0 (tm h3) U) ?_)));rintro v21 u l0 ⟨E,q,P,rfl⟩;have d0:Kp G0 [(Eb a 144 [v1,I b.at_,B b.bad])] u:=(Kp.cons (q.on 0 rfl) Kp.nil0);refine ⟨.inr d0,ta 23 (B (!n.2)) ?_⟩;obtain rfl:=si e;exact ta 24 (B (!n.2)) (dn (nrm (jn u ⟨E,q,rfl,P⟩)))
 rintro e_ w_ ⟨j0,k0,_,rfl,m0,rfl,p,i,rfl,s⟩;refine nrm (cn H (fun Z H=>?_) (fun Z H=>?_))
 ·refine sr (vv (Q a) (va (Qo a 2) (md (sC 4 2 (B true) [v1,I b.at_,B true] 0 i ⟨rfl,trivial⟩) ?_)));rintro R o0 M;refine wln (W.ret (thr ?_));obtain rfl:=si H;exact r0 (qq R ⟨v1,p,M,s.m,rfl,h.m⟩)
 refine W.skip (nrm (W.region (vv (Q a) (va (Qo a 1) (vx (le1 1 u_3 (i.on 0 rfl)) (va (I (w64 (b.at_+1))) (va (Q a) (va (Qo a 1) (md (sC 3 1 (I (w64 (b.at_+1))) [v1,I (w64 (b.at_+1)),B b.bad] 0 i ⟨rfl,trivial⟩) ?_)))))))));rintro S q0 N;refine WL.nil ?_;obtain rfl:=si H;exact n0 (qq S ⟨v1,p,N,s.m,rfl,h.m⟩)
def eJ (p0:ByteArray):Option ((List Int)×Bool):=
 (dZ p0 (⟨#[43]⟩:ByteArray)).bind fun e=>
 (ed (σ:=(List Int)×Int) (τ:=((List Int)×Bool) ⊕ (List Int)) (((e.length:Int) - 0).toNat+1) (fun c=>
 if (decide (c.2 < (e.length:Int)))=true then
 (idx e c.2).bind fun a=>
 (orE ((bN a)==0) (some (decide ((bN a) > 6)))).bind fun f=>
 (orE f ((cj (decide ((bN a) > 1)) ((gg a 0).bind fun j=>
 some (j==48))).bind fun h=>
 some h)).bind fun g=>
 (orE g ((cw a (⟨#[48,49,50,51,52,53,54,55,56,57,97,98,99,100,101,102]⟩:ByteArray)).bind fun k=>
 some (!(eqS k (⟨#[]⟩:ByteArray))))).bind fun i=>
 if i=true then
 some (.inr (.inl (([]:List Int),false)))
 else
 (dK a 16 32).bind fun d=>
 if (!d.2.isNil)=true then
 some (.inr (.inl (([]:List Int),false)))
 else
 (app c.1 ([(w32 d.1)]:List Int)).bind fun l=>
 some (.inl (l,(w64 (c.2+1))))
 else
 some (.inr (.inr (c.1)))) (([]:List Int),0)).bind fun b=>
 match b with
 | .inl b=>
 some b
 | .inr b=>
 some (b,true)
theorem oP (O0:Own c0 G F) (hT:Et c0) (p0:ByteArray) {r:(List Int)×Bool} (H:eJ p0=some r): Calls prog 142 #[.string p0] c0.w (aX c0 fun c v=>∃y1 y2,Own c G (es true (RI .i32) y1 21 y2 r.1 :: F)∧v= .tuple #[y1,B r.2]∧OA (RI .i32) c y1 y2 r.1):=by
 unfold eJ at H;refine en func142 rfl rfl (sr (va (Y) (va (B false) (wln (sr (va (Y) (wln (W.seq (sr (va (.string p0) (bn H fun Z h1 H=>cl (iZ O0 hT p0 (⟨#[43]⟩:ByteArray) h1) ?_)))))))))));rintro v2 R l8 ⟨_,O5,rfl,h3⟩;refine vx (ln 3 dW h3) (va (I 0) (wln (W.block (bn H fun u g0 E=>lp g0 (fun b=>Jn R fun c l=>∃v12 s,Own c G (es true (RI .i32) v12 21 s b.1 :: F)∧l= [(4,v12),(10,v2),(11,I (Z.length:Int)),(12,I b.2)]∧OA (RI .i32) c v12 s b.1) (fun t=>match t with | .inl x_=>(fun X ex e w=>ex= .ret∧(Jn R fun c l=>∃v16 A,Own c G (es true (RI .i32) v16 21 A X.1 :: F)∧l= [(2,v16),(3,B X.2)]∧OA (RI .i32) c v16 A X.1) e w) x_ | .inr x_=>(fun y ex e w=>ex= .exit 0∧(Jn R fun c l=>∃v14 z,Own c G (es true (RI .i32) v14 21 z y :: F)∧l= [(4,v14)]∧OA (RI .i32) c v14 z y) e w) x_) ?_ ?_ ?_))))
 ·clear E g0;intro b f4 b2 z2 H;revert b2 z2;rintro e_ w_ ⟨i,s3,_,rfl,u2,rfl,v12,s,h,rfl,h0⟩;refine sr (va (B (decide (b.2 < (Z.length:Int)))) (wln (W.seq (cn H (fun d2 H=>?_) (fun d2 H=>?_)))))
  ·refine W.skip (nrm (W.seq (W.block (sr (bn H fun a i0 H=>?_)))));obtain ⟨n3,e2,w2⟩:=Sl.at (h3.mono u2) (ba i0);obtain rfl:=e2;refine vx (ix dW h3.m i0) (vx (l1 u_9 (w2 0 _ rfl)) (va (.string a) (wln (W.seq (W.seq (bn H fun e3 j0 H=>bn H fun f3 U H=>bn H fun z0 j H=>W.join (Jn i fun c l=>Own c G (es true (RI .i32) v12 21 s b.1 :: F)∧l= [(4,v12),(6,.string a),(10,v2),(11,I (Z.length:Int)),(12,I b.2),(38,B z0)]) ?_ ?_))))))
   ·clear H;refine W.region (va (.string a) (vr (I (bN a)) (rx (by kernel_rfl) (dy (ty:=3) u_9 _)) (va (B ((bN a)==0)) ?_)));rcases bo ((bN a)==0) with n | n
    ·obtain rfl:=orT n j0;refine vb n (pz (ps (va (B true) ?_)));have k0:true=true:=rfl;obtain rfl:=orT k0 U;refine vb k0 (pz (pz (pz (pz (va (B true) ?_)))));have l0:true=true:=rfl;obtain rfl:=orT l0 j;exact vb l0 (pz (ps (va (B true) (wln (jn i ⟨h,rfl⟩)))))
    have j1:=orF n j0;refine vb n (wa (.string a) (wn (vr (I (bN a)) (rx (by kernel_rfl) (dy (ty:=3) u_9 _)) (wa (B (decide ((bN a) > 6))) ?_))));obtain rfl:=si j1;refine va (B (decide ((bN a) > 6))) ?_;rcases bo (decide ((bN a) > 6)) with o | o
    ·obtain rfl:=orT o U;refine vb o (pz (pz (pz (pz (va (B true) ?_)))));have m0:true=true:=rfl;obtain rfl:=orT m0 j;exact vb m0 (pz (ps (va (B true) (wln (jn i ⟨h,rfl⟩)))))
    have x:=orF o U;refine vb o (wa (.string a) (wn (vr (I (bN a)) (rx (by kernel_rfl) (dy (ty:=3) u_9 _)) (wa (B (decide ((bN a) > 1))) (wn (bn x fun g3 o0 x=>?_))))));rcases bo (decide ((bN a) > 1)) with p | p
    ·have M:=anT p o0;refine vb p (wa (.string a) (wn (bn M fun f f2 M=>vr (.int .u8 f) (rx (by kernel_rfl) (cp (k:= .i64) u_9 f2 _)) (wa (B (f==48)) (wn ?_)))));obtain rfl:=si M;refine va (B (f==48)) ?_;obtain rfl:=si x;refine va (B (f==48)) ?_;rcases bo (f==48) with q | q
     ·obtain rfl:=orT q j;exact vb q (pz (ps (va (B true) (wln (jn i ⟨h,rfl⟩)))))
     have N:=orF q j;refine vb q (wa (.string a) (wn (bn N fun g g2 N=>cl (gb h hT.m a (⟨#[48,49,50,51,52,53,54,55,56,57,97,98,99,100,101,102]⟩:ByteArray) g2) ?_)));rintro v52 w1 u3 ⟨k1,rfl⟩;refine wn (vr (B (!(eqS g (⟨#[]⟩:ByteArray)))) (kJ (by kernel_rfl)) ?_);obtain rfl:=si N;exact va (B (!(eqS g (⟨#[]⟩:ByteArray)))) (wln (jn w1 ⟨k1,rfl⟩))
    obtain rfl:=anF p o0;refine vb p (pz (ps (wa (B false) ?_)));obtain rfl:=si x;refine va (B false) ?_;have q0:false=false:=rfl;have P:=orF q0 j;refine vb q0 (wa (.string a) (wn (bn P fun g h2 P=>cl (gb h hT.m a (⟨#[48,49,50,51,52,53,54,55,56,57,97,98,99,100,101,102]⟩:ByteArray) h2) ?_)));rintro c4 x1 v3 ⟨m1,rfl⟩;refine wn (vr (B (!(eqS g (⟨#[]⟩:ByteArray)))) (kJ (by kernel_rfl)) ?_);obtain rfl:=si P;exact va (B (!(eqS g (⟨#[]⟩:ByteArray)))) (wln (jn x1 ⟨m1,rfl⟩))
   rintro e_ w_ ⟨e0,t3,_,rfl,w3,rfl,b0,rfl⟩;refine nrm (cn H (fun i2 H=>?_) (fun i2 H=>?_))
   ·refine sr (va (Y) (va (B false) (wln (W.ret (thr (bkr (thr ?_)))))));obtain rfl:=si H;refine ⟨_,rfl,⟨rfl,?_⟩⟩;have j2:OA (RI .i32) e0 (Y) [] []:=OA.nil (fD _);have n1:=b0.addHole (e:=es true (RI .i32) (Y) 21 [] ([]:List Int)) rfl;have p1:=n1.sD 2 [0];exact jn e0 ⟨(Y),[],p1,rfl,j2⟩
   refine W.skip (nrm (sr (va (.string a) (bn H fun d k2 H=>cl (kw b0 a 16 32 k2) ?_))));rintro d4 f0 x3 ⟨D,d0,rfl,l2⟩;refine va (.tuple #[I d.1,D]) (va (I d.1) (va (D) (va (I d.1) (va (D) (wln (W.seq (sr (va (D) (vr (B (!d.2.isNil)) (by rcases (l2).cs with ⟨S,T⟩ | ⟨b_,S,T⟩ | ⟨b_,S,T⟩ <;> (subst S; rw [T]; kernel_rfl)) (wln (cn H (fun m2 H=>?_) (fun m2 H=>?_))))))))))))
   ·refine sr (va (Y) (va (B false) (wln (W.ret (thr (bkr (thr ?_)))))));obtain rfl:=si H;refine ⟨_,rfl,⟨rfl,?_⟩⟩;have n2:OA (RI .i32) f0 (Y) [] []:=OA.nil (fD _);have q1:=d0.addHole (e:=es true (RI .i32) (Y) 21 [] ([]:List Int)) rfl;have s1:=q1.sD 2 [0];exact jn f0 ⟨(Y),[],s1,rfl,n2⟩
   refine W.skip (nrm (W.region (va (v12) (va (I d.1) (va (J (w32 d.1)) (me (sl (RI .i32) 21 [[J (w32 d.1)]] ([(w32 d.1)]:List Int) d0 ⟨rfl,trivial⟩) ?_))))));rintro e4 p3 y3 ⟨b4,t1,o2⟩;obtain ⟨q3,q2,z3,u1,p2⟩:=t1.frz 0 rfl o2;refine WL.gh q2 (bn H fun o3 s2 H=>me (ap (RI .i32) (J 0) 4 92 1 u1 h0.m p2 s2 eS) ?_);rintro s0 z1 a4 ⟨x2,v1,t2⟩;refine va (s0) (WL.nil (bkn (nrm (W.region (vv (I (w64 (b.2+1))) (WL.nil ?_))))));obtain rfl:=si H;refine ⟨_,rfl,?_⟩;have t0:=v1.sD 2 [1];exact jn z1 ⟨s0,x2,t0,rfl,t2⟩
  refine W.exit (thx ?_);obtain rfl:=si H;exact ⟨_,rfl,rfl,jn i ⟨v12,s,h,rfl,h0⟩⟩
 ·have b1:OA (RI .i32) R (Y) [] []:=OA.nil (fD _);have u0:=O5.addHole (e:=es true (RI .i32) (Y) 21 [] ([]:List Int)) rfl;exact jn R ⟨(Y),[],u0,rfl,b1⟩
 rcases u with u | u
 ·intro c2; revert c2;rintro _ e_ w_ ⟨rfl,x0,i3,_,rfl,l3,rfl,v16,A,v0,rfl,c1⟩;refine bkr (thr ?_);obtain rfl:=si E;exact r2 (qq x0 ⟨v16,A,v0,rfl,c1⟩)
 rintro _ e_ w_ ⟨rfl,y0,j3,_,rfl,m3,rfl,v14,z,w0,rfl,d1⟩;refine bke (nrm (sr (vv (v14) (va (B true) (wln (W.ret ?_))))));obtain rfl:=si E;exact r2 (qq y0 ⟨v14,z,w0,rfl,d1⟩)
def gu (p0:ByteArray):Option (ak×Bool):=
 if (eqS p0 (⟨#[46]⟩:ByteArray))=true then
 some ((⟨0,([]:List Int)⟩:ak),true)
 else
 if (eqS p0 (⟨#[61]⟩:ByteArray))=true then
 some ((⟨3,([]:List Int)⟩:ak),true)
 else
 ((dz p0 (⟨#[62]⟩:ByteArray)).bind fun d=>
 if d=true then
 (dY p0 1 (bN p0)).bind fun e=>
 some (e,2)
 else
 some (p0,1)).bind fun b=>
 (eJ b.1).bind fun a=>
 (cj a.2 ((eM (⟨b.2,a.1⟩:ak)).bind fun f=>
 some f)).bind fun c=>
 some ((⟨b.2,a.1⟩:ak),c)
theorem rF (O0:Own c0 G F) (hT:Et c0) (j:ByteArray) {r:ak×Bool} (H:gu j=some r): Calls prog 111 #[.string j] c0.w (aX c0 fun c v=>∃y1,Own c G (F)∧v= .tuple #[.agg #[I r.1.Kind,y1],B r.2]∧Sl (RI .i32) c y1 r.1.Text):=by
 unfold gu at H;refine en func111 rfl rfl (sr (me (al 94 [I 0,Y] O0) ?_));rintro v4 c3 l3 ⟨A,rfl,O2⟩;refine va (B false) (wln (W.seq (W.block (sr (va (.string j) (vr (B (eqS j (⟨#[46]⟩:ByteArray))) (dP (by kernel_rfl)) (va (B (eqS j (⟨#[46]⟩:ByteArray))) (wln (cn H (fun h5 H=>?_) (fun h5 H=>?_))))))))))
 ·refine sr (va (.agg #[I 0,Y]) (md (sA 94 [I 0,Y] 0 O2 ⟨rfl,rfl,trivial⟩) ?_));rintro c7 l7 O6;refine va (B true) (wln (W.ret (bkr (thr ?_))));obtain rfl:=si H;have O8:=O6.sD 1 [];exact nQ (c:=c7) (vs:=[I 0,Y]) (v:=B true) rfl (by kernel_rfl) (by kernel_rfl) (by kernel_rfl) (by kernel_rfl) (O6.on 0 rfl _ rfl).1 ⟨_,c7,rfl,rfl,pt,(Y),O8,rfl,(Sl.nl _ _)⟩
 refine sr (va (.string j) (vr (B (eqS j (⟨#[61]⟩:ByteArray))) (dP (by kernel_rfl)) (va (B (eqS j (⟨#[61]⟩:ByteArray))) (wln (cn H (fun h9 H=>?_) (fun h9 H=>?_))))))
 ·refine sr (va (.agg #[I 3,Y]) (md (sA 94 [I 3,Y] 0 O2 ⟨rfl,rfl,trivial⟩) ?_));rintro S n2 D;refine va (B true) (wln (W.ret (bkr (thr ?_))));obtain rfl:=si H;have f0:=D.sD 1 [];exact nQ (c:=S) (vs:=[I 3,Y]) (v:=B true) rfl (by kernel_rfl) (by kernel_rfl) (by kernel_rfl) (by kernel_rfl) (D.on 0 rfl _ rfl).1 ⟨_,S,rfl,rfl,pt,(Y),f0,rfl,(Sl.nl _ _)⟩
 refine W.skip (bkn (nrm (sr (va (.agg #[I 1,Y]) (me (al 94 [I 0,Y] O2) ?_)))));rintro v16 h2 o2 ⟨f,rfl,g0⟩;refine md (sA 94 [I 1,Y] 0 g0 ⟨rfl,rfl,trivial⟩) ?_;rintro s0 p2 h0;refine wln (bn H fun a h n=>W.seqJ (Jn s0 fun c l=>Own c G ((Eb f 94 [I a.2,Y]) :: (Eb A 94 [I 0,Y]) :: F)∧l= [(0,.string a.1),(2,Q A),(4,Q f)]) ?_ ?_)
 ·refine sr (va (.string j) (bn h fun g2 d1 h=>cl (jY h0 j (⟨#[62]⟩:ByteArray) d1) ?_));rintro v27 t0 q2 ⟨E,rfl⟩;refine wln (cn h (fun e1 h=>?_) (fun e1 h=>?_))
  ·refine sr (va (Q f) (md (sC 3 0 (I 2) [I 2,Y] 0 E ⟨rfl,trivial⟩) ?_));rintro u0 s2 i0;refine wln (W.region (va (.string j) (bn h fun y f1 h=>vr (.string y) (rx (by kernel_rfl) (fN (k:= .i64) u_9 f1 _)) (va (.string y) (wln ?_)))));obtain rfl:=si h;exact jn u0 ⟨i0,rfl⟩
  refine W.skip (nrm ?_);obtain rfl:=si h;exact jn t0 ⟨E,rfl⟩
 rintro e_ w_ ⟨i2,k2,_,rfl,t2,rfl,j0,rfl⟩;refine sr (va (.string a.1) (bn n fun g g1 n=>cl (oP j0 hT.m a.1 g1) ?_));rintro v47 j2 u2 ⟨v39,w1,k0,rfl,i⟩;refine va (.tuple #[v39,B g.2]) (va (v39) (va (B g.2) (va (v39) (va (B g.2) (wln (sr (va (v39) (va (Qo f 1) ?_))))))));obtain ⟨b,d,e,rfl⟩:=(i).form;refine md (sC 92 1 (.slice b d e) [I a.2,.slice b d e] 1 k0 ⟨(i).one,trivial⟩) ?_;rintro v0 x l0;refine wln (W.seq (bn n fun t X n=>W.join (Jn v0 fun c l=>Own c G (es false (RI .i32) (.slice b d e) 21 w1 g.1 :: (Eb f 94 [I a.2,.slice b d e]) :: (Eb A 94 [I a.2,.slice b d e]) :: F)∧l= [(2,Q A),(3,B t)]) ?_ ?_))
 ·clear n;refine rD [] (Kp G0 [(Eb f 94 [I a.2,.slice b d e])]) l0 ?_;intro w0 Z q;have a0:Kp G0 [(Eb f 94 [I a.2,.slice b d e])] w0:=(Kp.cons (q.on 1 rfl) Kp.nil0);refine tkx 0 a0 (fun c' u hk=>leN 94 0 [I a.2,.slice b d e] (hk.on 0 rfl)) (ta 1 (B g.2) ?_);rcases bo (g.2) with o | o
  ·have p:=anT o X;refine bn p fun z h1 p=>AC.takeb 2 o rfl (by kernel_rfl) (by kernel_rfl) (fun c' u=>(by kernel_rfl)) (tkx 3 a0 (fun c' u hk=>leN 94 0 [I a.2,.slice b d e] (hk.on 0 rfl)) ?_);obtain ⟨x0,j1,n1,M,i1⟩:=q.frz 0 rfl (i.mono (x.trans Z));have s1:Kp G0 [(Eb f 94 [I a.2,.slice b d e])] x0:=(Kp.cons (M.on 1 rfl) Kp.nil0);refine AC.gh j1 n1 (fun _=>s1) (o1 4 (gc 4 (lf M (⟨a.2,g.1⟩:ak) i1 h1) ?_));rintro y2 y0 v2 ⟨N,rfl⟩;have t1:Kp G0 [(Eb f 94 [I a.2,.slice b d e])] y0:=(Kp.cons (N.on 1 rfl) Kp.nil0);refine ⟨.inr t1,?_⟩;obtain rfl:=si p;refine ta 5 (B z) (o1 6 (gD 6 (sA 94 [I a.2,.slice b d e] 2 N ⟨rfl,i.m.one,trivial⟩) ?_));rintro T w2 P;have u1:Kp G0 [(Eb f 94 [I a.2,.slice b d e])] T:=(Kp.cons (P.on 1 rfl) Kp.nil0);exact ⟨.inr u1,ta 7 (B z) (dn (nrm (jn T ⟨P,rfl⟩)))⟩
  obtain rfl:=anF o X;refine AC.takeb 2 o rfl (by kernel_rfl) (by kernel_rfl) (fun c' u=>(by kernel_rfl)) (tp 3 (tp 4 (ta 5 (B false) (o1 6 (gD 6 (sA 94 [I a.2,.slice b d e] 2 q ⟨rfl,i.m.one,trivial⟩) ?_)))));rintro a1 p1 R;have v1:Kp G0 [(Eb f 94 [I a.2,.slice b d e])] a1:=(Kp.cons (R.on 1 rfl) Kp.nil0);refine ⟨.inr v1,ta 7 (B false) (dn (nrm ?_))⟩;obtain ⟨c1,k1,x2,o0,m2⟩:=R.frz 0 rfl (i.mono (x.trans (Z.trans p1)));exact ⟨c1,_,_,k1.symm,pt,us,o0,rfl⟩
 rintro e_ w_ ⟨U,l2,_,rfl,q1,rfl,s,rfl⟩;refine nrm (W.ret ?_);obtain rfl:=si n;have m1:=s.slf 0 rfl (i.mono (x.trans q1));have q0:=s.sD 3 [];exact nQ (c:=U) (vs:=[I a.2,.slice b d e]) (v:=B t) rfl (by kernel_rfl) (by kernel_rfl) (by kernel_rfl) (by kernel_rfl) (s.on 2 rfl _ rfl).1 ⟨_,U,rfl,rfl,pt,(.slice b d e),q0,rfl,m1⟩
def bu (sg:Sto) (p0:ByteArray) (e:Nat):Option (Sto×Bool):=
 (gu p0).bind fun c=>
 (sg.api_Line[e]?).bind fun b=>
 (app b.Cells ([c.1]:List ak)).bind fun d=>
 (sg.set_api_Line e (⟨d,b.Wrap⟩:ah)).bind fun a=>
 some (a,c.2)
theorem je {f:Nat} (O0:Own c0 G F) (R0:Rel c0 sg G) (hT:Et c0) (q:ByteArray) (q0:Nat) {r:Sto×Bool} (h1:c0.t 1 q0=some f) (H:bu sg q q0=some r): Calls prog 110 #[.string q,Q f] c0.w (aX c0 fun c v=>∃G_:Gm,Own c G_ (F)∧Rel c r.1 G_∧v=B r.2):=by
 unfold bu at H;refine en func110 rfl rfl (sr (va (B false) (wln (sr (va (.string q) (bn H fun a h2 H=>cl (rF O0 hT q h2) ?_))))));rintro v10 c9 D ⟨v3,O6,rfl,A⟩;refine va (.tuple #[.agg #[I a.1.Kind,v3],B a.2]) (va (.agg #[I a.1.Kind,v3]) (va (B a.2) (me (al 94 [I 0,Y] O6) ?_)));rintro v14 z0 i ⟨y0,rfl,P⟩;obtain ⟨g,a16,h,rfl⟩:=((A.mono i)).form;refine md (sA 94 [I a.1.Kind,.slice g a16 h] 0 P ⟨rfl,A.m.one,trivial⟩) ?_;rintro a1 n k;refine va (B a.2) (wln (sr (va (Q f) (bn H fun p i0 H=>?_))));obtain ⟨v21,f1,s,j0⟩:=Rel.open_api_Line (R0.mono (D.trans (i.trans n))) i0 (tm h1);refine vx (le1 0 fe (k.gon s 0 rfl)) (vx (leN 94 0 [I a.1.Kind,.slice g a16 h] (k.on 0 rfl)) (me (sl bG 94 [[I a.1.Kind,.slice g a16 h]] ([a.1]:List ak) k ⟨⟨(.slice g a16 h),rfl,A.m⟩,trivial⟩) ?_));rintro v29 b1 u ⟨g1,R,k0⟩;obtain ⟨c1,m0,x,S,l0⟩:=R.frz 0 rfl k0;refine WL.gh m0 (bn H fun E o0 H=>?_);have U:=S.borrow 1 s rfl;refine me (ap bG (.agg #[I 0,Y]) 32 95 0 U j0.m l0 o0 fe) ?_;rintro v40 d1 y ⟨z,X,l⟩;have Z:=X.giveB 1 rfl;refine va (Q f) ?_;obtain ⟨b,d,e,rfl⟩:=(l).form;refine md (Own.stGB (T:=95) (j:=0) (us:=[.slice b d e]) (nw:=[.slice b d e,B p.Wrap]) (v:= .slice b d e) 0 Z (by kernel_rfl) rfl rfl rfl rfl (by kernel_rfl) ⟨(l).one,trivial⟩ (by kernel_rfl) rfl) ?_;rintro g0 o a0;refine bn H fun M s0 H=>?_;obtain ⟨N,b0,f0,e1,x0⟩:=Rel.put_api_Line a0 (R0.mono (D.trans (i.trans (n.trans (u.trans (x.trans (y.trans o))))))) (E':=[(Eb f 97 [.slice b d e,B p.Wrap]),es false bG (.slice b d e) 94 z E]) s0 ⟨f,(.slice b d e),z,((D.trans (i.trans (n.trans (u.trans (x.trans (y.trans o)))))).t _ _ _ h1),rfl,(l.mono o)⟩;refine wln (sr (vv (B a.2) (wln (W.ret ?_))));obtain rfl:=si H;have d0:=b0.sD 2 [];exact r1 (qq g0 ⟨N,d0,f0,rfl⟩)
def aH (sg:Sto) (p0:ab) (p1_0:Nat):Option (Sto×ab):=
 if p0.bad=true then
 some (sg,p0)
 else
 (if (decide (p0.at_≥(p0.words.length:Int)))=true then some (true,sg) else (idx p0.words p0.at_).bind fun c=>
 (bu sg c p1_0).bind fun b=>
 some (!b.2,b.1)).bind fun a=>
 if a.1=true then
 some (a.2,(⟨p0.words,p0.at_,true⟩:ab))
 else
 some (a.2,(⟨p0.words,(w64 (p0.at_+1)),p0.bad⟩:ab))
theorem dC {a:Nat} {b1_0:Nat} (b:ab) (p1_0:Nat) (y:Own c0 G ((Eb a 144 [v1,I b.at_,B b.bad]) :: F)) (A:Rel c0 sg G) (hT:Et c0) {r:Sto×ab} (h:Sl RS c0 v1 b.words) (h3:c0.t 1 p1_0=some b1_0) (H:aH sg b p1_0=some r): Calls prog 108 #[Q a,.func (.func 110) #[] #[Q b1_0]] c0.w (aX c0 fun c v=>∃y1,∃G_:Gm,Own c G_ ((Eb a 144 [y1,I r.2.at_,B r.2.bad]) :: F)∧Rel c r.1 G_∧v= .tuple #[]∧Sl RS c y1 r.2.words):=by
 unfold aH at H;refine en func108 rfl rfl (W.seq (sr (vv (Q a) (va (Qo a 2) (vx (le1 2 u_4 (y.on 0 rfl)) (wln (cn H (fun h4 H=>?_) (fun h4 H=>?_))))))))
 ·refine W.ret (thr ?_);obtain rfl:=si H;exact r0 (qq c0 ⟨v1,G,y,A,rfl,h⟩)
 refine W.skip (nrm (W.seq (W.seq (bn H fun j h5 H=>W.join (Jn c0 fun c l=>∃G_,Own c G_ ((Eb a 144 [v1,I b.at_,B b.bad]) :: F)∧l= [(0,Q a),(32,B j.1)]∧Rel c j.2 G_) ?_ ?_))))
 ·clear H;refine rD [] (Kp G0 [(Eb a 144 [v1,I b.at_,B b.bad])]) y ?_;intro T l6 z;have o:Kp G0 [(Eb a 144 [v1,I b.at_,B b.bad])] T:=(Kp.cons (z.on 0 rfl) Kp.nil0);refine ta 0 (Q a) (ta 1 (Q a) (ta 2 (Qo a 1) (tkx 3 o (fun f d g=>le1 1 u_3 (g.on 0 rfl)) (ta 4 (Q a) (ta 5 (Q a) (ta 6 (Q a) (tkx 7 o (fun f d g=>le1 0 dW (g.on 0 rfl)) (tx 8 (fun f d=>ln 3 dW h.m) (ta 9 (B (decide (b.at_≥(b.words.length:Int)))) ?_)))))))));rcases bo (decide (b.at_≥(b.words.length:Int))) with k | k
  ·obtain rfl:=ao (it k h5);exact AC.takeb 10 k rfl (by kernel_rfl) (by kernel_rfl) (fun f d=>(by kernel_rfl)) (tp 11 (tp 12 (tp 13 (tp 14 (tp 15 (tp 16 (tp 17 (tp 18 (tp 19 (tp 20 (tp 21 (tp 22 (tp 23 (ta 24 (B true) (dn (nrm (jn T ⟨G,z,rfl,A.m⟩)))))))))))))))))
  have e:=ie k h5;refine bn e fun D x e=>bn e fun n U e=>AC.takeb 10 k rfl (by kernel_rfl) (by kernel_rfl) (fun f d=>(by kernel_rfl)) (ta 11 (.func (.func 110) #[] #[Q b1_0]) (ta 12 (Q a) (ta 13 (Q a) (ta 14 (Q a) (tkx 15 o (fun f d g=>le1 0 dW (g.on 0 rfl)) (ta 16 (Q a) (ta 17 (Q a) (ta 18 (Qo a 1) (tkx 19 o (fun f d g=>le1 1 u_3 (g.on 0 rfl)) ?_)))))))));obtain ⟨i0,X,b0⟩:=Sl.at (h.mono l6) (ba x);obtain rfl:=X;refine tx 20 (fun f d=>ix dW h.m x) (tx 21 (fun f d=>l1 u_9 ((mm b0) 0 _ rfl)) (o1 22 (gc 22 (je z A.m hT.m D p1_0 (tm h3) U) ?_)));rintro v21 u l0 ⟨E,q,P,rfl⟩;have d0:Kp G0 [(Eb a 144 [v1,I b.at_,B b.bad])] u:=(Kp.cons (q.on 0 rfl) Kp.nil0);refine ⟨.inr d0,ta 23 (B (!n.2)) ?_⟩;obtain rfl:=si e;exact ta 24 (B (!n.2)) (dn (nrm (jn u ⟨E,q,rfl,P⟩)))
 rintro e_ w_ ⟨j0,k0,_,rfl,m0,rfl,p,i,rfl,s⟩;refine nrm (cn H (fun Z H=>?_) (fun Z H=>?_))
 ·refine sr (vv (Q a) (va (Qo a 2) (md (sC 4 2 (B true) [v1,I b.at_,B true] 0 i ⟨rfl,trivial⟩) ?_)));rintro R o0 M;refine wln (W.ret (thr ?_));obtain rfl:=si H;exact r0 (qq R ⟨v1,p,M,s.m,rfl,h.m⟩)
 refine W.skip (nrm (W.region (vv (Q a) (va (Qo a 1) (vx (le1 1 u_3 (i.on 0 rfl)) (va (I (w64 (b.at_+1))) (va (Q a) (va (Qo a 1) (md (sC 3 1 (I (w64 (b.at_+1))) [v1,I (w64 (b.at_+1)),B b.bad] 0 i ⟨rfl,trivial⟩) ?_)))))))));rintro S q0 N;refine WL.nil ?_;obtain rfl:=si H;exact n0 (qq S ⟨v1,p,N,s.m,rfl,h.m⟩)
def bg (p0:ab):Option (Er):=
 (orE p0.bad (some (decide (p0.at_ < (p0.words.length:Int))))).bind fun b=>
 if b=true then
 (cT p0.at_ (Er.sent 5)).bind fun a=>
 some a
 else
 some Er.nil
theorem eB {a:Nat} (b:ab) (N:Own c0 G ((Eb a 144 [v1,I b.at_,B b.bad]) :: F)) (hG:Gl [5] c0) {r:Er} (R:Sl RS c0 v1 b.words) (H:bg b=some r): Calls prog 112 #[Q a] c0.w (aX c0 fun c v=>∃E,Own c G ((Eb a 144 [v1,I b.at_,B b.bad]) :: F)∧v=E∧RE 230 87 c E r):=by
 unfold bg at H;refine en func112 rfl rfl (sr (va (.nilIface) (wln (W.seq (W.seq (bn H fun t z H=>W.join (Jn c0 fun c l=>Own c G ((Eb a 144 [v1,I b.at_,B b.bad]) :: F)∧l= [(0,Q a),(18,B t)]) ?_ ?_))))))
 ·clear H;refine rD [] (Kp G0 [(Eb a 144 [v1,I b.at_,B b.bad])]) N ?_;intro p l4 o;have q:Kp G0 [(Eb a 144 [v1,I b.at_,B b.bad])] p:=(Kp.cons (o.on 0 rfl) Kp.nil0);refine ta 0 (Q a) (ta 1 (Q a) (ta 2 (Qo a 2) (tkx 3 q (fun e d f=>le1 2 u_4 (f.on 0 rfl)) ?_)));rcases bo (b.bad) with g | g
  ·obtain rfl:=orT g z;exact AC.takeb 4 g rfl (by kernel_rfl) (by kernel_rfl) (fun e d=>(by kernel_rfl)) (tp 5 (tp 6 (tp 7 (tp 8 (tp 9 (tp 10 (tp 11 (tp 12 (tp 13 (tp 14 (ta 15 (B true) (dn (nrm (jn p ⟨o,rfl⟩))))))))))))))
  have M:=orF g z;refine AC.takeb 4 g rfl (by kernel_rfl) (by kernel_rfl) (fun e d=>(by kernel_rfl)) (ta 5 (Q a) (ta 6 (Q a) (ta 7 (Qo a 1) (tkx 8 q (fun e d f=>le1 1 u_3 (f.on 0 rfl)) (ta 9 (Q a) (ta 10 (Q a) (ta 11 (Q a) (tkx 12 q (fun e d f=>le1 0 dW (f.on 0 rfl)) (tx 13 (fun e d=>ln 3 dW R.m) (ta 14 (B (decide (b.at_ < (b.words.length:Int)))) ?_))))))))));obtain rfl:=si M;exact ta 15 (B (decide (b.at_ < (b.words.length:Int)))) (dn (nrm (jn p ⟨o,rfl⟩)))
 rintro Z w_ ⟨P,U,_,rfl,S,rfl,h,rfl⟩;refine nrm (cn H (fun u H=>?_) (fun u H=>?_))
 ·refine W.seq (rD [] (Kp G0 [(Eb a 144 [v1,I b.at_,B b.bad])]) h ?_);intro s l16 i;have A:Kp G0 [(Eb a 144 [v1,I b.at_,B b.bad])] s:=(Kp.cons (i.on 0 rfl) Kp.nil0);refine ta 0 (Q a) (ta 1 (Q a) (ta 2 (Qo a 1) (tkx 3 A (fun e d f=>le1 1 u_3 (f.on 0 rfl)) ?_)));obtain ⟨v19,n⟩:=(hG.mono (S.trans l16)).get 5 (by decide);refine tx 4 (fun e d=>l1 jV n.m.im) (bn H fun T x H=>o1 5 (gc 5 (fS i b.at_ (Er.sent 5) n x) ?_));rintro v22 k X ⟨_,j,rfl,y⟩;have D:Kp G0 [(Eb a 144 [v1,I b.at_,B b.bad])] k:=(Kp.cons (j.on 0 rfl) Kp.nil0);refine ⟨.inr D,ta 6 (v22) (dn (nrm (W.ret (thr ?_))))⟩;obtain rfl:=si H;exact r1 (qq k ⟨v22,j,rfl,y⟩)
 refine W.skip (nrm (sr (va (.nilIface) (wln (W.ret ?_)))));obtain rfl:=si H;exact r1 (qq P ⟨.nilIface,h,rfl,rfl⟩)
def aZ (sg:Sto) (p0:Option Nat) (p1:ab):Option (Sto×ab×Er):=
 (some (sg.add_api_Line (⟨([]:List ak),false⟩:ah))).bind fun j=>
 (aL j p1 sg.api_Line.length).bind fun e=>
 (p0).bind fun f=>
 (e.1.snap_reader[f]?).bind fun h=>
 (ed (σ:=Int×(List ByteArray)×Int×Bool×Sto) (τ:=((List ByteArray)×Int×Bool×Sto)) ((h.v.Wide - 0).toNat+1) (fun b=>
 if (decide (b.1 < h.v.Wide))=true then
 (aH b.2.2.2.2 (⟨b.2.1,b.2.2.1,b.2.2.2.1⟩:ab) sg.api_Line.length).bind fun d=>
 some (.inl ((w64 (b.1+1)),d.2.words,d.2.at_,d.2.bad,d.1))
 else
 some (.inr (b.2.1,b.2.2.1,b.2.2.2.1,b.2.2.2.2))) (0,e.2.words,e.2.at_,e.2.bad,e.1)).bind fun a=>
 (bg (⟨a.1,a.2.1,a.2.2.1⟩:ab)).bind fun k=>
 if (!k.isNil)=true then
 some (a.2.2.2,(⟨a.1,a.2.1,a.2.2.1⟩:ab),k)
 else
 (a.2.2.2.api_Line[sg.api_Line.length]?).bind fun i=>
 (fA i.Cells).bind fun l=>
 if (!l)=true then
 some (a.2.2.2,(⟨a.1,a.2.1,a.2.2.1⟩:ab),(Er.sent 4))
 else
 (a.2.2.2.snap_reader[f]?).bind fun c=>
 (app c.v.Lines ([i]:List ah)).bind fun m=>
 (a.2.2.2.set_snap_reader f (⟨c.rest,c.n,(⟨c.v.Wide,c.v.High,m,c.v.At,c.v.Auto⟩:af)⟩:am)).bind fun g=>
 some (g,(⟨a.1,a.2.1,a.2.2.1⟩:ab),Er.nil)
theorem fW {h:Nat} (p0:Option Nat) (Z:ab) (O0:Own c0 G ((Eb h 144 [v3,I Z.at_,B Z.bad]) :: F)) (R0:Rel c0 sg G) (hG:Gl [4,5] c0) (hT:Et c0) {r:Sto×ab×Er} (h2:Pt 0 c0 v1 p0) (h4:Sl RS c0 v3 Z.words) (H:aZ sg p0 Z=some r): Calls prog 86 #[v1,Q h] c0.w (aX c0 fun c v=>∃y1 y2,∃G_:Gm,Own c G_ ((Eb h 144 [y2,I r.2.1.at_,B r.2.1.bad]) :: F)∧Rel c r.1 G_∧v=y1∧RE 230 87 c y1 r.2.2∧Sl RS c y2 r.2.1.words):=by
 unfold aZ at H;refine en func86 rfl rfl (sr (va (.nilIface) (wln (sr ?_))));have h6:OA bG c0 (Y) [] []:=OA.nil (fD _);have O5:=O0.addHole (e:=es false bG (Y) 94 [] ([]:List ak)) rfl;refine me (al 97 [(Y),B false] O5) ?_;rintro v10 c9 l9 ⟨s,rfl,O8⟩;have f3:=O8.sD 3 [0,1,2];refine bn H fun k4 p3 H=>?_;obtain ⟨k3,l5,q3,y0,b0,g3,i1,w5,x5,m5⟩:=Rel.new_api_Line (E:=[(Eb s 97 [(Y),B false]),es false bG (Y) 94 [] ([]:List ak)]) (F:=(Eb h 144 [v3,I Z.at_,B Z.bad]) :: F) (x:=(⟨([]:List ak),false⟩:ah)) (b:=s) f3 (R0.mono l9) (fun c_ hle_=>⟨s,(Y),[],rfl,rfl,((h6.mono l9).mono hle_)⟩);rw [ao p3] at i1;refine WL.gh q3.1 ?_;have y5:Pt 1 k3 (Q s) (some sg.api_Line.length):=⟨s,rfl,b0⟩;refine wln (sr (va (Q h) (va (.func (.func 109) #[] #[Q s]) ?_)));obtain ⟨n5,o5,p5,rfl⟩:=((h4.mono (l9.trans y0))).form;refine bn H fun f6 s3 H=>cl (dD Z sg.api_Line.length g3 i1 h4.m b0 s3) ?_;rintro v36 m0 s1 ⟨v29,c3,f1,j1,rfl,t3⟩;refine wln (W.seq (sr (va (v1) (bn H fun c5 u3 H=>?_))));obtain ⟨g,rfl,v0⟩:=((h2.mono (l9.trans (y0.trans s1)))).get u3;refine va (Q g) (vv (Qo g 2) (bn H fun b1 x3 H=>?_));obtain ⟨v41,c6,y3,z5⟩:=Rel.open_snap_reader j1 x3 v0;refine vx (le1 2 u_3 (f1.gon y3 0 rfl)) (va (I 0) (wln (W.block (bn H fun X m1 a=>lp m1 (fun f=>Jn m0 fun c l=>∃v47 G_,Own c G_ ((Eb h 144 [v47,I f.2.2.1,B f.2.2.2.1]) :: F)∧l= [(0,Q g),(1,Q h),(5,Q s),(14,I b1.v.Wide),(15,I f.1)]∧Rel c f.2.2.2.2 G_∧Sl RS c v47 f.2.1) (fun p ex e w=>ex= .exit 0∧(Jn m0 fun c l=>∃v48 G_,Own c G_ ((Eb h 144 [v48,I p.2.1,B p.2.2.1]) :: F)∧l= [(0,Q g),(1,Q h),(5,Q s)]∧Rel c p.2.2.2 G_∧Sl RS c v48 p.1) e w) ?_ ?_ ?_))))
 ·clear a m1;intro f g6 o3 n4 H;revert o3 n4;rintro e_ w_ ⟨l3,u5,_,rfl,a6,rfl,v47,d3,g1,rfl,k1,w0⟩;refine sr (va (B (decide (f.1 < b1.v.Wide))) (wln (W.seq (cn H (fun z3 H=>?_) (fun z3 H=>?_)))))
  ·refine W.skip (nrm (W.seq (W.block (W.region (va (Q h) (va (.func (.func 110) #[] #[Q s]) ?_))))));obtain ⟨q5,r5,s5,rfl⟩:=(w0).form;refine bn H fun k5 a4 H=>cl (dC (⟨f.2.1,f.2.2.1,f.2.2.2.1⟩:ab) sg.api_Line.length g1 k1 hT.m w0 (tm b0) a4) ?_;rintro e6 m3 b6 ⟨l4,e3,h3,j3,rfl,b4⟩;refine WL.nil (bkn (nrm (W.region (vv (I (w64 (f.1+1))) (WL.nil ?_)))));obtain rfl:=si H;exact ⟨_,rfl,jn m3 ⟨l4,e3,h3,rfl,j3,b4⟩⟩
  refine W.exit (thx ?_);obtain rfl:=si H;exact ⟨_,rfl,rfl,jn l3 ⟨v47,d3,g1,rfl,k1,w0⟩⟩
 ·exact jn m0 ⟨v29,c3,f1,rfl,j1,t3⟩
 rintro _ e_ w_ ⟨rfl,t5,v5,_,rfl,t1,rfl,v48,u,i3,rfl,A,D⟩;refine bke (nrm (W.seq (sr (va (Q h) ?_))));obtain ⟨j0,k0,l0,rfl⟩:=(D).form;refine bn a fun x2 c4 a=>cl (eB (⟨X.1,X.2.1,X.2.2.1⟩:ab) i3 (hG.m.le (by decide)) D c4) ?_;rintro N n3 M ⟨_,a0,rfl,n1⟩;refine va (N) (wln (sr (va (N) (vr (B (!x2.isNil)) (by rcases (n1).cs with ⟨t0,u0⟩ | ⟨b_,t0,u0⟩ | ⟨b_,t0,u0⟩ <;> (subst t0; rw [u0]; kernel_rfl)) (wln (cn a (fun d4 a=>?_) (fun d4 a=>?_)))))))
 ·refine sr (vv (N) (wln (W.ret (thr ?_))));obtain rfl:=si a;exact r1 (qq n3 ⟨N,(.slice j0 k0 l0),u,a0,A.m,rfl,n1,D.m⟩)
 refine W.skip (nrm (W.seq (sr (va (Q s) (bn a fun z e4 a=>?_)))));obtain ⟨m4,d6,d0,q1⟩:=Rel.open_api_Line (A.mono M) e4 (tm b0);refine vx (le1 0 fe (a0.gon d0 0 rfl)) ?_;have f4:=q1.sl (a0.gon d0 1 rfl);refine bn a fun z2 g4 a=>cl (lc a0 z.Cells f4 g4) ?_;rintro f5 f2 q ⟨h1,rfl⟩;refine va (B (!z2)) (wln (cn a (fun l2 a=>?_) (fun l2 a=>?_)))
 ·refine sr ?_;obtain ⟨e1,o0⟩:=(hG.mono (l9.trans (y0.trans (s1.trans (t1.trans (M.trans q)))))).get 4 (by decide);refine vx (l1 jV o0.im) (va (e1) (wln (W.ret (thr ?_))));obtain rfl:=si a;exact r1 (qq f2 ⟨e1,(.slice j0 k0 l0),u,h1,A.m,rfl,o0,D.m⟩)
 refine W.skip (nrm (W.seq (rD [8,12] (Kp u []) h1 ?_)));intro g2 y P;have c1:Kp u [] g2:=(Kp.nil P);refine ta 0 (Q g) (ta 1 (Q g) (ta 2 (Q g) (ta 3 (Qo g 2) (ta 4 (Qo g 4) (bn a fun d m2 a=>?_)))));obtain ⟨g5,d5,q0,n2⟩:=Rel.open_snap_reader (A.mono (M.trans (q.trans y))) m2 (tm v0);refine tkx 5 c1 (fun c' i4 hk=>le1 4 dX (hk.gon q0 0 rfl)) (tkx 6 c1 (fun c' i4 hk=>leN 97 0 [m4,B z.Wrap] (hk.gon d0 0 rfl)) ?_);have s0:=(q1.mono (q.trans y)).sl (P.gon d0 1 rfl);obtain ⟨g0,h0,i0,rfl⟩:=(s0).form;refine o1 7 (gm 7 (sl aJ 97 [[.slice g0 h0 i0,B z.Wrap]] ([z]:List ah) P ⟨⟨(.slice g0 h0 i0),rfl,s0⟩,trivial⟩) ?_);rintro h5 i2 x0 ⟨e5,e0,o2⟩;have v2:Kp u [] i2:=(Kp.nil e0);refine ⟨.inr v2,?_⟩;obtain ⟨j2,q2,S,f0,p2⟩:=e0.frz 0 rfl o2;have w2:Kp u [] j2:=(Kp.nil f0);refine AC.gh q2 S (fun _=>w2) (bn a fun a3 s2 a=>?_);have w1:=f0.borrow 1 q0 rfl;refine o1 8 (gm 8 (ap aJ (.agg #[Y,B false]) 32 45 0 w1 n2.m p2 s2 dX) ?_);rintro i5 x4 z0 ⟨d1,x1,R⟩;have z1:=x1.giveB 1 rfl;refine ⟨.inl rfl,ta 9 (Q g) (ta 10 (Qo g 2) (ta 11 (Qo g 4) ?_))⟩;obtain ⟨i,k,o,rfl⟩:=(R).form;refine o1 12 (gD 12 (Own.stGB (T:=45) (j:=4) (us:=[.slice i k o]) (nw:=[.string d.rest,I d.n,I d.v.Wide,I d.v.High,.slice i k o,I d.v.At.Row,I d.v.At.Col,B d.v.At.Pending,B d.v.Auto]) (v:= .slice i k o) 0 z1 (by kernel_rfl) rfl rfl rfl rfl (by kernel_rfl) ⟨(R).one,trivial⟩ (by kernel_rfl) rfl) ?_);rintro k2 U b2;refine bn a fun b3 t2 a=>?_;obtain ⟨u1,c2,e2,z4,u4⟩:=Rel.put_snap_reader b2 (A.mono (M.trans (q.trans (y.trans (x0.trans (S.trans (z0.trans U))))))) (E':=[(Eb g 106 [.string d.rest,I d.n,I d.v.Wide,I d.v.High,.slice i k o,I d.v.At.Row,I d.v.At.Col,B d.v.At.Pending,B d.v.Auto]),es false aJ (.slice i k o) 97 d1 a3]) t2 ⟨g,(.slice i k o),d1,((t1.trans (M.trans (q.trans (y.trans (x0.trans (S.trans (z0.trans U))))))).t _ _ _ v0),rfl,(R.mono U)⟩;refine ⟨.inl rfl,dn (nrm (sr (va (.nilIface) (wln (W.ret ?_)))))⟩;obtain rfl:=si a;have d2:=c2.sD 2 [1];exact r1 (qq k2 ⟨.nilIface,(.slice j0 k0 l0),u1,d2,e2,rfl,rfl,D.m⟩)
def cx (p0:ByteArray) (p1:Int):Option (Int×Bool):=
 (orE ((bN p0)==0) (some (decide ((bN p0) > 4)))).bind fun h=>
 (orE h ((cj (decide ((bN p0) > 1)) ((gg p0 0).bind fun f=>
 some (f==48))).bind fun c=>
 some c)).bind fun b=>
 (orE b ((cw p0 (⟨#[48,49,50,51,52,53,54,55,56,57]⟩:ByteArray)).bind fun g=>
 some (!(eqS g (⟨#[]⟩:ByteArray))))).bind fun d=>
 if d=true then
 some (0,false)
 else
 (fh p0).bind fun a=>
 (cj a.2.isNil (some (decide (a.1 < p1)))).bind fun e=>
 some (a.1,e)
theorem gx (q:Own c0 G F) (hT:Et c0) (b:ByteArray) (i:Int) {r:Int×Bool} (H:cx b i=some r): Calls prog 145 #[.string b,I i] c0.w (aX c0 fun c v=>Own c G (F)∧v= .tuple #[I r.1,B r.2]):=by
 unfold cx at H;refine en func145 rfl rfl (sr (va (I 0) (va (B false) (wln (W.seq (W.seq (bn H fun y0 h1 H=>bn H fun u0 S H=>bn H fun P x H=>W.join (Jn c0 fun c l=>Own c G (F)∧l= [(0,.string b),(1,I i),(30,B P)]) ?_ ?_)))))))
 ·clear H;refine W.region (va (.string b) (vr (I (bN b)) (rx (by kernel_rfl) (dy (ty:=3) u_9 _)) (va (B ((bN b)==0)) ?_)));rcases bo ((bN b)==0) with y | y
  ·obtain rfl:=orT y h1;refine vb y (pz (ps (va (B true) ?_)));have h5:true=true:=rfl;obtain rfl:=orT h5 S;refine vb h5 (pz (pz (pz (pz (va (B true) ?_)))));have h6:true=true:=rfl;obtain rfl:=orT h6 x;exact vb h6 (pz (ps (va (B true) (wln (jn c0 ⟨q,rfl⟩)))))
  have H7:=orF y h1;refine vb y (wa (.string b) (wn (vr (I (bN b)) (rx (by kernel_rfl) (dy (ty:=3) u_9 _)) (wa (B (decide ((bN b) > 4))) ?_))));obtain rfl:=si H7;refine va (B (decide ((bN b) > 4))) ?_;rcases bo (decide ((bN b) > 4)) with z | z
  ·obtain rfl:=orT z S;refine vb z (pz (pz (pz (pz (va (B true) ?_)))));have h9:true=true:=rfl;obtain rfl:=orT h9 x;exact vb h9 (pz (ps (va (B true) (wln (jn c0 ⟨q,rfl⟩)))))
  have j:=orF z S;refine vb z (wa (.string b) (wn (vr (I (bN b)) (rx (by kernel_rfl) (dy (ty:=3) u_9 _)) (wa (B (decide ((bN b) > 1))) (wn (bn j fun v0 E j=>?_))))));rcases bo (decide ((bN b) > 1)) with f | f
  ·have n:=anT f E;refine vb f (wa (.string b) (wn (bn n fun d g0 n=>vr (.int .u8 d) (rx (by kernel_rfl) (cp (k:= .i64) u_9 g0 _)) (wa (B (d==48)) (wn ?_)))));obtain rfl:=si n;refine va (B (d==48)) ?_;obtain rfl:=si j;refine va (B (d==48)) ?_;rcases bo (d==48) with g | g
   ·obtain rfl:=orT g x;exact vb g (pz (ps (va (B true) (wln (jn c0 ⟨q,rfl⟩)))))
   have o:=orF g x;refine vb g (wa (.string b) (wn (bn o fun e h0 o=>cl (gb q hT b (⟨#[48,49,50,51,52,53,54,55,56,57]⟩:ByteArray) h0) ?_)));rintro v23 a0 b1 ⟨U,rfl⟩;refine wn (vr (B (!(eqS e (⟨#[]⟩:ByteArray)))) (kJ (by kernel_rfl)) ?_);obtain rfl:=si o;exact va (B (!(eqS e (⟨#[]⟩:ByteArray)))) (wln (jn a0 ⟨U,rfl⟩))
  obtain rfl:=anF f E;refine vb f (pz (ps (wa (B false) ?_)));obtain rfl:=si j;refine va (B false) ?_;have M:false=false:=rfl;have p:=orF M x;refine vb M (wa (.string b) (wn (bn p fun e i0 p=>cl (gb q hT b (⟨#[48,49,50,51,52,53,54,55,56,57]⟩:ByteArray) i0) ?_)));rintro v32 b0 c1 ⟨X,rfl⟩;refine wn (vr (B (!(eqS e (⟨#[]⟩:ByteArray)))) (kJ (by kernel_rfl)) ?_);obtain rfl:=si p;exact va (B (!(eqS e (⟨#[]⟩:ByteArray)))) (wln (jn b0 ⟨X,rfl⟩))
 rintro e_ w_ ⟨d0,z0,_,rfl,d1,rfl,A,rfl⟩;refine nrm (cn H (fun j0 H=>?_) (fun j0 H=>?_))
 ·refine sr (va (I 0) (va (B false) (wln (W.ret (thr ?_)))));obtain rfl:=si H;exact r2 (qq d0 ⟨A,rfl⟩)
 refine W.skip (nrm (sr (va (.string b) (bn H fun a k0 H=>cl (nj A hT.m b k0) ?_))));rintro v48 s e1 ⟨v41,D,rfl,l0⟩;refine va (.tuple #[I a.1,v41]) (va (I a.1) (va (v41) (va (I a.1) (va (v41) (wln (W.seq (bn H fun R N H=>W.join (Jn s fun c l=>Own c G (F)∧l= [(4,I a.1),(5,B R)]) ?_ ?_)))))))
 ·clear H;refine W.region (va (I a.1) (va (v41) (vr (B a.2.isNil) (by rcases (l0).cs with ⟨t,u⟩ | ⟨b_,t,u⟩ | ⟨b_,t,u⟩ <;> (subst t; rw [u]; kernel_rfl)) ?_)));rcases bo (a.2.isNil) with h | h
  ·have T:=anT h N;refine vb h (wa (I a.1) (wa (I i) (wa (B (decide (a.1 < i))) ?_)));obtain rfl:=si T;exact va (B (decide (a.1 < i))) (va (I a.1) (va (B (decide (a.1 < i))) (wln (jn s ⟨D,rfl⟩))))
  obtain rfl:=anF h N;exact vb h (pz (ps (va (B false) (va (I a.1) (va (B false) (wln (jn s ⟨D,rfl⟩)))))))
 rintro e_ w_ ⟨e0,a1,_,rfl,f1,rfl,Z,rfl⟩;refine nrm (W.ret ?_);obtain rfl:=si H;exact r2 (qq e0 ⟨Z,rfl⟩)
def cc (sg:Sto) (p0:ByteArray) (q0_0:Int) (e:Nat) (q2_0:Int):Option (Sto×Bool):=
 (cx p0 q0_0).bind fun c=>
 (sg.snap_reader[e]?).bind fun a=>
 (sg.set_snap_reader e (⟨a.rest,a.n,(⟨c.1,a.v.High,a.v.Lines,a.v.At,a.v.Auto⟩:af)⟩:am)).bind fun b=>
 (cj c.2 (some (decide (c.1≥q2_0)))).bind fun d=>
 some (b,d)
theorem kB {i:Nat} {k:Nat} {bc1o:Nat} {o:Nat} (O0:Own c0 G F) (M:Rel c0 sg G) (hT:Et c0) (f:ByteArray) (q0_0:Int) (Z:Nat) (q2_0:Int) {r:Sto×Bool} (m1:∀j u,([I q0_0]:List Value)[j]? = some u→Im c0 i (0+j) u) (m2:∀j u,([.pointer (some ⟨bc1o,2,none⟩)]:List Value)[j]? = some u→Im c0 k (0+j) u) (X:c0.t 0 Z=some bc1o) (m4:∀j u,([I q2_0]:List Value)[j]? = some u→Im c0 o (0+j) u) (H:cc sg f q0_0 Z q2_0=some r): Calls prog 144 #[.string f,Q i,Q k,Q o] c0.w (aX c0 fun c v=>∃G_:Gm,Own c G_ (F)∧Rel c r.1 G_∧v=B r.2):=by
 unfold cc at H;refine en func144 rfl rfl (sr (va (B false) (wln (sr (va (.string f) (vx (l1 u_3 (m1 0 _ rfl)) (bn H fun b h5 H=>cl (gx O0 hT f q0_0 h5) ?_)))))));rintro v11 i0 q ⟨O7,rfl⟩;refine va (.tuple #[I b.1,B b.2]) (va (I b.1) (va (B b.2) (va (I b.1) (va (B b.2) (wln (sr (vx (l1 qy ((mm m2) 0 _ rfl)) (va (I b.1) (va (Qo bc1o 2) (bn H fun a R H=>?_))))))))));obtain ⟨v13,x,T,S⟩:=Rel.open_snap_reader (M.mono q) R (tm X);refine md (gC 3 2 (I b.1) [.string a.rest,I a.n,I b.1,I a.v.High,v13,I a.v.At.Row,I a.v.At.Col,B a.v.At.Pending,B a.v.Auto] 0 O7 T ⟨rfl,trivial⟩) ?_;rintro e s D;refine bn H fun z U H=>?_;obtain ⟨g,h,N,k0,h0⟩:=Rel.put_snap_reader D (M.mono (q.trans s)) (E':=[(Eb bc1o 106 [.string a.rest,I a.n,I b.1,I a.v.High,v13,I a.v.At.Row,I a.v.At.Col,B a.v.At.Pending,B a.v.Auto]),es false aJ v13 97 x a.v.Lines]) U ⟨bc1o,v13,x,(tm X),rfl,(S.mono s)⟩;refine wln (W.seq (bn H fun y p H=>W.join (Jn e fun c l=>Own c g (F)∧l= [(5,B y)]) ?_ ?_))
 ·clear H;refine W.region (va (B b.2) ?_);rcases bo (b.2) with d | d
  ·have A:=anT d p;refine vb d (wa (I b.1) (wn (vx (l1 u_3 ((mm m4) 0 _ rfl)) (wa (B (decide (b.1≥q2_0))) ?_))));obtain rfl:=si A;exact vv (B (decide (b.1≥q2_0))) (wln (jn e ⟨h,rfl⟩))
  obtain rfl:=anF d p;exact vb d (pz (ps (vv (B false) (wln (jn e ⟨h,rfl⟩)))))
 rintro e_ w_ ⟨P,j0,_,rfl,l0,rfl,E,rfl⟩;refine nrm (W.ret ?_);obtain rfl:=si H;exact r1 (qq P ⟨g,E,N.m,rfl⟩)
def aV (sg:Sto) (p0:ab) (p1_0_0:Int) (p1_1:Nat) (p1_2_0:Int):Option (Sto×ab):=
 if p0.bad=true then
 some (sg,p0)
 else
 (if (decide (p0.at_≥(p0.words.length:Int)))=true then some (true,sg) else (idx p0.words p0.at_).bind fun c=>
 (cc sg c p1_0_0 p1_1 p1_2_0).bind fun b=>
 some (!b.2,b.1)).bind fun a=>
 if a.1=true then
 some (a.2,(⟨p0.words,p0.at_,true⟩:ab))
 else
 some (a.2,(⟨p0.words,(w64 (p0.at_+1)),p0.bad⟩:ab))
theorem dU {a:Nat} {b1_0:Nat} {b1_1:Nat} {b1_1o:Nat} {b1_2:Nat} (b:ab) (p1_0_0:Int) (p1_1:Nat) (p1_2_0:Int) (D:Own c0 G ((Eb a 144 [v1,I b.at_,B b.bad]) :: F)) (E:Rel c0 sg G) (hT:Et c0) {r:Sto×ab} (k:Sl RS c0 v1 b.words) (m3:∀j u,([I p1_0_0]:List Value)[j]? = some u→Im c0 b1_0 (0+j) u) (m4:∀j u,([.pointer (some ⟨b1_1o,2,none⟩)]:List Value)[j]? = some u→Im c0 b1_1 (0+j) u) (h5:c0.t 0 p1_1=some b1_1o) (m6:∀j u,([I p1_2_0]:List Value)[j]? = some u→Im c0 b1_2 (0+j) u) (H:aV sg b p1_0_0 p1_1 p1_2_0=some r): Calls prog 108 #[Q a,.func (.func 144) #[] #[Q b1_0,Q b1_1,Q b1_2]] c0.w (aX c0 fun c v=>∃y1,∃G_:Gm,Own c G_ ((Eb a 144 [y1,I r.2.at_,B r.2.bad]) :: F)∧Rel c r.1 G_∧v= .tuple #[]∧Sl RS c y1 r.2.words):=by
 unfold aV at H;refine en func108 rfl rfl (W.seq (sr (vv (Q a) (va (Qo a 2) (vx (le1 2 u_4 (D.on 0 rfl)) (wln (cn H (fun h7 H=>?_) (fun h7 H=>?_))))))))
 ·refine W.ret (thr ?_);obtain rfl:=si H;exact r0 (qq c0 ⟨v1,G,D,E,rfl,k⟩)
 refine W.skip (nrm (W.seq (W.seq (bn H fun p h8 H=>W.join (Jn c0 fun c l=>∃G_,Own c G_ ((Eb a 144 [v1,I b.at_,B b.bad]) :: F)∧l= [(0,Q a),(32,B p.1)]∧Rel c p.2 G_) ?_ ?_))))
 ·clear H;refine rD [] (Kp G0 [(Eb a 144 [v1,I b.at_,B b.bad])]) D ?_;intro X l9 n;have i:Kp G0 [(Eb a 144 [v1,I b.at_,B b.bad])] X:=(Kp.cons (n.on 0 rfl) Kp.nil0);refine ta 0 (Q a) (ta 1 (Q a) (ta 2 (Qo a 1) (tkx 3 i (fun f d h=>le1 1 u_3 (h.on 0 rfl)) (ta 4 (Q a) (ta 5 (Q a) (ta 6 (Q a) (tkx 7 i (fun f d h=>le1 0 dW (h.on 0 rfl)) (tx 8 (fun f d=>ln 3 dW k.m) (ta 9 (B (decide (b.at_≥(b.words.length:Int)))) ?_)))))))));rcases bo (decide (b.at_≥(b.words.length:Int))) with g | g
  ·obtain rfl:=ao (it g h8);exact AC.takeb 10 g rfl (by kernel_rfl) (by kernel_rfl) (fun f d=>(by kernel_rfl)) (tp 11 (tp 12 (tp 13 (tp 14 (tp 15 (tp 16 (tp 17 (tp 18 (tp 19 (tp 20 (tp 21 (tp 22 (tp 23 (ta 24 (B true) (dn (nrm (jn X ⟨G,n,rfl,E.m⟩)))))))))))))))))
  have e:=ie g h8;refine bn e fun M A e=>bn e fun q Z e=>AC.takeb 10 g rfl (by kernel_rfl) (by kernel_rfl) (fun f d=>(by kernel_rfl)) (ta 11 (.func (.func 144) #[] #[Q b1_0,Q b1_1,Q b1_2]) (ta 12 (Q a) (ta 13 (Q a) (ta 14 (Q a) (tkx 15 i (fun f d h=>le1 0 dW (h.on 0 rfl)) (ta 16 (Q a) (ta 17 (Q a) (ta 18 (Qo a 1) (tkx 19 i (fun f d h=>le1 1 u_3 (h.on 0 rfl)) ?_)))))))));obtain ⟨k0,a0,e0⟩:=Sl.at (k.mono l9) (ba A);obtain rfl:=a0;refine tx 20 (fun f d=>ix dW k.m A) (tx 21 (fun f d=>l1 u_9 ((mm e0) 0 _ rfl)) (o1 22 (gc 22 (kB n E.m hT.m M p1_0_0 p1_1 p1_2_0 (mm m3) (mm m4) (tm h5) (mm m6) Z) ?_)));rintro v24 z t0 ⟨N,x,S,rfl⟩;have f0:Kp G0 [(Eb a 144 [v1,I b.at_,B b.bad])] z:=(Kp.cons (x.on 0 rfl) Kp.nil0);refine ⟨.inr f0,ta 23 (B (!q.2)) ?_⟩;obtain rfl:=si e;exact ta 24 (B (!q.2)) (dn (nrm (jn z ⟨N,x,rfl,S⟩)))
 rintro e_ w_ ⟨q0,s0,_,rfl,u0,rfl,s,o,rfl,y⟩;refine nrm (cn H (fun b0 H=>?_) (fun b0 H=>?_))
 ·refine sr (vv (Q a) (va (Qo a 2) (md (sC 4 2 (B true) [v1,I b.at_,B true] 0 o ⟨rfl,trivial⟩) ?_)));rintro T v0 P;refine wln (W.ret (thr ?_));obtain rfl:=si H;exact r0 (qq T ⟨v1,s,P,y.m,rfl,k.m⟩)
 refine W.skip (nrm (W.region (vv (Q a) (va (Qo a 1) (vx (le1 1 u_3 (o.on 0 rfl)) (va (I (w64 (b.at_+1))) (va (Q a) (va (Qo a 1) (md (sC 3 1 (I (w64 (b.at_+1))) [v1,I (w64 (b.at_+1)),B b.bad] 0 o ⟨rfl,trivial⟩) ?_)))))))));rintro U w0 R;refine WL.nil ?_;obtain rfl:=si H;exact n0 (qq U ⟨v1,s,R,y.m,rfl,k.m⟩)
def bZ (sg:Sto) (p0:ByteArray) (q0_0:Int) (e:Nat) (q2_0:Int):Option (Sto×Bool):=
 (cx p0 q0_0).bind fun c=>
 (sg.snap_reader[e]?).bind fun a=>
 (sg.set_snap_reader e (⟨a.rest,a.n,(⟨a.v.Wide,c.1,a.v.Lines,a.v.At,a.v.Auto⟩:af)⟩:am)).bind fun b=>
 (cj c.2 (some (decide (c.1≥q2_0)))).bind fun d=>
 some (b,d)
theorem kA {i:Nat} {k:Nat} {bc1o:Nat} {o:Nat} (O0:Own c0 G F) (M:Rel c0 sg G) (hT:Et c0) (f:ByteArray) (q0_0:Int) (Z:Nat) (q2_0:Int) {r:Sto×Bool} (m1:∀j u,([I q0_0]:List Value)[j]? = some u→Im c0 i (0+j) u) (m2:∀j u,([.pointer (some ⟨bc1o,3,none⟩)]:List Value)[j]? = some u→Im c0 k (0+j) u) (X:c0.t 0 Z=some bc1o) (m4:∀j u,([I q2_0]:List Value)[j]? = some u→Im c0 o (0+j) u) (H:bZ sg f q0_0 Z q2_0=some r): Calls prog 144 #[.string f,Q i,Q k,Q o] c0.w (aX c0 fun c v=>∃G_:Gm,Own c G_ (F)∧Rel c r.1 G_∧v=B r.2):=by
 unfold bZ at H;refine en func144 rfl rfl (sr (va (B false) (wln (sr (va (.string f) (vx (l1 u_3 (m1 0 _ rfl)) (bn H fun b h5 H=>cl (gx O0 hT f q0_0 h5) ?_)))))));rintro v11 i0 q ⟨O7,rfl⟩;refine va (.tuple #[I b.1,B b.2]) (va (I b.1) (va (B b.2) (va (I b.1) (va (B b.2) (wln (sr (vx (l1 qy ((mm m2) 0 _ rfl)) (va (I b.1) (va (Qo bc1o 3) (bn H fun a R H=>?_))))))))));obtain ⟨v13,x,T,S⟩:=Rel.open_snap_reader (M.mono q) R (tm X);refine md (gC 3 3 (I b.1) [.string a.rest,I a.n,I a.v.Wide,I b.1,v13,I a.v.At.Row,I a.v.At.Col,B a.v.At.Pending,B a.v.Auto] 0 O7 T ⟨rfl,trivial⟩) ?_;rintro e s D;refine bn H fun z U H=>?_;obtain ⟨g,h,N,k0,h0⟩:=Rel.put_snap_reader D (M.mono (q.trans s)) (E':=[(Eb bc1o 106 [.string a.rest,I a.n,I a.v.Wide,I b.1,v13,I a.v.At.Row,I a.v.At.Col,B a.v.At.Pending,B a.v.Auto]),es false aJ v13 97 x a.v.Lines]) U ⟨bc1o,v13,x,(tm X),rfl,(S.mono s)⟩;refine wln (W.seq (bn H fun y p H=>W.join (Jn e fun c l=>Own c g (F)∧l= [(5,B y)]) ?_ ?_))
 ·clear H;refine W.region (va (B b.2) ?_);rcases bo (b.2) with d | d
  ·have A:=anT d p;refine vb d (wa (I b.1) (wn (vx (l1 u_3 ((mm m4) 0 _ rfl)) (wa (B (decide (b.1≥q2_0))) ?_))));obtain rfl:=si A;exact vv (B (decide (b.1≥q2_0))) (wln (jn e ⟨h,rfl⟩))
  obtain rfl:=anF d p;exact vb d (pz (ps (vv (B false) (wln (jn e ⟨h,rfl⟩)))))
 rintro e_ w_ ⟨P,j0,_,rfl,l0,rfl,E,rfl⟩;refine nrm (W.ret ?_);obtain rfl:=si H;exact r1 (qq P ⟨g,E,N.m,rfl⟩)
def aU (sg:Sto) (p0:ab) (p1_0_0:Int) (p1_1:Nat) (p1_2_0:Int):Option (Sto×ab):=
 if p0.bad=true then
 some (sg,p0)
 else
 (if (decide (p0.at_≥(p0.words.length:Int)))=true then some (true,sg) else (idx p0.words p0.at_).bind fun c=>
 (bZ sg c p1_0_0 p1_1 p1_2_0).bind fun b=>
 some (!b.2,b.1)).bind fun a=>
 if a.1=true then
 some (a.2,(⟨p0.words,p0.at_,true⟩:ab))
 else
 some (a.2,(⟨p0.words,(w64 (p0.at_+1)),p0.bad⟩:ab))
theorem dT {a:Nat} {b1_0:Nat} {b1_1:Nat} {b1_1o:Nat} {b1_2:Nat} (b:ab) (p1_0_0:Int) (p1_1:Nat) (p1_2_0:Int) (D:Own c0 G ((Eb a 144 [v1,I b.at_,B b.bad]) :: F)) (E:Rel c0 sg G) (hT:Et c0) {r:Sto×ab} (k:Sl RS c0 v1 b.words) (m3:∀j u,([I p1_0_0]:List Value)[j]? = some u→Im c0 b1_0 (0+j) u) (m4:∀j u,([.pointer (some ⟨b1_1o,3,none⟩)]:List Value)[j]? = some u→Im c0 b1_1 (0+j) u) (h5:c0.t 0 p1_1=some b1_1o) (m6:∀j u,([I p1_2_0]:List Value)[j]? = some u→Im c0 b1_2 (0+j) u) (H:aU sg b p1_0_0 p1_1 p1_2_0=some r): Calls prog 108 #[Q a,.func (.func 144) #[] #[Q b1_0,Q b1_1,Q b1_2]] c0.w (aX c0 fun c v=>∃y1,∃G_:Gm,Own c G_ ((Eb a 144 [y1,I r.2.at_,B r.2.bad]) :: F)∧Rel c r.1 G_∧v= .tuple #[]∧Sl RS c y1 r.2.words):=by
 unfold aU at H;refine en func108 rfl rfl (W.seq (sr (vv (Q a) (va (Qo a 2) (vx (le1 2 u_4 (D.on 0 rfl)) (wln (cn H (fun h7 H=>?_) (fun h7 H=>?_))))))))
 ·refine W.ret (thr ?_);obtain rfl:=si H;exact r0 (qq c0 ⟨v1,G,D,E,rfl,k⟩)
 refine W.skip (nrm (W.seq (W.seq (bn H fun p h8 H=>W.join (Jn c0 fun c l=>∃G_,Own c G_ ((Eb a 144 [v1,I b.at_,B b.bad]) :: F)∧l= [(0,Q a),(32,B p.1)]∧Rel c p.2 G_) ?_ ?_))))
 ·clear H;refine rD [] (Kp G0 [(Eb a 144 [v1,I b.at_,B b.bad])]) D ?_;intro X l9 n;have i:Kp G0 [(Eb a 144 [v1,I b.at_,B b.bad])] X:=(Kp.cons (n.on 0 rfl) Kp.nil0);refine ta 0 (Q a) (ta 1 (Q a) (ta 2 (Qo a 1) (tkx 3 i (fun f d h=>le1 1 u_3 (h.on 0 rfl)) (ta 4 (Q a) (ta 5 (Q a) (ta 6 (Q a) (tkx 7 i (fun f d h=>le1 0 dW (h.on 0 rfl)) (tx 8 (fun f d=>ln 3 dW k.m) (ta 9 (B (decide (b.at_≥(b.words.length:Int)))) ?_)))))))));rcases bo (decide (b.at_≥(b.words.length:Int))) with g | g
  ·obtain rfl:=ao (it g h8);exact AC.takeb 10 g rfl (by kernel_rfl) (by kernel_rfl) (fun f d=>(by kernel_rfl)) (tp 11 (tp 12 (tp 13 (tp 14 (tp 15 (tp 16 (tp 17 (tp 18 (tp 19 (tp 20 (tp 21 (tp 22 (tp 23 (ta 24 (B true) (dn (nrm (jn X ⟨G,n,rfl,E.m⟩)))))))))))))))))
  have e:=ie g h8;refine bn e fun M A e=>bn e fun q Z e=>AC.takeb 10 g rfl (by kernel_rfl) (by kernel_rfl) (fun f d=>(by kernel_rfl)) (ta 11 (.func (.func 144) #[] #[Q b1_0,Q b1_1,Q b1_2]) (ta 12 (Q a) (ta 13 (Q a) (ta 14 (Q a) (tkx 15 i (fun f d h=>le1 0 dW (h.on 0 rfl)) (ta 16 (Q a) (ta 17 (Q a) (ta 18 (Qo a 1) (tkx 19 i (fun f d h=>le1 1 u_3 (h.on 0 rfl)) ?_)))))))));obtain ⟨k0,a0,e0⟩:=Sl.at (k.mono l9) (ba A);obtain rfl:=a0;refine tx 20 (fun f d=>ix dW k.m A) (tx 21 (fun f d=>l1 u_9 ((mm e0) 0 _ rfl)) (o1 22 (gc 22 (kA n E.m hT.m M p1_0_0 p1_1 p1_2_0 (mm m3) (mm m4) (tm h5) (mm m6) Z) ?_)));rintro v24 z t0 ⟨N,x,S,rfl⟩;have f0:Kp G0 [(Eb a 144 [v1,I b.at_,B b.bad])] z:=(Kp.cons (x.on 0 rfl) Kp.nil0);refine ⟨.inr f0,ta 23 (B (!q.2)) ?_⟩;obtain rfl:=si e;exact ta 24 (B (!q.2)) (dn (nrm (jn z ⟨N,x,rfl,S⟩)))
 rintro e_ w_ ⟨q0,s0,_,rfl,u0,rfl,s,o,rfl,y⟩;refine nrm (cn H (fun b0 H=>?_) (fun b0 H=>?_))
 ·refine sr (vv (Q a) (va (Qo a 2) (md (sC 4 2 (B true) [v1,I b.at_,B true] 0 o ⟨rfl,trivial⟩) ?_)));rintro T v0 P;refine wln (W.ret (thr ?_));obtain rfl:=si H;exact r0 (qq T ⟨v1,s,P,y.m,rfl,k.m⟩)
 refine W.skip (nrm (W.region (vv (Q a) (va (Qo a 1) (vx (le1 1 u_3 (o.on 0 rfl)) (va (I (w64 (b.at_+1))) (va (Q a) (va (Qo a 1) (md (sC 3 1 (I (w64 (b.at_+1))) [v1,I (w64 (b.at_+1)),B b.bad] 0 o ⟨rfl,trivial⟩) ?_)))))))));rintro U w0 R;refine WL.nil ?_;obtain rfl:=si H;exact n0 (qq U ⟨v1,s,R,y.m,rfl,k.m⟩)
def bY (sg:Sto) (p0:ByteArray) (q0_0:Int) (e:Nat) (q2_0:Int):Option (Sto×Bool):=
 (cx p0 q0_0).bind fun c=>
 (sg.snap_reader[e]?).bind fun a=>
 (sg.set_snap_reader e (⟨a.rest,a.n,(⟨a.v.Wide,a.v.High,a.v.Lines,(⟨c.1,a.v.At.Col,a.v.At.Pending⟩:aF),a.v.Auto⟩:af)⟩:am)).bind fun b=>
 (cj c.2 (some (decide (c.1≥q2_0)))).bind fun d=>
 some (b,d)
theorem kz {i:Nat} {k:Nat} {bc1o:Nat} {o:Nat} (O0:Own c0 G F) (M:Rel c0 sg G) (hT:Et c0) (f:ByteArray) (q0_0:Int) (Z:Nat) (q2_0:Int) {r:Sto×Bool} (m1:∀j u,([I q0_0]:List Value)[j]? = some u→Im c0 i (0+j) u) (m2:∀j u,([.pointer (some ⟨bc1o,5,none⟩)]:List Value)[j]? = some u→Im c0 k (0+j) u) (X:c0.t 0 Z=some bc1o) (m4:∀j u,([I q2_0]:List Value)[j]? = some u→Im c0 o (0+j) u) (H:bY sg f q0_0 Z q2_0=some r): Calls prog 144 #[.string f,Q i,Q k,Q o] c0.w (aX c0 fun c v=>∃G_:Gm,Own c G_ (F)∧Rel c r.1 G_∧v=B r.2):=by
 unfold bY at H;refine en func144 rfl rfl (sr (va (B false) (wln (sr (va (.string f) (vx (l1 u_3 (m1 0 _ rfl)) (bn H fun b h5 H=>cl (gx O0 hT f q0_0 h5) ?_)))))));rintro v11 i0 q ⟨O7,rfl⟩;refine va (.tuple #[I b.1,B b.2]) (va (I b.1) (va (B b.2) (va (I b.1) (va (B b.2) (wln (sr (vx (l1 qy ((mm m2) 0 _ rfl)) (va (I b.1) (va (Qo bc1o 5) (bn H fun a R H=>?_))))))))));obtain ⟨v13,x,T,S⟩:=Rel.open_snap_reader (M.mono q) R (tm X);refine md (gC 3 5 (I b.1) [.string a.rest,I a.n,I a.v.Wide,I a.v.High,v13,I b.1,I a.v.At.Col,B a.v.At.Pending,B a.v.Auto] 0 O7 T ⟨rfl,trivial⟩) ?_;rintro e s D;refine bn H fun z U H=>?_;obtain ⟨g,h,N,k0,h0⟩:=Rel.put_snap_reader D (M.mono (q.trans s)) (E':=[(Eb bc1o 106 [.string a.rest,I a.n,I a.v.Wide,I a.v.High,v13,I b.1,I a.v.At.Col,B a.v.At.Pending,B a.v.Auto]),es false aJ v13 97 x a.v.Lines]) U ⟨bc1o,v13,x,(tm X),rfl,(S.mono s)⟩;refine wln (W.seq (bn H fun y p H=>W.join (Jn e fun c l=>Own c g (F)∧l= [(5,B y)]) ?_ ?_))
 ·clear H;refine W.region (va (B b.2) ?_);rcases bo (b.2) with d | d
  ·have A:=anT d p;refine vb d (wa (I b.1) (wn (vx (l1 u_3 ((mm m4) 0 _ rfl)) (wa (B (decide (b.1≥q2_0))) ?_))));obtain rfl:=si A;exact vv (B (decide (b.1≥q2_0))) (wln (jn e ⟨h,rfl⟩))
  obtain rfl:=anF d p;exact vb d (pz (ps (vv (B false) (wln (jn e ⟨h,rfl⟩)))))
 rintro e_ w_ ⟨P,j0,_,rfl,l0,rfl,E,rfl⟩;refine nrm (W.ret ?_);obtain rfl:=si H;exact r1 (qq P ⟨g,E,N.m,rfl⟩)
def aT (sg:Sto) (p0:ab) (p1_0_0:Int) (p1_1:Nat) (p1_2_0:Int):Option (Sto×ab):=
 if p0.bad=true then
 some (sg,p0)
 else
 (if (decide (p0.at_≥(p0.words.length:Int)))=true then some (true,sg) else (idx p0.words p0.at_).bind fun c=>
 (bY sg c p1_0_0 p1_1 p1_2_0).bind fun b=>
 some (!b.2,b.1)).bind fun a=>
 if a.1=true then
 some (a.2,(⟨p0.words,p0.at_,true⟩:ab))
 else
 some (a.2,(⟨p0.words,(w64 (p0.at_+1)),p0.bad⟩:ab))
theorem dS {a:Nat} {b1_0:Nat} {b1_1:Nat} {b1_1o:Nat} {b1_2:Nat} (b:ab) (p1_0_0:Int) (p1_1:Nat) (p1_2_0:Int) (D:Own c0 G ((Eb a 144 [v1,I b.at_,B b.bad]) :: F)) (E:Rel c0 sg G) (hT:Et c0) {r:Sto×ab} (k:Sl RS c0 v1 b.words) (m3:∀j u,([I p1_0_0]:List Value)[j]? = some u→Im c0 b1_0 (0+j) u) (m4:∀j u,([.pointer (some ⟨b1_1o,5,none⟩)]:List Value)[j]? = some u→Im c0 b1_1 (0+j) u) (h5:c0.t 0 p1_1=some b1_1o) (m6:∀j u,([I p1_2_0]:List Value)[j]? = some u→Im c0 b1_2 (0+j) u) (H:aT sg b p1_0_0 p1_1 p1_2_0=some r): Calls prog 108 #[Q a,.func (.func 144) #[] #[Q b1_0,Q b1_1,Q b1_2]] c0.w (aX c0 fun c v=>∃y1,∃G_:Gm,Own c G_ ((Eb a 144 [y1,I r.2.at_,B r.2.bad]) :: F)∧Rel c r.1 G_∧v= .tuple #[]∧Sl RS c y1 r.2.words):=by
 unfold aT at H;refine en func108 rfl rfl (W.seq (sr (vv (Q a) (va (Qo a 2) (vx (le1 2 u_4 (D.on 0 rfl)) (wln (cn H (fun h7 H=>?_) (fun h7 H=>?_))))))))
 ·refine W.ret (thr ?_);obtain rfl:=si H;exact r0 (qq c0 ⟨v1,G,D,E,rfl,k⟩)
 refine W.skip (nrm (W.seq (W.seq (bn H fun p h8 H=>W.join (Jn c0 fun c l=>∃G_,Own c G_ ((Eb a 144 [v1,I b.at_,B b.bad]) :: F)∧l= [(0,Q a),(32,B p.1)]∧Rel c p.2 G_) ?_ ?_))))
 ·clear H;refine rD [] (Kp G0 [(Eb a 144 [v1,I b.at_,B b.bad])]) D ?_;intro X l9 n;have i:Kp G0 [(Eb a 144 [v1,I b.at_,B b.bad])] X:=(Kp.cons (n.on 0 rfl) Kp.nil0);refine ta 0 (Q a) (ta 1 (Q a) (ta 2 (Qo a 1) (tkx 3 i (fun f d h=>le1 1 u_3 (h.on 0 rfl)) (ta 4 (Q a) (ta 5 (Q a) (ta 6 (Q a) (tkx 7 i (fun f d h=>le1 0 dW (h.on 0 rfl)) (tx 8 (fun f d=>ln 3 dW k.m) (ta 9 (B (decide (b.at_≥(b.words.length:Int)))) ?_)))))))));rcases bo (decide (b.at_≥(b.words.length:Int))) with g | g
  ·obtain rfl:=ao (it g h8);exact AC.takeb 10 g rfl (by kernel_rfl) (by kernel_rfl) (fun f d=>(by kernel_rfl)) (tp 11 (tp 12 (tp 13 (tp 14 (tp 15 (tp 16 (tp 17 (tp 18 (tp 19 (tp 20 (tp 21 (tp 22 (tp 23 (ta 24 (B true) (dn (nrm (jn X ⟨G,n,rfl,E.m⟩)))))))))))))))))
  have e:=ie g h8;refine bn e fun M A e=>bn e fun q Z e=>AC.takeb 10 g rfl (by kernel_rfl) (by kernel_rfl) (fun f d=>(by kernel_rfl)) (ta 11 (.func (.func 144) #[] #[Q b1_0,Q b1_1,Q b1_2]) (ta 12 (Q a) (ta 13 (Q a) (ta 14 (Q a) (tkx 15 i (fun f d h=>le1 0 dW (h.on 0 rfl)) (ta 16 (Q a) (ta 17 (Q a) (ta 18 (Qo a 1) (tkx 19 i (fun f d h=>le1 1 u_3 (h.on 0 rfl)) ?_)))))))));obtain ⟨k0,a0,e0⟩:=Sl.at (k.mono l9) (ba A);obtain rfl:=a0;refine tx 20 (fun f d=>ix dW k.m A) (tx 21 (fun f d=>l1 u_9 ((mm e0) 0 _ rfl)) (o1 22 (gc 22 (kz n E.m hT.m M p1_0_0 p1_1 p1_2_0 (mm m3) (mm m4) (tm h5) (mm m6) Z) ?_)));rintro v24 z t0 ⟨N,x,S,rfl⟩;have f0:Kp G0 [(Eb a 144 [v1,I b.at_,B b.bad])] z:=(Kp.cons (x.on 0 rfl) Kp.nil0);refine ⟨.inr f0,ta 23 (B (!q.2)) ?_⟩;obtain rfl:=si e;exact ta 24 (B (!q.2)) (dn (nrm (jn z ⟨N,x,rfl,S⟩)))
 rintro e_ w_ ⟨q0,s0,_,rfl,u0,rfl,s,o,rfl,y⟩;refine nrm (cn H (fun b0 H=>?_) (fun b0 H=>?_))
 ·refine sr (vv (Q a) (va (Qo a 2) (md (sC 4 2 (B true) [v1,I b.at_,B true] 0 o ⟨rfl,trivial⟩) ?_)));rintro T v0 P;refine wln (W.ret (thr ?_));obtain rfl:=si H;exact r0 (qq T ⟨v1,s,P,y.m,rfl,k.m⟩)
 refine W.skip (nrm (W.region (vv (Q a) (va (Qo a 1) (vx (le1 1 u_3 (o.on 0 rfl)) (va (I (w64 (b.at_+1))) (va (Q a) (va (Qo a 1) (md (sC 3 1 (I (w64 (b.at_+1))) [v1,I (w64 (b.at_+1)),B b.bad] 0 o ⟨rfl,trivial⟩) ?_)))))))));rintro U w0 R;refine WL.nil ?_;obtain rfl:=si H;exact n0 (qq U ⟨v1,s,R,y.m,rfl,k.m⟩)
def bX (sg:Sto) (p0:ByteArray) (q0_0:Int) (e:Nat) (q2_0:Int):Option (Sto×Bool):=
 (cx p0 q0_0).bind fun c=>
 (sg.snap_reader[e]?).bind fun a=>
 (sg.set_snap_reader e (⟨a.rest,a.n,(⟨a.v.Wide,a.v.High,a.v.Lines,(⟨a.v.At.Row,c.1,a.v.At.Pending⟩:aF),a.v.Auto⟩:af)⟩:am)).bind fun b=>
 (cj c.2 (some (decide (c.1≥q2_0)))).bind fun d=>
 some (b,d)
theorem ky {i:Nat} {k:Nat} {bc1o:Nat} {o:Nat} (O0:Own c0 G F) (M:Rel c0 sg G) (hT:Et c0) (f:ByteArray) (q0_0:Int) (Z:Nat) (q2_0:Int) {r:Sto×Bool} (m1:∀j u,([I q0_0]:List Value)[j]? = some u→Im c0 i (0+j) u) (m2:∀j u,([.pointer (some ⟨bc1o,6,none⟩)]:List Value)[j]? = some u→Im c0 k (0+j) u) (X:c0.t 0 Z=some bc1o) (m4:∀j u,([I q2_0]:List Value)[j]? = some u→Im c0 o (0+j) u) (H:bX sg f q0_0 Z q2_0=some r): Calls prog 144 #[.string f,Q i,Q k,Q o] c0.w (aX c0 fun c v=>∃G_:Gm,Own c G_ (F)∧Rel c r.1 G_∧v=B r.2):=by
 unfold bX at H;refine en func144 rfl rfl (sr (va (B false) (wln (sr (va (.string f) (vx (l1 u_3 (m1 0 _ rfl)) (bn H fun b h5 H=>cl (gx O0 hT f q0_0 h5) ?_)))))));rintro v11 i0 q ⟨O7,rfl⟩;refine va (.tuple #[I b.1,B b.2]) (va (I b.1) (va (B b.2) (va (I b.1) (va (B b.2) (wln (sr (vx (l1 qy ((mm m2) 0 _ rfl)) (va (I b.1) (va (Qo bc1o 6) (bn H fun a R H=>?_))))))))));obtain ⟨v13,x,T,S⟩:=Rel.open_snap_reader (M.mono q) R (tm X);refine md (gC 3 6 (I b.1) [.string a.rest,I a.n,I a.v.Wide,I a.v.High,v13,I a.v.At.Row,I b.1,B a.v.At.Pending,B a.v.Auto] 0 O7 T ⟨rfl,trivial⟩) ?_;rintro e s D;refine bn H fun z U H=>?_;obtain ⟨g,h,N,k0,h0⟩:=Rel.put_snap_reader D (M.mono (q.trans s)) (E':=[(Eb bc1o 106 [.string a.rest,I a.n,I a.v.Wide,I a.v.High,v13,I a.v.At.Row,I b.1,B a.v.At.Pending,B a.v.Auto]),es false aJ v13 97 x a.v.Lines]) U ⟨bc1o,v13,x,(tm X),rfl,(S.mono s)⟩;refine wln (W.seq (bn H fun y p H=>W.join (Jn e fun c l=>Own c g (F)∧l= [(5,B y)]) ?_ ?_))
 ·clear H;refine W.region (va (B b.2) ?_);rcases bo (b.2) with d | d
  ·have A:=anT d p;refine vb d (wa (I b.1) (wn (vx (l1 u_3 ((mm m4) 0 _ rfl)) (wa (B (decide (b.1≥q2_0))) ?_))));obtain rfl:=si A;exact vv (B (decide (b.1≥q2_0))) (wln (jn e ⟨h,rfl⟩))
  obtain rfl:=anF d p;exact vb d (pz (ps (vv (B false) (wln (jn e ⟨h,rfl⟩)))))
 rintro e_ w_ ⟨P,j0,_,rfl,l0,rfl,E,rfl⟩;refine nrm (W.ret ?_);obtain rfl:=si H;exact r1 (qq P ⟨g,E,N.m,rfl⟩)
def aS (sg:Sto) (p0:ab) (p1_0_0:Int) (p1_1:Nat) (p1_2_0:Int):Option (Sto×ab):=
 if p0.bad=true then
 some (sg,p0)
 else
 (if (decide (p0.at_≥(p0.words.length:Int)))=true then some (true,sg) else (idx p0.words p0.at_).bind fun c=>
 (bX sg c p1_0_0 p1_1 p1_2_0).bind fun b=>
 some (!b.2,b.1)).bind fun a=>
 if a.1=true then
 some (a.2,(⟨p0.words,p0.at_,true⟩:ab))
 else
 some (a.2,(⟨p0.words,(w64 (p0.at_+1)),p0.bad⟩:ab))
theorem dR {a:Nat} {b1_0:Nat} {b1_1:Nat} {b1_1o:Nat} {b1_2:Nat} (b:ab) (p1_0_0:Int) (p1_1:Nat) (p1_2_0:Int) (D:Own c0 G ((Eb a 144 [v1,I b.at_,B b.bad]) :: F)) (E:Rel c0 sg G) (hT:Et c0) {r:Sto×ab} (k:Sl RS c0 v1 b.words) (m3:∀j u,([I p1_0_0]:List Value)[j]? = some u→Im c0 b1_0 (0+j) u) (m4:∀j u,([.pointer (some ⟨b1_1o,6,none⟩)]:List Value)[j]? = some u→Im c0 b1_1 (0+j) u) (h5:c0.t 0 p1_1=some b1_1o) (m6:∀j u,([I p1_2_0]:List Value)[j]? = some u→Im c0 b1_2 (0+j) u) (H:aS sg b p1_0_0 p1_1 p1_2_0=some r): Calls prog 108 #[Q a,.func (.func 144) #[] #[Q b1_0,Q b1_1,Q b1_2]] c0.w (aX c0 fun c v=>∃y1,∃G_:Gm,Own c G_ ((Eb a 144 [y1,I r.2.at_,B r.2.bad]) :: F)∧Rel c r.1 G_∧v= .tuple #[]∧Sl RS c y1 r.2.words):=by
 unfold aS at H;refine en func108 rfl rfl (W.seq (sr (vv (Q a) (va (Qo a 2) (vx (le1 2 u_4 (D.on 0 rfl)) (wln (cn H (fun h7 H=>?_) (fun h7 H=>?_))))))))
 ·refine W.ret (thr ?_);obtain rfl:=si H;exact r0 (qq c0 ⟨v1,G,D,E,rfl,k⟩)
 refine W.skip (nrm (W.seq (W.seq (bn H fun p h8 H=>W.join (Jn c0 fun c l=>∃G_,Own c G_ ((Eb a 144 [v1,I b.at_,B b.bad]) :: F)∧l= [(0,Q a),(32,B p.1)]∧Rel c p.2 G_) ?_ ?_))))
 ·clear H;refine rD [] (Kp G0 [(Eb a 144 [v1,I b.at_,B b.bad])]) D ?_;intro X l9 n;have i:Kp G0 [(Eb a 144 [v1,I b.at_,B b.bad])] X:=(Kp.cons (n.on 0 rfl) Kp.nil0);refine ta 0 (Q a) (ta 1 (Q a) (ta 2 (Qo a 1) (tkx 3 i (fun f d h=>le1 1 u_3 (h.on 0 rfl)) (ta 4 (Q a) (ta 5 (Q a) (ta 6 (Q a) (tkx 7 i (fun f d h=>le1 0 dW (h.on 0 rfl)) (tx 8 (fun f d=>ln 3 dW k.m) (ta 9 (B (decide (b.at_≥(b.words.length:Int)))) ?_)))))))));rcases bo (decide (b.at_≥(b.words.length:Int))) with g | g
  ·obtain rfl:=ao (it g h8);exact AC.takeb 10 g rfl (by kernel_rfl) (by kernel_rfl) (fun f d=>(by kernel_rfl)) (tp 11 (tp 12 (tp 13 (tp 14 (tp 15 (tp 16 (tp 17 (tp 18 (tp 19 (tp 20 (tp 21 (tp 22 (tp 23 (ta 24 (B true) (dn (nrm (jn X ⟨G,n,rfl,E.m⟩)))))))))))))))))
  have e:=ie g h8;refine bn e fun M A e=>bn e fun q Z e=>AC.takeb 10 g rfl (by kernel_rfl) (by kernel_rfl) (fun f d=>(by kernel_rfl)) (ta 11 (.func (.func 144) #[] #[Q b1_0,Q b1_1,Q b1_2]) (ta 12 (Q a) (ta 13 (Q a) (ta 14 (Q a) (tkx 15 i (fun f d h=>le1 0 dW (h.on 0 rfl)) (ta 16 (Q a) (ta 17 (Q a) (ta 18 (Qo a 1) (tkx 19 i (fun f d h=>le1 1 u_3 (h.on 0 rfl)) ?_)))))))));obtain ⟨k0,a0,e0⟩:=Sl.at (k.mono l9) (ba A);obtain rfl:=a0;refine tx 20 (fun f d=>ix dW k.m A) (tx 21 (fun f d=>l1 u_9 ((mm e0) 0 _ rfl)) (o1 22 (gc 22 (ky n E.m hT.m M p1_0_0 p1_1 p1_2_0 (mm m3) (mm m4) (tm h5) (mm m6) Z) ?_)));rintro v24 z t0 ⟨N,x,S,rfl⟩;have f0:Kp G0 [(Eb a 144 [v1,I b.at_,B b.bad])] z:=(Kp.cons (x.on 0 rfl) Kp.nil0);refine ⟨.inr f0,ta 23 (B (!q.2)) ?_⟩;obtain rfl:=si e;exact ta 24 (B (!q.2)) (dn (nrm (jn z ⟨N,x,rfl,S⟩)))
 rintro e_ w_ ⟨q0,s0,_,rfl,u0,rfl,s,o,rfl,y⟩;refine nrm (cn H (fun b0 H=>?_) (fun b0 H=>?_))
 ·refine sr (vv (Q a) (va (Qo a 2) (md (sC 4 2 (B true) [v1,I b.at_,B true] 0 o ⟨rfl,trivial⟩) ?_)));rintro T v0 P;refine wln (W.ret (thr ?_));obtain rfl:=si H;exact r0 (qq T ⟨v1,s,P,y.m,rfl,k.m⟩)
 refine W.skip (nrm (W.region (vv (Q a) (va (Qo a 1) (vx (le1 1 u_3 (o.on 0 rfl)) (va (I (w64 (b.at_+1))) (va (Q a) (va (Qo a 1) (md (sC 3 1 (I (w64 (b.at_+1))) [v1,I (w64 (b.at_+1)),B b.bad] 0 o ⟨rfl,trivial⟩) ?_)))))))));rintro U w0 R;refine WL.nil ?_;obtain rfl:=si H;exact n0 (qq U ⟨v1,s,R,y.m,rfl,k.m⟩)
def bL (sg:Sto) (p0:ByteArray) (q0_0:Option Nat):Option (Sto×Bool):=
 (q0_0).bind fun c=>
 (sg.snap_reader[c]?).bind fun a=>
 (sg.set_snap_reader c (⟨a.rest,a.n,(⟨a.v.Wide,a.v.High,a.v.Lines,(⟨a.v.At.Row,a.v.At.Col,true⟩:aF),a.v.Auto⟩:af)⟩:am)).bind fun b=>
 (cj (eqS p0 (⟨#[112,101,110,100,105,110,103]⟩:ByteArray)) ((ey (⟨a.v.At.Row,a.v.At.Col,true⟩:aF) a.v.Wide a.v.High).bind fun e=>
 some e)).bind fun d=>
 some (b,d)
theorem jy {y:Nat} (O0:Own c0 G F) (S:Rel c0 sg G) (p:ByteArray) (q0_0:Option Nat) {r:Sto×Bool} (t:∀j u,([v2]:List Value)[j]? = some u→Im c0 y (0+j) u) (h3:Pt 0 c0 v2 q0_0) (H:bL sg p q0_0=some r): Calls prog 115 #[.string p,Q y] c0.w (aX c0 fun c v=>∃G_:Gm,Own c G_ (F)∧Rel c r.1 G_∧v=B r.2):=by
 unfold bL at H;refine en func115 rfl rfl (sr (va (B false) (wln (sr (vx (l1 iY (t 0 _ rfl)) (bn H fun q0 h6 H=>?_))))));obtain ⟨b,rfl,h5⟩:=(h3).get h6;refine va (Q b) (va (Qo b 2) (va (Qo b 5) (va (Qo b 7) (bn H fun a h7 H=>?_))));obtain ⟨v8,u9,a0,Z⟩:=Rel.open_snap_reader S h7 h5;refine md (gC 4 7 (B true) [.string a.rest,I a.n,I a.v.Wide,I a.v.High,v8,I a.v.At.Row,I a.v.At.Col,B true,B a.v.Auto] 0 O0 a0 ⟨rfl,trivial⟩) ?_;rintro U E N;refine bn H fun g0 b0 H=>?_;obtain ⟨e,P,T,k,m0⟩:=Rel.put_snap_reader N (S.mono E) (E':=[(Eb b 106 [.string a.rest,I a.n,I a.v.Wide,I a.v.High,v8,I a.v.At.Row,I a.v.At.Col,B true,B a.v.Auto]),es false aJ v8 97 u9 a.v.Lines]) b0 ⟨b,v8,u9,(tm h5),rfl,(Z.mono E)⟩;refine wln (W.seq (bn H fun M D H=>W.join (Jn U fun c l=>Own c e (F)∧l= [(3,B M)]) ?_ ?_))
 ·clear H;refine rD [] (Kp e []) P ?_;intro z s0 i;have q:Kp e [] z:=(Kp.nil i);refine ta 0 (.string p) (AC.take 1 (B (eqS p (⟨#[112,101,110,100,105,110,103]⟩:ByteArray))) rfl (by kernel_rfl) (by kernel_rfl) (fun f d=>(dP (by kernel_rfl))) ?_);rcases bo (eqS p (⟨#[112,101,110,100,105,110,103]⟩:ByteArray)) with g | g
  ·have h:=anT g D;refine bn h fun s d0 h=>AC.takeb 2 g rfl (by kernel_rfl) (by kernel_rfl) (fun f d=>(by kernel_rfl)) (tx 3 (fun f d=>l1 iY ((mm t) 0 _ rfl)) (ta 4 (Q b) (ta 5 (Qo b 2) (ta 6 (Qo b 5) (tkx 7 q (fun f d o=>leN 47 5 [I a.v.At.Row,I a.v.At.Col,B true] (o.gon k 0 rfl)) (tx 8 (fun f d=>l1 iY ((mm t) 0 _ rfl)) (ta 9 (Q b) (ta 10 (Qo b 2) (ta 11 (Qo b 2) (tkx 12 q (fun f d o=>le1 2 u_3 (o.gon k 0 rfl)) (tx 13 (fun f d=>l1 iY ((mm t) 0 _ rfl)) (ta 14 (Q b) (ta 15 (Qo b 2) (ta 16 (Qo b 3) (tkx 17 q (fun f d o=>le1 3 u_3 (o.gon k 0 rfl)) (o1 18 (gc 18 (jG i (⟨a.v.At.Row,a.v.At.Col,true⟩:aF) a.v.Wide a.v.High d0) ?_)))))))))))))))));rintro v32 A t0 ⟨x,rfl⟩;have f0:Kp e [] A:=(Kp.nil x);refine ⟨.inr f0,?_⟩;obtain rfl:=si h;exact ta 19 (B s) (ta 20 (B s) (dn (nrm (jn A ⟨x,rfl⟩))))
  obtain rfl:=anF g D;exact AC.takeb 2 g rfl (by kernel_rfl) (by kernel_rfl) (fun f d=>(by kernel_rfl)) (tp 3 (tp 4 (tp 5 (tp 6 (tp 7 (tp 8 (tp 9 (tp 10 (tp 11 (tp 12 (tp 13 (tp 14 (tp 15 (tp 16 (tp 17 (tp 18 (ta 19 (B false) (ta 20 (B false) (dn (nrm (jn z ⟨i,rfl⟩)))))))))))))))))))))
 rintro e_ w_ ⟨X,o0,_,rfl,u0,rfl,R,rfl⟩;refine nrm (W.ret ?_);obtain rfl:=si H;exact r1 (qq X ⟨e,R,T.m,rfl⟩)
def aO (sg:Sto) (p0:ab) (p1_0_0:Option Nat):Option (Sto×ab):=
 if p0.bad=true then
 some (sg,p0)
 else
 (if (decide (p0.at_≥(p0.words.length:Int)))=true then some (true,sg) else (idx p0.words p0.at_).bind fun c=>
 (bL sg c p1_0_0).bind fun b=>
 some (!b.2,b.1)).bind fun a=>
 if a.1=true then
 some (a.2,(⟨p0.words,p0.at_,true⟩:ab))
 else
 some (a.2,(⟨p0.words,(w64 (p0.at_+1)),p0.bad⟩:ab))
theorem dH {a:Nat} {b1_0:Nat} (b:ab) (p1_0_0:Option Nat) (z:Own c0 G ((Eb a 144 [v1,I b.at_,B b.bad]) :: F)) (D:Rel c0 sg G) {r:Sto×ab} (k:Sl RS c0 v1 b.words) (m3:∀j u,([v4]:List Value)[j]? = some u→Im c0 b1_0 (0+j) u) (h5:Pt 0 c0 v4 p1_0_0) (H:aO sg b p1_0_0=some r): Calls prog 108 #[Q a,.func (.func 115) #[] #[Q b1_0]] c0.w (aX c0 fun c v=>∃y1,∃G_:Gm,Own c G_ ((Eb a 144 [y1,I r.2.at_,B r.2.bad]) :: F)∧Rel c r.1 G_∧v= .tuple #[]∧Sl RS c y1 r.2.words):=by
 unfold aO at H;refine en func108 rfl rfl (W.seq (sr (vv (Q a) (va (Qo a 2) (vx (le1 2 u_4 (z.on 0 rfl)) (wln (cn H (fun h6 H=>?_) (fun h6 H=>?_))))))))
 ·refine W.ret (thr ?_);obtain rfl:=si H;exact r0 (qq c0 ⟨v1,G,z,D,rfl,k⟩)
 refine W.skip (nrm (W.seq (W.seq (bn H fun o h7 H=>W.join (Jn c0 fun c l=>∃G_,Own c G_ ((Eb a 144 [v1,I b.at_,B b.bad]) :: F)∧l= [(0,Q a),(32,B o.1)]∧Rel c o.2 G_) ?_ ?_))))
 ·clear H;refine rD [] (Kp G0 [(Eb a 144 [v1,I b.at_,B b.bad])]) z ?_;intro U l8 A;have i:Kp G0 [(Eb a 144 [v1,I b.at_,B b.bad])] U:=(Kp.cons (A.on 0 rfl) Kp.nil0);refine ta 0 (Q a) (ta 1 (Q a) (ta 2 (Qo a 1) (tkx 3 i (fun f d h=>le1 1 u_3 (h.on 0 rfl)) (ta 4 (Q a) (ta 5 (Q a) (ta 6 (Q a) (tkx 7 i (fun f d h=>le1 0 dW (h.on 0 rfl)) (tx 8 (fun f d=>ln 3 dW k.m) (ta 9 (B (decide (b.at_≥(b.words.length:Int)))) ?_)))))))));rcases bo (decide (b.at_≥(b.words.length:Int))) with g | g
  ·obtain rfl:=ao (it g h7);exact AC.takeb 10 g rfl (by kernel_rfl) (by kernel_rfl) (fun f d=>(by kernel_rfl)) (tp 11 (tp 12 (tp 13 (tp 14 (tp 15 (tp 16 (tp 17 (tp 18 (tp 19 (tp 20 (tp 21 (tp 22 (tp 23 (ta 24 (B true) (dn (nrm (jn U ⟨G,A,rfl,D.m⟩)))))))))))))))))
  have e:=ie g h7;refine bn e fun E y e=>bn e fun p X e=>AC.takeb 10 g rfl (by kernel_rfl) (by kernel_rfl) (fun f d=>(by kernel_rfl)) (ta 11 (.func (.func 115) #[] #[Q b1_0]) (ta 12 (Q a) (ta 13 (Q a) (ta 14 (Q a) (tkx 15 i (fun f d h=>le1 0 dW (h.on 0 rfl)) (ta 16 (Q a) (ta 17 (Q a) (ta 18 (Qo a 1) (tkx 19 i (fun f d h=>le1 1 u_3 (h.on 0 rfl)) ?_)))))))));obtain ⟨j0,Z,d0⟩:=Sl.at (k.mono l8) (ba y);obtain rfl:=Z;refine tx 20 (fun f d=>ix dW k.m y) (tx 21 (fun f d=>l1 u_9 ((mm d0) 0 _ rfl)) (o1 22 (gc 22 (jy A D.m E p1_0_0 (mm m3) h5.m X) ?_)));rintro v23 x o0 ⟨M,s,R,rfl⟩;have e0:Kp G0 [(Eb a 144 [v1,I b.at_,B b.bad])] x:=(Kp.cons (s.on 0 rfl) Kp.nil0);refine ⟨.inr e0,ta 23 (B (!p.2)) ?_⟩;obtain rfl:=si e;exact ta 24 (B (!p.2)) (dn (nrm (jn x ⟨M,s,rfl,R⟩)))
 rintro e_ w_ ⟨l0,m0,_,rfl,q0,rfl,q,n,rfl,t⟩;refine nrm (cn H (fun a0 H=>?_) (fun a0 H=>?_))
 ·refine sr (vv (Q a) (va (Qo a 2) (md (sC 4 2 (B true) [v1,I b.at_,B true] 0 n ⟨rfl,trivial⟩) ?_)));rintro S s0 N;refine wln (W.ret (thr ?_));obtain rfl:=si H;exact r0 (qq S ⟨v1,q,N,t.m,rfl,k.m⟩)
 refine W.skip (nrm (W.region (vv (Q a) (va (Qo a 1) (vx (le1 1 u_3 (n.on 0 rfl)) (va (I (w64 (b.at_+1))) (va (Q a) (va (Qo a 1) (md (sC 3 1 (I (w64 (b.at_+1))) [v1,I (w64 (b.at_+1)),B b.bad] 0 n ⟨rfl,trivial⟩) ?_)))))))));rintro T t0 P;refine WL.nil ?_;obtain rfl:=si H;exact n0 (qq T ⟨v1,q,P,t.m,rfl,k.m⟩)
def bK (sg:Sto) (p0:ByteArray) (q0_0:Option Nat):Option (Sto×Bool):=
 (q0_0).bind fun c=>
 (sg.snap_reader[c]?).bind fun a=>
 (sg.set_snap_reader c (⟨a.rest,a.n,(⟨a.v.Wide,a.v.High,a.v.Lines,a.v.At,eqS p0 (⟨#[111,110]⟩:ByteArray)⟩:af)⟩:am)).bind fun b=>
 (orE (eqS p0 (⟨#[111,110]⟩:ByteArray)) (some (eqS p0 (⟨#[111,102,102]⟩:ByteArray)))).bind fun d=>
 some (b,d)
theorem jx {i:Nat} (R:Own c0 G F) (x:Rel c0 sg G) (b:ByteArray) (q0_0:Option Nat) {r:Sto×Bool} (X:∀j u,([v2]:List Value)[j]? = some u→Im c0 i (0+j) u) (S:Pt 0 c0 v2 q0_0) (H:bK sg b q0_0=some r): Calls prog 116 #[.string b,Q i] c0.w (aX c0 fun c v=>∃G_:Gm,Own c G_ (F)∧Rel c r.1 G_∧v=B r.2):=by
 unfold bK at H;refine en func116 rfl rfl (sr (va (B false) (wln (sr (vx (l1 iY (X 0 _ rfl)) (va (.string b) (vr (B (eqS b (⟨#[111,110]⟩:ByteArray))) (dP (by kernel_rfl)) (bn H fun d0 T H=>?_))))))));obtain ⟨e,rfl,M⟩:=(S).get T;refine va (Q e) (va (Qo e 2) (va (Qo e 8) (bn H fun a U H=>?_)));obtain ⟨v8,P,D,A⟩:=Rel.open_snap_reader x U M;refine md (gC 4 8 (B (eqS b (⟨#[111,110]⟩:ByteArray))) [.string a.rest,I a.n,I a.v.Wide,I a.v.High,v8,I a.v.At.Row,I a.v.At.Col,B a.v.At.Pending,B (eqS b (⟨#[111,110]⟩:ByteArray))] 0 R D ⟨rfl,trivial⟩) ?_;rintro f o s;refine bn H fun N E H=>?_;obtain ⟨g,h,y,b0,Z⟩:=Rel.put_snap_reader s (x.mono o) (E':=[(Eb e 106 [.string a.rest,I a.n,I a.v.Wide,I a.v.High,v8,I a.v.At.Row,I a.v.At.Col,B a.v.At.Pending,B (eqS b (⟨#[111,110]⟩:ByteArray))]),es false aJ v8 97 P a.v.Lines]) E ⟨e,v8,P,(tm M),rfl,(A.mono o)⟩;refine wln (W.seq (bn H fun p k H=>W.join (Jn f fun c l=>Own c g (F)∧l= [(3,B p)]) ?_ ?_))
 ·clear H;refine W.region (va (.string b) (vr (B (eqS b (⟨#[111,110]⟩:ByteArray))) (dP (by kernel_rfl)) ?_));rcases bo (eqS b (⟨#[111,110]⟩:ByteArray)) with d | d
  ·obtain rfl:=orT d k;exact vb d (pz (vv (B true) (wln (jn f ⟨h,rfl⟩))))
  have q:=orF d k;refine vb d (wa (.string b) (wn (vr (B (eqS b (⟨#[111,102,102]⟩:ByteArray))) (dP (by kernel_rfl)) ?_)));obtain rfl:=si q;exact vv (B (eqS b (⟨#[111,102,102]⟩:ByteArray))) (wln (jn f ⟨h,rfl⟩))
 rintro e_ w_ ⟨z,a0,_,rfl,e0,rfl,t,rfl⟩;refine nrm (W.ret ?_);obtain rfl:=si H;exact r1 (qq z ⟨g,t,y.m,rfl⟩)
def aN (sg:Sto) (p0:ab) (p1_0_0:Option Nat):Option (Sto×ab):=
 if p0.bad=true then
 some (sg,p0)
 else
 (if (decide (p0.at_≥(p0.words.length:Int)))=true then some (true,sg) else (idx p0.words p0.at_).bind fun c=>
 (bK sg c p1_0_0).bind fun b=>
 some (!b.2,b.1)).bind fun a=>
 if a.1=true then
 some (a.2,(⟨p0.words,p0.at_,true⟩:ab))
 else
 some (a.2,(⟨p0.words,(w64 (p0.at_+1)),p0.bad⟩:ab))
theorem dG {a:Nat} {b1_0:Nat} (b:ab) (p1_0_0:Option Nat) (z:Own c0 G ((Eb a 144 [v1,I b.at_,B b.bad]) :: F)) (D:Rel c0 sg G) {r:Sto×ab} (k:Sl RS c0 v1 b.words) (m3:∀j u,([v4]:List Value)[j]? = some u→Im c0 b1_0 (0+j) u) (h5:Pt 0 c0 v4 p1_0_0) (H:aN sg b p1_0_0=some r): Calls prog 108 #[Q a,.func (.func 116) #[] #[Q b1_0]] c0.w (aX c0 fun c v=>∃y1,∃G_:Gm,Own c G_ ((Eb a 144 [y1,I r.2.at_,B r.2.bad]) :: F)∧Rel c r.1 G_∧v= .tuple #[]∧Sl RS c y1 r.2.words):=by
 unfold aN at H;refine en func108 rfl rfl (W.seq (sr (vv (Q a) (va (Qo a 2) (vx (le1 2 u_4 (z.on 0 rfl)) (wln (cn H (fun h6 H=>?_) (fun h6 H=>?_))))))))
 ·refine W.ret (thr ?_);obtain rfl:=si H;exact r0 (qq c0 ⟨v1,G,z,D,rfl,k⟩)
 refine W.skip (nrm (W.seq (W.seq (bn H fun o h7 H=>W.join (Jn c0 fun c l=>∃G_,Own c G_ ((Eb a 144 [v1,I b.at_,B b.bad]) :: F)∧l= [(0,Q a),(32,B o.1)]∧Rel c o.2 G_) ?_ ?_))))
 ·clear H;refine rD [] (Kp G0 [(Eb a 144 [v1,I b.at_,B b.bad])]) z ?_;intro U l8 A;have i:Kp G0 [(Eb a 144 [v1,I b.at_,B b.bad])] U:=(Kp.cons (A.on 0 rfl) Kp.nil0);refine ta 0 (Q a) (ta 1 (Q a) (ta 2 (Qo a 1) (tkx 3 i (fun f d h=>le1 1 u_3 (h.on 0 rfl)) (ta 4 (Q a) (ta 5 (Q a) (ta 6 (Q a) (tkx 7 i (fun f d h=>le1 0 dW (h.on 0 rfl)) (tx 8 (fun f d=>ln 3 dW k.m) (ta 9 (B (decide (b.at_≥(b.words.length:Int)))) ?_)))))))));rcases bo (decide (b.at_≥(b.words.length:Int))) with g | g
  ·obtain rfl:=ao (it g h7);exact AC.takeb 10 g rfl (by kernel_rfl) (by kernel_rfl) (fun f d=>(by kernel_rfl)) (tp 11 (tp 12 (tp 13 (tp 14 (tp 15 (tp 16 (tp 17 (tp 18 (tp 19 (tp 20 (tp 21 (tp 22 (tp 23 (ta 24 (B true) (dn (nrm (jn U ⟨G,A,rfl,D.m⟩)))))))))))))))))
  have e:=ie g h7;refine bn e fun E y e=>bn e fun p X e=>AC.takeb 10 g rfl (by kernel_rfl) (by kernel_rfl) (fun f d=>(by kernel_rfl)) (ta 11 (.func (.func 116) #[] #[Q b1_0]) (ta 12 (Q a) (ta 13 (Q a) (ta 14 (Q a) (tkx 15 i (fun f d h=>le1 0 dW (h.on 0 rfl)) (ta 16 (Q a) (ta 17 (Q a) (ta 18 (Qo a 1) (tkx 19 i (fun f d h=>le1 1 u_3 (h.on 0 rfl)) ?_)))))))));obtain ⟨j0,Z,d0⟩:=Sl.at (k.mono l8) (ba y);obtain rfl:=Z;refine tx 20 (fun f d=>ix dW k.m y) (tx 21 (fun f d=>l1 u_9 ((mm d0) 0 _ rfl)) (o1 22 (gc 22 (jx A D.m E p1_0_0 (mm m3) h5.m X) ?_)));rintro v23 x o0 ⟨M,s,R,rfl⟩;have e0:Kp G0 [(Eb a 144 [v1,I b.at_,B b.bad])] x:=(Kp.cons (s.on 0 rfl) Kp.nil0);refine ⟨.inr e0,ta 23 (B (!p.2)) ?_⟩;obtain rfl:=si e;exact ta 24 (B (!p.2)) (dn (nrm (jn x ⟨M,s,rfl,R⟩)))
 rintro e_ w_ ⟨l0,m0,_,rfl,q0,rfl,q,n,rfl,t⟩;refine nrm (cn H (fun a0 H=>?_) (fun a0 H=>?_))
 ·refine sr (vv (Q a) (va (Qo a 2) (md (sC 4 2 (B true) [v1,I b.at_,B true] 0 n ⟨rfl,trivial⟩) ?_)));rintro S s0 N;refine wln (W.ret (thr ?_));obtain rfl:=si H;exact r0 (qq S ⟨v1,q,N,t.m,rfl,k.m⟩)
 refine W.skip (nrm (W.region (vv (Q a) (va (Qo a 1) (vx (le1 1 u_3 (n.on 0 rfl)) (va (I (w64 (b.at_+1))) (va (Q a) (va (Qo a 1) (md (sC 3 1 (I (w64 (b.at_+1))) [v1,I (w64 (b.at_+1)),B b.bad] 0 n ⟨rfl,trivial⟩) ?_)))))))));rintro T t0 P;refine WL.nil ?_;obtain rfl:=si H;exact n0 (qq T ⟨v1,q,P,t.m,rfl,k.m⟩)
def iA (p0:ByteArray) (q0_0:ByteArray):Option (Bool):=
 some (eqS p0 q0_0)
theorem pH {b:Nat} (d:Own c0 G F) (a:ByteArray) (q0_0:ByteArray) {r:Bool} (e:∀j u,([.string q0_0]:List Value)[j]? = some u→Im c0 b (0+j) u) (H:iA a q0_0=some r): Calls prog 143 #[.string a,Q b] c0.w (aX c0 fun c v=>Own c G (F)∧v=B r):=by
 unfold iA at H;refine en func143 rfl rfl (sr (va (B false) (wln (sr (va (.string a) (vx (l1 u_9 (e 0 _ rfl)) (vr (B (eqS a q0_0)) (dP (by kernel_rfl)) (va (B (eqS a q0_0)) (wln (W.ret ?_))))))))));obtain rfl:=si H;exact r1 (qq c0 ⟨d,rfl⟩)
def av (p0:ab) (p1_0_0:ByteArray):Option (ab):=
 if p0.bad=true then
 some p0
 else
 (orE (decide (p0.at_≥(p0.words.length:Int))) ((idx p0.words p0.at_).bind fun b=>
 (iA b p1_0_0).bind fun c=>
 some (!c))).bind fun a=>
 if a=true then
 some (⟨p0.words,p0.at_,true⟩:ab)
 else
 some (⟨p0.words,(w64 (p0.at_+1)),p0.bad⟩:ab)
theorem bO {a:Nat} {b1_0:Nat} (b:ab) (p1_0_0:ByteArray) (t:Own c0 G ((Eb a 144 [v1,I b.at_,B b.bad]) :: F)) {r:ab} (h:Sl RS c0 v1 b.words) (m3:∀j u,([.string p1_0_0]:List Value)[j]? = some u→Im c0 b1_0 (0+j) u) (H:av b p1_0_0=some r): Calls prog 108 #[Q a,.func (.func 143) #[] #[Q b1_0]] c0.w (aX c0 fun c v=>∃Z,Own c G ((Eb a 144 [Z,I r.at_,B r.bad]) :: F)∧v= .tuple #[]∧Sl RS c Z r.words):=by
 unfold av at H;refine en func108 rfl rfl (W.seq (sr (vv (Q a) (va (Qo a 2) (vx (le1 2 u_4 (t.on 0 rfl)) (wln (cn H (fun h4 H=>?_) (fun h4 H=>?_))))))))
 ·refine W.ret (thr ?_);obtain rfl:=si H;exact r0 (qq c0 ⟨v1,t,rfl,h⟩)
 refine W.skip (nrm (W.seq (W.seq (bn H fun y T H=>W.join (Jn c0 fun c l=>Own c G ((Eb a 144 [v1,I b.at_,B b.bad]) :: F)∧l= [(0,Q a),(32,B y)]) ?_ ?_))))
 ·clear H;refine rD [] (Kp G0 [(Eb a 144 [v1,I b.at_,B b.bad])]) t ?_;intro N l6 x;have o:Kp G0 [(Eb a 144 [v1,I b.at_,B b.bad])] N:=(Kp.cons (x.on 0 rfl) Kp.nil0);refine ta 0 (Q a) (ta 1 (Q a) (ta 2 (Qo a 1) (tkx 3 o (fun f d g=>le1 1 u_3 (g.on 0 rfl)) (ta 4 (Q a) (ta 5 (Q a) (ta 6 (Q a) (tkx 7 o (fun f d g=>le1 0 dW (g.on 0 rfl)) (tx 8 (fun f d=>ln 3 dW h.m) (ta 9 (B (decide (b.at_≥(b.words.length:Int)))) ?_)))))))));rcases bo (decide (b.at_≥(b.words.length:Int))) with k | k
  ·obtain rfl:=orT k T;exact AC.takeb 10 k rfl (by kernel_rfl) (by kernel_rfl) (fun f d=>(by kernel_rfl)) (tp 11 (tp 12 (tp 13 (tp 14 (tp 15 (tp 16 (tp 17 (tp 18 (tp 19 (tp 20 (tp 21 (tp 22 (tp 23 (ta 24 (B true) (dn (nrm (jn N ⟨x,rfl⟩)))))))))))))))))
  have e:=orF k T;refine bn e fun z s e=>bn e fun n P e=>AC.takeb 10 k rfl (by kernel_rfl) (by kernel_rfl) (fun f d=>(by kernel_rfl)) (ta 11 (.func (.func 143) #[] #[Q b1_0]) (ta 12 (Q a) (ta 13 (Q a) (ta 14 (Q a) (tkx 15 o (fun f d g=>le1 0 dW (g.on 0 rfl)) (ta 16 (Q a) (ta 17 (Q a) (ta 18 (Qo a 1) (tkx 19 o (fun f d g=>le1 1 u_3 (g.on 0 rfl)) ?_)))))))));obtain ⟨d0,R,U⟩:=Sl.at (h.mono l6) (ba s);obtain rfl:=R;refine tx 20 (fun f d=>ix dW h.m s) (tx 21 (fun f d=>l1 u_9 ((mm U) 0 _ rfl)) (o1 22 (gc 22 (pH x z p1_0_0 (mm m3) P) ?_)));rintro v21 q h0 ⟨p,rfl⟩;have X:Kp G0 [(Eb a 144 [v1,I b.at_,B b.bad])] q:=(Kp.cons (p.on 0 rfl) Kp.nil0);refine ⟨.inr X,ta 23 (B (!n)) ?_⟩;obtain rfl:=si e;exact ta 24 (B (!n)) (dn (nrm (jn q ⟨p,rfl⟩)))
 rintro e_ w_ ⟨f0,g0,_,rfl,i0,rfl,i,rfl⟩;refine nrm (cn H (fun S H=>?_) (fun S H=>?_))
 ·refine sr (vv (Q a) (va (Qo a 2) (md (sC 4 2 (B true) [v1,I b.at_,B true] 0 i ⟨rfl,trivial⟩) ?_)));rintro E j0 A;refine wln (W.ret (thr ?_));obtain rfl:=si H;exact r0 (qq E ⟨v1,A,rfl,h.m⟩)
 refine W.skip (nrm (W.region (vv (Q a) (va (Qo a 1) (vx (le1 1 u_3 (i.on 0 rfl)) (va (I (w64 (b.at_+1))) (va (Q a) (va (Qo a 1) (md (sC 3 1 (I (w64 (b.at_+1))) [v1,I (w64 (b.at_+1)),B b.bad] 0 i ⟨rfl,trivial⟩) ?_)))))))));rintro M k0 D;refine WL.nil ?_;obtain rfl:=si H;exact n0 (qq M ⟨v1,D,rfl,h.m⟩)
def fQ (p0:ByteArray):Option (Unit):=
 some ()
theorem lC (e:Own c0 G F) (a:ByteArray) {r:Unit} (H:fQ a=some r): Calls prog 113 #[.string a] c0.w (aX c0 fun c v=>∃d:Nat,Own c G (F)∧v= .func (.func 143) #[] #[Q d]∧(∀j u,([.string a]:List Value)[j]? = some u→Im c d (0+j) u)):=by
 unfold fQ at H;refine en func113 rfl rfl (sr (me (bx 9 [.string a] e) ?_));rintro v5 g i ⟨b,rfl,f,h⟩;refine va (.nilFunc) (wln (sr (vv (.func (.func 143) #[] #[Q b]) (wln (W.ret ?_)))));obtain rfl:=si H;exact r1 (qq g ⟨b,f,rfl,h⟩)
def fy (p0:Nat) (p1:Int) (p2:Int):Option (Unit):=
 some ()
theorem lG {a:Nat} (p:Own c0 G F) (l:Nat) (d:Int) (e:Int) {r:Unit} (M:c0.t 0 l=some a) (H:fy l d e=some r): Calls prog 114 #[.pointer (some ⟨a,2,none⟩),I d,I e] c0.w (aX c0 fun c v=>∃m:Nat,∃n:Nat,∃o:Nat,Own c G (F)∧v= .func (.func 144) #[] #[Q m,Q n,Q o]∧(∀j u,([I e]:List Value)[j]? = some u→Im c m (0+j) u)∧(∀j u,([.pointer (some ⟨a,2,none⟩)]:List Value)[j]? = some u→Im c n (0+j) u)∧(∀j u,([I d]:List Value)[j]? = some u→Im c o (0+j) u)):=by
 unfold fy at H;refine en func114 rfl rfl (sr (me (bx 176 [.pointer (some ⟨a,2,none⟩)] p) ?_));rintro v6 E N ⟨f,rfl,q,x⟩;refine me (bx 3 [I d] q) ?_;rintro v11 z A ⟨g,rfl,s,y⟩;refine me (bx 3 [I e] s) ?_;rintro v16 i D ⟨b,rfl,h,k⟩;refine va (.nilFunc) (wln (sr (vv (.func (.func 144) #[] #[Q b,Q f,Q g]) (wln (W.ret ?_)))));obtain rfl:=si H;exact r1 (qq i ⟨b,f,g,h,rfl,k,(mm x),(mm y)⟩)
def fx (p0:Nat) (p1:Int) (p2:Int):Option (Unit):=
 some ()
theorem lF {a:Nat} (p:Own c0 G F) (l:Nat) (d:Int) (e:Int) {r:Unit} (M:c0.t 0 l=some a) (H:fx l d e=some r): Calls prog 114 #[.pointer (some ⟨a,3,none⟩),I d,I e] c0.w (aX c0 fun c v=>∃m:Nat,∃n:Nat,∃o:Nat,Own c G (F)∧v= .func (.func 144) #[] #[Q m,Q n,Q o]∧(∀j u,([I e]:List Value)[j]? = some u→Im c m (0+j) u)∧(∀j u,([.pointer (some ⟨a,3,none⟩)]:List Value)[j]? = some u→Im c n (0+j) u)∧(∀j u,([I d]:List Value)[j]? = some u→Im c o (0+j) u)):=by
 unfold fx at H;refine en func114 rfl rfl (sr (me (bx 176 [.pointer (some ⟨a,3,none⟩)] p) ?_));rintro v6 E N ⟨f,rfl,q,x⟩;refine me (bx 3 [I d] q) ?_;rintro v11 z A ⟨g,rfl,s,y⟩;refine me (bx 3 [I e] s) ?_;rintro v16 i D ⟨b,rfl,h,k⟩;refine va (.nilFunc) (wln (sr (vv (.func (.func 144) #[] #[Q b,Q f,Q g]) (wln (W.ret ?_)))));obtain rfl:=si H;exact r1 (qq i ⟨b,f,g,h,rfl,k,(mm x),(mm y)⟩)
def fw (p0:Nat) (p1:Int) (p2:Int):Option (Unit):=
 some ()
theorem lE {a:Nat} (p:Own c0 G F) (l:Nat) (d:Int) (e:Int) {r:Unit} (M:c0.t 0 l=some a) (H:fw l d e=some r): Calls prog 114 #[.pointer (some ⟨a,5,none⟩),I d,I e] c0.w (aX c0 fun c v=>∃m:Nat,∃n:Nat,∃o:Nat,Own c G (F)∧v= .func (.func 144) #[] #[Q m,Q n,Q o]∧(∀j u,([I e]:List Value)[j]? = some u→Im c m (0+j) u)∧(∀j u,([.pointer (some ⟨a,5,none⟩)]:List Value)[j]? = some u→Im c n (0+j) u)∧(∀j u,([I d]:List Value)[j]? = some u→Im c o (0+j) u)):=by
 unfold fw at H;refine en func114 rfl rfl (sr (me (bx 176 [.pointer (some ⟨a,5,none⟩)] p) ?_));rintro v6 E N ⟨f,rfl,q,x⟩;refine me (bx 3 [I d] q) ?_;rintro v11 z A ⟨g,rfl,s,y⟩;refine me (bx 3 [I e] s) ?_;rintro v16 i D ⟨b,rfl,h,k⟩;refine va (.nilFunc) (wln (sr (vv (.func (.func 144) #[] #[Q b,Q f,Q g]) (wln (W.ret ?_)))));obtain rfl:=si H;exact r1 (qq i ⟨b,f,g,h,rfl,k,(mm x),(mm y)⟩)
def fv (p0:Nat) (p1:Int) (p2:Int):Option (Unit):=
 some ()
theorem lD {a:Nat} (p:Own c0 G F) (l:Nat) (d:Int) (e:Int) {r:Unit} (M:c0.t 0 l=some a) (H:fv l d e=some r): Calls prog 114 #[.pointer (some ⟨a,6,none⟩),I d,I e] c0.w (aX c0 fun c v=>∃m:Nat,∃n:Nat,∃o:Nat,Own c G (F)∧v= .func (.func 144) #[] #[Q m,Q n,Q o]∧(∀j u,([I e]:List Value)[j]? = some u→Im c m (0+j) u)∧(∀j u,([.pointer (some ⟨a,6,none⟩)]:List Value)[j]? = some u→Im c n (0+j) u)∧(∀j u,([I d]:List Value)[j]? = some u→Im c o (0+j) u)):=by
 unfold fv at H;refine en func114 rfl rfl (sr (me (bx 176 [.pointer (some ⟨a,6,none⟩)] p) ?_));rintro v6 E N ⟨f,rfl,q,x⟩;refine me (bx 3 [I d] q) ?_;rintro v11 z A ⟨g,rfl,s,y⟩;refine me (bx 3 [I e] s) ?_;rintro v16 i D ⟨b,rfl,h,k⟩;refine va (.nilFunc) (wln (sr (vv (.func (.func 144) #[] #[Q b,Q f,Q g]) (wln (W.ret ?_)))));obtain rfl:=si H;exact r1 (qq i ⟨b,f,g,h,rfl,k,(mm x),(mm y)⟩)
def aE (sg:Sto) (p0:Option Nat) (p1:ab):Option (Sto×ab×Er):=
 ((p0).bind fun b=>
 (sg.snap_reader[b]?).bind fun h=>
 if (h.n==0)=true then
 (fQ (⟨#[115,99,114,101,101,110]⟩:ByteArray)).bind fun p=>
 (av p1 (⟨#[115,99,114,101,101,110]⟩:ByteArray)).bind fun k=>
 (fy b 1 1025).bind fun q=>
 (aV sg k 1025 b 1).bind fun j=>
 (fx b 1 1025).bind fun r=>
 (aU j.1 j.2 1025 b 1).bind fun d=>
 some (d.2.words,d.2.at_,d.2.bad,d.1)
 else
 if (h.n==1)=true then
 (fQ (⟨#[97,116]⟩:ByteArray)).bind fun s=>
 (av p1 (⟨#[97,116]⟩:ByteArray)).bind fun l=>
 (fw b 0 h.v.High).bind fun t=>
 (aT sg l h.v.High b 0).bind fun g=>
 (g.1.snap_reader[b]?).bind fun i=>
 (fv b 0 i.v.Wide).bind fun u=>
 (aS g.1 g.2 i.v.Wide b 0).bind fun a=>
 if (decide (a.2.at_ < (a.2.words.length:Int)))=true then
 (aO a.1 a.2 p0).bind fun e=>
 some (e.2.words,e.2.at_,e.2.bad,e.1)
 else
 some (a.2.words,a.2.at_,a.2.bad,a.1)
 else
 (fQ (⟨#[97,117,116,111]⟩:ByteArray)).bind fun w=>
 (av p1 (⟨#[97,117,116,111]⟩:ByteArray)).bind fun m=>
 (aN sg m p0).bind fun f=>
 some (f.2.words,f.2.at_,f.2.bad,f.1)).bind fun c=>
 (bg (⟨c.1,c.2.1,c.2.2.1⟩:ab)).bind fun o=>
 some (c.2.2.2,(⟨c.1,c.2.1,c.2.2.1⟩:ab),o)
theorem ge {b:Nat} (p0:Option Nat) (z:ab) (O0:Own c0 G ((Eb b 144 [v3,I z.at_,B z.bad]) :: F)) (R0:Rel c0 sg G) (hG:Gl [5] c0) (hT:Et c0) {r:Sto×ab×Er} (h2:Pt 0 c0 v1 p0) (D:Sl RS c0 v3 z.words) (H:aE sg p0 z=some r):
    Calls prog 87 #[v1,Q b] c0.w (aX c0 fun c v=>∃y1 y2,∃G_:Gm,Own c G_ ((Eb b 144 [y2,I r.2.1.at_,B r.2.1.bad]) :: F)∧Rel c r.1 G_∧v=y1∧RE 230 87 c y1 r.2.2∧Sl RS c y2 r.2.1.words):=by
 unfold aE at H
 refine en func87 rfl rfl (sr ?_)
 obtain ⟨a5,rfl⟩:=(h2).form
 refine me (bx 104 [.pointer a5] O0) ?_
 rintro v10 c9 l9 ⟨b6,rfl,O7,o⟩
 refine va (.nilIface) (wln (bn H fun i a E=>W.seqJ (Jn c9 fun c l=>∃v13 G_,Own c G_ ((Eb b 144 [v13,I i.2.1,B i.2.2.1]) :: F)∧l= [(1,Q b)]∧Rel c i.2.2.2 G_∧Sl RS c v13 i.1) ?_ ?_))
 ·refine sr (vx (l1 iY (o 0 _ rfl)) (bn a fun h f4 a=>?_))
  obtain ⟨d,g4,e⟩:=((h2.mono l9)).get f4
  cases g4
  refine va (Q d) (va (Qo d 1) (bn a fun j i4 a=>?_))
  obtain ⟨v19,b9,q0,x8⟩:=Rel.open_snap_reader (R0.mono l9) i4 e
  refine vx (le1 1 u_3 (O7.gon q0 0 rfl)) (wln (W.block (sr (vv (B (j.n==0)) (wln (cn a (fun j4 a=>?_) (fun j4 a=>?_)))))))
  ·refine sr (va (Q b) (bn a fun p7 k4 a=>cl (lC O7 (⟨#[115,99,114,101,101,110]⟩:ByteArray) k4) ?_))
   rintro v32 s8 t4 ⟨k8,u3,rfl,w4⟩
   obtain ⟨b8,c8,d8,rfl⟩:=((D.mono (l9.trans t4))).form
   refine bn a fun n3 l4 a=>cl (bO z (⟨#[115,99,114,101,101,110]⟩:ByteArray) u3 D.m w4 l4) ?_
   rintro v45 t8 y8 ⟨v38,w3,rfl,s0⟩
   refine wln (sr (va (Q b) (vx (l1 iY ((mm o) 0 _ rfl)) (va (Q d) (vv (Qo d 2) (bn a fun q7 m4 a=>cl (lG w3 h 1 1025 (tm e) m4) ?_))))))
   rintro v58 u8 u4 ⟨l8,n8,o8,x3,rfl,x4,y4,z4⟩
   obtain ⟨e8,f8,g8,rfl⟩:=((s0.mono u4)).form
   refine bn a fun o3 n4 a=>cl (dU n3 1025 h 1 x3 R0.m hT.m s0.m x4 y4 (tm e) z4 n4) ?_
   rintro e9 v8 z8 ⟨d9,a8,y3,b4,rfl,t0⟩
   refine wln (W.region (va (Q b) (vx (l1 iY ((mm o) 0 _ rfl)) (va (Q d) (va (Qo d 2) (va (Qo d 3) (bn a fun r7 o4 a=>cl (lF y3 h 1 1025 (tm e) o4) ?_)))))))
   rintro f9 w8 v4 ⟨p8,q8,r8,z3,rfl,b5,c5,d5⟩
   obtain ⟨h8,i8,j8,rfl⟩:=((t0.mono v4)).form
   refine bn a fun s7 p4 a=>cl (dT o3.2 1025 h 1 z3 b4.m hT.m t0.m b5 c5 (tm e) d5 p4) ?_
   rintro g9 e4 a9 ⟨e5,t3,a4,c4,rfl,q4⟩
   refine WL.nil (bkn (nrm ?_))
   obtain rfl:=si a
   exact jn e4 ⟨e5,t3,a4,rfl,c4,q4⟩
  refine sr (vv (B (j.n==1)) (wln (cn a (fun r4 a=>?_) (fun r4 a=>?_))))
  ·refine sr (va (Q b) (bn a fun t7 s4 a=>cl (lC O7 (⟨#[97,116]⟩:ByteArray) s4) ?_))
   rintro b7 k6 b0 ⟨c6,y0,rfl,z2⟩
   obtain ⟨i5,j5,k5,rfl⟩:=((D.mono (l9.trans b0))).form
   refine bn a fun p3 c2 a=>cl (bO z (⟨#[97,116]⟩:ByteArray) y0 D.m z2 c2) ?_
   rintro d7 l6 u2 ⟨c7,z0,rfl,X⟩
   refine wln (W.seq (rD [12] (Kp G []) z0 ?_))
   intro s1 d0 M
   have h3:Kp G [] s1:=(Kp.nil M)
   refine ta 0 (Q b) (tx 1 (fun p g=>l1 iY ((mm o) 0 _ rfl)) (ta 2 (Q d) (ta 3 (Qo d 2) (ta 4 (Qo d 5) (ta 5 (Qo d 5) (tx 6 (fun p g=>l1 iY ((mm o) 0 _ rfl)) (ta 7 (Q d) (ta 8 (Qo d 2) (ta 9 (Qo d 3) (tkx 10 h3 (fun p g x=>le1 3 u_3 (x.gon q0 0 rfl)) (bn a fun u7 d2 a=>o1 11 (gc 11 (lE M h 0 j.v.High (tm e) d2) ?_))))))))))))
   rintro e7 t1 e0 ⟨d6,e6,f6,N,rfl,a3,b3,c3⟩
   have i3:Kp G [] t1:=(Kp.nil N)
   refine ⟨.inr i3,?_⟩
   obtain ⟨l5,m5,n5,rfl⟩:=((X.mono (d0.trans e0))).form
   refine bn a fun q3 e2 a=>o1 12 (gc 12 (dS p3 j.v.High h 0 N R0.m hT.m X.m a3 b3 (tm e) c3 e2) ?_)
   rintro g7 m6 v2 ⟨f7,q,a1,S,rfl,Z⟩
   refine ⟨.inl rfl,dn (nrm (W.seq (rD [12] (Kp q []) a1 ?_)))⟩
   intro u1 y P
   have j3:Kp q [] u1:=(Kp.nil P)
   refine ta 0 (Q b) (tx 1 (fun p g=>l1 iY ((mm o) 0 _ rfl)) (ta 2 (Q d) (ta 3 (Qo d 2) (ta 4 (Qo d 5) (ta 5 (Qo d 6) (tx 6 (fun p g=>l1 iY ((mm o) 0 _ rfl)) (ta 7 (Q d) (ta 8 (Qo d 2) (ta 9 (Qo d 2) (bn a fun h0 f2 a=>?_))))))))))
   obtain ⟨h7,a7,g2,t6⟩:=Rel.open_snap_reader (S.mono y) f2 (tm e)
   refine tkx 10 j3 (fun p g x=>le1 2 u_3 (x.gon g2 0 rfl)) (bn a fun v7 i2 a=>o1 11 (gc 11 (lD P h 0 h0.v.Wide (tm e) i2) ?_))
   rintro i7 w1 f0 ⟨g6,h6,i6,R,rfl,d3,e3,f3⟩
   have k3:Kp q [] w1:=(Kp.nil R)
   refine ⟨.inr k3,?_⟩
   obtain ⟨o5,p5,q5,rfl⟩:=((Z.mono (y.trans f0))).form
   refine bn a fun f j2 a=>o1 12 (gc 12 (dR q3.2 h0.v.Wide h 0 R S.m hT.m Z.m d3 e3 ((b0.trans (u2.trans (d0.trans (e0.trans (v2.trans (y.trans f0)))))).t _ _ _ e) f3 j2) ?_)
   rintro j7 n6 u6 ⟨A,u0,b1,T,rfl,k⟩
   refine ⟨.inl rfl,dn (nrm (W.seq (rD [] (Kp G0 [(Eb b 144 [A,I f.2.at_,B f.2.bad])]) b1 ?_)))⟩
   intro U w2 s
   have i0:Kp G0 [(Eb b 144 [A,I f.2.at_,B f.2.bad])] U:=(Kp.cons (s.on 0 rfl) Kp.nil0)
   refine ta 0 (Q b) (ta 1 (Q b) (ta 2 (Qo b 1) (tkx 3 i0 (fun p g x=>le1 1 u_3 (x.on 0 rfl)) (ta 4 (Q b) (ta 5 (Q b) (ta 6 (Q b) (tkx 7 i0 (fun p g x=>le1 0 dW (x.on 0 rfl)) (tx 8 (fun p g=>ln 3 dW k.m) (ta 9 (B (decide (f.2.at_ < (f.2.words.length:Int)))) (dn (nrm (cn a (fun k2 a=>?_) (fun k2 a=>?_)))))))))))))
   ·refine W.region (va (Q b) (va (.func (.func 115) #[] #[Q b6]) ?_))
    obtain ⟨r5,s5,t5,rfl⟩:=((k.mono w2)).form
    refine bn a fun w7 l2 a=>cl (dH f.2 p0 s T.m k.m (mm o) h2.m l2) ?_
    rintro k7 x1 v6 ⟨l3,v0,c1,i1,rfl,m2⟩
    refine WL.nil (bkn (nrm ?_))
    obtain rfl:=si a
    exact jn x1 ⟨l3,v0,c1,rfl,i1,m2⟩
   refine W.skip (bkn (nrm ?_))
   obtain rfl:=si a
   exact jn U ⟨A,u0,s,rfl,T.m,k.m⟩
  refine sr (va (Q b) (bn a fun x7 n2 a=>cl (lC O7 (⟨#[97,117,116,111]⟩:ByteArray) n2) ?_))
  rintro l7 o6 x2 ⟨j6,d1,rfl,g3⟩
  obtain ⟨u5,v5,w5,rfl⟩:=((D.mono (l9.trans x2))).form
  refine bn a fun s3 o2 a=>cl (bO z (⟨#[97,117,116,111]⟩:ByteArray) d1 D.m g3 o2) ?_
  rintro n7 p6 w6 ⟨m7,e1,rfl,a0⟩
  refine wln (W.region (va (Q b) (va (.func (.func 116) #[] #[Q b6]) ?_)))
  obtain ⟨x5,y5,z5,rfl⟩:=(a0).form
  refine bn a fun y7 p2 a=>cl (dG s3 p0 e1 R0.m a0 (mm o) h2.m p2) ?_
  rintro o7 z1 x6 ⟨m3,w0,f1,j1,rfl,q2⟩
  refine WL.nil (bkn (nrm ?_))
  obtain rfl:=si a
  exact jn z1 ⟨m3,w0,f1,rfl,j1,q2⟩
 rintro e_ w_ ⟨q6,s6,_,rfl,y6,rfl,v13,x0,g1,rfl,k1,u⟩
 refine sr (va (Q b) ?_)
 obtain ⟨m1,n1,q1,rfl⟩:=(u).form
 refine bn E fun z7 s2 E=>cl (eB (⟨i.1,i.2.1,i.2.2.1⟩:ab) g1 (hG.m.le (by decide)) u s2) ?_
 rintro j0 b2 z6 ⟨_,h1,rfl,t2⟩
 refine va (j0) (wln (W.ret ?_))
 obtain rfl:=si E
 exact r1 (qq b2 ⟨j0,(.slice m1 n1 q1),x0,h1,k1.m,rfl,t2,u.m⟩)
def ee (sg:Sto) (p0:Option Nat):Option (Sto×Er):=
 (ed (σ:=Sto) (τ:=(Sto×Er) ⊕ Sto) (2000) (fun k=>
 (p0).bind fun t=>
 (k.snap_reader[t]?).bind fun i=>
 (orE (decide (i.n < 3)) (some (decide (i.n < (w64 (3+i.v.High)))))).bind fun s=>
 if s=true then
 (cE k p0).bind fun b=>
 if (!b.2.2)=true then
 (p0).bind fun l=>
 (b.1.snap_reader[l]?).bind fun o=>
 (cT o.n (Er.sent 6)).bind fun q=>
 some (.inr (.inl (b.1,q)))
 else
 (p0).bind fun c=>
 (b.1.snap_reader[c]?).bind fun p=>
 if (decide (p.n < 3))=true then
 (aE b.1 p0 (⟨b.2.1,0,false⟩:ab)).bind fun a=>
 if (!a.2.2.isNil)=true then
 (a.1.snap_reader[c]?).bind fun g=>
 (cT g.n a.2.2).bind fun h=>
 some (.inr (.inl (a.1,h)))
 else
 (a.1.snap_reader[c]?).bind fun d=>
 (a.1.set_snap_reader c (⟨d.rest,(w64 (d.n+1)),d.v⟩:am)).bind fun e=>
 some (.inl (e))
 else
 (aZ b.1 p0 (⟨b.2.1,0,false⟩:ab)).bind fun a=>
 if (!a.2.2.isNil)=true then
 (a.1.snap_reader[c]?).bind fun g=>
 (cT g.n a.2.2).bind fun h=>
 some (.inr (.inl (a.1,h)))
 else
 (a.1.snap_reader[c]?).bind fun d=>
 (a.1.set_snap_reader c (⟨d.rest,(w64 (d.n+1)),d.v⟩:am)).bind fun e=>
 some (.inl (e))
 else
 some (.inr (.inr (k)))) (sg)).bind fun f=>
 match f with
 | .inl f=>
 some f
 | .inr f=>
 (p0).bind fun m=>
 (f.snap_reader[m]?).bind fun j=>
 if (!(eqS j.rest (⟨#[]⟩:ByteArray)))=true then
 (cT j.n (Er.sent 6)).bind fun r=>
 some (f,r)
 else
 some (f,Er.nil)
theorem kZ (O0:Own c0 G F) (R0:Rel c0 sg G) (hG:Gl [4,5,6] c0) (hT:Et c0) (p0:Option Nat) {r:Sto×Er} (R:Pt 0 c0 v1 p0) (H:ee sg p0=some r): Calls prog 61 #[v1] c0.w (aX c0 fun c v=>∃y1,∃G_:Gm,Own c G_ (F)∧Rel c r.1 G_∧v=y1∧RE 230 87 c y1 r.2):=by
 unfold ee at H;refine en func61 rfl rfl (sr (va (.nilIface) (wln (W.seq (W.block (bn H fun c1 h3 g=>lp h3 (fun i2=>Jn c0 fun c l=>∃G_,Own c G_ (F)∧l= [(0,v1)]∧Rel c i2 G_) (fun t=>match t with | .inl x_=>(fun g2 ex e w=>ex= .ret∧(Jn c0 fun c l=>∃v5 G_,Own c G_ (F)∧l= [(2,v5)]∧Rel c g2.1 G_∧RE 230 87 c v5 g2.2) e w) x_ | .inr x_=>(fun l4 ex e w=>ex= .exit 0∧(Jn c0 fun c l=>∃G_,Own c G_ (F)∧l= [(0,v1)]∧Rel c l4 G_) e w) x_) ?_ ?_ ?_))))))
 ·clear g h3;intro i2 h8 y4 y5 H;revert y4 y5;rintro e_ w_ ⟨c6,g7,_,rfl,l6,rfl,G9,O8,rfl,h0⟩;refine W.seq (W.seq (bn H fun v7 a5 H=>bn H fun q b5 H=>bn H fun x4 c2 H=>W.join (Jn c6 fun c l=>Own c G9 (F)∧l= [(0,v1),(24,B x4)]) ?_ ?_))
  ·clear H;refine rD [] (Kp G9 []) O8 ?_;intro l0 f2 e0;have f1:Kp G9 [] l0:=(Kp.nil e0);refine ta 0 (v1) ?_;obtain ⟨f,rfl,c5⟩:=((R.mono (l6.trans f2))).get a5;refine ta 1 (Q f) (ta 2 (Qo f 1) ?_);obtain ⟨v20,z7,v0,q7⟩:=Rel.open_snap_reader (h0.mono f2) b5 c5;refine tkx 3 f1 (fun E h y=>le1 1 u_3 (y.gon v0 0 rfl)) (ta 4 (B (decide (q.n < 3))) ?_);rcases bo (decide (q.n < 3)) with M | M
   ·obtain rfl:=orT M c2;exact AC.takeb 5 M rfl (by kernel_rfl) (by kernel_rfl) (fun E h=>(by kernel_rfl)) (tp 6 (tp 7 (tp 8 (tp 9 (tp 10 (tp 11 (tp 12 (tp 13 (tp 14 (tp 15 (tp 16 (ta 17 (B true) (dn (nrm (jn l0 ⟨e0,rfl⟩)))))))))))))))
   have t4:=orF M c2;refine AC.takeb 5 M rfl (by kernel_rfl) (by kernel_rfl) (fun E h=>(by kernel_rfl)) (ta 6 (Q f) (ta 7 (Q f) (ta 8 (Qo f 1) (tkx 9 f1 (fun E h y=>le1 1 u_3 (y.gon v0 0 rfl)) (ta 10 (Q f) (ta 11 (Q f) (ta 12 (Qo f 2) (ta 13 (Qo f 3) (tkx 14 f1 (fun E h y=>le1 3 u_3 (y.gon v0 0 rfl)) (ta 15 (I (w64 (3+q.v.High))) (ta 16 (B (decide (q.n < (w64 (3+q.v.High))))) ?_)))))))))));obtain rfl:=si t4;exact ta 17 (B (decide (q.n < (w64 (3+q.v.High))))) (dn (nrm (jn l0 ⟨e0,rfl⟩)))
  rintro e_ w_ ⟨v4,p7,_,rfl,z0,rfl,q1,rfl⟩;refine nrm (cn H (fun e5 H=>?_) (fun e5 H=>?_))
  ·refine W.skip (nrm (W.block (sr (va (v1) (bn H fun d f5 H=>cl (kx q1 h0.m hT.m p0 R.m f5) ?_)))));rintro v41 m7 a1 ⟨v34,U,X,D,rfl,b0⟩;refine va (.tuple #[v34,B d.2.2]) (va (v34) (va (B d.2.2) (va (v34) (va (B d.2.2) (wln (W.seq (sr (va (B d.2.2) (va (B (!d.2.2)) (wln (cn H (fun g5 H=>?_) (fun g5 H=>?_))))))))))))
   ·refine W.seq (rD [] (Kp U []) X ?_);intro w4 b1 s1;have w5:Kp U [] w4:=(Kp.nil s1);refine ta 0 (v1) (bn H fun s6 i5 H=>?_);obtain ⟨z1,rfl,h5⟩:=((R.mono (l6.trans (z0.trans (a1.trans b1))))).get i5;refine ta 1 (Q z1) (ta 2 (Qo z1 1) (bn H fun k4 j5 H=>?_));obtain ⟨v50,a8,k5,r7⟩:=Rel.open_snap_reader (D.mono b1) j5 h5;refine tkx 3 w5 (fun E h y=>le1 1 u_3 (y.gon k5 0 rfl)) ?_;obtain ⟨v54,d2⟩:=(hG.mono (l6.trans (z0.trans (a1.trans b1)))).get 6 (by decide);refine tx 4 (fun E h=>l1 jV d2.m.im) (bn H fun j7 l5 H=>o1 5 (gc 5 (fS s1 k4.n (Er.sent 6) d2 l5) ?_));rintro v57 b2 w7 ⟨_,t1,rfl,m5⟩;have x5:Kp U [] b2:=(Kp.nil t1);refine ⟨.inr x5,ta 6 (v57) (dn (nrm (W.ret (thr (bkr ?_)))))⟩;obtain rfl:=si H;exact ⟨_,rfl,⟨rfl,jn b2 ⟨v57,U,t1,rfl,D.m,m5⟩⟩⟩
   refine W.skip (nrm (sr (va (v1) (vv (.func (.func 86) #[v1] #[]) (wln (W.seq (sr (va (v1) (bn H fun t6 n5 H=>?_)))))))));obtain ⟨b,rfl,p⟩:=((R.mono (l6.trans (z0.trans a1)))).get n5;refine va (Q b) (va (Qo b 1) (bn H fun m4 o5 H=>?_));obtain ⟨d8,b8,p5,s7⟩:=Rel.open_snap_reader D o5 p;refine vx (le1 1 u_3 (X.gon p5 0 rfl)) (va (B (decide (m4.n < 3))) (wln (cn H (fun q5 H=>?_) (fun q5 H=>?_))))
   ·refine W.region (va (Q b) (vv (.func (.func 87) #[Q b] #[]) (wln (W.seq (sr (va (.func (.func 87) #[Q b] #[]) (va (v34) ?_)))))));obtain ⟨u1,w1,x1,rfl⟩:=(b0).form;refine va (.agg #[.slice u1 w1 x1,I 0,B false]) (me (al 144 [.slice u1 w1 x1,I 0,B false] X) ?_);rintro e8 n7 x7 ⟨l7,rfl,u4⟩;refine bn H fun s r5 H=>cl (ge p0 (⟨d.2.1,0,false⟩:ab) u4 D.m (hG.m.le (by decide)) hT.m R.m b0.m r5) ?_;rintro m1 o7 y7 ⟨_,f8,s4,Z,a0,rfl,e2,t7⟩;refine va (m1) (wln (sr (va (m1) (vr (B (!s.2.2.isNil)) (by rcases (e2).cs with ⟨k,o⟩ | ⟨b_,k,o⟩ | ⟨b_,k,o⟩ <;> (subst k; rw [o]; kernel_rfl)) (wln (cn H (fun s5 H=>?_) (fun s5 H=>?_)))))))
    ·refine sr (vv (Q b) (va (Qo b 1) (bn H fun S t5 H=>?_)));obtain ⟨g8,c8,u5,u7⟩:=Rel.open_snap_reader a0 t5 (tm p);refine vx (le1 1 u_3 (Z.gon u5 0 rfl)) (va (m1) (bn H fun r4 n3 H=>cl (fS Z S.n s.2.2 e2 n3) ?_));rintro i1 e3 v6 ⟨_,n2,rfl,o3⟩;refine va (i1) (wln (W.ret (thr (bkr ?_))));obtain rfl:=si H;refine ⟨_,rfl,⟨rfl,?_⟩⟩;have o2:=n2.sD 1 [];exact jn e3 ⟨i1,s4,o2,rfl,a0.m,o3⟩
    refine W.skip (nrm (W.region (vv (Q b) (va (Qo b 1) (bn H fun a p3 H=>?_)))));obtain ⟨z,g1,o0,q3⟩:=Rel.open_snap_reader a0 p3 (tm p);refine vx (le1 1 u_3 (Z.gon o0 0 rfl)) (va (I (w64 (a.n+1))) (va (Q b) (va (Qo b 1) (md (gC 3 1 (I (w64 (a.n+1))) [.string a.rest,I (w64 (a.n+1)),I a.v.Wide,I a.v.High,z,I a.v.At.Row,I a.v.At.Col,B a.v.At.Pending,B a.v.Auto] 0 Z o0 ⟨rfl,trivial⟩) ?_))));rintro f3 w0 p2;refine bn H fun d0 s3 H=>?_;obtain ⟨j2,q2,a3,n6,e6⟩:=Rel.put_snap_reader p2 (a0.mono w0) (E':=[(Eb b 106 [.string a.rest,I (w64 (a.n+1)),I a.v.Wide,I a.v.High,z,I a.v.At.Row,I a.v.At.Col,B a.v.At.Pending,B a.v.Auto]),es false aJ z 97 g1 a.v.Lines]) s3 ⟨b,z,g1,(tm p),rfl,(q3.mono w0)⟩;refine WL.nil (bkn ?_);obtain rfl:=si H;refine ⟨_,rfl,?_⟩;have s2:=q2.sD 1 [];exact jn f3 ⟨j2,s2,rfl,a3⟩
   refine W.skip (nrm (W.seq (sr (va (.func (.func 86) #[Q b] #[]) (va (v34) ?_)))));obtain ⟨i0,j0,k0,rfl⟩:=(b0).form;refine va (.agg #[.slice i0 j0 k0,I 0,B false]) (me (al 144 [.slice i0 j0 k0,I 0,B false] X) ?_);rintro d7 h6 w6 ⟨g6,rfl,t2⟩;refine bn H fun s t3 H=>cl (fW p0 (⟨d.2.1,0,false⟩:ab) t2 D.m (hG.m.le (by decide)) hT.m R.m b0.m t3) ?_;rintro T i6 x6 ⟨_,e7,k2,u,x,rfl,q0,o6⟩;refine va (T) (wln (sr (va (T) (vr (B (!s.2.2.isNil)) (by rcases (q0).cs with ⟨k,o⟩ | ⟨b_,k,o⟩ | ⟨b_,k,o⟩ <;> (subst k; rw [o]; kernel_rfl)) (wln (cn H (fun u3 H=>?_) (fun u3 H=>?_)))))))
   ·refine sr (vv (Q b) (va (Qo b 1) (bn H fun S v3 H=>?_)));obtain ⟨f7,b7,w3,p6⟩:=Rel.open_snap_reader x v3 (tm p);refine vx (le1 1 u_3 (u.gon w3 0 rfl)) (va (T) (bn H fun r4 x3 H=>cl (fS u S.n s.2.2 q0 x3) ?_));rintro j1 g3 y6 ⟨_,u2,rfl,y3⟩;refine va (j1) (wln (W.ret (thr (bkr ?_))));obtain rfl:=si H;refine ⟨_,rfl,⟨rfl,?_⟩⟩;have v2:=u2.sD 1 [];exact jn g3 ⟨j1,k2,v2,rfl,x.m,y3⟩
   refine W.skip (nrm (W.region (vv (Q b) (va (Qo b 1) (bn H fun a z3 H=>?_)))));obtain ⟨A,h1,s0,a4⟩:=Rel.open_snap_reader x z3 (tm p);refine vx (le1 1 u_3 (u.gon s0 0 rfl)) (va (I (w64 (a.n+1))) (va (Q b) (va (Qo b 1) (md (gC 3 1 (I (w64 (a.n+1))) [.string a.rest,I (w64 (a.n+1)),I a.v.Wide,I a.v.High,A,I a.v.At.Row,I a.v.At.Col,B a.v.At.Pending,B a.v.Auto] 0 u s0 ⟨rfl,trivial⟩) ?_))));rintro i3 x0 w2;refine bn H fun d0 b4 H=>?_;obtain ⟨l2,x2,b3,q6,f6⟩:=Rel.put_snap_reader w2 (x.mono x0) (E':=[(Eb b 106 [.string a.rest,I (w64 (a.n+1)),I a.v.Wide,I a.v.High,A,I a.v.At.Row,I a.v.At.Col,B a.v.At.Pending,B a.v.Auto]),es false aJ A 97 h1 a.v.Lines]) b4 ⟨b,A,h1,(tm p),rfl,(a4.mono x0)⟩;refine WL.nil (bkn ?_);obtain rfl:=si H;refine ⟨_,rfl,?_⟩;have y2:=x2.sD 1 [];exact jn i3 ⟨l2,y2,rfl,b3⟩
  refine W.exit (thx ?_);obtain rfl:=si H;exact ⟨_,rfl,rfl,jn v4 ⟨G9,q1,rfl,h0.m⟩⟩
 ·exact jn c0 ⟨G,O0,rfl,R0⟩
 rcases c1 with c1 | c1
 ·intro z4; revert z4;rintro _ e_ w_ ⟨rfl,j3,k6,_,rfl,z6,rfl,v5,m2,z2,rfl,c3,c4⟩;refine bkr (thr ?_);obtain rfl:=si g;exact r1 (qq j3 ⟨v5,m2,z2,c3,rfl,c4⟩)
 rintro _ e_ w_ ⟨rfl,k3,m6,_,rfl,y0,rfl,i,N,rfl,P⟩;refine bke (nrm (W.seq (sr (va (v1) (bn g fun u6 e4 g=>?_)))));obtain ⟨j,rfl,d4⟩:=((R.mono y0)).get e4;refine vv (Q j) (bn g fun d1 f4 g=>?_);obtain ⟨h7,c7,t0,r6⟩:=Rel.open_snap_reader P f4 d4;refine vx (le1 0 u_9 (N.gon t0 0 rfl)) (vr (B (!(eqS d1.rest (⟨#[]⟩:ByteArray)))) (kJ (by kernel_rfl)) (wln (cn g (fun g4 g=>?_) (fun g4 g=>?_))))
 ·refine W.seq (rD [] (Kp i []) N ?_);intro l3 j4 f0;have n4:Kp i [] l3:=(Kp.nil f0);refine ta 0 (Q j) (ta 1 (Q j) (ta 2 (Qo j 1) (tkx 3 n4 (fun E h y=>le1 1 u_3 (y.gon t0 0 rfl)) ?_)));obtain ⟨i7,u0⟩:=(hG.mono (y0.trans j4)).get 6 (by decide);refine tx 4 (fun E h=>l1 jV u0.m.im) (bn g fun k7 h4 g=>o1 5 (gc 5 (fS f0 d1.n (Er.sent 6) u0 h4) ?_));rintro k1 m0 a7 ⟨_,g0,rfl,i4⟩;have o4:Kp i [] m0:=(Kp.nil g0);refine ⟨.inr o4,ta 6 (k1) (dn (nrm (W.ret (thr ?_))))⟩;obtain rfl:=si g;exact r1 (qq m0 ⟨k1,i,g0,P.m,rfl,i4⟩)
 refine W.skip (nrm (sr (va (.nilIface) (wln (W.ret ?_)))));obtain rfl:=si g;exact r1 (qq k3 ⟨.nilIface,i,N,P,rfl,rfl⟩)
end Go.Proofs.YtmncdniojmigeaaGreatDoor
namespace Go.Proofs.YtmncdniojmigeaaGreatDoor
open Go Go.Lt
set_option maxRecDepth 10000
set_option linter.unusedVariables false
attribute [local irreducible] W WL AC
open Go.RowKit Go.Extern.Stop Go.Stop Go.Extern
def pA (gl:List Nat):Er→Bool
 | .nil=>true
 | .sent g=>gl.contains g
 | .fault _ e=>pA gl e
def kY (k:Nat):Er→Bool
 | .nil=>false
 | .sent g=>g==k
 | .fault _ e=>kY k e
def iS:Er→Nat
 | .nil=>0
 | .sent _=>0
 | .fault _ e=>iS e+1
def gM (gl:List Nat) (p0 p1:Er):Option Bool:=match p1 with
 | .sent k=>if gl.contains k=true∧pA gl p0=true then some (kY k p0) else none
 | _=>none
def eh (p0 p1:Er):Option Bool:=gM [0,1,2,3,4,5,6,7] p0 p1
def kX (p0 p1:Er):Option Bool:=gM [0,1,4,5,6] p0 p1
theorem rB (v:Value) (w:World):(Extern.ReflectliteType.typeOf #[.iface 230 v]).run Tryz.prog w= .ok (.iface 154 (.agg #[.pointer (some ⟨17,230,none⟩)])) w:=by kernel_rfl
theorem nG (w:World):((Extern.ReflectliteType.method fun t=>do Extern.Rtype.noPackHeld "Comparable" t; pure (.bool (←typeInfo t).comparable)) #[.agg #[.pointer (some ⟨17,230,none⟩)]]).run Tryz.prog w= .ok (.bool true) w:=by kernel_rfl
theorem jW (v:Value) (w:World):(Go.method 360 154 v "Comparable").run Tryz.prog w= .ok (199,v) w:=by kernel_rfl
theorem ug:(Tryz.prog.info? 230).map (·.comparable)=some true:=by kernel_rfl
theorem uf:(Tryz.prog.info? 232).map (·.size)=some 1:=by kernel_rfl
theorem sI (v:Value) (xT:TypeId) (w:World):(Instr.typeAssert (.iface 230 v) xT 156 true).run Tryz.prog w= .ok (.tuple #[.nilIface,.bool false]) w:=run_typeAssert_lacksB Tryz.underlying156 (by kernel_rfl) (by kernel_rfl) v xT w
theorem oK (v:Value) (xT:TypeId) (w:World):(Instr.typeAssert (.iface 230 v) xT 159 true).run Tryz.prog w= .ok (.tuple #[.nilIface,.bool false]) w:=run_typeAssert_lacksB Tryz.underlying159 (by kernel_rfl) (by kernel_rfl) v xT w
theorem nD (v:Value) (xT:TypeId) (w:World):(Instr.typeAssert (.iface 230 v) xT 160 true).run Tryz.prog w= .ok (.tuple #[.nilIface,.bool false]) w:=run_typeAssert_lacksB Tryz.underlying160 (by kernel_rfl) (by kernel_rfl) v xT w
theorem sG (v:Value) (xT:TypeId) (w:World):(Instr.typeAssert (.iface 87 v) xT 156 true).run Tryz.prog w= .ok (.tuple #[.nilIface,.bool false]) w:=run_typeAssert_lacksB Tryz.underlying156 (by kernel_rfl) (by kernel_rfl) v xT w
theorem nF (v:Value) (xT:TypeId) (w:World):(Instr.typeAssert (.iface 87 v) xT 159 true).run Tryz.prog w= .ok (.tuple #[.iface 87 v,.bool true]) w:=run_typeAssert_hasB Tryz.underlying159 (by kernel_rfl) v xT w
theorem lX (v:Value) (w:World):(Go.method 360 87 v "Unwrap").run Tryz.prog w= .ok (193,v) w:=by kernel_rfl
open Classical in
noncomputable def mS (c:Cx) (E:Value):Nat:=if h:∃p,RE 230 87 c E p then iS h.choose else 0
theorem mQ {c:Cx}:∀{p p':Er} {E:Value},RE 230 87 c E p→RE 230 87 c E p'→iS p=iS p'
 | .nil,.nil,_,_,_=>rfl
 | .nil,.sent _,_,h,h'=>rfl
 | .nil,.fault _ _,_,h,h'=>by
  obtain rfl:=h;obtain ⟨b,u,e,_⟩:=h';cases e
 | .sent _,.nil,_,_,_=>rfl
 | .sent _,.sent _,_,_,_=>rfl
 | .sent _,.fault _ _,_,h,h'=>by
  obtain ⟨a,rfl,_⟩:=h;obtain ⟨b,u,e,_⟩:=h';cases e
 | .fault _ _,.nil,_,h,h'=>by
  obtain rfl:=h';obtain ⟨b,u,e,_⟩:=h;cases e
 | .fault _ _,.sent _,_,h,h'=>by
  obtain ⟨a,rfl,_⟩:=h';obtain ⟨b,u,e,_⟩:=h;cases e
 | .fault _ p,.fault _ p',_,h,h'=>by
  obtain ⟨b,u,rfl,_,h1,h2⟩:=h;obtain ⟨b',u',e,_,h1',h2'⟩:=h';cases e;have:=h1.cell.symm.trans h1'.cell;cases this;show iS p+1=iS p'+1;rw [mQ h2 h2']
theorem nU {c:Cx} {E:Value} {p:Er} (h:RE 230 87 c E p):mS c E=iS p:=by
 unfold mS;rw [rJ ⟨p,h⟩];exact mQ (Exists.choose_spec ⟨p,h⟩) h
set_option maxRecDepth 1000000 in
theorem pp {c:Cx} {gl:List Nat} (hG:Gl gl c) (b:Addr) (k:Nat) (hk:k∈gl) (h2:RE 230 87 c (.iface 230 (.pointer (some b))) (.sent k)) (E:Value) (p0:Er) (h1:RE 230 87 c E p0) (hn:p0.isNil=false) (ha:pA gl p0=true):
  Calls Tryz.prog 74 #[E,.iface 230 (.pointer (some b)),.bool true] c.w fun e w'=>e= .returned (.bool (kY k p0))∧w'=c.w:=by
 obtain ⟨i,hi,hcmp⟩:=Option.map_eq_some_iff.1 ug;obtain ⟨j,hj,hjs⟩:=Option.map_eq_some_iff.1 uf;have nE:=sI;have uE:=oK;have vE:=nD;have nW:=sG;have uW:=nF;have mU:=lX;obtain ⟨b',eb,hkm,hkf⟩:=h2;cases eb;obtain ⟨W,hW⟩:∃W,Hid (W=c.w):=⟨_,rfl⟩;rw [←hW.out]
 go_enter Tryz.func74,Tryz.ntmps74
 go_wp2
 go_loopw [0] (fun E' wl=>wl=W∧∃p,RE 230 87 c E' p∧p.isNil=false∧pA gl p=true∧kY k p0=kY k p) (fun E' _=>mS c E')
 case atStart=>exact ⟨rfl,p0,h1,hn,ha,rfl⟩
 case round=>
  obtain ⟨rfl,p,hp,hpn,hpa,hiff⟩:=hrel
  cases p with
  | nil=>cases hpn
  | sent g=>
   obtain ⟨a,rfl,hgm,hgf⟩:=hp;by_cases hab:a=b
   ·subst hab;have hgk:g=k:=Classical.byContradiction fun hne=>hG.2 g k (List.contains_iff_mem.1 hpa) hk hne a hgm hkm;have heq:=run_eql_iface_ptr_same (P:=Tryz.prog) wr a Tryz.underlying31 Tryz.underlying230 hi hcmp hj
    go_wp2
    go_ret
    exact ⟨by rw [hiff]; simp [kY,hgk],rfl⟩
   ·obtain ⟨ca,ta,hca⟩:=hgf.blk;obtain ⟨cb,tb,hcb⟩:=hkf.blk;rw [←hW.out] at hca hcb;have hgk:¬g=k:=fun e=>by
     subst e;have:=hgm.cell.symm.trans hkm.cell;cases this;exact hab rfl
    have heq:=run_eql_iface_ptr_other (P:=Tryz.prog) wr Tryz.underlying31 Tryz.underlying230 hi hcmp hj (by rw [hjs]; decide) hab hca hcb
    go_wp2
    go_ret
    exact ⟨by rw [hiff]; simp [kY,hgk],rfl⟩
  | fault n e1=>
   obtain ⟨fb,u,rfl,hi0,hi1,hre⟩:=hp;have hcell:=hi1.cell;rw [←hW.out] at hcell;have hty:=run_eql_iface_types (P:=Tryz.prog) 87 230 (.pointer (some ⟨fb,0,none⟩)) (.pointer (some b)) Tryz.underlying31 (by decide) wr;have hlen:=nU hre;have hlen0:=nU (c:=c) (E:= .iface 87 (.pointer (some ⟨fb,0,none⟩))) (p:= .fault n e1) ⟨fb,u,rfl,hi0,hi1,hre⟩;have HC:Hid (RE 230 87 c u e1):=hre
   cases e1 with
   | nil=>
    obtain rfl:=hre
    go_wp2
    go_ret
    exact ⟨by rw [hiff]; simp [kY],rfl⟩
   | sent g=>
    obtain ⟨a,rfl,_⟩:=hre
    go_wp2
    go_roundw
    case rel=>exact ⟨trivial,_,HC.out,rfl,hpa,hiff⟩
    case measure=>
     show mS c (.iface 230 (.pointer (some a))) < _;rw [hlen,hlen0]; simp [iS]
   | fault n2 e2=>
    obtain ⟨fb2,u2,rfl,_⟩:=hre
    go_wp2
    go_roundw
    case rel=>exact ⟨trivial,_,HC.out,rfl,hpa,hiff⟩
    case measure=>
     show mS c (.iface 87 (.pointer (some ⟨fb2,0,none⟩))) < _;rw [hlen,hlen0]; simp [iS]
set_option maxRecDepth 1000000 in
theorem wc {c:Cx} {gl:List Nat} (hG:Gl gl c) (b:Addr) (k:Nat) (hk:k∈gl) (h2:RE 230 87 c (.iface 230 (.pointer (some b))) (.sent k)) (E:Value) (p0:Er) (h1:RE 230 87 c E p0) (ha:pA gl p0=true):
  Calls Tryz.prog 52 #[E,.iface 230 (.pointer (some b))] c.w fun e w'=>e= .returned (.bool (kY k p0))∧w'=c.w:=by
 have h8:= @aD Tryz.prog 73 _ Extern.ReflectliteType.typeOf Tryz.func73 (by kernel_rfl) (by kernel_rfl) (by kernel_rfl) (by kernel_rfl);have h320:= @aD Tryz.prog 199 _ (Extern.ReflectliteType.method fun t=>do Extern.Rtype.noPackHeld "Comparable" t; pure (.bool (←typeInfo t).comparable)) Tryz.func199 (by kernel_rfl) (by kernel_rfl) (by kernel_rfl) (by kernel_rfl);have h32:∀w,(callFunc 199 #[.agg #[.pointer (some ⟨17,230,none⟩)]]).run Tryz.prog w= .ok (.value (.bool true)) w:=fun w=>by rw [h320,nG]; rfl
 clear h320
 have tT:=rB;have mR:=jW
 cases p0 with
 | nil=>
  obtain rfl:=h1;have hn:=run_eql_iface_nil_left (P:=Tryz.prog) c.w 230 (.pointer (some b)) Tryz.underlying31
  clear h2 hG
  go_enter Tryz.func52,Tryz.ntmps52
  go_wp2
  go_ret
  exact ⟨rfl,rfl⟩
 | sent g=>
  have hcon:=pp hG b k hk h2 E (.sent g) h1 rfl ha;obtain ⟨a,rfl,_⟩:=h1
  clear h2 hG
  go_enter Tryz.func52,Tryz.ntmps52
  go_wp2_with (first | (go_at_call 74; refine hcon.mono ?_; rintro e w' ⟨rfl,rfl⟩) | go_in)
  go_ret
  exact ⟨rfl,rfl⟩
 | fault i e=>
  have hcon:=pp hG b k hk h2 E (.fault i e) h1 rfl ha;obtain ⟨fb,u,rfl,_⟩:=h1
  clear h2 hG
  go_enter Tryz.func52,Tryz.ntmps52
  go_wp2_with (first | (go_at_call 74; refine hcon.mono ?_; rintro e w' ⟨rfl,rfl⟩) | go_in)
  go_ret
  exact ⟨rfl,rfl⟩
theorem lb {gl:List Nat} {c0:Cx} {G:Gm} {F:List En} {v1 v2:Value} (O0:Own c0 G F) (hG:Gl gl c0) (p0 p1:Er) (h1:RE 230 87 c0 v1 p0) (h2:RE 230 87 c0 v2 p1) {r:Bool} (H:gM gl p0 p1=some r): Calls Tryz.prog 52 #[v1,v2] c0.w (aX c0 fun c v=>Own c G F∧v= .bool r):=by
 unfold gM at H;split at H
 ·rename_i k;split at H
  ·rename_i hh;obtain rfl:=ao H;obtain ⟨b,rfl,h3⟩:=id h2;refine (wc hG b k (List.contains_iff_mem.1 hh.1) h2 v1 p0 h1 hh.2).mono ?_;rintro e w' ⟨rfl,rfl⟩;exact ⟨_,c0,rfl,rfl,Cx.le.refl _,O0,rfl⟩
  ·cases H
 ·cases H
theorem eI {c0:Cx} {G:Gm} {F:List En} {v1 v2:Value} (O0:Own c0 G F) (hG:Gl [0,1,2,3,4,5,6,7] c0) (p0 p1:Er) (h1:RE 230 87 c0 v1 p0) (h2:RE 230 87 c0 v2 p1) {r:Bool} (H:eh p0 p1=some r):
  Calls Tryz.prog 52 #[v1,v2] c0.w (aX c0 fun c v=>Own c G F∧v= .bool r):=lb O0 hG p0 p1 h1 h2 H
theorem oQ {c0:Cx} {G:Gm} {F:List En} {v1 v2:Value} (O0:Own c0 G F) (hG:Gl [0,1,4,5,6] c0) (p0 p1:Er) (h1:RE 230 87 c0 v1 p0) (h2:RE 230 87 c0 v2 p1) {r:Bool} (H:kX p0 p1=some r):
  Calls Tryz.prog 52 #[v1,v2] c0.w (aX c0 fun c v=>Own c G F∧v= .bool r):=lb O0 hG p0 p1 h1 h2 H
end Go.Proofs.YtmncdniojmigeaaGreatDoor
namespace Go.Proofs.YtmncdniojmigeaaGreatDoor
open Go Go.Lt
set_option maxRecDepth 10000
set_option linter.unusedVariables false
attribute [local irreducible] W WL AC
open Tryz
variable {c0:Cx} {G:Gm} {F:List En} {sg:Sto} {v1 v2 v3 v4 v5 v6 v7 v8 v9 v10 v11 v12 v13 v14 v15 v16 v17 v18 v19 v20 v21 v22 v23 v24 v25 v26 v27 v28 v29 v30 v31 v32 v33 v34 v35 v36 v37 v38 v39 v40 v41 v42 v43 v44 v45 v46 v47 v48 v49 v50 v51 v52 v53 v54 v55 v56 v57 v58 v59 v60:Value}
def bB (p0:Int):Option (Int):=
 if (decide (p0 < 1))=true then
 some 1
 else
 if (decide (p0 > 1024))=true then
 some 1024
 else
 some p0
theorem fo (b:Own c0 G F) (a:Int) {r:Int} (H:bB a=some r): Calls prog 80 #[I a] c0.w (aX c0 fun c v=>Own c G (F)∧v=I r):=by
 unfold bB at H;refine en func80 rfl rfl (sr (va (I 0) (wln (W.seq (sr (va (I a) (va (B (decide (a < 1))) (wln (cn H (fun d H=>?_) (fun d H=>?_))))))))))
 ·refine sr (va (I 1) (wln (W.ret (thr ?_))));obtain rfl:=si H;exact r1 (qq c0 ⟨b,rfl⟩)
 refine W.skip (nrm (W.seq (sr (va (I a) (va (B (decide (a > 1024))) (wln (cn H (fun e H=>?_) (fun e H=>?_))))))))
 ·refine sr (va (I 1024) (wln (W.ret (thr ?_))));obtain rfl:=si H;exact r1 (qq c0 ⟨b,rfl⟩)
 refine W.skip (nrm (sr (vv (I a) (wln (W.ret ?_)))));obtain rfl:=si H;exact r1 (qq c0 ⟨b,rfl⟩)
def cZ (p0:aF) (p1:Int) (p2:Int):Option (Bool):=
 (cj (decide (p0.Row≥0)) ((bB p2).bind fun e=>
 some (decide (p0.Row < e)))).bind fun h=>
 (cj h (some (decide (p0.Col≥0)))).bind fun a=>
 (cj a ((bB p1).bind fun f=>
 some (decide (p0.Col < f)))).bind fun b=>
 (cj b ((orE (!p0.Pending) ((bB p1).bind fun g=>
 some (p0.Col==(w64 (g - 1))))).bind fun d=>
 some d)).bind fun c=>
 some c
theorem jg (O0:Own c0 G F) (b:aF) (q:Int) (M:Int) {r:Bool} (H:cZ b q M=some r): Calls prog 57 #[.agg #[I b.Row,I b.Col,B b.Pending],I q,I M] c0.w (aX c0 fun c v=>Own c G (F)∧v=B r):=by
 unfold cZ at H;refine en func57 rfl rfl (sr (me (bx 47 [I b.Row,I b.Col,B b.Pending] O0) ?_));rintro v5 c4 l4 ⟨o,rfl,O2,p⟩;refine va (B false) (wln (W.seq (bn H fun z0 h6 H=>bn H fun w0 h7 H=>bn H fun x0 E H=>bn H fun d0 D H=>W.join (Jn c4 fun c l=>Own c G (F)∧l= [(6,B d0)]) ?_ ?_)))
 ·clear H;refine rD [] (Kp G0 []) O2 ?_;intro P c1 N;have h1:Kp G0 [] P:=Kp.nil0;refine ta 0 (Q o) (tx 1 (fun d a=>l1 u_3 ((mm p) 0 _ rfl)) (ta 2 (B (decide (b.Row≥0))) ?_));rcases bo (decide (b.Row≥0)) with f | f
  ·have s:=anT f h6;refine bn s fun k j0 s=>AC.takeb 3 f rfl (by kernel_rfl) (by kernel_rfl) (fun d a=>(by kernel_rfl)) (ta 4 (Q o) (tx 5 (fun d a=>l1 u_3 ((mm p) 0 _ rfl)) (ta 6 (I M) (o1 7 (gc 7 (fo N M j0) ?_)))));rintro v21 z d1 ⟨x,rfl⟩;have o0:Kp G0 [] z:=Kp.nil0;refine ⟨.inr o0,ta 8 (B (decide (b.Row < k))) ?_⟩;obtain rfl:=si s;refine ta 9 (B (decide (b.Row < k))) ?_;rcases bo (decide (b.Row < k)) with g | g
   ·have f0:=anT g h7;refine AC.takeb 10 g rfl (by kernel_rfl) (by kernel_rfl) (fun d a=>(by kernel_rfl)) (ta 11 (Qo o (0+1)) (tx 12 (fun d a=>l1 u_3 ((mm p) 1 _ rfl)) (ta 13 (B (decide (b.Col≥0))) ?_)));obtain rfl:=si f0;refine ta 14 (B (decide (b.Col≥0))) ?_;rcases bo (decide (b.Col≥0)) with h | h
    ·have t:=anT h E;refine bn t fun m k0 t=>AC.takeb 15 h rfl (by kernel_rfl) (by kernel_rfl) (fun d a=>(by kernel_rfl)) (ta 16 (Qo o (0+1)) (tx 17 (fun d a=>l1 u_3 ((mm p) 1 _ rfl)) (ta 18 (I q) (o1 19 (gc 19 (fo x q k0) ?_)))));rintro v33 A e1 ⟨y,rfl⟩;have q0:Kp G0 [] A:=Kp.nil0;refine ⟨.inr q0,ta 20 (B (decide (b.Col < m))) ?_⟩;obtain rfl:=si t;refine ta 21 (B (decide (b.Col < m))) ?_;rcases bo (decide (b.Col < m)) with i | i
     ·have n:=anT i D;refine bn n fun y0 S n=>AC.takeb 22 i rfl (by kernel_rfl) (by kernel_rfl) (fun d a=>(by kernel_rfl)) (ta 23 (Qo o (0+2)) (tx 24 (fun d a=>l1 u_4 ((mm p) 2 _ rfl)) (ta 25 (B (!b.Pending)) ?_)));rcases bo (!b.Pending) with j | j
      ·obtain rfl:=orT j S;refine AC.takeb 26 j rfl (by kernel_rfl) (by kernel_rfl) (fun d a=>(by kernel_rfl)) (tp 27 (tp 28 (tp 29 (tp 30 (tp 31 (tp 32 (ta 33 (B true) ?_)))))));obtain rfl:=si n;exact ta 34 (B true) (ta 35 (B true) (dn (nrm (jn A ⟨y,rfl⟩))))
      have u:=orF j S;refine bn u fun e l0 u=>AC.takeb 26 j rfl (by kernel_rfl) (by kernel_rfl) (fun d a=>(by kernel_rfl)) (ta 27 (Qo o (0+1)) (tx 28 (fun d a=>l1 u_3 ((mm p) 1 _ rfl)) (ta 29 (I q) (o1 30 (gc 30 (fo y q l0) ?_)))));rintro v46 R f1 ⟨g0,rfl⟩;have s0:Kp G0 [] R:=Kp.nil0;refine ⟨.inr s0,ta 31 (I (w64 (e - 1))) (ta 32 (B (b.Col==(w64 (e - 1)))) ?_)⟩;obtain rfl:=si u;refine ta 33 (B (b.Col==(w64 (e - 1)))) ?_;obtain rfl:=si n;exact ta 34 (B (b.Col==(w64 (e - 1)))) (ta 35 (B (b.Col==(w64 (e - 1)))) (dn (nrm (jn R ⟨g0,rfl⟩))))
     obtain rfl:=anF i D;exact AC.takeb 22 i rfl (by kernel_rfl) (by kernel_rfl) (fun d a=>(by kernel_rfl)) (tp 23 (tp 24 (tp 25 (tp 26 (tp 27 (tp 28 (tp 29 (tp 30 (tp 31 (tp 32 (tp 33 (ta 34 (B false) (ta 35 (B false) (dn (nrm (jn A ⟨y,rfl⟩))))))))))))))))
    obtain rfl:=anF h E;refine AC.takeb 15 h rfl (by kernel_rfl) (by kernel_rfl) (fun d a=>(by kernel_rfl)) (tp 16 (tp 17 (tp 18 (tp 19 (tp 20 (ta 21 (B false) ?_))))));have T:false=false:=rfl;obtain rfl:=anF T D;exact AC.takeb 22 T rfl (by kernel_rfl) (by kernel_rfl) (fun d a=>(by kernel_rfl)) (tp 23 (tp 24 (tp 25 (tp 26 (tp 27 (tp 28 (tp 29 (tp 30 (tp 31 (tp 32 (tp 33 (ta 34 (B false) (ta 35 (B false) (dn (nrm (jn z ⟨x,rfl⟩))))))))))))))))
   obtain rfl:=anF g h7;refine AC.takeb 10 g rfl (by kernel_rfl) (by kernel_rfl) (fun d a=>(by kernel_rfl)) (tp 11 (tp 12 (tp 13 (ta 14 (B false) ?_))));have U:false=false:=rfl;obtain rfl:=anF U E;refine AC.takeb 15 U rfl (by kernel_rfl) (by kernel_rfl) (fun d a=>(by kernel_rfl)) (tp 16 (tp 17 (tp 18 (tp 19 (tp 20 (ta 21 (B false) ?_))))));have X:false=false:=rfl;obtain rfl:=anF X D;exact AC.takeb 22 X rfl (by kernel_rfl) (by kernel_rfl) (fun d a=>(by kernel_rfl)) (tp 23 (tp 24 (tp 25 (tp 26 (tp 27 (tp 28 (tp 29 (tp 30 (tp 31 (tp 32 (tp 33 (ta 34 (B false) (ta 35 (B false) (dn (nrm (jn z ⟨x,rfl⟩))))))))))))))))
  obtain rfl:=anF f h6;refine AC.takeb 3 f rfl (by kernel_rfl) (by kernel_rfl) (fun d a=>(by kernel_rfl)) (tp 4 (tp 5 (tp 6 (tp 7 (tp 8 (ta 9 (B false) ?_))))));have Z:false=false:=rfl;obtain rfl:=anF Z h7;refine AC.takeb 10 Z rfl (by kernel_rfl) (by kernel_rfl) (fun d a=>(by kernel_rfl)) (tp 11 (tp 12 (tp 13 (ta 14 (B false) ?_))));have a0:false=false:=rfl;obtain rfl:=anF a0 E;refine AC.takeb 15 a0 rfl (by kernel_rfl) (by kernel_rfl) (fun d a=>(by kernel_rfl)) (tp 16 (tp 17 (tp 18 (tp 19 (tp 20 (ta 21 (B false) ?_))))));have b0:false=false:=rfl;obtain rfl:=anF b0 D;exact AC.takeb 22 b0 rfl (by kernel_rfl) (by kernel_rfl) (fun d a=>(by kernel_rfl)) (tp 23 (tp 24 (tp 25 (tp 26 (tp 27 (tp 28 (tp 29 (tp 30 (tp 31 (tp 32 (tp 33 (ta 34 (B false) (ta 35 (B false) (dn (nrm (jn P ⟨N,rfl⟩))))))))))))))))
 rintro e_ w_ ⟨i0,a1,_,rfl,g1,rfl,h0,rfl⟩;refine nrm (W.ret ?_);obtain rfl:=si H;exact r1 (qq i0 ⟨h0,rfl⟩)
def ct (p0:Int):Option (Bool):=
 (cj (decide (p0≥0)) (some (decide (p0≤1114111)))).bind fun b=>
 (cj b ((orE (decide (p0 < 55296)) (some (decide (p0 > 57343)))).bind fun a=>
 some a)).bind fun c=>
 some c
theorem jj (g:Own c0 G F) (a:Int) {r:Bool} (H:ct a=some r): Calls prog 102 #[J a] c0.w (aX c0 fun c v=>Own c G (F)∧v=B r):=by
 unfold ct at H;refine en func102 rfl rfl (sr (va (B false) (wln (W.seq (bn H fun t n H=>bn H fun m i H=>W.join (Jn c0 fun c l=>Own c G (F)∧l= [(2,B m)]) ?_ ?_)))))
 ·clear H;refine W.region (va (J a) (va (B (decide (a≥0))) ?_));rcases bo (decide (a≥0)) with b | b
  ·have p:=anT b n;refine vb b (wa (J a) (wa (B (decide (a≤1114111))) ?_));obtain rfl:=si p;refine va (B (decide (a≤1114111))) ?_;rcases bo (decide (a≤1114111)) with d | d
   ·have f:=anT d i;refine vb d (wa (J a) (wa (B (decide (a < 55296))) (wn (bn f fun s o f=>?_))));rcases bo (decide (a < 55296)) with e | e
    ·obtain rfl:=orT e o;refine vb e (pz (wa (B true) ?_));obtain rfl:=si f;exact vv (B true) (wln (jn c0 ⟨g,rfl⟩))
    have q:=orF e o;refine vb e (wa (J a) (wa (B (decide (a > 57343))) (wn ?_)));obtain rfl:=si q;refine va (B (decide (a > 57343))) ?_;obtain rfl:=si f;exact vv (B (decide (a > 57343))) (wln (jn c0 ⟨g,rfl⟩))
   obtain rfl:=anF d i;exact vb d (pz (pz (pz (vv (B false) (wln (jn c0 ⟨g,rfl⟩))))))
  obtain rfl:=anF b n;refine vb b (pz (va (B false) ?_));have h:false=false:=rfl;obtain rfl:=anF h i;exact vb h (pz (pz (pz (vv (B false) (wln (jn c0 ⟨g,rfl⟩))))))
 rintro y z ⟨k,u,_,rfl,x,rfl,j,rfl⟩;refine nrm (W.ret ?_);obtain rfl:=si H;exact r1 (qq k ⟨j,rfl⟩)
def cq (p0:ak):Option (Bool):=
 (orE (p0.Kind==0) (some (p0.Kind==3))).bind fun h=>
 if h=true then
 some ((p0.Text.length:Int)==0)
 else
 (cj (p0.Kind != 1) (some (p0.Kind != 2))).bind fun c=>
 (orE c (some (decide ((p0.Text.length:Int) < 1)))).bind fun d=>
 (orE d (some (decide ((p0.Text.length:Int) > 16)))).bind fun e=>
 if e=true then
 some false
 else
 (ed (σ:=Int) (τ:=Bool ⊕ Unit) (((p0.Text.length:Int) - 0).toNat+1) (fun b=>
 if (decide (b < (p0.Text.length:Int)))=true then
 (idx p0.Text b).bind fun f=>
 (ct f).bind fun g=>
 if (!g)=true then
 some (.inr (.inl false))
 else
 some (.inl ((w64 (b+1))))
 else
 some (.inr (.inr ()))) (0)).bind fun a=>
 match a with
 | .inl a=>
 some a
 | .inr a=>
 some true
theorem ji (O0:Own c0 G F) (a:ak) {r:Bool} (i:Sl (RI .i32) c0 v1 a.Text) (H:cq a=some r): Calls prog 81 #[.agg #[I a.Kind,v1]] c0.w (aX c0 fun c v=>Own c G (F)∧v=B r):=by
 unfold cq at H;refine en func81 rfl rfl (sr ?_);obtain ⟨a3,a4,a5,rfl⟩:=(i).form;refine me (bx 94 [I a.Kind,.slice a3 a4 a5] O0) ?_;rintro v10 Z l9 ⟨d,rfl,O7,g⟩;refine va (B false) (wln (W.seq (W.seq (bn H fun u0 P H=>W.join (Jn Z fun c l=>Own c G (F)∧l= [(1,Q d),(11,B u0)]) ?_ ?_))))
 ·clear H;refine W.region (va (Q d) (vx (l1 u_3 (g 0 _ rfl)) (va (B (a.Kind==0)) ?_)));rcases bo (a.Kind==0) with k | k
  ·obtain rfl:=orT k P;exact vb k (pz (ps (va (B true) (wln (jn Z ⟨O7,rfl⟩)))))
  have f0:=orF k P;refine vb k (wa (Q d) (wn (vx (l1 u_3 (g 0 _ rfl)) (wa (B (a.Kind==3)) ?_))));obtain rfl:=si f0;exact va (B (a.Kind==3)) (wln (jn Z ⟨O7,rfl⟩))
 rintro z A ⟨f,w1,_,rfl,d1,rfl,h,rfl⟩;refine nrm (cn H (fun x0 H=>?_) (fun x0 H=>?_))
 ·refine sr (va (Qo d (0+1)) (vx (l1 eS ((mm g) 1 _ rfl)) (vx (ln 3 eS i.m) (vv (B ((a.Text.length:Int)==0)) (wln (W.ret (thr ?_)))))));obtain rfl:=si H;exact r1 (qq f ⟨h,rfl⟩)
 refine W.skip (nrm (W.seq (W.seq (bn H fun q1 R H=>bn H fun s1 y H=>bn H fun a0 n H=>W.join (Jn f fun c l=>Own c G (F)∧l= [(1,Q d),(35,B a0)]) ?_ ?_))))
 ·clear H;refine W.region (va (Q d) (vx (l1 u_3 ((mm g) 0 _ rfl)) (va (B (a.Kind != 1)) ?_)));rcases bo (a.Kind != 1) with o | o
  ·have g0:=anT o R;refine vb o (wa (Q d) (wn (vx (l1 u_3 ((mm g) 0 _ rfl)) (wa (B (a.Kind != 2)) ?_))));obtain rfl:=si g0;refine va (B (a.Kind != 2)) ?_;rcases bo (a.Kind != 2) with p | p
   ·obtain rfl:=orT p y;refine vb p (pz (pz (va (B true) ?_)));have S:true=true:=rfl;obtain rfl:=orT S n;exact vb S (pz (pz (va (B true) (wln (jn f ⟨h,rfl⟩)))))
   have h0:=orF p y;refine vb p (wa (Qo d (0+1)) (wn (vx (l1 eS ((mm g) 1 _ rfl)) (wn (vx (ln 3 eS i.m) (wa (B (decide ((a.Text.length:Int) < 1))) ?_))))));obtain rfl:=si h0;refine va (B (decide ((a.Text.length:Int) < 1))) ?_;rcases bo (decide ((a.Text.length:Int) < 1)) with q | q
   ·obtain rfl:=orT q n;exact vb q (pz (pz (va (B true) (wln (jn f ⟨h,rfl⟩)))))
   have i0:=orF q n;refine vb q (wa (Qo d (0+1)) (wn (vx (l1 eS ((mm g) 1 _ rfl)) (wn (vx (ln 3 eS i.m) (wa (B (decide ((a.Text.length:Int) > 16))) ?_))))));obtain rfl:=si i0;exact va (B (decide ((a.Text.length:Int) > 16))) (wln (jn f ⟨h,rfl⟩))
  obtain rfl:=anF o R;refine vb o (pz (ps (va (B false) ?_)));have T:false=false:=rfl;have j0:=orF T y;refine vb T (wa (Qo d (0+1)) (wn (vx (l1 eS ((mm g) 1 _ rfl)) (wn (vx (ln 3 eS i.m) (wa (B (decide ((a.Text.length:Int) < 1))) ?_))))));obtain rfl:=si j0;refine va (B (decide ((a.Text.length:Int) < 1))) ?_;rcases bo (decide ((a.Text.length:Int) < 1)) with s | s
  ·obtain rfl:=orT s n;exact vb s (pz (pz (va (B true) (wln (jn f ⟨h,rfl⟩)))))
  have k0:=orF s n;refine vb s (wa (Qo d (0+1)) (wn (vx (l1 eS ((mm g) 1 _ rfl)) (wn (vx (ln 3 eS i.m) (wa (B (decide ((a.Text.length:Int) > 16))) ?_))))));obtain rfl:=si k0;exact va (B (decide ((a.Text.length:Int) > 16))) (wln (jn f ⟨h,rfl⟩))
 rintro z A ⟨j,x1,_,rfl,e1,rfl,D,rfl⟩;refine nrm (cn H (fun y0 H=>?_) (fun y0 H=>?_))
 ·refine sr (va (B false) (wln (W.ret (thr ?_))));obtain rfl:=si H;exact r1 (qq j ⟨D,rfl⟩)
 refine W.skip (nrm (W.seq (sr (va (I 0) (wln (W.block (bn H fun u U x=>lp U (fun b=>Jn j fun c l=>Own c G (F)∧l= [(1,Q d),(3,I b)]) (fun t=>match t with | .inl x_=>(fun h1 ex e w=>ex= .ret∧(Jn j fun c l=>Own c G (F)∧l= [(2,B h1)]) e w) x_ | .inr x_=>(fun j1 ex e w=>ex= .exit 0∧(Jn j fun c l=>Own c G (F)∧l= []) e w) x_) ?_ ?_ ?_)))))))
 ·clear x U;intro b g2 v0 i1 H;revert v0 i1;rintro z A ⟨q0,y1,_,rfl,f1,rfl,E,rfl⟩;refine W.seq (sr (va (I b) (va (Qo d (0+1)) (vx (l1 eS ((mm g) 1 _ rfl)) (vx (ln 3 eS i.m) (va (B (decide (b < (a.Text.length:Int)))) (wln (cn H (fun z0 H=>?_) (fun z0 H=>?_)))))))))
  ·refine W.skip (nrm (W.seq (W.block (sr (va (Qo d (0+1)) (vx (l1 eS ((mm g) 1 _ rfl)) (va (I b) (bn H fun d0 X H=>?_))))))));obtain ⟨u1,a1,g1⟩:=Sl.at (i.mono (l9.trans (d1.trans (e1.trans f1)))) (ba X);obtain rfl:=a1;refine vx (ix eS i.m X) (vx (l1 rd (g1 0 _ rfl)) (bn H fun e0 b1 H=>cl (jj E d0 b1) ?_));rintro f2 N c2 ⟨M,rfl⟩;refine va (B (!e0)) (wln (cn H (fun c1 H=>?_) (fun c1 H=>?_)))
   ·refine sr (va (B false) (wln (W.ret (bkr (thr ?_)))));obtain rfl:=si H;exact ⟨_,rfl,⟨rfl,jn N ⟨M,rfl⟩⟩⟩
   refine W.skip (bkn (nrm (W.region (va (I b) (vv (I (w64 (b+1))) (WL.nil ?_))))));obtain rfl:=si H;exact ⟨_,rfl,jn N ⟨M,rfl⟩⟩
  refine W.exit (thx ?_);obtain rfl:=si H;exact ⟨_,rfl,rfl,jn q0 ⟨E,rfl⟩⟩
 ·exact jn j ⟨D,rfl⟩
 rcases u with u | u
 ·intro w0; revert w0;rintro _ z A ⟨rfl,s0,z1,_,rfl,d2,rfl,l0,rfl⟩;refine bkr (thr ?_);obtain rfl:=si x;exact r1 (qq s0 ⟨l0,rfl⟩)
 rintro _ z A ⟨rfl,t0,b2,_,rfl,e2,rfl,o0,rfl⟩;refine bke (nrm (sr (va (B true) (wln (W.ret ?_)))));obtain rfl:=si x;exact r1 (qq t0 ⟨o0,rfl⟩)
def bM (p0:List ak) (p1:Int):Option (Int):=
 (orE (decide (p1 < 0)) (some (decide (p1≥(p0.length:Int))))).bind fun b=>
 if b=true then
 some 0
 else
 (idx p0 p1).bind fun a=>
 some a.Kind
theorem fp (h:Own c0 G F) (d:List ak) (a:Int) {r:Int} (f:Sl bG c0 v1 d) (H:bM d a=some r): Calls prog 82 #[v1,I a] c0.w (aX c0 fun c v=>Own c G (F)∧v=I r):=by
 unfold bM at H;refine en func82 rfl rfl (sr (va (I 0) (wln (W.seq (W.seq (bn H fun k p H=>W.join (Jn c0 fun c l=>Own c G (F)∧l= [(0,v1),(1,I a),(12,B k)]) ?_ ?_))))))
 ·clear H;refine W.region (va (I a) (va (B (decide (a < 0))) ?_));rcases bo (decide (a < 0)) with b | b
  ·obtain rfl:=orT b p;exact vb b (pz (pz (va (B true) (wln (jn c0 ⟨h,rfl⟩)))))
  have s:=orF b p;refine vb b (wa (I a) (wa (v1) (wn (vx (ln 3 fe f) (wa (B (decide (a≥(d.length:Int)))) ?_)))));obtain rfl:=si s;exact va (B (decide (a≥(d.length:Int)))) (wln (jn c0 ⟨h,rfl⟩))
 rintro y A ⟨j,z,_,rfl,t,rfl,i,rfl⟩;refine nrm (cn H (fun n H=>?_) (fun n H=>?_))
 ·refine sr (va (I 0) (wln (W.ret (thr ?_))));obtain rfl:=si H;exact r1 (qq j ⟨i,rfl⟩)
 refine W.skip (nrm (sr (va (v1) (va (I a) (bn H fun g e H=>?_)))));obtain ⟨u,o,q⟩:=Sl.at (f.mono t) (ba e);obtain ⟨v17,rfl,x⟩:=o;refine vx (ix fe f.m e) (va (Qo (sb v1) (so v1+a.toNat * 2)) (vx (l1 u_3 (q 0 _ rfl)) (va (I g.Kind) (wln (W.ret ?_)))));obtain rfl:=si H;exact r1 (qq j ⟨i,rfl⟩)
def da (p0:List ak):Option (Bool):=
 (ed (σ:=Int) (τ:=Bool ⊕ Unit) (((p0.length:Int) - 0).toNat+1) (fun a=>
 if (decide (a < (p0.length:Int)))=true then
 (idx p0 a).bind fun g=>
 (cq g).bind fun h=>
 (orE (!h) ((idx p0 a).bind fun i=>
 (cj (i.Kind==2) ((bM p0 (w64 (a+1))).bind fun j=>
 some (j != 3))).bind fun d=>
 some d)).bind fun c=>
 (orE c ((idx p0 a).bind fun k=>
 (cj (k.Kind==3) ((bM p0 (w64 (a - 1))).bind fun l=>
 some (l != 2))).bind fun f=>
 some f)).bind fun e=>
 if e=true then
 some (.inr (.inl false))
 else
 some (.inl ((w64 (a+1))))
 else
 some (.inr (.inr ()))) (0)).bind fun b=>
 match b with
 | .inl b=>
 some b
 | .inr b=>
 some true
theorem jh (O0:Own c0 G F) (x:List ak) {r:Bool} (d:Sl bG c0 v1 x) (H:da x=some r): Calls prog 58 #[v1] c0.w (aX c0 fun c v=>Own c G (F)∧v=B r):=by
 unfold da at H;refine en func58 rfl rfl (sr (va (B false) (wln (W.seq (sr (va (I 0) (wln (W.block (bn H fun M h3 H4=>lp h3 (fun a=>Jn c0 fun c l=>Own c G (F)∧l= [(0,v1),(3,I a)]) (fun t=>match t with | .inl x_=>(fun c2 ex e w=>ex= .ret∧(Jn c0 fun c l=>Own c G (F)∧l= [(2,B c2)]) e w) x_ | .inr x_=>(fun m2 ex e w=>ex= .exit 0∧(Jn c0 fun c l=>Own c G (F)∧l= []) e w) x_) ?_ ?_ ?_)))))))))
 ·clear H4 h3;intro a c3 e1 d2 H;revert e1 d2;rintro e_ w_ ⟨c5,g6,_,rfl,R,rfl,O7,rfl⟩;refine W.seq (sr (va (I a) (va (v1) (vx (ln 3 fe d.m) (va (B (decide (a < (x.length:Int)))) (wln (cn H (fun g1 H=>?_) (fun g1 H=>?_))))))))
  ·refine W.skip (nrm (W.seq (W.block (W.seq (bn H fun t0 Z H=>bn H fun N h1 H=>bn H fun f2 a0 H=>bn H fun l0 u H=>W.join (Jn c5 fun c l=>Own c G (F)∧l= [(0,v1),(3,I a),(45,B l0)]) ?_ ?_)))))
   ·clear H;refine W.region (va (v1) (va (I a) ?_));obtain ⟨i2,i1,x1⟩:=Sl.at (d.mono R) (ba Z);obtain ⟨v19,rfl,j1⟩:=i1;refine vx (ix fe d.m Z) (vx (lN 94 x1) (cl (ji O7 t0 j1 h1) ?_));rintro v26 T E ⟨s,rfl⟩;refine va (B (!N)) ?_;rcases bo (!N) with k | k
    ·obtain rfl:=orT k a0;refine vb k (pz (pz (pz (pz (pz (pz (ps (va (B true) ?_))))))));have b0:true=true:=rfl;obtain rfl:=orT b0 u;exact vb b0 (pz (pz (pz (pz (pz (pz (ps (va (B true) (wln (jn T ⟨s,rfl⟩))))))))))
    have g:=orF k a0;refine vb k (wa (v1) (wa (I a) (wn (bn g fun P d0 g=>?_))));obtain ⟨j2,m1,y1⟩:=Sl.at (d.mono (R.trans E)) (ba d0);obtain ⟨v34,rfl,q2⟩:=m1;refine vx (ix fe d.m d0) (wa (Qo (sb v1) (so v1+a.toNat * 2)) (wn (vx (l1 u_3 (y1 0 _ rfl)) (wa (B (P.Kind==2)) (wn (bn g fun g2 e0 g=>?_))))));rcases bo (P.Kind==2) with n | n
    ·have y:=anT n e0;refine vb n (wa (v1) (wa (I a) (wa (I (w64 (a+1))) (wn (bn y fun j n1 y=>cl (fp s x (w64 (a+1)) d.m n1) ?_)))));rintro v45 U w1 ⟨D,rfl⟩;refine wa (B (j != 3)) (wn ?_);obtain rfl:=si y;refine va (B (j != 3)) ?_;obtain rfl:=si g;refine va (B (j != 3)) ?_;rcases bo (j != 3) with o | o
     ·obtain rfl:=orT o u;exact vb o (pz (pz (pz (pz (pz (pz (ps (va (B true) (wln (jn U ⟨D,rfl⟩))))))))))
     have h:=orF o u;refine vb o (wa (v1) (wa (I a) (wn (bn h fun f f0 h=>?_))));obtain ⟨k2,p1,z1⟩:=Sl.at (d.mono (R.trans (E.trans w1))) (ba f0);obtain ⟨v52,rfl,s2⟩:=p1;refine vx (ix fe d.m f0) (wa (Qo (sb v1) (so v1+a.toNat * 2)) (wn (vx (l1 u_3 (z1 0 _ rfl)) (wa (B (f.Kind==3)) (wn (bn h fun m0 g0 h=>?_))))));rcases bo (f.Kind==3) with p | p
     ·have z:=anT p g0;refine vb p (wa (v1) (wa (I a) (wa (I (w64 (a - 1))) (wn (bn z fun b q1 z=>cl (fp D x (w64 (a - 1)) d.m q1) ?_)))));rintro z2 a1 u2 ⟨u0,rfl⟩;refine wa (B (b != 2)) (wn ?_);obtain rfl:=si z;refine va (B (b != 2)) ?_;obtain rfl:=si h;exact va (B (b != 2)) (wln (jn a1 ⟨u0,rfl⟩))
     obtain rfl:=anF p g0;refine vb p (pz (pz (ps (wa (B false) ?_))));obtain rfl:=si h;exact va (B false) (wln (jn U ⟨D,rfl⟩))
    obtain rfl:=anF n e0;refine vb n (pz (pz (ps (wa (B false) ?_))));obtain rfl:=si g;refine va (B false) ?_;have h0:false=false:=rfl;have i:=orF h0 u;refine vb h0 (wa (v1) (wa (I a) (wn (bn i fun f i0 i=>?_))));obtain ⟨l2,s1,b2⟩:=Sl.at (d.mono (R.trans E)) (ba i0);obtain ⟨a3,rfl,t2⟩:=s1;refine vx (ix fe d.m i0) (wa (Qo (sb v1) (so v1+a.toNat * 2)) (wn (vx (l1 u_3 (b2 0 _ rfl)) (wa (B (f.Kind==3)) (wn (bn i fun m0 j0 i=>?_))))));rcases bo (f.Kind==3) with q | q
    ·have A:=anT q j0;refine vb q (wa (v1) (wa (I a) (wa (I (w64 (a - 1))) (wn (bn A fun b t1 A=>cl (fp s x (w64 (a - 1)) d.m t1) ?_)))));rintro b3 b1 v2 ⟨w0,rfl⟩;refine wa (B (b != 2)) (wn ?_);obtain rfl:=si A;refine va (B (b != 2)) ?_;obtain rfl:=si i;exact va (B (b != 2)) (wln (jn b1 ⟨w0,rfl⟩))
    obtain rfl:=anF q j0;refine vb q (pz (pz (ps (wa (B false) ?_))));obtain rfl:=si i;exact va (B false) (wln (jn T ⟨s,rfl⟩))
   rintro e_ w_ ⟨X,n2,_,rfl,w2,rfl,S,rfl⟩;refine nrm (cn H (fun u1 H=>?_) (fun u1 H=>?_))
   ·refine sr (va (B false) (wln (W.ret (bkr (thr ?_)))));obtain rfl:=si H;exact ⟨_,rfl,⟨rfl,jn X ⟨S,rfl⟩⟩⟩
   refine W.skip (bkn (nrm (W.region (va (I a) (vv (I (w64 (a+1))) (WL.nil ?_))))));obtain rfl:=si H;exact ⟨_,rfl,jn X ⟨S,rfl⟩⟩
  refine W.exit (thx ?_);obtain rfl:=si H;exact ⟨_,rfl,rfl,jn c5 ⟨O7,rfl⟩⟩
 ·exact jn c0 ⟨O0,rfl⟩
 rcases M with M | M
 ·intro f1; revert f1;rintro _ e_ w_ ⟨rfl,c1,o2,_,rfl,x2,rfl,x0,rfl⟩;refine bkr (thr ?_);obtain rfl:=si H4;exact r1 (qq c1 ⟨x0,rfl⟩)
 rintro _ e_ w_ ⟨rfl,d1,p2,_,rfl,y2,rfl,y0,rfl⟩;refine bke (nrm (sr (va (B true) (wln (W.ret ?_)))));obtain rfl:=si H4;exact r1 (qq d1 ⟨y0,rfl⟩)
def bT (p0:af):Option (Bool):=
 (orE (p0.High != (p0.Lines.length:Int)) (some (decide (p0.High < 1)))).bind fun c=>
 (orE c (some (decide (p0.High > 1024)))).bind fun d=>
 (orE d (some (decide (p0.Wide < 1)))).bind fun e=>
 (orE e (some (decide (p0.Wide > 1024)))).bind fun f=>
 (orE f ((cZ p0.At p0.Wide p0.High).bind fun i=>
 some (!i))).bind fun g=>
 if g=true then
 some false
 else
 (ed (σ:=Int) (τ:=Bool ⊕ Unit) (((p0.Lines.length:Int) - 0).toNat+1) (fun b=>
 if (decide (b < (p0.Lines.length:Int)))=true then
 (idx p0.Lines b).bind fun j=>
 (orE ((j.Cells.length:Int) != p0.Wide) ((idx p0.Lines b).bind fun k=>
 (da k.Cells).bind fun l=>
 some (!l))).bind fun h=>
 if h=true then
 some (.inr (.inl false))
 else
 some (.inl ((w64 (b+1))))
 else
 some (.inr (.inr ()))) (0)).bind fun a=>
 match a with
 | .inl a=>
 some a
 | .inr a=>
 some true
theorem eZ (O0:Own c0 G F) (a:af) {r:Bool} (z:Sl aJ c0 v1 a.Lines) (H:bT a=some r): Calls prog 26 #[.agg #[I a.Wide,I a.High,v1,I a.At.Row,I a.At.Col,B a.At.Pending,B a.Auto]] c0.w (aX c0 fun c v=>Own c G (F)∧v=B r):=by
 unfold bT at H;refine en func26 rfl rfl (sr ?_);obtain ⟨R,S,T,rfl⟩:=(z).form;refine me (bx 49 [I a.Wide,I a.High,.slice R S T,I a.At.Row,I a.At.Col,B a.At.Pending,B a.Auto] O0) ?_;rintro v10 M l9 ⟨d,rfl,E,g⟩;refine va (B false) (wln (W.seq (W.seq (bn H fun w2 m0 H=>bn H fun x2 U H=>bn H fun y2 D H=>bn H fun z2 o H=>bn H fun i1 h H=>W.join (Jn M fun c l=>Own c G (F)∧l= [(1,Q d),(39,B i1)]) ?_ ?_))))
 ·clear H;refine W.region (va (Qo d (0+1)) (vx (l1 u_3 (g 1 _ rfl)) (va (Qo d (0+2)) (vx (l1 dX (g 2 _ rfl)) (vx (ln 3 dX z.m) (va (B (a.High != (a.Lines.length:Int))) ?_))))));rcases bo (a.High != (a.Lines.length:Int)) with p | p
  ·obtain rfl:=orT p m0;refine vb p (pz (ps (va (B true) ?_)));have o0:true=true:=rfl;obtain rfl:=orT o0 U;refine vb o0 (pz (ps (va (B true) ?_)));have q0:true=true:=rfl;obtain rfl:=orT q0 D;refine vb q0 (pz (ps (va (B true) ?_)));have s0:true=true:=rfl;obtain rfl:=orT s0 o;refine vb s0 (pz (ps (va (B true) ?_)));have t0:true=true:=rfl;obtain rfl:=orT t0 h;exact vb t0 (pz (pz (pz (pz (va (B true) (wln (jn M ⟨E,rfl⟩)))))))
  have n1:=orF p m0;refine vb p (wa (Qo d (0+1)) (wn (vx (l1 u_3 (g 1 _ rfl)) (wa (B (decide (a.High < 1))) ?_))));obtain rfl:=si n1;refine va (B (decide (a.High < 1))) ?_;rcases bo (decide (a.High < 1)) with q | q
  ·obtain rfl:=orT q U;refine vb q (pz (ps (va (B true) ?_)));have u0:true=true:=rfl;obtain rfl:=orT u0 D;refine vb u0 (pz (ps (va (B true) ?_)));have v0:true=true:=rfl;obtain rfl:=orT v0 o;refine vb v0 (pz (ps (va (B true) ?_)));have w0:true=true:=rfl;obtain rfl:=orT w0 h;exact vb w0 (pz (pz (pz (pz (va (B true) (wln (jn M ⟨E,rfl⟩)))))))
  have p1:=orF q U;refine vb q (wa (Qo d (0+1)) (wn (vx (l1 u_3 (g 1 _ rfl)) (wa (B (decide (a.High > 1024))) ?_))));obtain rfl:=si p1;refine va (B (decide (a.High > 1024))) ?_;rcases bo (decide (a.High > 1024)) with s | s
  ·obtain rfl:=orT s D;refine vb s (pz (ps (va (B true) ?_)));have x0:true=true:=rfl;obtain rfl:=orT x0 o;refine vb x0 (pz (ps (va (B true) ?_)));have y0:true=true:=rfl;obtain rfl:=orT y0 h;exact vb y0 (pz (pz (pz (pz (va (B true) (wln (jn M ⟨E,rfl⟩)))))))
  have q1:=orF s D;refine vb s (wa (Q d) (wn (vx (l1 u_3 (g 0 _ rfl)) (wa (B (decide (a.Wide < 1))) ?_))));obtain rfl:=si q1;refine va (B (decide (a.Wide < 1))) ?_;rcases bo (decide (a.Wide < 1)) with u | u
  ·obtain rfl:=orT u o;refine vb u (pz (ps (va (B true) ?_)));have z0:true=true:=rfl;obtain rfl:=orT z0 h;exact vb z0 (pz (pz (pz (pz (va (B true) (wln (jn M ⟨E,rfl⟩)))))))
  have s1:=orF u o;refine vb u (wa (Q d) (wn (vx (l1 u_3 (g 0 _ rfl)) (wa (B (decide (a.Wide > 1024))) ?_))));obtain rfl:=si s1;refine va (B (decide (a.Wide > 1024))) ?_;rcases bo (decide (a.Wide > 1024)) with x | x
  ·obtain rfl:=orT x h;exact vb x (pz (pz (pz (pz (va (B true) (wln (jn M ⟨E,rfl⟩)))))))
  have N:=orF x h;refine vb x (wa (Qo d (0+3)) (wn (vx (lN 47 (qQ (k:=3) (l:=[I a.At.Row,I a.At.Col,B a.At.Pending]) g rfl)) (wa (Q d) (wn (vx (l1 u_3 (g 0 _ rfl)) (wa (Qo d (0+1)) (wn (vx (l1 u_3 (g 1 _ rfl)) (wn (bn N fun X d2 N=>cl (jg E a.At a.Wide a.High d2) ?_)))))))))));rintro v42 x1 i3 ⟨t1,rfl⟩;refine wa (B (!X)) ?_;obtain rfl:=si N;exact va (B (!X)) (wln (jn x1 ⟨t1,rfl⟩))
 rintro e_ w_ ⟨n,d3,_,rfl,e1,rfl,e0,rfl⟩;refine nrm (cn H (fun e2 H=>?_) (fun e2 H=>?_))
 ·refine sr (va (B false) (wln (W.ret (thr ?_))));obtain rfl:=si H;exact r1 (qq n ⟨e0,rfl⟩)
 refine W.skip (nrm (W.seq (sr (va (I 0) (wln (W.block (bn H fun A a1 P=>lp a1 (fun b=>Jn n fun c l=>Own c G (F)∧l= [(1,Q d),(3,I b)]) (fun t=>match t with | .inl x_=>(fun s2 ex e w=>ex= .ret∧(Jn n fun c l=>Own c G (F)∧l= [(2,B s2)]) e w) x_ | .inr x_=>(fun u2 ex e w=>ex= .exit 0∧(Jn n fun c l=>Own c G (F)∧l= []) e w) x_) ?_ ?_ ?_)))))))
 ·clear P a1;intro b s3 b2 t2 H;revert b2 t2;rintro e_ w_ ⟨i0,e3,_,rfl,f1,rfl,f0,rfl⟩;refine W.seq (sr (va (I b) (va (Qo d (0+2)) (vx (l1 dX ((mm g) 2 _ rfl)) (vx (ln 3 dX z.m) (va (B (decide (b < (a.Lines.length:Int)))) (wln (cn H (fun f2 H=>?_) (fun f2 H=>?_)))))))))
  ·refine W.skip (nrm (W.seq (W.block (W.seq (bn H fun Z b1 H=>bn H fun j1 c1 H=>W.join (Jn i0 fun c l=>Own c G (F)∧l= [(1,Q d),(3,I b),(66,B j1)]) ?_ ?_)))))
   ·clear H;refine rD [] (Kp G0 []) f0 ?_;intro j0 g1 g0;have n3:Kp G0 [] j0:=Kp.nil0;refine ta 0 (.pointer (some ⟨d,0+2,none⟩)) (tx 1 (fun i f=>l1 dX ((mm g) 2 _ rfl)) (ta 2 (I b) ?_));obtain ⟨b3,g2,o2⟩:=Sl.at (z.mono (l9.trans (e1.trans (f1.trans g1)))) (ba b1);obtain ⟨o3,rfl,i2⟩:=g2;refine tx 3 (fun i f=>ix dX z.m b1) (ta 4 (Qo (sb (.slice R S T)) (so (.slice R S T)+b.toNat * 2)) (tx 5 (fun i f=>l1 fe ((mm o2) 0 _ rfl)) (tx 6 (fun i f=>ln 3 fe i2) (ta 7 (Q d) (tx 8 (fun i f=>l1 u_3 ((mm g) 0 _ rfl)) (ta 9 (B ((Z.Cells.length:Int) != a.Wide)) ?_))))));rcases bo ((Z.Cells.length:Int) != a.Wide) with y | y
    ·obtain rfl:=orT y c1;exact AC.takeb 10 y rfl (by kernel_rfl) (by kernel_rfl) (fun i f=>(by kernel_rfl)) (tp 11 (tp 12 (tp 13 (tp 14 (tp 15 (tp 16 (tp 17 (tp 18 (ta 19 (B true) (dn (nrm (jn j0 ⟨g0,rfl⟩))))))))))))
    have j:=orF y c1;refine bn j fun m1 d1 j=>bn j fun a0 j2 j=>AC.takeb 10 y rfl (by kernel_rfl) (by kernel_rfl) (fun i f=>(by kernel_rfl)) (ta 11 (Qo d (0+2)) (tx 12 (fun i f=>l1 dX ((mm g) 2 _ rfl)) (ta 13 (I b) ?_)));obtain ⟨c3,k2,p2⟩:=Sl.at (z.mono (l9.trans (e1.trans (f1.trans g1)))) (ba d1);obtain ⟨p3,rfl,l2⟩:=k2;refine tx 14 (fun i f=>ix dX z.m d1) (ta 15 (Qo (sb (.slice R S T)) (so (.slice R S T)+b.toNat * 2)) (tx 16 (fun i f=>l1 fe ((mm p2) 0 _ rfl)) (o1 17 (gc 17 (jh g0 m1.Cells l2 j2) ?_))));rintro q3 k0 j3 ⟨u1,rfl⟩;have q2:Kp G0 [] k0:=Kp.nil0;refine ⟨.inr q2,ta 18 (B (!a0)) ?_⟩;obtain rfl:=si j;exact ta 19 (B (!a0)) (dn (nrm (jn k0 ⟨u1,rfl⟩)))
   rintro e_ w_ ⟨l0,f3,_,rfl,k3,rfl,h0,rfl⟩;refine nrm (cn H (fun m2 H=>?_) (fun m2 H=>?_))
   ·refine sr (va (B false) (wln (W.ret (bkr (thr ?_)))));obtain rfl:=si H;exact ⟨_,rfl,⟨rfl,jn l0 ⟨h0,rfl⟩⟩⟩
   refine W.skip (bkn (nrm (W.region (va (I b) (vv (I (w64 (b+1))) (WL.nil ?_))))));obtain rfl:=si H;exact ⟨_,rfl,jn l0 ⟨h0,rfl⟩⟩
  refine W.exit (thx ?_);obtain rfl:=si H;exact ⟨_,rfl,rfl,jn i0 ⟨f0,rfl⟩⟩
 ·exact jn n ⟨e0,rfl⟩
 rcases A with A | A
 ·intro c2; revert c2;rintro _ e_ w_ ⟨rfl,y1,g3,_,rfl,l3,rfl,w1,rfl⟩;refine bkr (thr ?_);obtain rfl:=si P;exact r1 (qq y1 ⟨w1,rfl⟩)
 rintro _ e_ w_ ⟨rfl,z1,h3,_,rfl,m3,rfl,h1,rfl⟩;refine bke (nrm (sr (va (B true) (wln (W.ret ?_)))));obtain rfl:=si P;exact r1 (qq z1 ⟨h1,rfl⟩)
def dL (p0:Int) (p1:Int):Option (ByteArray):=none
theorem ij (d:Own c0 G F) (a:Int) (b:Int) {r:ByteArray} (H:dL a b=some r):
    Calls prog 62 #[I a,I b] c0.w (aX c0 fun c v=>Own c G (F)∧v= .string r):=by
 unfold dL at H
 cases H
def aR (p0:Int) (p1:Int):Option (ByteArray):=
 if (decide (p0 < p1))=true then
 (dY (⟨#[48,49,50,51,52,53,54,55,56,57,97,98,99,100,101,102]⟩:ByteArray) p0 (w64 (p0+1))).bind fun a=>
 some a
 else
 (dvg p1).bind fun e=>
 (dvg p1).bind fun f=>
 (dvg p1).bind fun g=>
 (dY (⟨#[48,49,50,51,52,53,54,55,56,57,97,98,99,100,101,102]⟩:ByteArray) (p0.tmod p1) (w64 ((p0.tmod p1)+1))).bind fun b=>
 (dL (w64 (p0.tdiv p1)) p1).bind fun c=>
 (ek c b).bind fun d=>
 some d
theorem ii (m:Own c0 G F) (d:Int) (e:Int) {r:ByteArray} (H:aR d e=some r): Calls prog 62 #[I d,I e] c0.w (aX c0 fun c v=>Own c G (F)∧v= .string r):=by
 unfold aR at H;refine en func62 rfl rfl (sr (va (.string (⟨#[]⟩:ByteArray)) (wln (sr (va (.string (⟨#[48,49,50,51,52,53,54,55,56,57,97,98,99,100,101,102]⟩:ByteArray)) (wln (W.seq (sr (va (I d) (va (I e) (va (B (decide (d < e))) (wln (cn H (fun u H=>?_) (fun u H=>?_))))))))))))))
 ·refine sr (va (.string (⟨#[48,49,50,51,52,53,54,55,56,57,97,98,99,100,101,102]⟩:ByteArray)) (vv (I d) (va (I (w64 (d+1))) (bn H fun g x H=>vr (.string g) (rx (by kernel_rfl) (bU (k:= .i64) (k':= .i64) u_9 x _)) (va (.string g) (wln (W.ret (thr ?_))))))));obtain rfl:=si H;exact r1 (qq c0 ⟨m,rfl⟩)
 refine W.skip (nrm (W.seq (rD [] (Kp G0 []) m ?_)));intro t S s;have T:Kp G0 [] t:=Kp.nil0;refine ta 0 (I d) (ta 1 (I e) (bn H fun E y H=>AC.take 2 (I (w64 (d.tdiv e))) rfl (by kernel_rfl) (by kernel_rfl) (fun i f=>(fJ (a:=d) (b:=e) y (by kernel_rfl) _)) (ta 3 (I e) (ta 5 (.string (⟨#[48,49,50,51,52,53,54,55,56,57,97,98,99,100,101,102]⟩:ByteArray)) (ta 6 (I d) (ta 7 (I e) (bn H fun M z H=>AC.take 8 (I (d.tmod e)) rfl (by kernel_rfl) (by kernel_rfl) (fun i f=>(de (a:=d) (b:=e) z (by kernel_rfl) _)) (ta 9 (I d) (ta 10 (I e) (bn H fun N A H=>AC.take 11 (I (d.tmod e)) rfl (by kernel_rfl) (by kernel_rfl) (fun i f=>(de (a:=d) (b:=e) A (by kernel_rfl) _)) (ta 12 (I (w64 ((d.tmod e)+1))) (bn H fun l D H=>AC.take 13 (.string l) rfl (by kernel_rfl) (by kernel_rfl) (fun i f=>(rx (by kernel_rfl) (bU (k:= .i64) (k':= .i64) u_9 D _))) (bn H fun P o H=>o1 4 (gc 4 (ij s (w64 (d.tdiv e)) e o) ?_))))))))))))));rintro v16 j R ⟨n,rfl⟩;have q:Kp G0 [] j:=Kp.nil0;refine ⟨.inr q,bn H fun h p H=>AC.take 14 (.string h) rfl (by kernel_rfl) (by kernel_rfl) (fun i f=>(rx (by kernel_rfl) (bf p _))) (ta 15 (.string h) (dn (nrm (W.ret ?_))))⟩;obtain rfl:=si H;exact r1 (qq j ⟨n,rfl⟩)
def bt (p0:Int) (p1:Int):Option (ByteArray):=
 if (decide (p0 < p1))=true then
 (dY (⟨#[48,49,50,51,52,53,54,55,56,57,97,98,99,100,101,102]⟩:ByteArray) p0 (w64 (p0+1))).bind fun a=>
 some a
 else
 (dvg p1).bind fun e=>
 (dvg p1).bind fun f=>
 (dvg p1).bind fun g=>
 (dY (⟨#[48,49,50,51,52,53,54,55,56,57,97,98,99,100,101,102]⟩:ByteArray) (p0.tmod p1) (w64 ((p0.tmod p1)+1))).bind fun b=>
 (aR (w64 (p0.tdiv p1)) p1).bind fun c=>
 (ek c b).bind fun d=>
 some d
theorem ig (m:Own c0 G F) (d:Int) (e:Int) {r:ByteArray} (H:bt d e=some r): Calls prog 62 #[I d,I e] c0.w (aX c0 fun c v=>Own c G (F)∧v= .string r):=by
 unfold bt at H;refine en func62 rfl rfl (sr (va (.string (⟨#[]⟩:ByteArray)) (wln (sr (va (.string (⟨#[48,49,50,51,52,53,54,55,56,57,97,98,99,100,101,102]⟩:ByteArray)) (wln (W.seq (sr (va (I d) (va (I e) (va (B (decide (d < e))) (wln (cn H (fun u H=>?_) (fun u H=>?_))))))))))))))
 ·refine sr (va (.string (⟨#[48,49,50,51,52,53,54,55,56,57,97,98,99,100,101,102]⟩:ByteArray)) (vv (I d) (va (I (w64 (d+1))) (bn H fun g x H=>vr (.string g) (rx (by kernel_rfl) (bU (k:= .i64) (k':= .i64) u_9 x _)) (va (.string g) (wln (W.ret (thr ?_))))))));obtain rfl:=si H;exact r1 (qq c0 ⟨m,rfl⟩)
 refine W.skip (nrm (W.seq (rD [] (Kp G0 []) m ?_)));intro t S s;have T:Kp G0 [] t:=Kp.nil0;refine ta 0 (I d) (ta 1 (I e) (bn H fun E y H=>AC.take 2 (I (w64 (d.tdiv e))) rfl (by kernel_rfl) (by kernel_rfl) (fun i f=>(fJ (a:=d) (b:=e) y (by kernel_rfl) _)) (ta 3 (I e) (ta 5 (.string (⟨#[48,49,50,51,52,53,54,55,56,57,97,98,99,100,101,102]⟩:ByteArray)) (ta 6 (I d) (ta 7 (I e) (bn H fun M z H=>AC.take 8 (I (d.tmod e)) rfl (by kernel_rfl) (by kernel_rfl) (fun i f=>(de (a:=d) (b:=e) z (by kernel_rfl) _)) (ta 9 (I d) (ta 10 (I e) (bn H fun N A H=>AC.take 11 (I (d.tmod e)) rfl (by kernel_rfl) (by kernel_rfl) (fun i f=>(de (a:=d) (b:=e) A (by kernel_rfl) _)) (ta 12 (I (w64 ((d.tmod e)+1))) (bn H fun l D H=>AC.take 13 (.string l) rfl (by kernel_rfl) (by kernel_rfl) (fun i f=>(rx (by kernel_rfl) (bU (k:= .i64) (k':= .i64) u_9 D _))) (bn H fun P o H=>o1 4 (gc 4 (ii s (w64 (d.tdiv e)) e o) ?_))))))))))))));rintro v16 j R ⟨n,rfl⟩;have q:Kp G0 [] j:=Kp.nil0;refine ⟨.inr q,bn H fun h p H=>AC.take 14 (.string h) rfl (by kernel_rfl) (by kernel_rfl) (fun i f=>(rx (by kernel_rfl) (bf p _))) (ta 15 (.string h) (dn (nrm (W.ret ?_))))⟩;obtain rfl:=si H;exact r1 (qq j ⟨n,rfl⟩)
def br (p0:Int) (p1:Int):Option (ByteArray):=
 if (decide (p0 < p1))=true then
 (dY (⟨#[48,49,50,51,52,53,54,55,56,57,97,98,99,100,101,102]⟩:ByteArray) p0 (w64 (p0+1))).bind fun a=>
 some a
 else
 (dvg p1).bind fun e=>
 (dvg p1).bind fun f=>
 (dvg p1).bind fun g=>
 (dY (⟨#[48,49,50,51,52,53,54,55,56,57,97,98,99,100,101,102]⟩:ByteArray) (p0.tmod p1) (w64 ((p0.tmod p1)+1))).bind fun b=>
 (bt (w64 (p0.tdiv p1)) p1).bind fun c=>
 (ek c b).bind fun d=>
 some d
theorem ic (m:Own c0 G F) (d:Int) (e:Int) {r:ByteArray} (H:br d e=some r): Calls prog 62 #[I d,I e] c0.w (aX c0 fun c v=>Own c G (F)∧v= .string r):=by
 unfold br at H;refine en func62 rfl rfl (sr (va (.string (⟨#[]⟩:ByteArray)) (wln (sr (va (.string (⟨#[48,49,50,51,52,53,54,55,56,57,97,98,99,100,101,102]⟩:ByteArray)) (wln (W.seq (sr (va (I d) (va (I e) (va (B (decide (d < e))) (wln (cn H (fun u H=>?_) (fun u H=>?_))))))))))))))
 ·refine sr (va (.string (⟨#[48,49,50,51,52,53,54,55,56,57,97,98,99,100,101,102]⟩:ByteArray)) (vv (I d) (va (I (w64 (d+1))) (bn H fun g x H=>vr (.string g) (rx (by kernel_rfl) (bU (k:= .i64) (k':= .i64) u_9 x _)) (va (.string g) (wln (W.ret (thr ?_))))))));obtain rfl:=si H;exact r1 (qq c0 ⟨m,rfl⟩)
 refine W.skip (nrm (W.seq (rD [] (Kp G0 []) m ?_)));intro t S s;have T:Kp G0 [] t:=Kp.nil0;refine ta 0 (I d) (ta 1 (I e) (bn H fun E y H=>AC.take 2 (I (w64 (d.tdiv e))) rfl (by kernel_rfl) (by kernel_rfl) (fun i f=>(fJ (a:=d) (b:=e) y (by kernel_rfl) _)) (ta 3 (I e) (ta 5 (.string (⟨#[48,49,50,51,52,53,54,55,56,57,97,98,99,100,101,102]⟩:ByteArray)) (ta 6 (I d) (ta 7 (I e) (bn H fun M z H=>AC.take 8 (I (d.tmod e)) rfl (by kernel_rfl) (by kernel_rfl) (fun i f=>(de (a:=d) (b:=e) z (by kernel_rfl) _)) (ta 9 (I d) (ta 10 (I e) (bn H fun N A H=>AC.take 11 (I (d.tmod e)) rfl (by kernel_rfl) (by kernel_rfl) (fun i f=>(de (a:=d) (b:=e) A (by kernel_rfl) _)) (ta 12 (I (w64 ((d.tmod e)+1))) (bn H fun l D H=>AC.take 13 (.string l) rfl (by kernel_rfl) (by kernel_rfl) (fun i f=>(rx (by kernel_rfl) (bU (k:= .i64) (k':= .i64) u_9 D _))) (bn H fun P o H=>o1 4 (gc 4 (ig s (w64 (d.tdiv e)) e o) ?_))))))))))))));rintro v16 j R ⟨n,rfl⟩;have q:Kp G0 [] j:=Kp.nil0;refine ⟨.inr q,bn H fun h p H=>AC.take 14 (.string h) rfl (by kernel_rfl) (by kernel_rfl) (fun i f=>(rx (by kernel_rfl) (bf p _))) (ta 15 (.string h) (dn (nrm (W.ret ?_))))⟩;obtain rfl:=si H;exact r1 (qq j ⟨n,rfl⟩)
def bq (p0:Int) (p1:Int):Option (ByteArray):=
 if (decide (p0 < p1))=true then
 (dY (⟨#[48,49,50,51,52,53,54,55,56,57,97,98,99,100,101,102]⟩:ByteArray) p0 (w64 (p0+1))).bind fun a=>
 some a
 else
 (dvg p1).bind fun e=>
 (dvg p1).bind fun f=>
 (dvg p1).bind fun g=>
 (dY (⟨#[48,49,50,51,52,53,54,55,56,57,97,98,99,100,101,102]⟩:ByteArray) (p0.tmod p1) (w64 ((p0.tmod p1)+1))).bind fun b=>
 (br (w64 (p0.tdiv p1)) p1).bind fun c=>
 (ek c b).bind fun d=>
 some d
theorem ib (m:Own c0 G F) (d:Int) (e:Int) {r:ByteArray} (H:bq d e=some r): Calls prog 62 #[I d,I e] c0.w (aX c0 fun c v=>Own c G (F)∧v= .string r):=by
 unfold bq at H;refine en func62 rfl rfl (sr (va (.string (⟨#[]⟩:ByteArray)) (wln (sr (va (.string (⟨#[48,49,50,51,52,53,54,55,56,57,97,98,99,100,101,102]⟩:ByteArray)) (wln (W.seq (sr (va (I d) (va (I e) (va (B (decide (d < e))) (wln (cn H (fun u H=>?_) (fun u H=>?_))))))))))))))
 ·refine sr (va (.string (⟨#[48,49,50,51,52,53,54,55,56,57,97,98,99,100,101,102]⟩:ByteArray)) (vv (I d) (va (I (w64 (d+1))) (bn H fun g x H=>vr (.string g) (rx (by kernel_rfl) (bU (k:= .i64) (k':= .i64) u_9 x _)) (va (.string g) (wln (W.ret (thr ?_))))))));obtain rfl:=si H;exact r1 (qq c0 ⟨m,rfl⟩)
 refine W.skip (nrm (W.seq (rD [] (Kp G0 []) m ?_)));intro t S s;have T:Kp G0 [] t:=Kp.nil0;refine ta 0 (I d) (ta 1 (I e) (bn H fun E y H=>AC.take 2 (I (w64 (d.tdiv e))) rfl (by kernel_rfl) (by kernel_rfl) (fun i f=>(fJ (a:=d) (b:=e) y (by kernel_rfl) _)) (ta 3 (I e) (ta 5 (.string (⟨#[48,49,50,51,52,53,54,55,56,57,97,98,99,100,101,102]⟩:ByteArray)) (ta 6 (I d) (ta 7 (I e) (bn H fun M z H=>AC.take 8 (I (d.tmod e)) rfl (by kernel_rfl) (by kernel_rfl) (fun i f=>(de (a:=d) (b:=e) z (by kernel_rfl) _)) (ta 9 (I d) (ta 10 (I e) (bn H fun N A H=>AC.take 11 (I (d.tmod e)) rfl (by kernel_rfl) (by kernel_rfl) (fun i f=>(de (a:=d) (b:=e) A (by kernel_rfl) _)) (ta 12 (I (w64 ((d.tmod e)+1))) (bn H fun l D H=>AC.take 13 (.string l) rfl (by kernel_rfl) (by kernel_rfl) (fun i f=>(rx (by kernel_rfl) (bU (k:= .i64) (k':= .i64) u_9 D _))) (bn H fun P o H=>o1 4 (gc 4 (ic s (w64 (d.tdiv e)) e o) ?_))))))))))))));rintro v16 j R ⟨n,rfl⟩;have q:Kp G0 [] j:=Kp.nil0;refine ⟨.inr q,bn H fun h p H=>AC.take 14 (.string h) rfl (by kernel_rfl) (by kernel_rfl) (fun i f=>(rx (by kernel_rfl) (bf p _))) (ta 15 (.string h) (dn (nrm (W.ret ?_))))⟩;obtain rfl:=si H;exact r1 (qq j ⟨n,rfl⟩)
def bp (p0:Int) (p1:Int):Option (ByteArray):=
 if (decide (p0 < p1))=true then
 (dY (⟨#[48,49,50,51,52,53,54,55,56,57,97,98,99,100,101,102]⟩:ByteArray) p0 (w64 (p0+1))).bind fun a=>
 some a
 else
 (dvg p1).bind fun e=>
 (dvg p1).bind fun f=>
 (dvg p1).bind fun g=>
 (dY (⟨#[48,49,50,51,52,53,54,55,56,57,97,98,99,100,101,102]⟩:ByteArray) (p0.tmod p1) (w64 ((p0.tmod p1)+1))).bind fun b=>
 (bq (w64 (p0.tdiv p1)) p1).bind fun c=>
 (ek c b).bind fun d=>
 some d
theorem ia (m:Own c0 G F) (d:Int) (e:Int) {r:ByteArray} (H:bp d e=some r): Calls prog 62 #[I d,I e] c0.w (aX c0 fun c v=>Own c G (F)∧v= .string r):=by
 unfold bp at H;refine en func62 rfl rfl (sr (va (.string (⟨#[]⟩:ByteArray)) (wln (sr (va (.string (⟨#[48,49,50,51,52,53,54,55,56,57,97,98,99,100,101,102]⟩:ByteArray)) (wln (W.seq (sr (va (I d) (va (I e) (va (B (decide (d < e))) (wln (cn H (fun u H=>?_) (fun u H=>?_))))))))))))))
 ·refine sr (va (.string (⟨#[48,49,50,51,52,53,54,55,56,57,97,98,99,100,101,102]⟩:ByteArray)) (vv (I d) (va (I (w64 (d+1))) (bn H fun g x H=>vr (.string g) (rx (by kernel_rfl) (bU (k:= .i64) (k':= .i64) u_9 x _)) (va (.string g) (wln (W.ret (thr ?_))))))));obtain rfl:=si H;exact r1 (qq c0 ⟨m,rfl⟩)
 refine W.skip (nrm (W.seq (rD [] (Kp G0 []) m ?_)));intro t S s;have T:Kp G0 [] t:=Kp.nil0;refine ta 0 (I d) (ta 1 (I e) (bn H fun E y H=>AC.take 2 (I (w64 (d.tdiv e))) rfl (by kernel_rfl) (by kernel_rfl) (fun i f=>(fJ (a:=d) (b:=e) y (by kernel_rfl) _)) (ta 3 (I e) (ta 5 (.string (⟨#[48,49,50,51,52,53,54,55,56,57,97,98,99,100,101,102]⟩:ByteArray)) (ta 6 (I d) (ta 7 (I e) (bn H fun M z H=>AC.take 8 (I (d.tmod e)) rfl (by kernel_rfl) (by kernel_rfl) (fun i f=>(de (a:=d) (b:=e) z (by kernel_rfl) _)) (ta 9 (I d) (ta 10 (I e) (bn H fun N A H=>AC.take 11 (I (d.tmod e)) rfl (by kernel_rfl) (by kernel_rfl) (fun i f=>(de (a:=d) (b:=e) A (by kernel_rfl) _)) (ta 12 (I (w64 ((d.tmod e)+1))) (bn H fun l D H=>AC.take 13 (.string l) rfl (by kernel_rfl) (by kernel_rfl) (fun i f=>(rx (by kernel_rfl) (bU (k:= .i64) (k':= .i64) u_9 D _))) (bn H fun P o H=>o1 4 (gc 4 (ib s (w64 (d.tdiv e)) e o) ?_))))))))))))));rintro v16 j R ⟨n,rfl⟩;have q:Kp G0 [] j:=Kp.nil0;refine ⟨.inr q,bn H fun h p H=>AC.take 14 (.string h) rfl (by kernel_rfl) (by kernel_rfl) (fun i f=>(rx (by kernel_rfl) (bf p _))) (ta 15 (.string h) (dn (nrm (W.ret ?_))))⟩;obtain rfl:=si H;exact r1 (qq j ⟨n,rfl⟩)
def bm (p0:Int) (p1:Int):Option (ByteArray):=
 if (decide (p0 < p1))=true then
 (dY (⟨#[48,49,50,51,52,53,54,55,56,57,97,98,99,100,101,102]⟩:ByteArray) p0 (w64 (p0+1))).bind fun a=>
 some a
 else
 (dvg p1).bind fun e=>
 (dvg p1).bind fun f=>
 (dvg p1).bind fun g=>
 (dY (⟨#[48,49,50,51,52,53,54,55,56,57,97,98,99,100,101,102]⟩:ByteArray) (p0.tmod p1) (w64 ((p0.tmod p1)+1))).bind fun b=>
 (bp (w64 (p0.tdiv p1)) p1).bind fun c=>
 (ek c b).bind fun d=>
 some d
theorem hF (m:Own c0 G F) (d:Int) (e:Int) {r:ByteArray} (H:bm d e=some r): Calls prog 62 #[I d,I e] c0.w (aX c0 fun c v=>Own c G (F)∧v= .string r):=by
 unfold bm at H;refine en func62 rfl rfl (sr (va (.string (⟨#[]⟩:ByteArray)) (wln (sr (va (.string (⟨#[48,49,50,51,52,53,54,55,56,57,97,98,99,100,101,102]⟩:ByteArray)) (wln (W.seq (sr (va (I d) (va (I e) (va (B (decide (d < e))) (wln (cn H (fun u H=>?_) (fun u H=>?_))))))))))))))
 ·refine sr (va (.string (⟨#[48,49,50,51,52,53,54,55,56,57,97,98,99,100,101,102]⟩:ByteArray)) (vv (I d) (va (I (w64 (d+1))) (bn H fun g x H=>vr (.string g) (rx (by kernel_rfl) (bU (k:= .i64) (k':= .i64) u_9 x _)) (va (.string g) (wln (W.ret (thr ?_))))))));obtain rfl:=si H;exact r1 (qq c0 ⟨m,rfl⟩)
 refine W.skip (nrm (W.seq (rD [] (Kp G0 []) m ?_)));intro t S s;have T:Kp G0 [] t:=Kp.nil0;refine ta 0 (I d) (ta 1 (I e) (bn H fun E y H=>AC.take 2 (I (w64 (d.tdiv e))) rfl (by kernel_rfl) (by kernel_rfl) (fun i f=>(fJ (a:=d) (b:=e) y (by kernel_rfl) _)) (ta 3 (I e) (ta 5 (.string (⟨#[48,49,50,51,52,53,54,55,56,57,97,98,99,100,101,102]⟩:ByteArray)) (ta 6 (I d) (ta 7 (I e) (bn H fun M z H=>AC.take 8 (I (d.tmod e)) rfl (by kernel_rfl) (by kernel_rfl) (fun i f=>(de (a:=d) (b:=e) z (by kernel_rfl) _)) (ta 9 (I d) (ta 10 (I e) (bn H fun N A H=>AC.take 11 (I (d.tmod e)) rfl (by kernel_rfl) (by kernel_rfl) (fun i f=>(de (a:=d) (b:=e) A (by kernel_rfl) _)) (ta 12 (I (w64 ((d.tmod e)+1))) (bn H fun l D H=>AC.take 13 (.string l) rfl (by kernel_rfl) (by kernel_rfl) (fun i f=>(rx (by kernel_rfl) (bU (k:= .i64) (k':= .i64) u_9 D _))) (bn H fun P o H=>o1 4 (gc 4 (ia s (w64 (d.tdiv e)) e o) ?_))))))))))))));rintro v16 j R ⟨n,rfl⟩;have q:Kp G0 [] j:=Kp.nil0;refine ⟨.inr q,bn H fun h p H=>AC.take 14 (.string h) rfl (by kernel_rfl) (by kernel_rfl) (fun i f=>(rx (by kernel_rfl) (bf p _))) (ta 15 (.string h) (dn (nrm (W.ret ?_))))⟩;obtain rfl:=si H;exact r1 (qq j ⟨n,rfl⟩)
def bl (p0:Int) (p1:Int):Option (ByteArray):=
 if (decide (p0 < p1))=true then
 (dY (⟨#[48,49,50,51,52,53,54,55,56,57,97,98,99,100,101,102]⟩:ByteArray) p0 (w64 (p0+1))).bind fun a=>
 some a
 else
 (dvg p1).bind fun e=>
 (dvg p1).bind fun f=>
 (dvg p1).bind fun g=>
 (dY (⟨#[48,49,50,51,52,53,54,55,56,57,97,98,99,100,101,102]⟩:ByteArray) (p0.tmod p1) (w64 ((p0.tmod p1)+1))).bind fun b=>
 (bm (w64 (p0.tdiv p1)) p1).bind fun c=>
 (ek c b).bind fun d=>
 some d
theorem gZ (m:Own c0 G F) (d:Int) (e:Int) {r:ByteArray} (H:bl d e=some r): Calls prog 62 #[I d,I e] c0.w (aX c0 fun c v=>Own c G (F)∧v= .string r):=by
 unfold bl at H;refine en func62 rfl rfl (sr (va (.string (⟨#[]⟩:ByteArray)) (wln (sr (va (.string (⟨#[48,49,50,51,52,53,54,55,56,57,97,98,99,100,101,102]⟩:ByteArray)) (wln (W.seq (sr (va (I d) (va (I e) (va (B (decide (d < e))) (wln (cn H (fun u H=>?_) (fun u H=>?_))))))))))))))
 ·refine sr (va (.string (⟨#[48,49,50,51,52,53,54,55,56,57,97,98,99,100,101,102]⟩:ByteArray)) (vv (I d) (va (I (w64 (d+1))) (bn H fun g x H=>vr (.string g) (rx (by kernel_rfl) (bU (k:= .i64) (k':= .i64) u_9 x _)) (va (.string g) (wln (W.ret (thr ?_))))))));obtain rfl:=si H;exact r1 (qq c0 ⟨m,rfl⟩)
 refine W.skip (nrm (W.seq (rD [] (Kp G0 []) m ?_)));intro t S s;have T:Kp G0 [] t:=Kp.nil0;refine ta 0 (I d) (ta 1 (I e) (bn H fun E y H=>AC.take 2 (I (w64 (d.tdiv e))) rfl (by kernel_rfl) (by kernel_rfl) (fun i f=>(fJ (a:=d) (b:=e) y (by kernel_rfl) _)) (ta 3 (I e) (ta 5 (.string (⟨#[48,49,50,51,52,53,54,55,56,57,97,98,99,100,101,102]⟩:ByteArray)) (ta 6 (I d) (ta 7 (I e) (bn H fun M z H=>AC.take 8 (I (d.tmod e)) rfl (by kernel_rfl) (by kernel_rfl) (fun i f=>(de (a:=d) (b:=e) z (by kernel_rfl) _)) (ta 9 (I d) (ta 10 (I e) (bn H fun N A H=>AC.take 11 (I (d.tmod e)) rfl (by kernel_rfl) (by kernel_rfl) (fun i f=>(de (a:=d) (b:=e) A (by kernel_rfl) _)) (ta 12 (I (w64 ((d.tmod e)+1))) (bn H fun l D H=>AC.take 13 (.string l) rfl (by kernel_rfl) (by kernel_rfl) (fun i f=>(rx (by kernel_rfl) (bU (k:= .i64) (k':= .i64) u_9 D _))) (bn H fun P o H=>o1 4 (gc 4 (hF s (w64 (d.tdiv e)) e o) ?_))))))))))))));rintro v16 j R ⟨n,rfl⟩;have q:Kp G0 [] j:=Kp.nil0;refine ⟨.inr q,bn H fun h p H=>AC.take 14 (.string h) rfl (by kernel_rfl) (by kernel_rfl) (fun i f=>(rx (by kernel_rfl) (bf p _))) (ta 15 (.string h) (dn (nrm (W.ret ?_))))⟩;obtain rfl:=si H;exact r1 (qq j ⟨n,rfl⟩)
def bk (p0:Int) (p1:Int):Option (ByteArray):=
 if (decide (p0 < p1))=true then
 (dY (⟨#[48,49,50,51,52,53,54,55,56,57,97,98,99,100,101,102]⟩:ByteArray) p0 (w64 (p0+1))).bind fun a=>
 some a
 else
 (dvg p1).bind fun e=>
 (dvg p1).bind fun f=>
 (dvg p1).bind fun g=>
 (dY (⟨#[48,49,50,51,52,53,54,55,56,57,97,98,99,100,101,102]⟩:ByteArray) (p0.tmod p1) (w64 ((p0.tmod p1)+1))).bind fun b=>
 (bl (w64 (p0.tdiv p1)) p1).bind fun c=>
 (ek c b).bind fun d=>
 some d
theorem gY (m:Own c0 G F) (d:Int) (e:Int) {r:ByteArray} (H:bk d e=some r): Calls prog 62 #[I d,I e] c0.w (aX c0 fun c v=>Own c G (F)∧v= .string r):=by
 unfold bk at H;refine en func62 rfl rfl (sr (va (.string (⟨#[]⟩:ByteArray)) (wln (sr (va (.string (⟨#[48,49,50,51,52,53,54,55,56,57,97,98,99,100,101,102]⟩:ByteArray)) (wln (W.seq (sr (va (I d) (va (I e) (va (B (decide (d < e))) (wln (cn H (fun u H=>?_) (fun u H=>?_))))))))))))))
 ·refine sr (va (.string (⟨#[48,49,50,51,52,53,54,55,56,57,97,98,99,100,101,102]⟩:ByteArray)) (vv (I d) (va (I (w64 (d+1))) (bn H fun g x H=>vr (.string g) (rx (by kernel_rfl) (bU (k:= .i64) (k':= .i64) u_9 x _)) (va (.string g) (wln (W.ret (thr ?_))))))));obtain rfl:=si H;exact r1 (qq c0 ⟨m,rfl⟩)
 refine W.skip (nrm (W.seq (rD [] (Kp G0 []) m ?_)));intro t S s;have T:Kp G0 [] t:=Kp.nil0;refine ta 0 (I d) (ta 1 (I e) (bn H fun E y H=>AC.take 2 (I (w64 (d.tdiv e))) rfl (by kernel_rfl) (by kernel_rfl) (fun i f=>(fJ (a:=d) (b:=e) y (by kernel_rfl) _)) (ta 3 (I e) (ta 5 (.string (⟨#[48,49,50,51,52,53,54,55,56,57,97,98,99,100,101,102]⟩:ByteArray)) (ta 6 (I d) (ta 7 (I e) (bn H fun M z H=>AC.take 8 (I (d.tmod e)) rfl (by kernel_rfl) (by kernel_rfl) (fun i f=>(de (a:=d) (b:=e) z (by kernel_rfl) _)) (ta 9 (I d) (ta 10 (I e) (bn H fun N A H=>AC.take 11 (I (d.tmod e)) rfl (by kernel_rfl) (by kernel_rfl) (fun i f=>(de (a:=d) (b:=e) A (by kernel_rfl) _)) (ta 12 (I (w64 ((d.tmod e)+1))) (bn H fun l D H=>AC.take 13 (.string l) rfl (by kernel_rfl) (by kernel_rfl) (fun i f=>(rx (by kernel_rfl) (bU (k:= .i64) (k':= .i64) u_9 D _))) (bn H fun P o H=>o1 4 (gc 4 (gZ s (w64 (d.tdiv e)) e o) ?_))))))))))))));rintro v16 j R ⟨n,rfl⟩;have q:Kp G0 [] j:=Kp.nil0;refine ⟨.inr q,bn H fun h p H=>AC.take 14 (.string h) rfl (by kernel_rfl) (by kernel_rfl) (fun i f=>(rx (by kernel_rfl) (bf p _))) (ta 15 (.string h) (dn (nrm (W.ret ?_))))⟩;obtain rfl:=si H;exact r1 (qq j ⟨n,rfl⟩)
def bj (p0:Int) (p1:Int):Option (ByteArray):=
 if (decide (p0 < p1))=true then
 (dY (⟨#[48,49,50,51,52,53,54,55,56,57,97,98,99,100,101,102]⟩:ByteArray) p0 (w64 (p0+1))).bind fun a=>
 some a
 else
 (dvg p1).bind fun e=>
 (dvg p1).bind fun f=>
 (dvg p1).bind fun g=>
 (dY (⟨#[48,49,50,51,52,53,54,55,56,57,97,98,99,100,101,102]⟩:ByteArray) (p0.tmod p1) (w64 ((p0.tmod p1)+1))).bind fun b=>
 (bk (w64 (p0.tdiv p1)) p1).bind fun c=>
 (ek c b).bind fun d=>
 some d
theorem gX (m:Own c0 G F) (d:Int) (e:Int) {r:ByteArray} (H:bj d e=some r): Calls prog 62 #[I d,I e] c0.w (aX c0 fun c v=>Own c G (F)∧v= .string r):=by
 unfold bj at H;refine en func62 rfl rfl (sr (va (.string (⟨#[]⟩:ByteArray)) (wln (sr (va (.string (⟨#[48,49,50,51,52,53,54,55,56,57,97,98,99,100,101,102]⟩:ByteArray)) (wln (W.seq (sr (va (I d) (va (I e) (va (B (decide (d < e))) (wln (cn H (fun u H=>?_) (fun u H=>?_))))))))))))))
 ·refine sr (va (.string (⟨#[48,49,50,51,52,53,54,55,56,57,97,98,99,100,101,102]⟩:ByteArray)) (vv (I d) (va (I (w64 (d+1))) (bn H fun g x H=>vr (.string g) (rx (by kernel_rfl) (bU (k:= .i64) (k':= .i64) u_9 x _)) (va (.string g) (wln (W.ret (thr ?_))))))));obtain rfl:=si H;exact r1 (qq c0 ⟨m,rfl⟩)
 refine W.skip (nrm (W.seq (rD [] (Kp G0 []) m ?_)));intro t S s;have T:Kp G0 [] t:=Kp.nil0;refine ta 0 (I d) (ta 1 (I e) (bn H fun E y H=>AC.take 2 (I (w64 (d.tdiv e))) rfl (by kernel_rfl) (by kernel_rfl) (fun i f=>(fJ (a:=d) (b:=e) y (by kernel_rfl) _)) (ta 3 (I e) (ta 5 (.string (⟨#[48,49,50,51,52,53,54,55,56,57,97,98,99,100,101,102]⟩:ByteArray)) (ta 6 (I d) (ta 7 (I e) (bn H fun M z H=>AC.take 8 (I (d.tmod e)) rfl (by kernel_rfl) (by kernel_rfl) (fun i f=>(de (a:=d) (b:=e) z (by kernel_rfl) _)) (ta 9 (I d) (ta 10 (I e) (bn H fun N A H=>AC.take 11 (I (d.tmod e)) rfl (by kernel_rfl) (by kernel_rfl) (fun i f=>(de (a:=d) (b:=e) A (by kernel_rfl) _)) (ta 12 (I (w64 ((d.tmod e)+1))) (bn H fun l D H=>AC.take 13 (.string l) rfl (by kernel_rfl) (by kernel_rfl) (fun i f=>(rx (by kernel_rfl) (bU (k:= .i64) (k':= .i64) u_9 D _))) (bn H fun P o H=>o1 4 (gc 4 (gY s (w64 (d.tdiv e)) e o) ?_))))))))))))));rintro v16 j R ⟨n,rfl⟩;have q:Kp G0 [] j:=Kp.nil0;refine ⟨.inr q,bn H fun h p H=>AC.take 14 (.string h) rfl (by kernel_rfl) (by kernel_rfl) (fun i f=>(rx (by kernel_rfl) (bf p _))) (ta 15 (.string h) (dn (nrm (W.ret ?_))))⟩;obtain rfl:=si H;exact r1 (qq j ⟨n,rfl⟩)
def bb (p0:Int) (p1:Int):Option (ByteArray):=
 if (decide (p0 < p1))=true then
 (dY (⟨#[48,49,50,51,52,53,54,55,56,57,97,98,99,100,101,102]⟩:ByteArray) p0 (w64 (p0+1))).bind fun a=>
 some a
 else
 (dvg p1).bind fun e=>
 (dvg p1).bind fun f=>
 (dvg p1).bind fun g=>
 (dY (⟨#[48,49,50,51,52,53,54,55,56,57,97,98,99,100,101,102]⟩:ByteArray) (p0.tmod p1) (w64 ((p0.tmod p1)+1))).bind fun b=>
 (bj (w64 (p0.tdiv p1)) p1).bind fun c=>
 (ek c b).bind fun d=>
 some d
theorem cK (m:Own c0 G F) (d:Int) (e:Int) {r:ByteArray} (H:bb d e=some r): Calls prog 62 #[I d,I e] c0.w (aX c0 fun c v=>Own c G (F)∧v= .string r):=by
 unfold bb at H;refine en func62 rfl rfl (sr (va (.string (⟨#[]⟩:ByteArray)) (wln (sr (va (.string (⟨#[48,49,50,51,52,53,54,55,56,57,97,98,99,100,101,102]⟩:ByteArray)) (wln (W.seq (sr (va (I d) (va (I e) (va (B (decide (d < e))) (wln (cn H (fun u H=>?_) (fun u H=>?_))))))))))))))
 ·refine sr (va (.string (⟨#[48,49,50,51,52,53,54,55,56,57,97,98,99,100,101,102]⟩:ByteArray)) (vv (I d) (va (I (w64 (d+1))) (bn H fun g x H=>vr (.string g) (rx (by kernel_rfl) (bU (k:= .i64) (k':= .i64) u_9 x _)) (va (.string g) (wln (W.ret (thr ?_))))))));obtain rfl:=si H;exact r1 (qq c0 ⟨m,rfl⟩)
 refine W.skip (nrm (W.seq (rD [] (Kp G0 []) m ?_)));intro t S s;have T:Kp G0 [] t:=Kp.nil0;refine ta 0 (I d) (ta 1 (I e) (bn H fun E y H=>AC.take 2 (I (w64 (d.tdiv e))) rfl (by kernel_rfl) (by kernel_rfl) (fun i f=>(fJ (a:=d) (b:=e) y (by kernel_rfl) _)) (ta 3 (I e) (ta 5 (.string (⟨#[48,49,50,51,52,53,54,55,56,57,97,98,99,100,101,102]⟩:ByteArray)) (ta 6 (I d) (ta 7 (I e) (bn H fun M z H=>AC.take 8 (I (d.tmod e)) rfl (by kernel_rfl) (by kernel_rfl) (fun i f=>(de (a:=d) (b:=e) z (by kernel_rfl) _)) (ta 9 (I d) (ta 10 (I e) (bn H fun N A H=>AC.take 11 (I (d.tmod e)) rfl (by kernel_rfl) (by kernel_rfl) (fun i f=>(de (a:=d) (b:=e) A (by kernel_rfl) _)) (ta 12 (I (w64 ((d.tmod e)+1))) (bn H fun l D H=>AC.take 13 (.string l) rfl (by kernel_rfl) (by kernel_rfl) (fun i f=>(rx (by kernel_rfl) (bU (k:= .i64) (k':= .i64) u_9 D _))) (bn H fun P o H=>o1 4 (gc 4 (gX s (w64 (d.tdiv e)) e o) ?_))))))))))))));rintro v16 j R ⟨n,rfl⟩;have q:Kp G0 [] j:=Kp.nil0;refine ⟨.inr q,bn H fun h p H=>AC.take 14 (.string h) rfl (by kernel_rfl) (by kernel_rfl) (fun i f=>(rx (by kernel_rfl) (bf p _))) (ta 15 (.string h) (dn (nrm (W.ret ?_))))⟩;obtain rfl:=si H;exact r1 (qq j ⟨n,rfl⟩)
def dl (p0:ak):Option (ByteArray):=
 if (p0.Kind==0)=true then
 some (⟨#[46]⟩:ByteArray)
 else
 if (p0.Kind==3)=true then
 some (⟨#[61]⟩:ByteArray)
 else
 (ed (σ:=ByteArray×Int) (τ:=ByteArray) (((p0.Text.length:Int) - 0).toNat+1) (fun a=>
 if (decide (a.2 < (p0.Text.length:Int)))=true then
 (if (decide (a.2 > 0))=true then
 (ek a.1 (⟨#[43]⟩:ByteArray)).bind fun c=>
 some (c)
 else
 some (a.1)).bind fun h=>
 (idx p0.Text a.2).bind fun d=>
 (bb (w64 d) 16).bind fun e=>
 (ek h e).bind fun f=>
 some (.inl (f,(w64 (a.2+1))))
 else
 some (.inr (a.1))) ((⟨#[]⟩:ByteArray),0)).bind fun b=>
 if (p0.Kind==2)=true then
 (ek (⟨#[62]⟩:ByteArray) b).bind fun g=>
 some g
 else
 some b
theorem jA (O0:Own c0 G F) (h:ak) {r:ByteArray} (x:Sl (RI .i32) c0 v1 h.Text) (H:dl h=some r): Calls prog 63 #[.agg #[I h.Kind,v1]] c0.w (aX c0 fun c v=>Own c G (F)∧v= .string r):=by
 unfold dl at H;refine en func63 rfl rfl (sr ?_);obtain ⟨a3,a4,a5,rfl⟩:=(x).form;refine me (bx 94 [I h.Kind,.slice a3 a4 a5] O0) ?_;rintro v10 n l9 ⟨g,rfl,M,o⟩;refine va (.string (⟨#[]⟩:ByteArray)) (wln (W.seq (sr (va (Q g) (vx (l1 u_3 (o 0 _ rfl)) (va (B (h.Kind==0)) (wln (cn H (fun U H=>?_) (fun U H=>?_)))))))))
 ·refine sr (va (.string (⟨#[46]⟩:ByteArray)) (wln (W.ret (thr ?_))));obtain rfl:=si H;exact r1 (qq n ⟨M,rfl⟩)
 refine W.skip (nrm (W.seq (sr (va (Q g) (vx (l1 u_3 (o 0 _ rfl)) (va (B (h.Kind==3)) (wln (cn H (fun X H=>?_) (fun X H=>?_)))))))))
 ·refine sr (va (.string (⟨#[61]⟩:ByteArray)) (wln (W.ret (thr ?_))));obtain rfl:=si H;exact r1 (qq n ⟨M,rfl⟩)
 refine W.skip (nrm (sr (va (.string (⟨#[]⟩:ByteArray)) (wln (W.seq (sr (va (I 0) (wln (W.block (bn H fun i D b=>lp D (fun a=>Jn n fun c l=>Own c G (F)∧l= [(1,Q g),(3,.string a.1),(4,I a.2)]) (fun y ex e w=>ex= .exit 0∧(Jn n fun c l=>Own c G (F)∧l= [(1,Q g),(3,.string y)]) e w) ?_ ?_ ?_))))))))))
 ·clear b D;intro a d1 T m0 H;revert T m0;rintro S w_ ⟨j,y0,_,rfl,i0,rfl,k,rfl⟩;refine W.seq (sr (va (I a.2) (va (Qo g (0+1)) (vx (l1 eS ((mm o) 1 _ rfl)) (vx (ln 3 eS x.m) (va (B (decide (a.2 < (h.Text.length:Int)))) (wln (cn H (fun Z H=>?_) (fun Z H=>?_)))))))))
  ·refine W.skip (nrm (W.seq (W.block (bn H fun u d f=>W.seqJ (Jn j fun c l=>Own c G (F)∧l= [(1,Q g),(3,.string u),(4,I a.2)]) ?_ ?_))))
   ·refine sr (va (I a.2) (va (B (decide (a.2 > 0))) (wln (cn d (fun a0 d=>?_) (fun a0 d=>?_)))))
    ·refine W.region (va (.string a.1) (bn d fun p b0 d=>vr (.string p) (rx (by kernel_rfl) (bf b0 _)) (va (.string p) (wln ?_))));obtain rfl:=si d;exact jn j ⟨k,rfl⟩
    refine W.skip (nrm ?_);obtain rfl:=si d;exact jn j ⟨k,rfl⟩
   rintro S w_ ⟨x0,z0,_,rfl,j0,rfl,N,rfl⟩;refine W.region (va (.string u) (va (Qo g (0+1)) (vx (l1 eS ((mm o) 1 _ rfl)) (va (I a.2) (bn f fun q E f=>?_)))));obtain ⟨v0,d0,k0⟩:=Sl.at (x.mono (l9.trans (i0.trans j0))) (ba E);obtain rfl:=d0;refine vx (ix eS x.m E) (vx (l1 rd (k0 0 _ rfl)) (va (I (w64 q)) (bn f fun w0 e0 f=>cl (cK N (w64 q) 16 e0) ?_)));rintro v42 R b1 ⟨P,rfl⟩;refine bn f fun s f0 f=>vr (.string s) (rx (by kernel_rfl) (bf f0 _)) (va (.string s) (WL.nil (bkn (nrm (W.region (va (I a.2) (vv (I (w64 (a.2+1))) (WL.nil ?_))))))));obtain rfl:=si f;exact ⟨_,rfl,jn R ⟨P,rfl⟩⟩
  refine W.exit (thx ?_);obtain rfl:=si H;exact ⟨_,rfl,rfl,jn j ⟨k,rfl⟩⟩
 ·exact jn n ⟨M,rfl⟩
 rintro _ S w_ ⟨rfl,A,a1,_,rfl,c1,rfl,z,rfl⟩;refine bke (nrm (W.seq (sr (va (Q g) (vx (l1 u_3 ((mm o) 0 _ rfl)) (va (B (h.Kind==2)) (wln (cn b (fun g0 b=>?_) (fun g0 b=>?_)))))))))
 ·refine sr (va (.string i) (bn b fun t h0 b=>vr (.string t) (rx (by kernel_rfl) (bf h0 _)) (va (.string t) (wln (W.ret (thr ?_))))));obtain rfl:=si b;exact r1 (qq A ⟨z,rfl⟩)
 refine W.skip (nrm (sr (vv (.string i) (wln (W.ret ?_)))));obtain rfl:=si b;exact r1 (qq A ⟨z,rfl⟩)
def ce (p0:af):Option (ByteArray):=
 (bb p0.Wide 10).bind fun i=>
 (ek (⟨#[115,99,114,101,101,110,32]⟩:ByteArray) i).bind fun j=>
 (ek j (⟨#[32]⟩:ByteArray)).bind fun k=>
 (bb p0.High 10).bind fun l=>
 (ek k l).bind fun m=>
 (ek m (⟨#[10,97,116,32]⟩:ByteArray)).bind fun n=>
 (bb p0.At.Row 10).bind fun o=>
 (ek n o).bind fun p=>
 (ek p (⟨#[32]⟩:ByteArray)).bind fun q=>
 (bb p0.At.Col 10).bind fun r=>
 (ek q r).bind fun c=>
 (if p0.At.Pending=true then
 (ek c (⟨#[32,112,101,110,100,105,110,103]⟩:ByteArray)).bind fun s=>
 some (s)
 else
 some (c)).bind fun d=>
 (if p0.Auto=true then
 (ek d (⟨#[10,97,117,116,111,32,111,110,10]⟩:ByteArray)).bind fun t=>
 some (t)
 else
 (ek d (⟨#[10,97,117,116,111,32,111,102,102,10]⟩:ByteArray)).bind fun u=>
 some (u)).bind fun M=>
 (ed (σ:=ByteArray×Int) (τ:=ByteArray) (((p0.Lines.length:Int) - 0).toNat+1) (fun a=>
 if (decide (a.2 < (p0.Lines.length:Int)))=true then
 ((idx p0.Lines a.2).bind fun v=>
 if v.Wrap=true then
 (ek a.1 (⟨#[43]⟩:ByteArray)).bind fun w=>
 some (w)
 else
 (ek a.1 (⟨#[45]⟩:ByteArray)).bind fun x=>
 some (x)).bind fun N=>
 (idx p0.Lines a.2).bind fun e=>
 (ed (σ:=ByteArray×Int) (τ:=ByteArray) (((e.Cells.length:Int) - 0).toNat+1) (fun b=>
 (idx p0.Lines a.2).bind fun y=>
 if (decide (b.2 < (y.Cells.length:Int)))=true then
 (ek b.1 (⟨#[32]⟩:ByteArray)).bind fun z=>
 (idx p0.Lines a.2).bind fun A=>
 (idx A.Cells b.2).bind fun D=>
 (dl D).bind fun E=>
 (ek z E).bind fun H=>
 some (.inl (H,(w64 (b.2+1))))
 else
 some (.inr (b.1))) (N,0)).bind fun h=>
 (ek h (⟨#[10]⟩:ByteArray)).bind fun f=>
 some (.inl (f,(w64 (a.2+1))))
 else
 some (.inr (a.1))) (M,0)).bind fun g=>
 some g
theorem fm (O0:Own c0 G F) (g:af) {r:ByteArray} (s:Sl aJ c0 v1 g.Lines) (H:ce g=some r): Calls prog 29 #[.agg #[I g.Wide,I g.High,v1,I g.At.Row,I g.At.Col,B g.At.Pending,B g.Auto]] c0.w (aX c0 fun c v=>Own c G (F)∧v= .string r):=by
 unfold ce at H;refine en func29 rfl rfl (sr ?_);obtain ⟨t,u,x,rfl⟩:=(s).form;refine me (bx 49 [I g.Wide,I g.High,.slice t u x,I g.At.Row,I g.At.Col,B g.At.Pending,B g.Auto] O0) ?_;rintro v10 c9 l9 ⟨f,rfl,O7,p⟩;refine va (.string (⟨#[]⟩:ByteArray)) (wln (W.seq (rD [] (Kp G0 []) O7 ?_)));intro d3 g0 w2;have o5:Kp G0 [] d3:=Kp.nil0;refine ta 0 (Q f) (tx 1 (fun o i=>l1 u_3 ((mm p) 0 _ rfl)) (ta 5 (Qo f (0+1)) (tx 6 (fun o i=>l1 u_3 ((mm p) 1 _ rfl)) (ta 10 (Qo f (0+3)) (ta 11 (Qo f (0+3)) (tx 12 (fun o i=>l1 u_3 ((mm p) 3 _ rfl)) (ta 16 (Qo f (0+3)) (ta 17 (Qo f (0+4)) (tx 18 (fun o i=>l1 u_3 ((mm p) 4 _ rfl)) (bn H fun c5 h3 H=>o1 2 (gc 2 (cK w2 g.Wide 10 h3) ?_)))))))))));rintro v20 e3 h0 ⟨x2,rfl⟩;have f4:Kp G0 [] e3:=Kp.nil0;refine ⟨.inr f4,bn H fun j2 i3 H=>AC.take 3 (.string j2) rfl (by kernel_rfl) (by kernel_rfl) (fun o i=>(rx (by kernel_rfl) (bf i3 _))) (bn H fun k2 j3 H=>AC.take 4 (.string k2) rfl (by kernel_rfl) (by kernel_rfl) (fun o i=>(rx (by kernel_rfl) (bf j3 _))) (bn H fun d5 k3 H=>o1 7 (gc 7 (cK x2 g.High 10 k3) ?_)))⟩;rintro v30 f3 i0 ⟨y2,rfl⟩;have g4:Kp G0 [] f3:=Kp.nil0;refine ⟨.inr g4,bn H fun l2 l3 H=>AC.take 8 (.string l2) rfl (by kernel_rfl) (by kernel_rfl) (fun o i=>(rx (by kernel_rfl) (bf l3 _))) (bn H fun m2 m3 H=>AC.take 9 (.string m2) rfl (by kernel_rfl) (by kernel_rfl) (fun o i=>(rx (by kernel_rfl) (bf m3 _))) (bn H fun e5 n3 H=>o1 13 (gc 13 (cK y2 g.At.Row 10 n3) ?_)))⟩;rintro v40 g3 j0 ⟨z2,rfl⟩;have h4:Kp G0 [] g3:=Kp.nil0;refine ⟨.inr h4,bn H fun n2 o3 H=>AC.take 14 (.string n2) rfl (by kernel_rfl) (by kernel_rfl) (fun o i=>(rx (by kernel_rfl) (bf o3 _))) (bn H fun o2 p3 H=>AC.take 15 (.string o2) rfl (by kernel_rfl) (by kernel_rfl) (fun o i=>(rx (by kernel_rfl) (bf p3 _))) (bn H fun f5 q3 H=>o1 19 (gc 19 (cK z2 g.At.Col 10 q3) ?_)))⟩;rintro v50 A k0 ⟨c1,rfl⟩;have i4:Kp G0 [] A:=Kp.nil0;refine ⟨.inr i4,bn H fun y s3 H=>AC.take 20 (.string y) rfl (by kernel_rfl) (by kernel_rfl) (fun o i=>(rx (by kernel_rfl) (bf s3 _))) (ta 21 (.string y) (dn (nrm (bn H fun z k v2=>W.seqJ (Jn A fun c l=>Own c G (F)∧l= [(1,Q f),(3,.string z)]) ?_ ?_))))⟩
 ·refine sr (va (Qo f (0+3)) (va (Qo f (0+5)) (vx (l1 u_4 ((mm p) 5 _ rfl)) (wln (cn k (fun t3 k=>?_) (fun t3 k=>?_))))))
  ·refine W.region (va (.string y) (bn k fun t0 u3 k=>vr (.string t0) (rx (by kernel_rfl) (bf u3 _)) (va (.string t0) (wln ?_))));obtain rfl:=si k;exact jn A ⟨c1,rfl⟩
  refine W.skip (nrm ?_);obtain rfl:=si k;exact jn A ⟨c1,rfl⟩
 rintro M N ⟨S,j5,_,rfl,l0,rfl,d1,rfl⟩;refine bn v2 fun t2 j n=>W.seqJ (Jn S fun c l=>Own c G (F)∧l= [(1,Q f),(3,.string t2)]) ?_ ?_
 ·refine sr (va (Qo f (0+6)) (vx (l1 u_4 ((mm p) 6 _ rfl)) (wln (cn j (fun v3 j=>?_) (fun v3 j=>?_)))))
  ·refine W.region (va (.string z) (bn j fun u0 w3 j=>vr (.string u0) (rx (by kernel_rfl) (bf w3 _)) (va (.string u0) (wln ?_))));obtain rfl:=si j;exact jn S ⟨d1,rfl⟩
  refine W.region (va (.string z) (bn j fun v0 x3 j=>vr (.string v0) (rx (by kernel_rfl) (bf x3 _)) (va (.string v0) (wln ?_))));obtain rfl:=si j;exact jn S ⟨d1,rfl⟩
 rintro M N ⟨T,k5,_,rfl,m0,rfl,b3,rfl⟩;refine W.seq (sr (va (I 0) (wln (W.block (bn n fun q0 e1 b1=>lp e1 (fun a=>Jn T fun c l=>Own c G (F)∧l= [(1,Q f),(3,.string a.1),(4,I a.2)]) (fun z0 ex e w=>ex= .exit 0∧(Jn T fun c l=>Own c G (F)∧l= [(3,.string z0)]) e w) ?_ ?_ ?_)))))
 ·clear b1 e1;intro a j4 X s0 n;revert X s0;rintro M N ⟨D,l5,_,rfl,o0,rfl,R,rfl⟩;refine W.seq (sr (va (I a.2) (va (Qo f (0+2)) (vx (l1 dX ((mm p) 2 _ rfl)) (vx (ln 3 dX s.m) (va (B (decide (a.2 < (g.Lines.length:Int)))) (wln (cn n (fun y3 n=>?_) (fun y3 n=>?_)))))))))
  ·refine W.skip (nrm (W.seq (W.block (bn n fun u2 h b=>W.seqJ (Jn D fun c l=>Own c G (F)∧l= [(1,Q f),(3,.string u2),(4,I a.2)]) ?_ ?_))))
   ·refine sr (va (Qo f (0+2)) (vx (l1 dX ((mm p) 2 _ rfl)) (va (I a.2) (bn h fun g5 f1 h=>?_))));obtain ⟨w4,z3,e4⟩:=Sl.at (s.mono (l9.trans (g0.trans (h0.trans (i0.trans (j0.trans (k0.trans (l0.trans (m0.trans o0))))))))) (ba f1);obtain ⟨p5,rfl,n5⟩:=z3;refine vx (ix dX s.m f1) (va (Qo (sb (.slice t u x)) (so (.slice t u x)+a.2.toNat * 2+1)) (vx (l1 u_4 (e4 1 _ rfl)) (wln (cn h (fun b4 h=>?_) (fun b4 h=>?_)))))
    ·refine W.region (va (.string a.1) (bn h fun w0 c4 h=>vr (.string w0) (rx (by kernel_rfl) (bf c4 _)) (va (.string w0) (wln ?_))));obtain rfl:=si h;exact jn D ⟨R,rfl⟩
    refine W.region (va (.string a.1) (bn h fun x0 d4 h=>vr (.string x0) (rx (by kernel_rfl) (bf d4 _)) (va (.string x0) (wln ?_))));obtain rfl:=si h;exact jn D ⟨R,rfl⟩
   rintro M N ⟨U,m5,_,rfl,g1,rfl,c3,rfl⟩;refine W.seq (sr (va (I 0) (wln (W.block (bn b fun k4 _ b=>bn b fun i2 Z q=>lp Z (fun d=>Jn U fun c l=>Own c G (F)∧l= [(1,Q f),(3,.string d.1),(4,I a.2),(5,I d.2)]) (fun a1 ex e w=>ex= .exit 2∧(Jn U fun c l=>Own c G (F)∧l= [(1,Q f),(3,.string a1),(4,I a.2)]) e w) ?_ ?_ ?_)))))
   ·clear q Z;intro d j4 X s0 b;revert X s0;rintro M N ⟨k1,q4,_,rfl,f0,rfl,P,rfl⟩;refine W.seq (sr (va (I d.2) (va (Qo f (0+2)) (vx (l1 dX ((mm p) 2 _ rfl)) (va (I a.2) (bn b fun p2 a0 b=>?_))))));obtain ⟨l4,q1,e2⟩:=Sl.at (s.mono (l9.trans (g0.trans (h0.trans (i0.trans (j0.trans (k0.trans (l0.trans (m0.trans (o0.trans (g1.trans f0))))))))))) (ba a0);obtain ⟨x4,rfl,s1⟩:=q1;refine vx (ix dX s.m a0) (va (Qo (sb (.slice t u x)) (so (.slice t u x)+a.2.toNat * 2)) (vx (l1 fe (e2 0 _ rfl)) (vx (ln 3 fe s1) (va (B (decide (d.2 < (p2.Cells.length:Int)))) (wln (cn b (fun t1 b=>?_) (fun t1 b=>?_)))))))
    ·refine W.skip (nrm (W.seq (W.block (W.region (va (.string d.1) (bn b fun q2 u1 b=>vr (.string q2) (rx (by kernel_rfl) (bf u1 _)) (va (Qo f (0+2)) (vx (l1 dX ((mm p) 2 _ rfl)) (va (I a.2) (bn b fun h5 b0 b=>?_))))))))));obtain ⟨m4,w1,f2⟩:=Sl.at (s.mono (l9.trans (g0.trans (h0.trans (i0.trans (j0.trans (k0.trans (l0.trans (m0.trans (o0.trans (g1.trans f0))))))))))) (ba b0);obtain ⟨y4,rfl,d0⟩:=w1;refine vx (ix dX s.m b0) (va (Qo (sb (.slice t u x)) (so (.slice t u x)+a.2.toNat * 2)) (vx (l1 fe (f2 0 _ rfl)) (va (I d.2) (bn b fun s2 e0 b=>?_))));obtain ⟨n4,x1,g2⟩:=Sl.at d0 (ba e0);obtain ⟨z4,rfl,y1⟩:=x1;refine vx (ix fe d0 e0) (vx (lN 94 g2) (bn b fun i5 z1 b=>cl (jA P s2 y1 z1) ?_));rintro b5 m1 t4 ⟨h1,rfl⟩;refine bn b fun y0 b2 b=>vr (.string y0) (rx (by kernel_rfl) (bf b2 _)) (va (.string y0) (WL.nil (bkn (nrm (W.region (va (I d.2) (vv (I (w64 (d.2+1))) (WL.nil ?_))))))));obtain rfl:=si b;exact ⟨_,rfl,jn m1 ⟨h1,rfl⟩⟩
    refine W.exit (thx ?_);obtain rfl:=si b;exact ⟨_,rfl,rfl,jn k1 ⟨P,rfl⟩⟩
   ·exact jn U ⟨c3,rfl⟩
   rintro _ M N ⟨rfl,n1,r4,_,rfl,u4,rfl,i1,rfl⟩;refine bke (nrm (W.region (va (.string i2) (bn q fun E c2 q=>vr (.string E) (rx (by kernel_rfl) (bf c2 _)) (va (.string E) (WL.nil (bkn (nrm (W.region (va (I a.2) (vv (I (w64 (a.2+1))) (WL.nil ?_))))))))))));obtain rfl:=si q;exact ⟨_,rfl,jn n1 ⟨i1,rfl⟩⟩
  refine W.exit (thx ?_);obtain rfl:=si n;exact ⟨_,rfl,rfl,jn D ⟨R,rfl⟩⟩
 ·exact jn T ⟨b3,rfl⟩
 rintro _ M N ⟨rfl,p1,s4,_,rfl,v4,rfl,j1,rfl⟩;refine bke (nrm (sr (vv (.string q0) (wln (W.ret ?_)))));obtain rfl:=si b1;exact r1 (qq p1 ⟨j1,rfl⟩)
def cu (p0:af):Option (Bool):=
 (ed (σ:=Int×Int) (τ:=Int) (((p0.Lines.length:Int) - 0).toNat+1) (fun a=>
 (cj (decide (a.2 < (p0.Lines.length:Int))) (some (decide (a.1 < 3000)))).bind fun b=>
 if b=true then
 (idx p0.Lines a.2).bind fun d=>
 some (.inl ((w64 (a.1+(d.Cells.length:Int))),(w64 (a.2+1))))
 else
 some (.inr (a.1))) (0,0)).bind fun e=>
 (orE (decide (e≥3000)) (some (decide ((p0.Lines.length:Int) > 1100)))).bind fun c=>
 some c
theorem go (O0:Own c0 G F) (b:af) {r:Bool} (k:Sl aJ c0 v1 b.Lines) (H:cu b=some r): Calls prog 24 #[.agg #[I b.Wide,I b.High,v1,I b.At.Row,I b.At.Col,B b.At.Pending,B b.Auto]] c0.w (aX c0 fun c v=>Own c G (F)∧v=B r):=by
 unfold cu at H;refine en func24 rfl rfl (sr ?_);obtain ⟨A,D,E,rfl⟩:=(k).form;refine me (bx 49 [I b.Wide,I b.High,.slice A D E,I b.At.Row,I b.At.Col,B b.At.Pending,B b.Auto] O0) ?_;rintro v10 M l9 ⟨h,rfl,O7,S⟩;refine va (B false) (wln (sr (va (I 0) (wln (W.seq (sr (va (I 0) (wln (W.block (bn H fun n u d=>lp u (fun a=>Jn M fun c l=>Own c G (F)∧l= [(1,Q h),(3,I a.1),(4,I a.2)]) (fun T ex e w=>ex= .exit 0∧(Jn M fun c l=>Own c G (F)∧l= [(1,Q h),(3,I T)]) e w) ?_ ?_ ?_))))))))))
 ·clear d u;intro a y0 d0 k0 H;revert d0 k0;rintro R U ⟨i,s0,_,rfl,h0,rfl,p,rfl⟩;refine W.seq (W.seq (bn H fun N x H=>W.join (Jn i fun c l=>Own c G (F)∧l= [(1,Q h),(3,I a.1),(4,I a.2),(13,B N)]) ?_ ?_))
  ·clear H;refine W.region (va (I a.2) (va (Qo h (0+2)) (vx (l1 dX ((mm S) 2 _ rfl)) (vx (ln 3 dX k.m) (va (B (decide (a.2 < (b.Lines.length:Int)))) ?_)))));rcases bo (decide (a.2 < (b.Lines.length:Int))) with f | f
   ·have X:=anT f x;refine vb f (wa (I a.1) (wa (B (decide (a.1 < 3000))) ?_));obtain rfl:=si X;exact va (B (decide (a.1 < 3000))) (wln (jn i ⟨p,rfl⟩))
   obtain rfl:=anF f x;exact vb f (pz (va (B false) (wln (jn i ⟨p,rfl⟩))))
  rintro R U ⟨t,t0,_,rfl,i0,rfl,q,rfl⟩;refine nrm (cn H (fun e0 H=>?_) (fun e0 H=>?_))
  ·refine W.skip (nrm (W.seq (W.block (W.region (va (I a.1) (va (Qo h (0+2)) (vx (l1 dX ((mm S) 2 _ rfl)) (va (I a.2) (bn H fun o y H=>?_)))))))));obtain ⟨q0,f0,j0⟩:=Sl.at (k.mono (l9.trans (h0.trans i0))) (ba y);obtain ⟨v33,rfl,g0⟩:=f0;refine vx (ix dX k.m y) (va (Qo (sb (.slice A D E)) (so (.slice A D E)+a.2.toNat * 2)) (vx (l1 fe (j0 0 _ rfl)) (vx (ln 3 fe g0) (vv (I (w64 (a.1+(o.Cells.length:Int)))) (WL.nil (bkn (nrm (W.region (va (I a.2) (vv (I (w64 (a.2+1))) (WL.nil ?_)))))))))));obtain rfl:=si H;exact ⟨_,rfl,jn t ⟨q,rfl⟩⟩
  refine W.exit (thx ?_);obtain rfl:=si H;exact ⟨_,rfl,rfl,jn t ⟨q,rfl⟩⟩
 ·exact jn M ⟨O7,rfl⟩
 rintro _ R U ⟨rfl,j,u0,_,rfl,w0,rfl,s,rfl⟩;refine bke (nrm (W.seq (bn d fun P z d=>W.join (Jn j fun c l=>Own c G (F)∧l= [(2,B P)]) ?_ ?_)))
 ·clear d;refine W.region (va (I n) (va (B (decide (n≥3000))) ?_));rcases bo (decide (n≥3000)) with g | g
  ·obtain rfl:=orT g z;exact vb g (pz (pz (vv (B true) (wln (jn j ⟨s,rfl⟩)))))
  have Z:=orF g z;refine vb g (wa (Qo h (0+2)) (wn (vx (l1 dX ((mm S) 2 _ rfl)) (wn (vx (ln 3 dX k.m) (wa (B (decide ((b.Lines.length:Int) > 1100))) ?_))))));obtain rfl:=si Z;exact vv (B (decide ((b.Lines.length:Int) > 1100))) (wln (jn j ⟨s,rfl⟩))
 rintro R U ⟨b0,v0,_,rfl,x0,rfl,a0,rfl⟩;refine nrm (W.ret ?_);obtain rfl:=si d;exact r1 (qq b0 ⟨a0,rfl⟩)
def cJ (p0:List Int) (p1:List Int):Option (Bool):=
 if ((p0.length:Int) != (p1.length:Int))=true then
 some false
 else
 (ed (σ:=Int) (τ:=Bool ⊕ Unit) (((p0.length:Int) - 0).toNat+1) (fun b=>
 if (decide (b < (p0.length:Int)))=true then
 (idx p0 b).bind fun c=>
 (idx p1 b).bind fun d=>
 if (c != d)=true then
 some (.inr (.inl false))
 else
 some (.inl ((w64 (b+1))))
 else
 some (.inr (.inr ()))) (0)).bind fun a=>
 match a with
 | .inl a=>
 some a
 | .inr a=>
 some true
theorem jE (A:Own c0 G F) (h:List Int) (u:List Int) {r:Bool} (g:Sl (RI .i32) c0 v1 h) (s:Sl (RI .i32) c0 v3 u) (H:cJ h u=some r): Calls prog 117 #[v1,v3] c0.w (aX c0 fun c v=>Own c G (F)∧v=B r):=by
 unfold cJ at H;refine en func117 rfl rfl (sr (va (B false) (wln (W.seq (sr (va (v1) (vx (ln 3 eS g) (va (v3) (vx (ln 3 eS s) (va (B ((h.length:Int) != (u.length:Int))) (wln (cn H (fun h5 H=>?_) (fun h5 H=>?_)))))))))))))
 ·refine sr (va (B false) (wln (W.ret (thr ?_))));obtain rfl:=si H;exact r1 (qq c0 ⟨A,rfl⟩)
 refine W.skip (nrm (W.seq (sr (va (I 0) (wln (W.block (bn H fun b h6 p=>lp h6 (fun a=>Jn c0 fun c l=>Own c G (F)∧l= [(0,v1),(1,v3),(5,I a)]) (fun t=>match t with | .inl x=>(fun f0 ex e w=>ex= .ret∧(Jn c0 fun c l=>Own c G (F)∧l= [(4,B f0)]) e w) x | .inr x=>(fun i0 ex e w=>ex= .exit 0∧(Jn c0 fun c l=>Own c G (F)∧l= []) e w) x) ?_ ?_ ?_)))))))
 ·clear p h6;intro a v0 R h0 H;revert R h0;rintro P w_ ⟨c8,g9,_,rfl,l8,rfl,i,rfl⟩;refine W.seq (sr (va (I a) (va (v1) (vx (ln 3 eS g.m) (va (B (decide (a < (h.length:Int)))) (wln (cn H (fun T H=>?_) (fun T H=>?_))))))))
  ·refine W.skip (nrm (W.seq (W.block (W.seq (rD [] (Kp G0 []) i ?_)))));intro d o j;have u0:Kp G0 [] d:=Kp.nil0;refine ta 0 (v1) (ta 1 (I a) (bn H fun y k H=>?_));obtain ⟨l0,U,d0⟩:=Sl.at (g.mono (l8.trans o)) (ba k);obtain rfl:=U;refine tx 2 (fun q f=>ix eS g.m k) (tx 3 (fun q f=>l1 rd ((mm d0) 0 _ rfl)) (ta 4 (v3) (ta 5 (I a) (bn H fun z n H=>?_))));obtain ⟨m0,X,e0⟩:=Sl.at (s.mono (l8.trans o)) (ba n);obtain rfl:=X;refine tx 6 (fun q f=>ix eS s.m n) (tx 7 (fun q f=>l1 rd ((mm e0) 0 _ rfl)) (ta 8 (B (y != z)) (dn (nrm (cn H (fun Z H=>?_) (fun Z H=>?_))))))
   ·refine sr (va (B false) (wln (W.ret (bkr (thr ?_)))));obtain rfl:=si H;exact ⟨_,rfl,⟨rfl,jn d ⟨j,rfl⟩⟩⟩
   refine W.skip (bkn (nrm (W.region (va (I a) (vv (I (w64 (a+1))) (WL.nil ?_))))));obtain rfl:=si H;exact ⟨_,rfl,jn d ⟨j,rfl⟩⟩
  refine W.exit (thx ?_);obtain rfl:=si H;exact ⟨_,rfl,rfl,jn c8 ⟨i,rfl⟩⟩
 ·exact jn c0 ⟨A,rfl⟩
 rcases b with b | b
 ·intro S; revert S;rintro _ P w_ ⟨rfl,M,o0,_,rfl,s0,rfl,D,rfl⟩;refine bkr (thr ?_);obtain rfl:=si p;exact r1 (qq M ⟨D,rfl⟩)
 rintro _ P w_ ⟨rfl,N,q0,_,rfl,t0,rfl,E,rfl⟩;refine bke (nrm (sr (va (B true) (wln (W.ret ?_)))));obtain rfl:=si p;exact r1 (qq N ⟨E,rfl⟩)
def cI (p0:List ak) (p1:List ak):Option (Bool):=
 if ((p0.length:Int) != (p1.length:Int))=true then
 some false
 else
 (ed (σ:=Int) (τ:=Bool ⊕ Unit) (((p0.length:Int) - 0).toNat+1) (fun a=>
 if (decide (a < (p0.length:Int)))=true then
 (idx p0 a).bind fun d=>
 (idx p1 a).bind fun e=>
 (orE (d.Kind != e.Kind) ((idx p0 a).bind fun f=>
 (idx p1 a).bind fun g=>
 (cJ f.Text g.Text).bind fun h=>
 some (!h))).bind fun c=>
 if c=true then
 some (.inr (.inl false))
 else
 some (.inl ((w64 (a+1))))
 else
 some (.inr (.inr ()))) (0)).bind fun b=>
 match b with
 | .inl b=>
 some b
 | .inr b=>
 some true
theorem jD (O0:Own c0 G F) (s:List ak) (X:List ak) {r:Bool} (j:Sl bG c0 v1 s) (k:Sl bG c0 v3 X) (H:cI s X=some r): Calls prog 88 #[v1,v3] c0.w (aX c0 fun c v=>Own c G (F)∧v=B r):=by
 unfold cI at H;refine en func88 rfl rfl (sr (va (B false) (wln (W.seq (sr (va (v1) (vx (ln 3 fe j) (va (v3) (vx (ln 3 fe k) (va (B ((s.length:Int) != (X.length:Int))) (wln (cn H (fun h5 H=>?_) (fun h5 H=>?_)))))))))))))
 ·refine sr (va (B false) (wln (W.ret (thr ?_))));obtain rfl:=si H;exact r1 (qq c0 ⟨O0,rfl⟩)
 refine W.skip (nrm (W.seq (sr (va (I 0) (wln (W.block (bn H fun h h6 S=>lp h6 (fun a=>Jn c0 fun c l=>Own c G (F)∧l= [(0,v1),(1,v3),(5,I a)]) (fun t=>match t with | .inl x_=>(fun f1 ex e w=>ex= .ret∧(Jn c0 fun c l=>Own c G (F)∧l= [(4,B f1)]) e w) x_ | .inr x_=>(fun h1 ex e w=>ex= .exit 0∧(Jn c0 fun c l=>Own c G (F)∧l= []) e w) x_) ?_ ?_ ?_)))))))
 ·clear S h6;intro a d2 l0 g1 H;revert l0 g1;rintro U Z ⟨c8,g9,_,rfl,q,rfl,u,rfl⟩;refine W.seq (sr (va (I a) (va (v1) (vx (ln 3 fe j.m) (va (B (decide (a < (s.length:Int)))) (wln (cn H (fun o0 H=>?_) (fun o0 H=>?_))))))))
  ·refine W.skip (nrm (W.seq (W.block (W.seq (bn H fun n E H=>bn H fun o M H=>bn H fun T N H=>W.join (Jn c8 fun c l=>Own c G (F)∧l= [(0,v1),(1,v3),(5,I a),(41,B T)]) ?_ ?_)))))
   ·clear H;refine rD [] (Kp G0 []) u ?_;intro z i x;have c2:Kp G0 [] z:=Kp.nil0;refine ta 0 (v1) (ta 1 (I a) ?_);obtain ⟨j1,q0,a1⟩:=Sl.at (j.mono (q.trans i)) (ba E);obtain ⟨v24,rfl,u1⟩:=q0;refine tx 2 (fun f b=>ix fe j.m E) (ta 3 (Qo (sb v1) (so v1+a.toNat * 2)) (tx 4 (fun f b=>l1 u_3 ((mm a1) 0 _ rfl)) (ta 5 (v3) (ta 6 (I a) ?_))));obtain ⟨k1,s0,b1⟩:=Sl.at (k.mono (q.trans i)) (ba M);obtain ⟨v29,rfl,w1⟩:=s0;refine tx 7 (fun f b=>ix fe k.m M) (ta 8 (Qo (sb v3) (so v3+a.toNat * 2)) (tx 9 (fun f b=>l1 u_3 ((mm b1) 0 _ rfl)) (ta 10 (B (n.Kind != o.Kind)) ?_)));rcases bo (n.Kind != o.Kind) with g | g
    ·obtain rfl:=orT g N;exact AC.takeb 11 g rfl (by kernel_rfl) (by kernel_rfl) (fun f b=>(by kernel_rfl)) (tp 12 (tp 13 (tp 14 (tp 15 (tp 16 (tp 17 (tp 18 (tp 19 (tp 20 (tp 21 (tp 22 (tp 23 (ta 24 (B true) (dn (nrm (jn z ⟨x,rfl⟩))))))))))))))))
    have d:=orF g N;refine bn d fun b0 P d=>bn d fun d0 R d=>bn d fun p t0 d=>AC.takeb 11 g rfl (by kernel_rfl) (by kernel_rfl) (fun f b=>(by kernel_rfl)) (ta 12 (v1) (ta 13 (I a) ?_));obtain ⟨m1,u0,c1⟩:=Sl.at (j.mono (q.trans i)) (ba P);obtain ⟨v39,rfl,v0⟩:=u0;refine tx 14 (fun f b=>ix fe j.m P) (ta 15 (Qo (sb v1) (so v1+a.toNat * 2+1)) (tx 16 (fun f b=>l1 eS ((mm c1) 1 _ rfl)) (ta 17 (v3) (ta 18 (I a) ?_))));obtain ⟨n1,w0,d1⟩:=Sl.at (k.mono (q.trans i)) (ba R);obtain ⟨v44,rfl,x0⟩:=w0;refine tx 19 (fun f b=>ix fe k.m R) (ta 20 (Qo (sb v3) (so v3+a.toNat * 2+1)) (tx 21 (fun f b=>l1 eS ((mm d1) 1 _ rfl)) (o1 22 (gc 22 (jE x b0.Text d0.Text v0 x0 t0) ?_))));rintro v51 A x1 ⟨f0,rfl⟩;have e1:Kp G0 [] A:=Kp.nil0;refine ⟨.inr e1,ta 23 (B (!p)) ?_⟩;obtain rfl:=si d;exact ta 24 (B (!p)) (dn (nrm (jn A ⟨f0,rfl⟩)))
   rintro U Z ⟨D,q1,_,rfl,y1,rfl,y,rfl⟩;refine nrm (cn H (fun y0 H=>?_) (fun y0 H=>?_))
   ·refine sr (va (B false) (wln (W.ret (bkr (thr ?_)))));obtain rfl:=si H;exact ⟨_,rfl,⟨rfl,jn D ⟨y,rfl⟩⟩⟩
   refine W.skip (bkn (nrm (W.region (va (I a) (vv (I (w64 (a+1))) (WL.nil ?_))))));obtain rfl:=si H;exact ⟨_,rfl,jn D ⟨y,rfl⟩⟩
  refine W.exit (thx ?_);obtain rfl:=si H;exact ⟨_,rfl,rfl,jn c8 ⟨u,rfl⟩⟩
 ·exact jn c0 ⟨O0,rfl⟩
 rcases h with h | h
 ·intro m0; revert m0;rintro _ U Z ⟨rfl,i0,s1,_,rfl,z1,rfl,g0,rfl⟩;refine bkr (thr ?_);obtain rfl:=si S;exact r1 (qq i0 ⟨g0,rfl⟩)
 rintro _ U Z ⟨rfl,j0,t1,_,rfl,b2,rfl,h0,rfl⟩;refine bke (nrm (sr (va (B true) (wln (W.ret ?_)))));obtain rfl:=si S;exact r1 (qq j0 ⟨h0,rfl⟩)
def dp (p0:List ah) (p1:List ah):Option (Bool):=
 if ((p0.length:Int) != (p1.length:Int))=true then
 some false
 else
 (ed (σ:=Int) (τ:=Bool ⊕ Unit) (((p0.length:Int) - 0).toNat+1) (fun a=>
 if (decide (a < (p0.length:Int)))=true then
 (idx p0 a).bind fun d=>
 (idx p1 a).bind fun e=>
 (orE (!(d.Wrap==e.Wrap)) ((idx p0 a).bind fun f=>
 (idx p1 a).bind fun g=>
 (cI f.Cells g.Cells).bind fun h=>
 some (!h))).bind fun c=>
 if c=true then
 some (.inr (.inl false))
 else
 some (.inl ((w64 (a+1))))
 else
 some (.inr (.inr ()))) (0)).bind fun b=>
 match b with
 | .inl b=>
 some b
 | .inr b=>
 some true
theorem jC (O0:Own c0 G F) (s:List ah) (X:List ah) {r:Bool} (j:Sl aJ c0 v1 s) (k:Sl aJ c0 v3 X) (H:dp s X=some r): Calls prog 64 #[v1,v3] c0.w (aX c0 fun c v=>Own c G (F)∧v=B r):=by
 unfold dp at H;refine en func64 rfl rfl (sr (va (B false) (wln (W.seq (sr (va (v1) (vx (ln 3 dX j) (va (v3) (vx (ln 3 dX k) (va (B ((s.length:Int) != (X.length:Int))) (wln (cn H (fun h5 H=>?_) (fun h5 H=>?_)))))))))))))
 ·refine sr (va (B false) (wln (W.ret (thr ?_))));obtain rfl:=si H;exact r1 (qq c0 ⟨O0,rfl⟩)
 refine W.skip (nrm (W.seq (sr (va (I 0) (wln (W.block (bn H fun h h6 S=>lp h6 (fun a=>Jn c0 fun c l=>Own c G (F)∧l= [(0,v1),(1,v3),(5,I a)]) (fun t=>match t with | .inl x_=>(fun f1 ex e w=>ex= .ret∧(Jn c0 fun c l=>Own c G (F)∧l= [(4,B f1)]) e w) x_ | .inr x_=>(fun h1 ex e w=>ex= .exit 0∧(Jn c0 fun c l=>Own c G (F)∧l= []) e w) x_) ?_ ?_ ?_)))))))
 ·clear S h6;intro a d2 l0 g1 H;revert l0 g1;rintro U Z ⟨c8,g9,_,rfl,q,rfl,u,rfl⟩;refine W.seq (sr (va (I a) (va (v1) (vx (ln 3 dX j.m) (va (B (decide (a < (s.length:Int)))) (wln (cn H (fun o0 H=>?_) (fun o0 H=>?_))))))))
  ·refine W.skip (nrm (W.seq (W.block (W.seq (bn H fun n E H=>bn H fun o M H=>bn H fun T N H=>W.join (Jn c8 fun c l=>Own c G (F)∧l= [(0,v1),(1,v3),(5,I a),(41,B T)]) ?_ ?_)))))
   ·clear H;refine rD [] (Kp G0 []) u ?_;intro z i x;have c2:Kp G0 [] z:=Kp.nil0;refine ta 0 (v1) (ta 1 (I a) ?_);obtain ⟨j1,q0,a1⟩:=Sl.at (j.mono (q.trans i)) (ba E);obtain ⟨v24,rfl,u1⟩:=q0;refine tx 2 (fun f b=>ix dX j.m E) (ta 3 (Qo (sb v1) (so v1+a.toNat * 2+1)) (tx 4 (fun f b=>l1 u_4 ((mm a1) 1 _ rfl)) (ta 5 (v3) (ta 6 (I a) ?_))));obtain ⟨k1,s0,b1⟩:=Sl.at (k.mono (q.trans i)) (ba M);obtain ⟨v29,rfl,w1⟩:=s0;refine tx 7 (fun f b=>ix dX k.m M) (ta 8 (Qo (sb v3) (so v3+a.toNat * 2+1)) (tx 9 (fun f b=>l1 u_4 ((mm b1) 1 _ rfl)) (ta 10 (B (!(n.Wrap==o.Wrap))) ?_)));rcases bo (!(n.Wrap==o.Wrap)) with g | g
    ·obtain rfl:=orT g N;exact AC.takeb 11 g rfl (by kernel_rfl) (by kernel_rfl) (fun f b=>(by kernel_rfl)) (tp 12 (tp 13 (tp 14 (tp 15 (tp 16 (tp 17 (tp 18 (tp 19 (tp 20 (tp 21 (tp 22 (tp 23 (ta 24 (B true) (dn (nrm (jn z ⟨x,rfl⟩))))))))))))))))
    have d:=orF g N;refine bn d fun b0 P d=>bn d fun d0 R d=>bn d fun p t0 d=>AC.takeb 11 g rfl (by kernel_rfl) (by kernel_rfl) (fun f b=>(by kernel_rfl)) (ta 12 (v1) (ta 13 (I a) ?_));obtain ⟨m1,u0,c1⟩:=Sl.at (j.mono (q.trans i)) (ba P);obtain ⟨v39,rfl,v0⟩:=u0;refine tx 14 (fun f b=>ix dX j.m P) (ta 15 (Qo (sb v1) (so v1+a.toNat * 2)) (tx 16 (fun f b=>l1 fe ((mm c1) 0 _ rfl)) (ta 17 (v3) (ta 18 (I a) ?_))));obtain ⟨n1,w0,d1⟩:=Sl.at (k.mono (q.trans i)) (ba R);obtain ⟨v44,rfl,x0⟩:=w0;refine tx 19 (fun f b=>ix dX k.m R) (ta 20 (Qo (sb v3) (so v3+a.toNat * 2)) (tx 21 (fun f b=>l1 fe ((mm d1) 0 _ rfl)) (o1 22 (gc 22 (jD x b0.Cells d0.Cells v0 x0 t0) ?_))));rintro v51 A x1 ⟨f0,rfl⟩;have e1:Kp G0 [] A:=Kp.nil0;refine ⟨.inr e1,ta 23 (B (!p)) ?_⟩;obtain rfl:=si d;exact ta 24 (B (!p)) (dn (nrm (jn A ⟨f0,rfl⟩)))
   rintro U Z ⟨D,q1,_,rfl,y1,rfl,y,rfl⟩;refine nrm (cn H (fun y0 H=>?_) (fun y0 H=>?_))
   ·refine sr (va (B false) (wln (W.ret (bkr (thr ?_)))));obtain rfl:=si H;exact ⟨_,rfl,⟨rfl,jn D ⟨y,rfl⟩⟩⟩
   refine W.skip (bkn (nrm (W.region (va (I a) (vv (I (w64 (a+1))) (WL.nil ?_))))));obtain rfl:=si H;exact ⟨_,rfl,jn D ⟨y,rfl⟩⟩
  refine W.exit (thx ?_);obtain rfl:=si H;exact ⟨_,rfl,rfl,jn c8 ⟨u,rfl⟩⟩
 ·exact jn c0 ⟨O0,rfl⟩
 rcases h with h | h
 ·intro m0; revert m0;rintro _ U Z ⟨rfl,i0,s1,_,rfl,z1,rfl,g0,rfl⟩;refine bkr (thr ?_);obtain rfl:=si S;exact r1 (qq i0 ⟨g0,rfl⟩)
 rintro _ U Z ⟨rfl,j0,t1,_,rfl,b2,rfl,h0,rfl⟩;refine bke (nrm (sr (va (B true) (wln (W.ret ?_)))));obtain rfl:=si S;exact r1 (qq j0 ⟨h0,rfl⟩)
def dm (p0:af) (p1:af):Option (Bool):=
 (cj (p0.Wide==p1.Wide) (some (p0.High==p1.High))).bind fun a=>
 (cj a (some (p0.At.Row==p1.At.Row && (p0.At.Col==p1.At.Col && (p0.At.Pending==p1.At.Pending && true))))).bind fun b=>
 (cj b (some (p0.Auto==p1.Auto))).bind fun c=>
 (cj c ((dp p0.Lines p1.Lines).bind fun e=>
 some e)).bind fun d=>
 some d
theorem jB (O0:Own c0 G F) (a:af) (b:af) {r:Bool} (h2:Sl aJ c0 v1 a.Lines) (h4:Sl aJ c0 v3 b.Lines) (H:dm a b=some r): Calls prog 30 #[.agg #[I a.Wide,I a.High,v1,I a.At.Row,I a.At.Col,B a.At.Pending,B a.Auto],.agg #[I b.Wide,I b.High,v3,I b.At.Row,I b.At.Col,B b.At.Pending,B b.Auto]] c0.w (aX c0 fun c v=>Own c G (F)∧v=B r):=by
 unfold dm at H;refine en func30 rfl rfl (sr ?_);obtain ⟨a5,a6,a7,rfl⟩:=(h2).form;refine me (bx 49 [I a.Wide,I a.High,.slice a5 a6 a7,I a.At.Row,I a.At.Col,B a.At.Pending,B a.Auto] O0) ?_;rintro v12 v0 j0 ⟨t,rfl,O9,o⟩;obtain ⟨a0,b0,d0,rfl⟩:=((h4.mono j0)).form;refine me (bx 49 [I b.Wide,I b.High,.slice a0 b0 d0,I b.At.Row,I b.At.Col,B b.At.Pending,B b.Auto] O9) ?_;rintro v20 f x0 ⟨e,rfl,d,p⟩;refine va (B false) (wln (W.seq (bn H fun s0 y H=>bn H fun t0 u H=>bn H fun u0 q H=>bn H fun P g H=>W.join (Jn f fun c l=>Own c G (F)∧l= [(4,B P)]) ?_ ?_)))
 ·clear H;refine W.region (va (Q t) (vx (l1 u_3 ((mm o) 0 _ rfl)) (va (Q e) (vx (l1 u_3 (p 0 _ rfl)) (va (B (a.Wide==b.Wide)) ?_)))));rcases bo (a.Wide==b.Wide) with h | h
  ·have R:=anT h y;refine vb h (wa (Qo t (0+1)) (wn (vx (l1 u_3 ((mm o) 1 _ rfl)) (wa (Qo e (0+1)) (wn (vx (l1 u_3 (p 1 _ rfl)) (wa (B (a.High==b.High)) ?_)))))));obtain rfl:=si R;refine va (B (a.High==b.High)) ?_;rcases bo (a.High==b.High) with i | i
   ·have S:=anT i u;refine vb i (wa (Qo t (0+3)) (wn (vx (lN 47 (qQ (k:=3) (l:=[I a.At.Row,I a.At.Col,B a.At.Pending]) (mm o) rfl)) (wa (Qo e (0+3)) (wn (vx (lN 47 (qQ (k:=3) (l:=[I b.At.Row,I b.At.Col,B b.At.Pending]) p rfl)) (wn (vr (B (a.At.Row==b.At.Row && (a.At.Col==b.At.Col && (a.At.Pending==b.At.Pending && true)))) (pe (T:=47) (xs:= #[I a.At.Row,I a.At.Col,B a.At.Pending]) (ys:= #[I b.At.Row,I b.At.Col,B b.At.Pending]) (r:=(a.At.Row==b.At.Row && (a.At.Col==b.At.Col && (a.At.Pending==b.At.Pending && true)))) underlying47 (by kernel_rfl) (by kernel_rfl) (EqP.int (by kernel_rfl) u_3 rfl rfl (EqP.int (by kernel_rfl) u_3 rfl rfl (EqP.bool (by kernel_rfl) u_4 rfl rfl EqP.nil))) (by kernel_rfl) _) ?_))))))));obtain rfl:=si S;refine va (B (a.At.Row==b.At.Row && (a.At.Col==b.At.Col && (a.At.Pending==b.At.Pending && true)))) ?_;rcases bo ((a.At.Row==b.At.Row && (a.At.Col==b.At.Col && (a.At.Pending==b.At.Pending && true)))) with j | j
    ·have U:=anT j q;refine vb j (wa (Qo t (0+6)) (wn (vx (l1 u_4 ((mm o) 6 _ rfl)) (wa (Qo e (0+6)) (wn (vx (l1 u_4 (p 6 _ rfl)) (wa (B (a.Auto==b.Auto)) ?_)))))));obtain rfl:=si U;refine va (B (a.Auto==b.Auto)) ?_;rcases bo (a.Auto==b.Auto) with n | n
     ·have s:=anT n g;refine vb n (wa (Qo t (0+2)) (wn (vx (l1 dX ((mm o) 2 _ rfl)) (wa (Qo e (0+2)) (wn (vx (l1 dX (p 2 _ rfl)) (wn (bn s fun x h0 s=>cl (jC d a.Lines b.Lines h2.m h4.m h0) ?_))))))));rintro v39 e0 y0 ⟨X,rfl⟩;obtain rfl:=si s;exact vv (B x) (wln (jn e0 ⟨X,rfl⟩))
     obtain rfl:=anF n g;exact vb n (pz (pz (ps (vv (B false) (wln (jn f ⟨d,rfl⟩))))))
    obtain rfl:=anF j q;refine vb j (pz (pz (ps (va (B false) ?_))));have z:false=false:=rfl;obtain rfl:=anF z g;exact vb z (pz (pz (ps (vv (B false) (wln (jn f ⟨d,rfl⟩))))))
   obtain rfl:=anF i u;refine vb i (pz (pz (ps (va (B false) ?_))));have A:false=false:=rfl;obtain rfl:=anF A q;refine vb A (pz (pz (ps (va (B false) ?_))));have D:false=false:=rfl;obtain rfl:=anF D g;exact vb D (pz (pz (ps (vv (B false) (wln (jn f ⟨d,rfl⟩))))))
  obtain rfl:=anF h y;refine vb h (pz (pz (ps (va (B false) ?_))));have E:false=false:=rfl;obtain rfl:=anF E u;refine vb E (pz (pz (ps (va (B false) ?_))));have M:false=false:=rfl;obtain rfl:=anF M q;refine vb M (pz (pz (ps (va (B false) ?_))));have N:false=false:=rfl;obtain rfl:=anF N g;exact vb N (pz (pz (ps (vv (B false) (wln (jn f ⟨d,rfl⟩))))))
 rintro e_ w_ ⟨f0,w0,_,rfl,z0,rfl,Z,rfl⟩;refine nrm (W.ret ?_);obtain rfl:=si H;exact r1 (qq f0 ⟨Z,rfl⟩)
def gv (p0:Er):Option (Int):=
 if p0.isNil=true then
 some 0
 else
 (eh p0 (Er.sent 2)).bind fun a=>
 if a=true then
 some 1
 else
 (eh p0 (Er.sent 1)).bind fun b=>
 if b=true then
 some 2
 else
 (eh p0 (Er.sent 3)).bind fun c=>
 if c=true then
 some 3
 else
 (eh p0 (Er.sent 0)).bind fun d=>
 if d=true then
 some 4
 else
 (eh p0 (Er.sent 4)).bind fun e=>
 if e=true then
 some 5
 else
 (eh p0 (Er.sent 5)).bind fun f=>
 if f=true then
 some 6
 else
 (eh p0 (Er.sent 6)).bind fun g=>
 if g=true then
 some 7
 else
 (eh p0 (Er.sent 7)).bind fun h=>
 if h=true then
 some 8
 else
 some 9
theorem np (O0:Own c0 G F) (hG:Gl [0,1,2,3,4,5,6,7] c0) (a:Er) {r:Int} (e:RE 230 87 c0 v1 a) (H:gv a=some r): Calls prog 21 #[v1] c0.w (aX c0 fun c v=>Own c G (F)∧v=I r):=by
 unfold gv at H;refine en func21 rfl rfl (sr (va (I 0) (wln (W.seq (W.block (sr (va (v1) (vr (B a.isNil) (by rcases (e).cs with ⟨h,i⟩ | ⟨b_,h,i⟩ | ⟨b_,h,i⟩ <;> (subst h; rw [i]; kernel_rfl)) (va (B a.isNil) (wln (cn H (fun h3 H=>?_) (fun h3 H=>?_))))))))))))
 ·refine sr (va (I 0) (wln (W.ret (bkr (thr ?_)))));obtain rfl:=si H;exact r1 (qq c0 ⟨O0,rfl⟩)
 refine sr (va (v1) ?_);obtain ⟨v4,h5⟩:=hG.get 2 (by decide);refine vx (l1 jV h5.im) (bn H fun N h6 H=>cl (eI O0 (hG.le (by decide)) a (Er.sent 2) e h5 h6) ?_);rintro v12 d0 b ⟨O8,rfl⟩;refine va (B N) (wln (cn H (fun k0 H=>?_) (fun k0 H=>?_)))
 ·refine sr (va (I 1) (wln (W.ret (bkr (thr ?_)))));obtain rfl:=si H;exact r1 (qq d0 ⟨O8,rfl⟩)
 refine sr (va (v1) ?_);obtain ⟨v14,u⟩:=(hG.mono b).get 1 (by decide);refine vx (l1 jV u.im) (bn H fun P l0 H=>cl (eI O8 (hG.m.le (by decide)) a (Er.sent 1) e.m u l0) ?_);rintro v22 e0 d ⟨k,rfl⟩;refine va (B P) (wln (cn H (fun m0 H=>?_) (fun m0 H=>?_)))
 ·refine sr (va (I 2) (wln (W.ret (bkr (thr ?_)))));obtain rfl:=si H;exact r1 (qq e0 ⟨k,rfl⟩)
 refine sr (va (v1) ?_);obtain ⟨v24,x⟩:=(hG.mono (b.trans d)).get 3 (by decide);refine vx (l1 jV x.im) (bn H fun R o0 H=>cl (eI k (hG.m.le (by decide)) a (Er.sent 3) e.m x o0) ?_);rintro v32 f0 f ⟨l,rfl⟩;refine va (B R) (wln (cn H (fun q0 H=>?_) (fun q0 H=>?_)))
 ·refine sr (va (I 3) (wln (W.ret (bkr (thr ?_)))));obtain rfl:=si H;exact r1 (qq f0 ⟨l,rfl⟩)
 refine sr (va (v1) ?_);obtain ⟨v34,y⟩:=(hG.mono (b.trans (d.trans f))).get 0 (by decide);refine vx (l1 jV y.im) (bn H fun S s0 H=>cl (eI l (hG.m.le (by decide)) a (Er.sent 0) e.m y s0) ?_);rintro v42 g0 g ⟨n,rfl⟩;refine va (B S) (wln (cn H (fun t0 H=>?_) (fun t0 H=>?_)))
 ·refine sr (va (I 4) (wln (W.ret (bkr (thr ?_)))));obtain rfl:=si H;exact r1 (qq g0 ⟨n,rfl⟩)
 refine sr (va (v1) ?_);obtain ⟨v44,z⟩:=(hG.mono (b.trans (d.trans (f.trans g)))).get 4 (by decide);refine vx (l1 jV z.im) (bn H fun T u0 H=>cl (eI n (hG.m.le (by decide)) a (Er.sent 4) e.m z u0) ?_);rintro v52 h0 j ⟨o,rfl⟩;refine va (B T) (wln (cn H (fun w0 H=>?_) (fun w0 H=>?_)))
 ·refine sr (va (I 5) (wln (W.ret (bkr (thr ?_)))));obtain rfl:=si H;exact r1 (qq h0 ⟨o,rfl⟩)
 refine sr (va (v1) ?_);obtain ⟨v54,A⟩:=(hG.mono (b.trans (d.trans (f.trans (g.trans j))))).get 5 (by decide);refine vx (l1 jV A.im) (bn H fun U x0 H=>cl (eI o (hG.m.le (by decide)) a (Er.sent 5) e.m A x0) ?_);rintro i1 i0 M ⟨p,rfl⟩;refine va (B U) (wln (cn H (fun y0 H=>?_) (fun y0 H=>?_)))
 ·refine sr (va (I 6) (wln (W.ret (bkr (thr ?_)))));obtain rfl:=si H;exact r1 (qq i0 ⟨p,rfl⟩)
 refine sr (va (v1) ?_);obtain ⟨j1,D⟩:=(hG.mono (b.trans (d.trans (f.trans (g.trans (j.trans M)))))).get 6 (by decide);refine vx (l1 jV D.im) (bn H fun X z0 H=>cl (eI p (hG.m.le (by decide)) a (Er.sent 6) e.m D z0) ?_);rintro k1 j0 d1 ⟨q,rfl⟩;refine va (B X) (wln (cn H (fun a1 H=>?_) (fun a1 H=>?_)))
 ·refine sr (va (I 7) (wln (W.ret (bkr (thr ?_)))));obtain rfl:=si H;exact r1 (qq j0 ⟨q,rfl⟩)
 refine sr (va (v1) ?_);obtain ⟨m1,E⟩:=(hG.mono (b.trans (d.trans (f.trans (g.trans (j.trans (M.trans d1))))))).get 7 (by decide);refine vx (l1 jV E.im) (bn H fun Z b1 H=>cl (eI q (hG.m.le (by decide)) a (Er.sent 7) e.m E b1) ?_);rintro n1 t h1 ⟨s,rfl⟩;refine va (B Z) (wln (cn H (fun c1 H=>?_) (fun c1 H=>?_)))
 ·refine sr (va (I 8) (wln (W.ret (bkr (thr ?_)))));obtain rfl:=si H;exact r1 (qq t ⟨s,rfl⟩)
 refine W.skip (bkn (nrm (sr (va (I 9) (wln (W.ret ?_))))));obtain rfl:=si H;exact r1 (qq t ⟨s,rfl⟩)
end Go.Proofs.YtmncdniojmigeaaGreatDoor
namespace Go.Proofs.YtmncdniojmigeaaGreatDoor
open Go Go.Lt
set_option maxRecDepth 10000
set_option linter.unusedVariables false
attribute [local irreducible] W WL AC
open Tryz Go.RowKit
def mL:Go.Shelf.Ren:=⟨fun | 0=>0 | 1=>1 | 2=>2 | 99=>141 | 103=>97 | 119=>171 | 120=>167 | 129=>147 | 137=>96 | 138=>94 | 143=>95 | 145=>38 | 146=>45 | 151=>156 | 152=>166 | 156=>44 | 160=>98 | 165=>68 | 166=>32 | 169=>34 | 171=>33 | 172=>99 | 173=>79 | 174=>163 | 195=>127 | 197=>128 | 205=>170 | 206=>154 | 210=>130 | 217=>122 | 218=>129 | 219=>91 | 220=>67 | 221=>69 | 224=>124 | 225=>123 | 227=>133 | 228=>155 | 231=>131 | 232=>132 | 233=>134 | 234=>135 | 235=>136 | 236=>137 | 240=>65 | 241=>92 | 243=>66 | 244=>138 | 245=>139 | 246=>90 | 247=>158 | 260=>153 | 266=>151 | 267=>125 | 268=>93 | 271=>157 | 276=>89 | 277=>126 | 279=>159 | 280=>160 | 281=>161 | 282=>162 | 283=>118 | 284=>119 | 285=>120 | 286=>121 | 287=>168 | 314=>152 | 316=>169 | 317=>146 | 318=>148 | 319=>149 | 320=>150 | 321=>172 | 322=>173 | 337=>164 | 338=>165 | 347=>174 | 348=>175 | 349=>176 | 350=>177 | 351=>178 | 352=>179 | 353=>180 | 354=>181 | 355=>182 | 356=>183 | 357=>184 | 358=>185 | 359=>186 | 360=>189 | 361=>190 | 362=>191 | 363=>211 | 364=>208 | 365=>209 | 366=>196 | 367=>231 | n=>n,fun | 0=>0 | 1=>1 | 2=>2 | 3=>3 | 4=>4 | 5=>5 | 6=>6 | 7=>7 | 8=>8 | 9=>9 | 10=>10 | 11=>11 | 12=>12 | 13=>13 | 14=>14 | 15=>15 | 16=>16 | 17=>17 | 18=>18 | 19=>19 | 20=>20 | 21=>21 | 22=>196 | 23=>152 | 24=>150 | 25=>151 | 27=>147 | 28=>75 | 31=>72 | 37=>36 | 40=>168 | 41=>207 | 43=>169 | 46=>112 | 47=>204 | 49=>252 | 51=>202 | 52=>215 | 53=>56 | 54=>179 | 55=>149 | 57=>115 | 59=>67 | 60=>68 | 61=>77 | 63=>208 | 64=>220 | 67=>76 | 69=>223 | 70=>58 | 71=>59 | 72=>60 | 73=>113 | 74=>30 | 75=>31 | 76=>61 | 77=>62 | 80=>64 | 81=>238 | 83=>63 | 84=>134 | 85=>210 | 86=>211 | 103=>184 | 104=>55 | 105=>185 | 106=>186 | 108=>226 | 111=>65 | 113=>114 | 114=>135 | 115=>188 | 116=>189 | 117=>190 | 118=>191 | 119=>216 | 122=>187 | 123=>192 | 124=>193 | 127=>110 | 128=>194 | 131=>118 | 137=>217 | 138=>218 | 139=>219 | 143=>230 | 144=>231 | 145=>232 | 146=>205 | 150=>148 | 151=>206 | 164=>124 | 165=>146 | 166=>183 | 167=>209 | 168=>212 | 169=>213 | 170=>214 | 171=>178 | 172=>180 | 173=>181 | 174=>182 | 175=>221 | 176=>222 | 209=>224 | 210=>225 | 211=>200 | 212=>201 | 213=>203 | 214=>229 | 222=>176 | 232=>227 | 233=>228 | 238=>233 | 239=>234 | 240=>235 | 241=>236 | 242=>237 | 243=>240 | 244=>130 | 245=>241 | 246=>242 | 247=>243 | 248=>244 | 249=>245 | n=>n,fun | 1=>9 | 3=>11 | 4=>12 | 15=>13 | 16=>14 | 17=>10 | 18=>15 | 19=>16 | n=>n⟩
theorem uS:Lays.n166 Tryz.prog mL:=by
 constructor <;> first | kernel_rfl | (intro w; kernel_rfl) | (constructor <;> first | kernel_rfl | (intro w; kernel_rfl))
def mN:Go.Shelf.Ren:=⟨fun | 0=>0 | 1=>1 | 2=>2 | 99=>141 | 103=>97 | 119=>171 | 120=>167 | 129=>147 | 137=>96 | 138=>94 | 143=>95 | 145=>38 | 146=>45 | 151=>156 | 152=>166 | 156=>44 | 160=>98 | 165=>68 | 166=>32 | 169=>34 | 171=>33 | 172=>99 | 173=>79 | 174=>163 | 195=>127 | 197=>128 | 205=>170 | 206=>154 | 210=>130 | 217=>122 | 218=>129 | 219=>91 | 220=>67 | 221=>69 | 224=>124 | 225=>123 | 227=>133 | 228=>155 | 231=>131 | 232=>132 | 233=>134 | 234=>135 | 235=>136 | 236=>137 | 240=>65 | 241=>92 | 243=>66 | 244=>138 | 245=>139 | 246=>90 | 247=>158 | 260=>153 | 266=>151 | 267=>125 | 268=>93 | 271=>157 | 276=>89 | 277=>126 | 279=>159 | 280=>160 | 281=>161 | 282=>162 | 283=>118 | 284=>119 | 285=>120 | 286=>121 | 287=>168 | 314=>152 | 316=>169 | 317=>146 | 318=>148 | 319=>149 | 320=>150 | 321=>172 | 322=>173 | 337=>164 | 338=>165 | 347=>174 | 348=>175 | 349=>176 | 350=>177 | 351=>178 | 352=>179 | 353=>180 | 354=>181 | 355=>182 | 356=>183 | 357=>184 | 358=>185 | 359=>186 | 360=>189 | 361=>190 | 362=>191 | 363=>211 | 364=>208 | 365=>209 | 366=>196 | 367=>231 | n=>n,fun | 0=>0 | 1=>1 | 2=>2 | 3=>3 | 4=>4 | 5=>5 | 6=>6 | 7=>7 | 8=>8 | 9=>9 | 10=>10 | 11=>11 | 12=>12 | 13=>13 | 14=>14 | 15=>15 | 16=>16 | 17=>17 | 18=>18 | 19=>19 | 20=>20 | 21=>21 | 22=>196 | 23=>152 | 24=>150 | 25=>151 | 27=>147 | 28=>75 | 31=>72 | 37=>36 | 40=>168 | 41=>207 | 43=>169 | 46=>112 | 47=>204 | 49=>252 | 51=>202 | 52=>215 | 53=>56 | 54=>179 | 55=>149 | 57=>115 | 59=>67 | 60=>68 | 61=>77 | 63=>208 | 64=>220 | 67=>76 | 69=>223 | 70=>58 | 71=>59 | 72=>60 | 73=>113 | 74=>30 | 75=>31 | 76=>61 | 77=>62 | 80=>64 | 81=>238 | 83=>63 | 84=>134 | 85=>210 | 86=>211 | 103=>184 | 104=>55 | 105=>185 | 106=>186 | 108=>226 | 111=>65 | 113=>114 | 114=>135 | 115=>188 | 116=>189 | 117=>190 | 118=>191 | 119=>216 | 122=>187 | 123=>192 | 124=>193 | 127=>110 | 128=>194 | 131=>118 | 137=>217 | 138=>218 | 139=>219 | 143=>230 | 144=>231 | 145=>232 | 146=>205 | 150=>148 | 151=>206 | 164=>124 | 165=>146 | 166=>183 | 167=>209 | 168=>212 | 169=>213 | 170=>214 | 171=>178 | 172=>180 | 173=>181 | 174=>182 | 175=>221 | 176=>222 | 209=>224 | 210=>225 | 211=>200 | 212=>201 | 213=>203 | 214=>229 | 222=>176 | 232=>227 | 233=>228 | 238=>233 | 239=>234 | 240=>235 | 241=>236 | 242=>237 | 243=>240 | 244=>130 | 245=>241 | 246=>242 | 247=>243 | 248=>244 | 249=>245 | n=>n,fun | 1=>9 | 3=>11 | 4=>12 | 15=>13 | 16=>14 | 17=>10 | 18=>15 | 19=>16 | n=>n⟩
theorem uT:Lays.n169 Tryz.prog mN:=by
 constructor <;> first | kernel_rfl | (intro w; kernel_rfl) | (constructor <;> first | kernel_rfl | (intro w; kernel_rfl))
theorem sw:Go.Proofs.Builder.Extra Tryz.prog mL:=by
 constructor <;> first | kernel_rfl | (intro w; kernel_rfl) | decide | (constructor <;> kernel_rfl)
theorem sB:Go.Proofs.Builder.Extra Tryz.prog mN:=by
 constructor <;> first | kernel_rfl | (intro w; kernel_rfl) | decide | (constructor <;> kernel_rfl)
abbrev isB (B:Nat) (bs:List UInt8) (w:World):Prop:=Lib.IsBuilder 60 5 B B (Lib.byteCells bs) w
structure Br (up:Bool) (c1 c:Cx) (G:Gm) (F:List En) (bs:List UInt8):Prop where
 le:c1.le c
 own1:Own c1 G F
 own:Own c G F
 is:isB c1.w.heap.size bs c.w
 A:∀k o,c1.w.heap.size≤k→(c.A k o↔up=true)
 sz:c1.w.heap.size≤c.w.heap.size
theorem mT {B:Nat} {bs:List UInt8} {w w':World} (h:isB B bs w) (hk:∀k,B≤k→k < w.heap.size→w'.heap[k]? = w.heap[k]?):isB B bs w':=by
 have one:∀p,Lib.BuilderAt 60 5 B B p (Lib.byteCells bs) w→Lib.BuilderAt 60 5 B B p (Lib.byteCells bs) w':=fun p ⟨h1,v,h2,h3,h4⟩=>by
  refine ⟨h1,v,(hk B (aB _) (Array.getElem?_eq_some_iff.1 h2).1).trans h2,⟨h3.1,h3.2.imp id fun ⟨g,cap,cur,e,hg,hh,r⟩=>⟨g,cap,cur,e,hg,(hk g hg (Array.getElem?_eq_some_iff.1 hh).1).trans hh,r⟩⟩,h4⟩
 exact h.imp (one _) (one _)
theorem kr {c1 c c':Cx} {G:Gm} {F:List En} (O1:Own c1 G F) (O:Own c G F) (hw:∀k,k < c1.w.heap.size→c'.w.heap[k]? = c.w.heap[k]?∧∀o,c'.A k o↔c.A k o) (ht:c'.t=c.t):Own c' G F:=
 ⟨⟨fun i e he=>(O.m.1 i e he).keep fun b hb=>hw b ((O1.m.1 i e he).lt hb),O.m.2⟩,fun g k hk=>by rw [ht]; exact O.t0 g k hk⟩
section
variable {c1 c c':Cx} {G:Gm} {F:List En} {bs:List UInt8}
theorem Br.drew (h:Br true c1 c G F bs):Br true c1 ⟨c.w.drew,c.A,c.t⟩ G F bs:=
 ⟨h.le.trans (Cx.drew_le c).le,h.own1,h.own.keep (Cx.drew_le c),mT h.is fun _ _ _=>rfl,h.A,h.sz⟩
theorem Br.low (h:Br true c1 c G F bs):∃cl:Cx,cl.w=c.w∧Br false c1 cl G F bs:=by
 refine ⟨⟨c.w,fun k o=>k < c1.w.heap.size∧c.A k o,c.t⟩,rfl,?_,h.own1,kr h.own1 h.own (fun k hk=>⟨rfl,fun o=>⟨fun q=>q.2,fun q=>⟨hk,q⟩⟩⟩) rfl,h.is,fun k o hk=>⟨fun q=>by simp only at q; omega,fun q=>by cases q⟩,h.sz⟩;exact h.le.trans ⟨rfl,rfl,aB _,fun _ _ _ q=>⟨rfl,fun r=>q r.2⟩,fun _ _ _=>rfl,fun _ _ _=>rfl,fun _ _ _ q=>q⟩
theorem Br.upx (h:Br false c1 c G F bs) (k:c.le c') (O:Own c' G F):∃cr:Cx,cr.w=c'.w∧(∀k o,cr.A k o↔(k < c1.w.heap.size∧c'.A k o)∨c1.w.heap.size≤k)∧cr.t=c'.t∧Br true c1 cr G F bs:=by
 have hle:=h.le.trans k;refine ⟨⟨c'.w,fun k o=>(k < c1.w.heap.size∧c'.A k o)∨c1.w.heap.size≤k,c'.t⟩,rfl,fun _ _=>gF,rfl,⟨hle.os,hle.output,hle.size,fun i o hi hA=>⟨(hle.cell i o hi hA).1,fun q=>?_⟩,hle.block,hle.frz,hle.t⟩,h.own1,
  kr h.own1 O (fun i hi=>⟨rfl,fun o=>⟨fun q=>q.elim (fun q=>q.2) (fun q=>by omega),fun q=> .inl ⟨hi,q⟩⟩⟩) rfl,mT h.is fun i h1 h2=>k.block i h2 fun o q=>(by have:=(h.A i o h1).1 q; cases this),fun i o hi=>⟨fun _=>rfl,fun _=> .inr hi⟩,dI h.sz k.size⟩
 rcases q with q | q
 ·exact (hle.cell i o hi hA).2 q.2
 ·omega
theorem Br.up (h:Br false c1 c G F bs) (k:c.le c') (O:Own c' G F):∃cr:Cx,cr.w=c'.w∧Br true c1 cr G F bs:=by
 obtain ⟨cr,e,_,_,B⟩:=h.upx k O;exact ⟨cr,e,B⟩
theorem Br.below {w':World} (h:Br true c1 c G F bs) (hb:RowKit.Below c.w.heap.size c.w w'):∃c':Cx,c'.w=w'∧c.le c'∧Br true c1 c' G F bs:=by
 have hle:c.le ⟨w',c.A,c.t⟩:=⟨hb.os,hb.output,hb.size,fun k o hk hA=>⟨cy (w:=c.w) (a:=⟨k,o,none⟩) (hb.block k hk),hA⟩,fun k hk _=>hb.block k hk,fun a ha _=>by simp only [World.frozen?,hb.block _ ha],fun _ _ _ q=>q⟩;exact ⟨⟨w',c.A,c.t⟩,rfl,hle,h.le.trans hle,h.own1,kr h.own1 h.own (fun k hk=>⟨hb.block k (bJ hk h.sz),fun _=>gF⟩) rfl,mT h.is fun k _ h2=>hb.block k h2,h.A,dI h.sz hb.size⟩
theorem Br.turn {w':World} {bs':List UInt8} (h:Br true c1 c G F bs) (hb:RowKit.Below c1.w.heap.size c.w w') (his:isB c1.w.heap.size bs' w'):∃c':Cx,c'.w=w'∧c.le c'∧Br true c1 c' G F bs':=by
 have hlt:∀k o,¬c.A k o→k < c1.w.heap.size:=fun k o hA=>by
  rcases aG k c1.w.heap.size with q | q
  ·exact q
  ·exact absurd ((h.A k o q).2 rfl) hA
 have hle:c.le ⟨w',c.A,c.t⟩:=⟨hb.os,hb.output,hb.size,fun k o _ hA=>⟨cy (w:=c.w) (a:=⟨k,o,none⟩) (hb.block k (hlt k o hA)),hA⟩,fun k _ hA=>hb.block k (hlt k 0 (hA 0)),fun a _ hA=>by simp only [World.frozen?,hb.block _ (hlt _ _ hA)],fun _ _ _ q=>q⟩;exact ⟨⟨w',c.A,c.t⟩,rfl,hle,h.le.trans hle,h.own1,kr h.own1 h.own (fun k hk=>⟨hb.block k hk,fun _=>gF⟩) rfl,his,h.A,dI h.sz hb.size⟩
def pK (bs:List UInt8) (s:ByteArray):Option (List UInt8):=if bs.length+s.size≤140737488355328 then some (bs++blS s) else none
theorem lh (h:Br true c1 c G F bs) (s:ByteArray) {r:List UInt8} (H:pK bs s=some r):
  Calls Tryz.prog 32 #[.pointer (some ⟨c1.w.heap.size,0,none⟩),.string s] c.w (aX c fun c' v=>Br true c1 c' G F r∧v= .tuple #[.int .i64 (s.size:Int),.nilIface]):=by
 unfold pK at H;split at H
 ·rename_i hh
  cases H;refine (Go.Proofs.Any.Builder_WriteString uS sw c1.w.heap.size c1.w.heap.size (Lib.byteCells bs) s c.w h.is (by rw [Lib.byteCells_length]; exact hh) h.sz).mono ?_;rintro e w' ⟨rfl,hB,hb⟩;obtain ⟨c',rfl,h2,h3⟩:=h.turn (bs':=bs++blS s) hb (.inr (by
   have:Lib.byteCells (bs++blS s)=Lib.byteCells bs++Lib.strCells s:=by
    unfold Lib.byteCells;rw [fH];rfl
   rw [this];exact hB))
  exact ⟨_,c',rfl,rfl,h2,h3,rfl⟩
 ·cases H
theorem rG (h:Br true c1 c G F bs):Calls Tryz.prog 34 #[.pointer (some ⟨c1.w.heap.size,0,none⟩)] c.w (aX c fun c' v=>Own c' G F∧v= .string (mkS bs)):=by
 refine (Go.Proofs.Any.Builder_String_any uT sB c1.w.heap.size c1.w.heap.size bs c.w h.is h.sz).mono ?_;rintro e w' ⟨rfl,hb⟩;have hlt:∀k o,¬c.A k o→k < c1.w.heap.size:=fun k o hA=>by
  rcases aG k c1.w.heap.size with q | q
  ·exact q
  ·exact absurd ((h.A k o q).2 rfl) hA
 have hle:c.le ⟨w',c.A,c.t⟩:=⟨hb.os,hb.output,hb.size,fun k o _ hA=>⟨cy (w:=c.w) (a:=⟨k,o,none⟩) (hb.block k (hlt k o hA)),hA⟩,fun k _ hA=>hb.block k (hlt k 0 (hA 0)),fun a _ hA=>by simp only [World.frozen?,hb.block _ (hlt _ _ hA)],fun _ _ _ q=>q⟩;exact ⟨_,⟨w',c.A,c.t⟩,rfl,rfl,hle,kr h.own1 h.own (fun k hk=>⟨hb.block k hk,fun _=>gF⟩) rfl,rfl⟩
theorem vu {ρ:Operand→Value} {o:Oper} (O:Own c G F) (hr:(execOp ρ o).run Tryz.prog c.w= .ok (.value (.pointer (some ⟨c.w.heap.size,0,none⟩))) (c.w.alloc (.cells #[.pointer none,.slice none 0 0] 60))):
  ∃v c',(execOp ρ o).run Tryz.prog c.w= .ok (.value v) c'.w∧c.le c'∧(v= .pointer (some ⟨c.w.heap.size,0,none⟩)∧Br true c c' G F []):=by
 have hb:=(eV _ c.w).alloc (aB _) (.cells #[.pointer none,.slice none 0 0] 60);have hle:c.le ⟨c.w.alloc (.cells #[.pointer none,.slice none 0 0] 60),fun k o=>(k < c.w.heap.size∧c.A k o)∨c.w.heap.size≤k,c.t⟩:=
  ⟨hb.os,hb.output,hb.size,fun k o hk hA=>⟨cy (w:=c.w) (a:=⟨k,o,none⟩) (hb.block k hk),fun q=>q.elim (fun q=>hA q.2) (fun q=>by omega)⟩,fun k hk _=>hb.block k hk,fun a ha _=>by simp only [World.frozen?,hb.block _ ha],fun _ _ _ q=>q⟩
 exact ⟨_,_,hr,hle,rfl,hle,O,kr O O (fun k hk=>⟨hb.block k hk,fun o=>⟨fun q=>q.elim (fun q=>q.2) (fun q=>by omega),fun q=> .inl ⟨hk,q⟩⟩⟩) rfl,Lib.fresh_isBuilder _ _ c.w,fun k o hk=>⟨fun _=>rfl,fun _=> .inr hk⟩,hb.size⟩
theorem Br.nA (h:Br false c1 c G F bs):∀k o,c1.w.heap.size≤k→¬c.A k o:=fun k o hk q=>by
 have:=(h.A k o hk).1 q;cases this
theorem Br.call (h:Br true c1 c G F bs) {f:FuncId} {args:Array Value} {v0:Value} (hc:∀cl:Cx,cl.w=c.w→Br false c1 cl G F bs→Calls Tryz.prog f args cl.w (aX cl fun c' v=>Own c' G F∧v=v0)):
  Calls Tryz.prog f args c.w (aX c fun c' v=>Br true c1 c' G F bs∧v=v0):=by
 have hlow:Br false c1 ⟨c.w,fun k o=>k < c1.w.heap.size∧c.A k o,c.t⟩ G F bs:=
  ⟨h.le.trans ⟨rfl,rfl,aB _,fun _ _ _ q=>⟨rfl,fun r=>q r.2⟩,fun _ _ _=>rfl,fun _ _ _=>rfl,fun _ _ _ q=>q⟩,h.own1,kr h.own1 h.own (fun k hk=>⟨rfl,fun o=>⟨fun q=>q.2,fun q=>⟨hk,q⟩⟩⟩) rfl,h.is,fun k o hk=>⟨fun q=>by simp only at q; omega,fun q=>by cases q⟩,h.sz⟩
 refine (hc ⟨c.w,fun k o=>k < c1.w.heap.size∧c.A k o,c.t⟩ rfl hlow).mono ?_;rintro e w' ⟨v,c',he,rfl,hle,O,hv⟩;obtain ⟨cr,e1,e2,e3,B⟩:=hlow.upx hle O;have hA:∀k o,¬c.A k o→k < c1.w.heap.size:=fun k o q=>by
  rcases aG k c1.w.heap.size with r | r
  ·exact r
  ·exact absurd ((h.A k o r).2 rfl) q
 have hle2:c.le cr:=by
  refine ⟨by rw [e1]; exact hle.os,by rw [e1]; exact hle.output,by rw [e1]; exact hle.size,fun k o hk q=>?_,fun k hk q=>by rw [e1]; exact hle.block k hk (fun o r=>q o r.2),fun a ha q=>by simp only [World.frozen?,e1]; exact hle.frz a ha (fun r=>q r.2),fun g k b q=>by rw [e3]; exact hle.t g k b q⟩;have h1:=hle.cell k o hk (fun r=>q r.2);refine ⟨by rw [e1]; exact h1.1,fun r=>?_⟩;rcases (e2 k o).1 r with r | r
  ·exact h1.2 r.2
  ·have:=hA k o q;omega
 exact ⟨v,cr,he,e1.symm,hle2,B,hv⟩
theorem wj {ρ:Operand→Value} {o:Oper} (h:Br true c1 c G F bs) (xs:List ByteArray) (hm:Nat.ble xs.length 4294967296=true) (hr:(execOp ρ o).run Tryz.prog c.w= .ok (.value (.slice (some ⟨c.w.heap.size,0,none⟩) xs.length xs.length)) (c.w.alloc (.cells (xs.map Value.string).toArray 9))):
  ∃v c',(execOp ρ o).run Tryz.prog c.w= .ok (.value v) c'.w∧c.le c'∧(Br true c1 c' G F bs∧∀cl:Cx,cl.w=c'.w→(∀k o,c1.w.heap.size≤k→¬cl.A k o)→Sl RS cl v xs):=by
 have hm:=bD hm;obtain ⟨c',e1,h2,h3⟩:=h.below ((eV c.w.heap.size c.w).alloc (aB _) (.cells (xs.map Value.string).toArray 9));refine ⟨_,c',by rw [e1]; exact hr,h2,h3,fun cl ew hA=>⟨_,xs.length,rfl,aB _,by unfold maxLen; omega,fun i x hx=>⟨_,_,[.string x],rfl,rfl,fun j u hu=>?_⟩⟩⟩
 cases j with
 | succ j=>simp at hu
 | zero=>
  simp only [au,aQ] at hu;subst hu;refine ⟨?_,hA _ _ h.sz,?_⟩
  ·rw [ew,e1];simp
  ·rw [ew,e1,kf _ _ _ _ _ _ (gW c.w _),bP,fU,show 0+i * RS.size+0=i by show 0+i * 1+0=i; omega,hx];rfl
end
end Go.Proofs.YtmncdniojmigeaaGreatDoor
namespace Go.Proofs.YtmncdniojmigeaaGreatDoor
open Go Go.Lt
set_option maxRecDepth 10000
set_option linter.unusedVariables false
attribute [local irreducible] W WL AC
open Tryz
variable {c0:Cx} {G:Gm} {F:List En} {sg:Sto} {v1 v2 v3 v4 v5 v6 v7 v8 v9 v10 v11 v12 v13 v14 v15 v16 v17 v18 v19 v20 v21 v22 v23 v24 v25 v26 v27 v28 v29 v30 v31 v32 v33 v34 v35 v36 v37 v38 v39 v40 v41 v42 v43 v44 v45 v46 v47 v48 v49 v50 v51 v52 v53 v54 v55 v56 v57 v58 v59 v60:Value}
def eG (p0:af):Option (ByteArray):=
 (eK p0).bind fun y=>
 if (!y)=true then
 some (⟨#[]⟩:ByteArray)
 else
 (dk p0.Wide).bind fun h=>
 (dk p0.High).bind fun i=>
 (eF ([(⟨#[115,99,114,101,101,110]⟩:ByteArray),h,i]:List ByteArray)).bind fun j=>
 (pK ([]:List UInt8) j).bind fun k=>
 (dk p0.At.Row).bind fun d=>
 (dk p0.At.Col).bind fun e=>
 (if p0.At.Pending=true then
 (app ([(⟨#[97,116]⟩:ByteArray),d,e]:List ByteArray) ([(⟨#[112,101,110,100,105,110,103]⟩:ByteArray)]:List ByteArray)).bind fun l=>
 some (l)
 else
 some (([(⟨#[97,116]⟩:ByteArray),d,e]:List ByteArray))).bind fun x=>
 (eF x).bind fun m=>
 (pK k m).bind fun n=>
 (eE p0.Auto (⟨#[111,110]⟩:ByteArray) (⟨#[111,102,102]⟩:ByteArray)).bind fun o=>
 (eF ([(⟨#[97,117,116,111]⟩:ByteArray),o]:List ByteArray)).bind fun p=>
 (pK n p).bind fun q=>
 (ed (σ:=Int×(List UInt8)) (τ:=(List UInt8)) (((p0.Lines.length:Int) - 0).toNat+1) (fun a=>
 if (decide (a.1 < (p0.Lines.length:Int)))=true then
 (idx p0.Lines a.1).bind fun c=>
 (eE c.Wrap (⟨#[43]⟩:ByteArray) (⟨#[45]⟩:ByteArray)).bind fun r=>
 (ed (σ:=(List ByteArray)×Int) (τ:=(List ByteArray)) (((c.Cells.length:Int) - 0).toNat+1) (fun b=>
 if (decide (b.2 < (c.Cells.length:Int)))=true then
 (idx c.Cells b.2).bind fun s=>
 (fP s).bind fun t=>
 (app b.1 ([t]:List ByteArray)).bind fun u=>
 some (.inl (u,(w64 (b.2+1))))
 else
 some (.inr (b.1))) (([r]:List ByteArray),0)).bind fun g=>
 (eF g).bind fun v=>
 (pK a.2 v).bind fun w=>
 some (.inl ((w64 (a.1+1)),w))
 else
 some (.inr (a.2))) (0,q)).bind fun f=>
 some (mkS f)
theorem lT (O0:Own c0 G F) (hB:Tb6 c0) (hT:Et c0) (b:af) {r:ByteArray} (h2:Sl aJ c0 v1 b.Lines) (H:eG b=some r): Calls prog 25 #[.agg #[I b.Wide,I b.High,v1,I b.At.Row,I b.At.Col,B b.At.Pending,B b.Auto]] c0.w (aX c0 fun c v=>Own c G (F)∧v= .string r):=by
 unfold eG at H;refine en func25 rfl rfl (sr ?_);obtain ⟨a3,a4,a5,rfl⟩:=(h2).form;refine me (bx 49 [I b.Wide,I b.High,.slice a3 a4 a5,I b.At.Row,I b.At.Col,B b.At.Pending,B b.Auto] O0) ?_;rintro v10 c9 l9 ⟨n,rfl,O7,D⟩;refine va (.string (⟨#[]⟩:ByteArray)) (wln (W.seq (sr (vx (lN 49 D) (bn H fun e8 e7 H=>cl (iT O7 b h2.m e7) ?_)))));rintro v17 f l16 ⟨k2,rfl⟩;refine va (B (!e8)) (wln (cn H (fun f7 H=>?_) (fun f7 H=>?_)))
 ·refine sr (va (.string (⟨#[]⟩:ByteArray)) (wln (W.ret (thr ?_))));obtain rfl:=si H;exact r1 (qq f ⟨k2,rfl⟩)
 refine W.skip (nrm (sr (me (vu k2 (by kernel_rfl)) ?_)));rintro v21 c19 l19 ⟨rfl,q6⟩;obtain ⟨c22,g7,e0⟩:=q6.low;refine WL.gh g7 ?_;have l22:=e0.le;have s6:=e0.own;refine wln (W.seq ?_);obtain ⟨u0,h7,r6⟩:=e0.up (Cx.le.refl _) s6;rw [←h7];refine W.regionE [] (Kp G0 []) (by kernel_rfl) ?_;have f0:=r6.drew;generalize (⟨u0.w.drew,u0.A,u0.t⟩:Cx)=c30 at f0⊢;have l30:=f0.le;refine ta 0 (Q n) (tx 1 (fun c' d1=>l1 u_3 ((mm D) 0 _ rfl)) (ta 3 (Qo n (0+1)) (tx 4 (fun c' d1=>l1 u_3 ((mm D) 1 _ rfl)) (bn H fun p1 i7 H=>o1 2 (gc 2 (f0.call fun c35 z B_=>have l35:=B_.le; gd B_.own hT.m b.Wide i7) ?_)))));rintro v33 c31 l31_ ⟨e2,rfl⟩;refine ⟨.inr Kp.nil0,?_⟩;have l31:=e2.le;refine bn H fun q1 j7 H=>o1 5 (gc 5 (e2.call fun c40 z B_=>have l40:=B_.le; gd B_.own hT.m b.High j7) ?_);rintro v38 c36 l36_ ⟨f2,rfl⟩;refine ⟨.inr Kp.nil0,?_⟩;have l36:=f2.le;refine o1 6 (gm 6 (wj f2 ([(⟨#[115,99,114,101,101,110]⟩:ByteArray),p1,q1]:List ByteArray) (by kernel_rfl) (by kernel_rfl)) ?_);rintro v43 c41 l41_ ⟨g2,k7⟩;refine ⟨.inr Kp.nil0,?_⟩;have l41:=g2.le;refine bn H fun m6 l7 H=>o1 7 (gc 7 (g2.call fun a7 z B_=>have l49:=B_.le; iB B_.own hT.m ([(⟨#[115,99,114,101,101,110]⟩:ByteArray),p1,q1]:List ByteArray) (k7 a7 z B_.nA) l7) ?_);rintro v47 c45 l45_ ⟨i2,rfl⟩;refine ⟨.inr Kp.nil0,?_⟩;have l45:=i2.le;refine bn H fun x_20 m7 H=>o1 8 (gc 8 (lh i2 m6 m7) ?_);rintro v52 c50 l50_ ⟨j2,rfl⟩;refine ⟨.inr Kp.nil0,?_⟩;have l50:=j2.le;refine dn ?_;obtain ⟨c54,n7,h0⟩:=j2.low;rw [←n7];have l54:=h0.le;have t6:=h0.own;refine nrm (W.seq (rD [] (Kp G0 []) t6 ?_));intro b7 v7 u6;have p60:Kp G0 [] b7:=Kp.nil0;refine ta 0 (.pointer (some ⟨n,0+3,none⟩)) (ta 1 (Qo n (0+3)) (tx 2 (fun c' d1=>l1 u_3 ((mm D) 3 _ rfl)) (ta 4 (Qo n (0+3)) (ta 5 (Qo n (0+4)) (tx 6 (fun c' d1=>l1 u_3 ((mm D) 4 _ rfl)) (bn H fun s1 o7 H=>o1 3 (gc 3 (gd u6 hT.m b.At.Row o7) ?_)))))));rintro v67 c7 w7 ⟨v6,rfl⟩;have z7:Kp G0 [] c7:=Kp.nil0;refine ⟨.inr z7,bn H fun t1 p7 H=>o1 7 (gc 7 (gd v6 hT.m b.At.Col p7) ?_)⟩;rintro v75 d7 x7 ⟨w6,rfl⟩;have a8:Kp G0 [] d7:=Kp.nil0;refine ⟨.inr a8,o1 8 (gm 8 (sl RS 9 [[.string (⟨#[97,116]⟩:ByteArray)],[.string s1],[.string t1]] ([(⟨#[97,116]⟩:ByteArray),s1,t1]:List ByteArray) w6 ⟨rfl,rfl,rfl,trivial⟩) ?_)⟩;rintro m1 v0 y7 ⟨c8,l2,m2⟩;have b8:Kp G0 [] v0:=Kp.nil0;refine ⟨.inr b8,ta 9 (m1) (dn (nrm (bn H fun a0 k a=>W.seqJ (Jn v0 fun c l=>∃E h1,Own c G (es true RS E 9 h1 a0 :: F)∧l= [(1,Q n),(3,.pointer (some ⟨f.w.heap.size,0,none⟩)),(4,E)]∧OA RS c E h1 a0) ?_ ?_)))⟩
 ·refine sr (va (Qo n (0+3)) (va (Qo n (0+5)) (vx (l1 u_4 ((mm D) 5 _ rfl)) (wln (cn k (fun q7 k=>?_) (fun q7 k=>?_))))))
  ·refine W.region (va (m1) (me (sl RS 9 [[.string (⟨#[112,101,110,100,105,110,103]⟩:ByteArray)]] ([(⟨#[112,101,110,100,105,110,103]⟩:ByteArray)]:List ByteArray) l2 ⟨rfl,trivial⟩) ?_));rintro v92 c91 l91 ⟨u89,x6,r7⟩;obtain ⟨c95,t7,l95,y6,s7⟩:=x6.frz 0 rfl r7;refine WL.gh t7 (bn k fun x_39 u7 k=>me (ap RS (.string ByteArray.empty) 16 72 1 y6 m2.m s7 u7 dW) ?_);rintro i1 z3 u9 ⟨d8,z6,h4⟩;refine va (i1) (wln ?_);obtain rfl:=si k;have v2:=z6.sD 2 [1];exact jn z3 ⟨i1,d8,v2,rfl,h4⟩
  refine W.skip (nrm ?_);obtain rfl:=si k;exact jn v0 ⟨m1,c8,l2,rfl,m2⟩
 rintro z w_ ⟨l8,p9,_,rfl,s5,rfl,E,h1,w2,rfl,i4⟩;refine sr (va (E) ?_);obtain ⟨n8,k4,t5,x2,j4⟩:=w2.frz 0 rfl i4;refine WL.gh k4 (bn a fun n6 l4 a=>cl (iB x2 hT.m a0 j4 l4) ?_);rintro v121 o8 u5 ⟨y2,rfl⟩;refine bn a fun x_44 m4 a=>?_;have z2:=y2.sD 1 [];obtain ⟨p8,n4,n2⟩:=h0.up (v7.trans (w7.trans (x7.trans (y7.trans (s5.trans (t5.trans u5)))))) z2;refine WL.gh n4 (cl (lh n2 n6 m4) ?_);rintro v129 q8 v9 ⟨o2,rfl⟩;obtain ⟨r8,o4,M⟩:=o2.low;refine WL.gh o4 ?_;have w9:=M.le;have b3:=M.own;refine wln (sr (va (Qo n (0+6)) (vx (l1 u_4 ((mm D) 6 _ rfl)) (bn a fun X p4 a=>cl (lS b3 b.Auto (⟨#[111,110]⟩:ByteArray) (⟨#[111,102,102]⟩:ByteArray) p4) ?_))));rintro v140 s8 v5 ⟨c3,rfl⟩;refine me (sl RS 9 [[.string (⟨#[97,117,116,111]⟩:ByteArray)],[.string X]] ([(⟨#[97,117,116,111]⟩:ByteArray),X]:List ByteArray) c3 ⟨rfl,rfl,trivial⟩) ?_;rintro v145 t8 w5 ⟨u142,d3,q4⟩;obtain ⟨u8,s4,x5,e3,r4⟩:=d3.frz 0 rfl q4;refine WL.gh s4 (bn a fun o6 t4 a=>cl (iB e3 hT.m ([(⟨#[97,117,116,111]⟩:ByteArray),X]:List ByteArray) r4 t4) ?_);rintro v156 v8 y5 ⟨f3,rfl⟩;refine bn a fun x_51 u4 a=>?_;have g3:=f3.sD 1 [];obtain ⟨w8,v4,p2⟩:=M.up (v5.trans (w5.trans (x5.trans y5))) g3;refine WL.gh v4 (cl (lh p2 o6 u4) ?_);rintro v164 x8 x9 ⟨q2,rfl⟩;obtain ⟨b4,w4,N⟩:=q2.low;refine WL.gh w4 ?_;have y9:=N.le;have h3:=N.own;refine wln (W.seq (sr (va (Qo n (0+2)) (vx (l1 dX ((mm D) 2 _ rfl)) (vx (ln 3 dX h2.m) (va (I 0) (wln (W.block (bn a fun i6 x0 i0=>lp x0 (fun d=>Jn f fun c l=>Own c G (F)∧l= [(3,.pointer (some ⟨f.w.heap.size,0,none⟩)),(47,.slice a3 a4 a5),(48,I (b.Lines.length:Int)),(49,I d.1)]∧Br false f c G (F) d.2) (fun c2 ex e w=>ex= .exit 0∧(Jn f fun c l=>Own c G (F)∧l= [(3,.pointer (some ⟨f.w.heap.size,0,none⟩))]∧Br false f c G (F) c2) e w) ?_ ?_ ?_)))))))))
 ·clear i0 x0;intro d f8 w0 n1 a;revert w0 n1;rintro z w_ ⟨c4,q9,_,rfl,z5,rfl,j0,rfl,d0⟩;refine sr (va (B (decide (d.1 < (b.Lines.length:Int)))) (wln (W.seq (cn a (fun x4 a=>?_) (fun x4 a=>?_)))))
  ·refine W.skip (nrm (W.seq (W.block (sr (bn a fun j y0 a=>?_)))));obtain ⟨g8,y4,g6⟩:=Sl.at (h2.mono (l9.trans (l16.trans z5))) (ba y0);obtain ⟨v183,rfl,o⟩:=y4;refine vx (ix dX h2.m y0) (vx (lN 97 g6) (me (al 97 [Y,B false] j0) ?_));rintro v188 y8 T ⟨x,rfl,i3⟩;obtain ⟨q,s,u,rfl⟩:=((o.mono T)).form;refine md (sA 97 [.slice q s u,B j.Wrap] 0 i3 ⟨o.m.one,rfl,trivial⟩) ?_;rintro z8 e1 k0;refine wln (sr (va (Qo x 1) (vx (le1 1 u_4 (k0.on 0 rfl)) (bn a fun u1 z4 a=>cl (lS k0 j.Wrap (⟨#[43]⟩:ByteArray) (⟨#[45]⟩:ByteArray) z4) ?_))));rintro v200 a9 f1 ⟨j3,rfl⟩;refine me (sl RS 9 [[.string u1]] ([u1]:List ByteArray) j3 ⟨rfl,trivial⟩) ?_;rintro j1 R g1 ⟨k6,l0,b5⟩;refine va (j1) (wln (W.seq (sr (va (Q x) (vx (le1 0 fe (l0.on 1 rfl)) (vx (ln 3 fe o.m) (va (I 0) (wln (W.block (bn a fun j6 a1 h=>lp a1 (fun g=>Jn R fun c l=>∃i y,Own c G (es true RS i 9 y g.1 :: (Eb x 97 [.slice q s u,B j.Wrap]) :: F)∧l= [(3,.pointer (some ⟨f.w.heap.size,0,none⟩)),(7,i),(47,.slice a3 a4 a5),(48,I (b.Lines.length:Int)),(49,I d.1),(58,.slice q s u),(59,I (j.Cells.length:Int)),(60,I g.2)]∧OA RS c i y g.1) (fun b0 ex e w=>ex= .exit 2∧(Jn R fun c l=>∃p U,Own c G (es true RS p 9 U b0 :: (Eb x 97 [.slice q s u,B j.Wrap]) :: F)∧l= [(3,.pointer (some ⟨f.w.heap.size,0,none⟩)),(7,p),(47,.slice a3 a4 a5),(48,I (b.Lines.length:Int)),(49,I d.1)]∧OA RS c p U b0) e w) ?_ ?_ ?_))))))))))
   ·clear h a1;intro g f8 w0 n1 a;revert w0 n1;rintro z w_ ⟨d4,r9,_,rfl,a6,rfl,i,y,m0,rfl,b1⟩;refine sr (va (B (decide (g.2 < (j.Cells.length:Int)))) (wln (W.seq (cn a (fun c5 a=>?_) (fun c5 a=>?_)))))
    ·refine W.skip (nrm (W.seq (W.block (sr (bn a fun Z c1 a=>?_)))));obtain ⟨h8,d5,h6⟩:=Sl.at (o.mono (T.trans (e1.trans (f1.trans (g1.trans a6))))) (ba c1);obtain ⟨v224,rfl,S⟩:=d5;refine vx (ix fe o.m c1) (vx (lN 94 h6) (me (al 94 [I 0,Y] m0) ?_));rintro v229 b9 c6 ⟨k8,rfl,k3⟩;obtain ⟨q0,s0,t0,rfl⟩:=((S.mono c6)).form;refine md (sA 94 [I Z.Kind,.slice q0 s0 t0] 0 k3 ⟨rfl,S.m.one,trivial⟩) ?_;rintro d9 z9 o0;refine wln (W.region (va (i) (vx (leN 94 0 [I Z.Kind,.slice q0 s0 t0] (o0.on 0 rfl)) (bn a fun w1 e5 a=>cl (pG o0 hB.m hT.m Z S.m e5) ?_))));rintro v241 e9 l240 ⟨l3,rfl⟩;refine me (sl RS 9 [[.string w1]] ([w1]:List ByteArray) l3 ⟨rfl,trivial⟩) ?_;rintro v246 f9 l245 ⟨u243,m3,f5⟩;obtain ⟨g9,h5,l249,n3,g5⟩:=m3.frz 0 rfl f5;refine WL.gh h5 (bn a fun x_89 i5 a=>me (ap RS (.string ByteArray.empty) 16 72 2 n3 b1.m g5 i5 dW) ?_);rintro k1 e4 l255 ⟨l6,o3,j5⟩;refine va (k1) (WL.nil (bkn (nrm (W.region (vv (I (w64 (g.2+1))) (WL.nil ?_))))));obtain rfl:=si a;refine ⟨_,rfl,?_⟩;have p3:=o3.sD 4 [2,3];exact jn e4 ⟨k1,l6,p3,rfl,j5⟩
    refine W.exit (thx ?_);obtain rfl:=si a;exact ⟨_,rfl,rfl,jn d4 ⟨i,y,m0,rfl,b1⟩⟩
   ·exact jn R ⟨j1,k6,l0,rfl,b5⟩
   rintro _ z w_ ⟨rfl,h9,s9,_,rfl,d6,rfl,p,U,q3,rfl,k5⟩;refine bke (nrm (W.region (va (p) ?_)));obtain ⟨i9,m5,e6,s3,l5⟩:=q3.frz 0 rfl k5;refine WL.gh m5 (bn h fun p6 n5 h=>cl (iB s3 hT.m j6 l5 n5) ?_);rintro v275 j9 f6 ⟨t3,rfl⟩;refine bn h fun x_97 o5 h=>?_;have u3:=t3.sD 2 [];obtain ⟨k9,p5,s2⟩:=d0.up (T.trans (e1.trans (f1.trans (g1.trans (d6.trans (e6.trans f6)))))) u3;refine WL.gh p5 (cl (lh s2 p6 o5) ?_);rintro v283 m9 l281 ⟨t2,rfl⟩;obtain ⟨f4,q5,P⟩:=t2.low;refine WL.gh q5 ?_;have l284:=P.le;have v3:=P.own;refine WL.nil (bkn (nrm (W.region (vv (I (w64 (d.1+1))) (WL.nil ?_)))));obtain rfl:=si h;exact ⟨_,rfl,jn f4 ⟨v3,rfl,P⟩⟩
  refine W.exit (thx ?_);obtain rfl:=si a;exact ⟨_,rfl,rfl,jn c4 ⟨j0,rfl,d0⟩⟩
 ·exact jn b4 ⟨h3,rfl,N⟩
 rintro _ z w_ ⟨rfl,n9,t9,_,rfl,l288,rfl,w3,rfl,u2⟩;refine bke (nrm (sr ?_));obtain ⟨o9,r5,g0⟩:=u2.up (Cx.le.refl _) w3;refine WL.gh r5 (cl (rG g0) ?_);rintro v300 g4 b2 ⟨x3,rfl⟩;have l298:=g0.le.trans b2;refine va (.string (mkS i6)) (wln (W.ret ?_));obtain rfl:=si i0;exact r1 (qq g4 ⟨x3,rfl⟩)
def bv:Option (Bool):=
 (eG (⟨2,1,([(⟨([(⟨2,([19968]:List Int)⟩:ak),(⟨3,([]:List Int)⟩:ak)]:List ak),false⟩:ah)]:List ah),(⟨0,1,true⟩:aF),true⟩:af)).bind fun a=>
 some (eqS a (⟨#[115,99,114,101,101,110,32,50,32,49,10,97,116,32,48,32,49,32,112,101,110,100,105,110,103,10,97,117,116,111,32,111,110,10,45,32,62,52,101,48,48,32,61,10]⟩:ByteArray))
theorem cv (X:Own c0 G F) (hB:Tb6 c0) (hT:Et c0) {r:Bool} (H:bv=some r): Calls prog 23 #[] c0.w (aX c0 fun c v=>Own c G (F)∧v=B r):=by
 unfold bv at H;refine en func23 rfl rfl (sr (va (B false) (wln (sr (me (sl (RI .i32) 21 [[J 19968]] ([19968]:List Int) X ⟨rfl,trivial⟩) ?_)))));rintro v5 c4 l4 ⟨u2,Z,N⟩;obtain ⟨l,n,o,rfl⟩:=(N).form;refine va (.agg #[I 2,.slice l n o]) (va (.agg #[I 3,Y]) ?_);obtain ⟨d0,D,k0,O9,A⟩:=Z.frz 0 rfl N;refine WL.gh D (me (sl bG 94 [[I 2,.slice l n o],[I 3,Y]] ([(⟨2,([19968]:List Int)⟩:ak),(⟨3,([]:List Int)⟩:ak)]:List ak) O9 ⟨⟨(.slice l n o),rfl,A⟩,⟨(Y),rfl,(Sl.nl _ _)⟩,trivial⟩) ?_);rintro v17 e0 l16 ⟨q0,p,k⟩;obtain ⟨a,b,d,rfl⟩:=(k).form;refine va (.agg #[.slice a b d,B false]) ?_;obtain ⟨f0,M,l0,q,E⟩:=p.frz 0 rfl k;refine WL.gh M (me (sl aJ 97 [[.slice a b d,B false]] ([(⟨([(⟨2,([19968]:List Int)⟩:ak),(⟨3,([]:List Int)⟩:ak)]:List ak),false⟩:ah)]:List ah) q ⟨⟨(.slice a b d),rfl,E⟩,trivial⟩) ?_);rintro v29 g0 m0 ⟨s0,s,h⟩;refine va (.agg #[I 0,I 1,B true]) ?_;obtain ⟨e,f,g,rfl⟩:=(h).form;refine va (.agg #[I 2,I 1,.slice e f g,I 0,I 1,B true,B true]) (me (al 49 [I 0,I 0,Y,I 0,I 0,B false,B false] s) ?_);rintro v36 h0 T ⟨b0,rfl,t⟩;refine md (sA 49 [I 2,I 1,.slice e f g,I 0,I 1,B true,B true] 0 t ⟨rfl,rfl,h.m.one,rfl,rfl,rfl,rfl,trivial⟩) ?_;rintro i0 U j;refine wln (sr (vx (leN 49 0 [I 2,I 1,.slice e f g,I 0,I 1,B true,B true] (j.on 0 rfl)) ?_));obtain ⟨j0,R,o0,u,P⟩:=j.frz 1 rfl (h.mono (T.trans U));refine WL.gh R (bn H fun i S H=>cl (lT u hB.m hT.m (⟨2,1,([(⟨([(⟨2,([19968]:List Int)⟩:ak),(⟨3,([]:List Int)⟩:ak)]:List ak),false⟩:ah)]:List ah),(⟨0,1,true⟩:aF),true⟩:af) P S) ?_);rintro v49 z p0 ⟨x,rfl⟩;refine vr (B (eqS i (⟨#[115,99,114,101,101,110,32,50,32,49,10,97,116,32,48,32,49,32,112,101,110,100,105,110,103,10,97,117,116,111,32,111,110,10,45,32,62,52,101,48,48,32,61,10]⟩:ByteArray))) (dP (by kernel_rfl)) (va (B (eqS i (⟨#[115,99,114,101,101,110,32,50,32,49,10,97,116,32,48,32,49,32,112,101,110,100,105,110,103,10,97,117,116,111,32,111,110,10,45,32,62,52,101,48,48,32,61,10]⟩:ByteArray))) (wln (W.ret ?_)));obtain rfl:=si H;have y:=x.sD 4 [];exact r1 (qq z ⟨y,rfl⟩)
end Go.Proofs.YtmncdniojmigeaaGreatDoor
namespace Go.Proofs.YtmncdniojmigeaaGreatDoor
open Go Go.Lt
set_option maxRecDepth 10000
set_option linter.unusedVariables false
attribute [local irreducible] W WL AC
open Go.RowKit Go.Extern.Stop Go.Stop Go.Extern
def FP (c:Cx) (u:Value) (e:Er):Prop:=match e with
 | .fault i e=>∃b w,u= .pointer (some ⟨b,0,none⟩)∧Im c b 0 (.int .i64 i)∧Im c b 1 w∧RE 230 87 c w e
 | _=>u= .pointer none
theorem FP.lw {c c':Cx} {u:Value} {e:Er} (h:FP c u e) (k:c.lw c'):FP c' u e:=by
 cases e with
 | fault i e=>obtain ⟨b,w,h1,h2,h3,h4⟩:=h; exact ⟨b,w,h1,h2.lw k,h3.lw k,h4.lw k⟩
 | nil=>exact h
 | sent g=>exact h
theorem FP.mono {c c':Cx} {u:Value} {e:Er} (h:FP c u e) (k:c.le c'):FP c' u e:=h.lw k.lw
theorem FP.m {c c':Cx} {u:Value} {e:Er} (h:FP c u e) (k:c.le c':=by repeat (first | assumption | refine Cx.le.trans ?_ (by assumption))):FP c' u e:=h.mono k
def flt (e:Er):Option (Int×Er):=match e with
 | .fault i e=>some (i,e)
 | _=>none
theorem FP.get {c:Cx} {u:Value} {e:Er} {y:Int×Er} (h:FP c u e) (hy:flt e=some y):∃b w,u= .pointer (some ⟨b,0,none⟩)∧(∀j x,([.int .i64 y.1,w]:List Value)[j]? = some x→Im c b (0+j) x)∧RE 230 87 c w y.2:=by
 cases e with
 | fault i e=>
  cases hy;obtain ⟨b,w,rfl,h2,h3,h4⟩:=h;refine ⟨b,w,rfl,fun j x hx=>?_,h4⟩
  match j,hx with
  | 0,hx=>cases hx; exact h2
  | 1,hx=>cases hx; exact h3
  | j+2,hx=>simp at hx
 | nil=>cases hy
 | sent g=>cases hy
def ju (p0:Er):Option Bool:=match p0 with
 | .nil=>some false
 | .fault _ _=>some true
 | .sent _=>none
theorem un (e:Addr) (tb:Nat) (w:World) (hg:w.cell? ⟨8,0,none⟩=some (.iface 154 (.agg #[.pointer (some ⟨17,31,none⟩)]))) (ht0:w.heap[tb]? = some (.cells #[.pointer none] 87 (0,0))):
  Calls Tryz.prog 53 #[.iface 87 (.pointer (some e)),.iface 89 (.pointer (some ⟨tb,0,none⟩))] w fun ev w'=>ev= .returned (.bool true)∧w'.heap[tb]? = some (.cells #[.pointer (some e)] 87 (0,0))∧bz w w' tb:=by
 have hlt:tb < w.heap.size:=(Array.getElem?_eq_some_iff.1 ht0).1;have h1:∀o,w.cell? ⟨tb,o,none⟩=(#[Value.pointer none]:Array Value)[o]? :=fun o=>by unfold World.cell?; rw [ht0]; rfl
 refine (tn e ⟨tb,0,none⟩ (.pointer none) w hg (by rw [h1]; rfl) (by unfold World.frozen?; rw [ht0]; rfl)).mono ?_;rintro ev w' ⟨rfl,rfl⟩;have hk:=((((bz.one w #[.pointer (some ⟨tb,0,none⟩)] 89 tb).trans (bz.one _ #[.pointer (some ⟨17,89,none⟩),.pointer (some ⟨w.heap.size,0,none⟩),.int .u64 150] 127 tb)).trans
  (bz.one _ #[.pointer (some ⟨17,89,none⟩),.pointer (some ⟨w.heap.size,0,none⟩),.int .u64 150] 127 tb)).trans (bz.one _ #[.pointer (some e)] 87 tb))
 refine ⟨rfl,?_,hk.trans (bz.set _ _ _)⟩;unfold World.setCell;rw [fL,ai rfl,aY _ _ _ (by simp; omega),aY _ _ _ (by simp; omega),aY _ _ _ (by simp; omega),aY _ _ _ hlt,ht0];rfl
set_option maxRecDepth 1000000 in
theorem vy (t:Value) (w:World):Calls Tryz.prog 53 #[.nilIface,t] w fun ev w'=>ev= .returned (.bool false)∧w'=w:=by
 go_enter Tryz.func53,Tryz.ntmps53
 go_wp2
 go_ret
 exact ⟨rfl,rfl⟩
theorem pI {c0:Cx} {G:Gm} {F:List En} {v1:Value} {b:Nat} (O0:Own c0 G (⟨.pointer (some ⟨b,0,none⟩),87,[.pointer none],0⟩ :: F)) (hU:Eh c0) (p0:Er) (h1:RE 230 87 c0 v1 p0) {r:Bool} (H:ju p0=some r):
  Calls Tryz.prog 53 #[v1,.iface 89 (.pointer (some ⟨b,0,none⟩))] c0.w (aX c0 fun c v=>∃u,Own c G (⟨.pointer (some ⟨b,0,none⟩),87,[u],0⟩ :: F)∧v= .bool r∧FP c u p0):=by
 obtain ⟨hh,hA⟩:=O0.on 0 rfl b rfl
 cases p0 with
 | nil=>
  cases H
  cases h1
  refine (vy _ c0.w).mono ?_
  rintro e w' ⟨rfl,rfl⟩
  exact ⟨_,c0,rfl,rfl,Cx.le.refl _,_,O0,rfl,rfl⟩
 | sent g=>cases H
 | fault i e=>
  cases H
  obtain ⟨fb,u,rfl,h2,h3,h4⟩:=h1
  refine (un ⟨fb,0,none⟩ b c0.w hU.cell hh).mono ?_
  rintro e w' ⟨rfl,ht,hk⟩
  have hne:∀k o,¬c0.A k o→k≠b:=fun k o h q=>h (by rw [q]; exact (hA o).2 (dw _))
  have hb:c0.but (fun k=>k=b) ⟨w',c0.A,c0.t⟩:=⟨⟨hk.os,hk.output,hk.size,fun k o h q=>⟨hk.cell o h (hne k o q),q⟩,fun k h q=>hk.block k h (hne k 0 (q 0)),fun a h _=>hk.frz a h,fun _ _ _ h=>h⟩,rfl,fun k h q=>⟨hk.block k h q,fun _=>gF⟩⟩
  refine ⟨_,⟨w',c0.A,c0.t⟩,rfl,rfl,hb.le,.pointer (some ⟨fb,0,none⟩),O0.set 0 rfl hb (fun k h=>by rw [h]; rfl) (fun b' hb'=>?_) (fun b' h=> .inl h),rfl,fb,u,rfl,h2.mono hb.le,h3.mono hb.le,h4.mono hb.le⟩
  simp only [blk,aQ] at hb'
  subst hb'
  exact ⟨ht,hA⟩
end Go.Proofs.YtmncdniojmigeaaGreatDoor
namespace Go.Proofs.YtmncdniojmigeaaGreatDoor
open Go Go.Lt
set_option maxRecDepth 10000
set_option linter.unusedVariables false
attribute [local irreducible] W WL AC
open Tryz
variable {c0:Cx} {G:Gm} {F:List En} {sg:Sto} {v1 v2 v3 v4 v5 v6 v7 v8 v9 v10 v11 v12 v13 v14 v15 v16 v17 v18 v19 v20 v21 v22 v23 v24 v25 v26 v27 v28 v29 v30 v31 v32 v33 v34 v35 v36 v37 v38 v39 v40 v41 v42 v43 v44 v45 v46 v47 v48 v49 v50 v51 v52 v53 v54 v55 v56 v57 v58 v59 v60:Value}
def fi (sg:Sto) (p0:ByteArray):Option (Sto×af×Er):=
 if (decide ((bN p0) > 1048576))=true then
 some (sg,(⟨0,0,([]:List ah),(⟨0,0,false⟩:aF),false⟩:af),(Er.sent 0))
 else
 (some (sg.add_snap_reader (⟨p0,0,(⟨0,0,([]:List ah),(⟨0,0,false⟩:aF),false⟩:af)⟩:am))).bind fun b=>
 (ee b (some sg.snap_reader.length)).bind fun a=>
 ((ju a.2).bind fun f=>
 (cj f ((flt a.2).bind fun g=>
 (kX g.2 (Er.sent 6)).bind fun h=>
 some h)).bind fun d=>
 if d=true then
 (flt a.2).bind fun i=>
 (cT i.1 (Er.sent 1)).bind fun j=>
 some (j,a.2)
 else
 some (a.2,a.2)).bind fun c=>
 if (!c.1.isNil)=true then
 some (a.1,(⟨0,0,([]:List ah),(⟨0,0,false⟩:aF),false⟩:af),c.1)
 else
 (a.1.snap_reader[sg.snap_reader.length]?).bind fun e=>
 some (a.1,e.v,Er.nil)
theorem jz (O0:Own c0 G F) (R0:Rel c0 sg G) (hG:Gl [0,1,4,5,6] c0) (hU:Eh c0) (hT:Et c0) (j:ByteArray) {r:Sto×af×Er} (H:fi sg j=some r): Calls prog 28 #[.string j] c0.w (aX c0 fun c v=>∃y1 y2,∃G_:Gm,Own c G_ (F)∧Rel c r.1 G_∧v= .tuple #[.agg #[I r.2.1.Wide,I r.2.1.High,y1,I r.2.1.At.Row,I r.2.1.At.Col,B r.2.1.At.Pending,B r.2.1.Auto],y2]∧Sl aJ c y1 r.2.1.Lines∧RE 230 87 c y2 r.2.2):=by
 unfold fi at H;refine en func28 rfl rfl (sr (me (al 49 [I 0,I 0,Y,I 0,I 0,B false,B false] O0) ?_));rintro v4 c3 l3 ⟨T,rfl,O2⟩;refine va (.nilIface) (wln (W.seq (sr (va (.string j) (vr (I (bN j)) (rx (by kernel_rfl) (dy (ty:=3) u_9 _)) (va (B (decide ((bN j) > 1048576))) (wln (cn H (fun h5 H=>?_) (fun h5 H=>?_)))))))))
 ·refine W.seq (rD [] (Kp G0 []) O2 ?_);intro c6 l6 O7;have p8:Kp G0 [] c6:=Kp.nil0;refine ta 0 (.agg #[I 0,I 0,Y,I 0,I 0,B false,B false]) ?_;obtain ⟨v9,u0⟩:=(hG.mono (l3.trans l6)).get 0 (by decide);refine tx 1 (fun t i=>l1 jV u0.m.im) (o1 2 (gD 2 (sA 49 [I 0,I 0,Y,I 0,I 0,B false,B false] 0 O7 ⟨rfl,rfl,rfl,rfl,rfl,rfl,rfl,trivial⟩) ?_));rintro a0 s4 m0;have n3:Kp G0 [] a0:=Kp.nil0;refine ⟨.inr n3,ta 3 (v9) (dn (nrm (W.ret (thr ?_))))⟩;obtain rfl:=si H;have x1:=m0.sD 1 [];exact nQ (c:=a0) (vs:=[I 0,I 0,Y,I 0,I 0,B false,B false]) (v:=v9) rfl (by kernel_rfl) (by kernel_rfl) (by kernel_rfl) (by kernel_rfl) (m0.on 0 rfl _ rfl).1 ⟨_,a0,rfl,rfl,pt,(Y),v9,G,x1,R0.m,rfl,(Sl.nl _ _),u0.m⟩
 refine W.skip (nrm (sr (va (.string j) (va (.agg #[.string j,I 0,I 0,I 0,Y,I 0,I 0,B false,B false]) ?_))));have q2:OA aJ c3 (Y) [] []:=OA.nil (fD _);have z1:=O2.addHole (e:=es false aJ (Y) 97 [] ([]:List ah)) rfl;refine me (al 106 [.string j,I 0,I 0,I 0,(Y),I 0,I 0,B false,B false] z1) ?_;rintro v20 m4 D ⟨f,rfl,b2⟩;have d2:=b2.sD 3 [0,1,2];refine bn H fun w1 s2 H=>?_;obtain ⟨k2,k4,t2,a1,v0,e2,s0,p4,q4,l4⟩:=Rel.new_snap_reader (E:=[(Eb f 106 [.string j,I 0,I 0,I 0,(Y),I 0,I 0,B false,B false]),es false aJ (Y) 97 [] ([]:List ah)]) (F:=(Eb T 49 [I 0,I 0,Y,I 0,I 0,B false,B false]) :: F) (x:=(⟨j,0,(⟨0,0,([]:List ah),(⟨0,0,false⟩:aF),false⟩:af)⟩:am)) (b:=f) d2 (R0.mono (l3.trans D)) (fun c_ hle_=>⟨f,(Y),[],rfl,rfl,((q2.mono D).mono hle_)⟩);rw [ao s2] at s0;refine WL.gh t2.1 ?_;have u2:Pt 0 k2 (Q f) (some sg.snap_reader.length):=⟨f,rfl,v0⟩;refine va (Q f) (wln (sr (va (Q f) (bn H fun k0 v2 H=>cl (kZ e2 s0 (hG.m.le (by decide)) hT.m (some sg.snap_reader.length) u2 v2) ?_))));rintro v35 n4 c1 ⟨_,z,f2,S,rfl,w0⟩;refine va (v35) (wln (sr (me (al 87 [.pointer none] f2) ?_)));rintro v46 t0 j0 ⟨h,rfl,g2⟩;refine wln (bn H fun y d g=>W.seqJ (Jn t0 fun c l=>∃v49 v50,Own c z ((Eb h 87 [v49]) :: (Eb T 49 [I 0,I 0,Y,I 0,I 0,B false,B false]) :: F)∧l= [(2,Q T),(4,Q f),(5,v50)]∧FP c v49 y.2∧RE 230 87 c v50 y.1) ?_ ?_)
 ·refine W.seq (bn d fun s1 w2 d=>bn d fun h1 x0 d=>W.join (Jn t0 fun c l=>∃v53,Own c z ((Eb h 87 [v53]) :: (Eb T 49 [I 0,I 0,Y,I 0,I 0,B false,B false]) :: F)∧l= [(2,Q T),(4,Q f),(5,v35),(6,Q h),(27,B h1)]∧FP c v53 k0.2) ?_ ?_)
  ·clear d;refine rD [2,4,9] (Kp G0 []) g2 ?_;intro l2 h3 h2;have u4:Kp G0 [] l2:=Kp.nil0;refine ta 0 (v35) (ta 1 (.iface 89 (Q h)) (o1 2 (gc 2 (pI h2 hU.m k0.2 w0.m w2) ?_)));rintro v60 m2 i3 ⟨v57,R,rfl,h0⟩;refine ⟨.inl rfl,?_⟩;rcases bo (s1) with o | o
   ·have n:=anT o x0;refine bn n fun t1 x2 n=>bn n fun u1 z2 n=>AC.takeb 3 o rfl (by kernel_rfl) (by kernel_rfl) (fun t i=>(by kernel_rfl)) ?_;obtain ⟨w4,y0⟩:=(hG.mono (l3.trans (D.trans (a1.trans (c1.trans (j0.trans (h3.trans i3))))))).get 6 (by decide);refine tx 8 (fun t i=>l1 jV y0.m.im) (o1 4 (gl 4 (le1 0 underlying87 (R.on 0 rfl)) ?_));obtain ⟨U,x4,a3,k3,b3⟩:=(h0).get x2;subst a3;refine ta 5 (Q U) (ta 6 (Qo U (0+1)) (tx 7 (fun t i=>l1 jV ((mm k3) 1 _ rfl)) (o1 9 (gc 9 (oQ R (hG.m.le (by decide)) t1.2 (Er.sent 6) b3 y0 z2) ?_))));rintro y4 n2 t4 ⟨i2,rfl⟩;refine ⟨.inl rfl,?_⟩;obtain rfl:=si n;exact ta 10 (B u1) (dn (nrm (jn n2 ⟨(Q U),i2,rfl,h0.m⟩)))
   obtain rfl:=anF o x0;exact AC.takeb 3 o rfl (by kernel_rfl) (by kernel_rfl) (fun t i=>(by kernel_rfl)) (tp 8 (tp 4 (tp 5 (tp 6 (tp 7 (tp 9 (ta 10 (B false) (dn (nrm (jn m2 ⟨v57,R,rfl,h0⟩))))))))))
  rintro e_ w_ ⟨o2,o4,_,rfl,j3,rfl,v53,o0,rfl,i0⟩;refine nrm (cn d (fun d3 d=>?_) (fun d3 d=>?_))
  ·refine rD [] (Kp G0 [(Eb h 87 [v53])]) o0 ?_;intro p2 d1 q0;have o3:Kp G0 [(Eb h 87 [v53])] p2:=(Kp.cons (q0.on 0 rfl) Kp.nil0);refine tkx 0 o3 (fun t i hk=>le1 0 underlying87 (hk.on 0 rfl)) (bn d fun v1 e3 d=>?_);obtain ⟨A,z4,f3,m3,r4⟩:=((i0.mono d1)).get e3;subst f3;refine ta 1 (Q A) (ta 2 (Q A) (tx 3 (fun t i=>l1 u_3 ((mm m3) 0 _ rfl)) ?_));obtain ⟨a5,z0⟩:=(hG.mono (l3.trans (D.trans (a1.trans (c1.trans (j0.trans (j3.trans d1))))))).get 1 (by decide);refine tx 4 (fun t i=>l1 jV z0.m.im) (bn d fun j4 g3 d=>o1 5 (gc 5 (fS q0 v1.1 (Er.sent 1) z0 g3) ?_));rintro e1 X d4 ⟨_,M,rfl,i1⟩;have p1:Kp G0 [(Eb h 87 [(Q A)])] X:=(Kp.cons (M.on 0 rfl) Kp.nil0);refine ⟨.inr p1,ta 6 (e1) (dn (nrm ?_))⟩;obtain rfl:=si d;exact jn X ⟨(Q A),e1,M,rfl,i0.m,i1⟩
  refine W.skip (nrm ?_);obtain rfl:=si d;exact jn o2 ⟨v53,v35,o0,rfl,i0,w0.m⟩
 rintro e_ w_ ⟨v3,z3,_,rfl,n1,rfl,v49,v50,k,rfl,a4,d0⟩;refine W.seq (sr (va (v50) (vr (B (!y.1.isNil)) (by rcases (d0).cs with ⟨f0,g0⟩ | ⟨b_,f0,g0⟩ | ⟨b_,f0,g0⟩ <;> (subst f0; rw [g0]; kernel_rfl)) (wln (cn g (fun j1 g=>?_) (fun j1 g=>?_))))))
 ·refine sr (va (.agg #[I 0,I 0,Y,I 0,I 0,B false,B false]) (va (v50) (md (sA 49 [I 0,I 0,Y,I 0,I 0,B false,B false] 1 k ⟨rfl,rfl,rfl,rfl,rfl,rfl,rfl,trivial⟩) ?_)));rintro Z e4 N;refine va (v50) (wln (W.ret (thr ?_)));obtain rfl:=si g;have f1:=N.sD 2 [];exact nQ (c:=Z) (vs:=[I 0,I 0,Y,I 0,I 0,B false,B false]) (v:=v50) rfl (by kernel_rfl) (by kernel_rfl) (by kernel_rfl) (by kernel_rfl) (N.on 1 rfl _ rfl).1 ⟨_,Z,rfl,rfl,pt,(Y),v50,z,f1,S.m,rfl,(Sl.nl _ _),d0.m⟩
 refine W.skip (nrm (sr (vv (Q f) (va (Qo f 2) (bn g fun a k1 g=>?_)))));obtain ⟨q1,h4,e0,m1⟩:=Rel.open_snap_reader (S.mono (j0.trans n1)) k1 (tm v0);refine vx (leN 49 2 [I a.v.Wide,I a.v.High,q1,I a.v.At.Row,I a.v.At.Col,B a.v.At.Pending,B a.v.Auto] (k.gon e0 0 rfl)) ?_;have u:=m1.sl (k.gon e0 1 rfl);obtain ⟨p,q,s,rfl⟩:=(u).form;refine md (sA 49 [I a.v.Wide,I a.v.High,.slice p q s,I a.v.At.Row,I a.v.At.Col,B a.v.At.Pending,B a.v.Auto] 1 k ⟨rfl,rfl,u.one,rfl,rfl,rfl,rfl,trivial⟩) ?_;rintro b0 f4 P;refine va (.nilIface) (wln (W.ret ?_));obtain rfl:=si g;have g1:=P.sD 2 [];exact nQ (c:=b0) (vs:=[I a.v.Wide,I a.v.High,.slice p q s,I a.v.At.Row,I a.v.At.Col,B a.v.At.Pending,B a.v.Auto]) (v:= .nilIface) rfl (by kernel_rfl) (by kernel_rfl) (by kernel_rfl) (by kernel_rfl) (P.on 1 rfl _ rfl).1 ⟨_,b0,rfl,rfl,pt,(.slice p q s),.nilIface,z,g1,S.m,rfl,u.m,rfl⟩
end Go.Proofs.YtmncdniojmigeaaGreatDoor
