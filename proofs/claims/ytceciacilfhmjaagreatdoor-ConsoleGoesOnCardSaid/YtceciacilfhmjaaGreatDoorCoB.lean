/- Parts of the proofs of ConsoleGoesOn: the walk through the code, and plain Lean. No condition. -/
import Derived.Test.YtceciacilfhmjaaGreatDoorCoA
import Derived.Test.YtceciacilfhmjaaGreatDoorProg
import Derived.Shelf.Spec.SlicesInsertGrow
import Derived.Shelf.Slices.Delete
set_option linter.unusedVariables false
set_option linter.unusedSimpArgs false
namespace Go.Proofs.YtceciacilfhmjaaGreatDoor
open Go Go.Lt
set_option maxRecDepth 10000
set_option linter.unusedVariables false
attribute [local irreducible] W WL AC
open Tryz
variable {c0:Cx} {G:Gm} {F:List En} {sg:Sto} {v1 v2 v3 v4 v5 v6 v7 v8 v9 v10 v11 v12 v13 v14 v15 v16 v17 v18 v19 v20 v21 v22 v23 v24 v25 v26 v27 v28 v29 v30 v31 v32 v33 v34 v35 v36 v37 v38 v39 v40 v41 v42 v43 v44 v45 v46 v47 v48 v49 v50 v51 v52 v53 v54 v55 v56 v57 v58 v59 v60:Value}
def dE (p0:Int):Option (Bool):=
 (bX (decide (p0≥0)) (some (decide (p0 < 55296)))).bind fun b=>
 (orE b ((bX (decide (p0 > 57343)) (some (decide (p0≤1114111)))).bind fun a=>
 some a)).bind fun c=>
 some c
theorem km (e:Own c0 G F) (a:Int) {r:Bool} (H:dE a=some r): Calls prog 92 #[J a] c0.w (aO c0 fun c v=>Own c G (F)∧v=B r):=by
 unfold dE at H;refine en func92 rfl rfl (sr (va (B false) (wln (W.seq (bn H fun z t H=>bn H fun s n H=>W.join (Jn c0 fun c l=>Own c G (F)∧l= [(2,B s)]) ?_ ?_)))))
 ·clear H;refine W.region (va (J a) (va (B (decide (a≥0))) ?_));rcases bo (decide (a≥0)) with f | f
  ·have x:=anT f t;refine vb f (wa (J a) (wa (B (decide (a < 55296))) ?_));obtain rfl:=si x;refine va (B (decide (a < 55296))) ?_;rcases bo (decide (a < 55296)) with g | g
   ·obtain rfl:=orT g n;exact vb g (pz (pz (pz (vv (B true) (wln (jn c0 ⟨e,rfl⟩))))))
   have i:=orF g n;refine vb g (wa (J a) (wa (B (decide (a > 57343))) (wn (bn i fun m u i=>?_))));rcases bo (decide (a > 57343)) with h | h
   ·have y:=anT h u;refine vb h (wa (J a) (wa (B (decide (a≤1114111))) (wn ?_)));obtain rfl:=si y;refine va (B (decide (a≤1114111))) ?_;obtain rfl:=si i;exact vv (B (decide (a≤1114111))) (wln (jn c0 ⟨e,rfl⟩))
   obtain rfl:=anF h u;refine vb h (pz (wa (B false) ?_));obtain rfl:=si i;exact vv (B false) (wln (jn c0 ⟨e,rfl⟩))
  obtain rfl:=anF f t;refine vb f (pz (va (B false) ?_));have j:false=false:=rfl;have d:=orF j n;refine vb j (wa (J a) (wa (B (decide (a > 57343))) (wn (bn d fun m k d=>?_))));rcases bo (decide (a > 57343)) with b | b
  ·have o:=anT b k;refine vb b (wa (J a) (wa (B (decide (a≤1114111))) (wn ?_)));obtain rfl:=si o;refine va (B (decide (a≤1114111))) ?_;obtain rfl:=si d;exact vv (B (decide (a≤1114111))) (wln (jn c0 ⟨e,rfl⟩))
  obtain rfl:=anF b k;refine vb b (pz (wa (B false) ?_));obtain rfl:=si d;exact vv (B false) (wln (jn c0 ⟨e,rfl⟩))
 rintro E M ⟨q,A,_,rfl,D,rfl,p,rfl⟩;refine nrm (W.ret ?_);obtain rfl:=si H;exact r1 (qq q ⟨p,rfl⟩)
def iP (p0:Int):Option (Bool):=
 (dE p0).bind fun a=>
 some (!a)
theorem wZ (d:Own c0 G F) (a:Int) {r:Bool} (H:iP a=some r): Calls prog 156 #[J a] c0.w (aO c0 fun c v=>Own c G (F)∧v=B r):=by
 unfold iP at H;refine en func156 rfl rfl (sr (va (B false) (wln (sr (va (J a) (bn H fun b g H=>cl (km d a g) ?_))))));rintro v7 f h ⟨e,rfl⟩;refine vv (B (!b)) (wln (W.ret ?_));obtain rfl:=si H;exact r1 (qq f ⟨e,rfl⟩)
def cw (p0:List Int):Option (Int):=
 (cV (σ:=Int) (τ:=Int ⊕ Unit) (((p0.length:Int) - 0).toNat+1) (fun b=>
 if (decide (b < (p0.length:Int)))=true then
 (idx p0 b).bind fun c=>
 (iP c).bind fun d=>
 if d=true then
 some (.inr (.inl b))
 else
 some (.inl ((w64 (b+1))))
 else
 some (.inr (.inr ()))) (0)).bind fun a=>
 match a with
 | .inl a=>
 some a
 | .inr a=>
 some (-1)
theorem jp (U:Own c0 G F) (d:List Int) {r:Int} (j:Sl (RI .i32) c0 v1 d) (H:cw d=some r): Calls prog 202 #[v1,.func (.func 156) #[] #[]] c0.w (aO c0 fun c v=>Own c G (F)∧v=I r):=by
 unfold cw at H;refine en func202 rfl rfl (sr (va (I 0) (wln (W.seq (sr (va (v1) (vx (ln 3 dS j) (va (I 0) (wln (W.block (bn H fun b N i=>lp N (fun a=>Jn c0 fun c l=>Own c G (F)∧l= [(0,v1),(1,.func (.func 156) #[] #[]),(7,I (d.length:Int)),(8,I a)]) (fun t=>match t with | .inl k=>(fun R ex e w=>ex= .ret∧(Jn c0 fun c l=>Own c G (F)∧l= [(4,I R)]) e w) k | .inr k=>(fun b0 ex e w=>ex= .exit 0∧(Jn c0 fun c l=>Own c G (F)∧l= []) e w) k) ?_ ?_ ?_)))))))))))
 ·clear i N;intro a j0 y T H;revert y T;rintro x S ⟨X,g6,_,rfl,Z,rfl,q,rfl⟩;refine sr (va (B (decide (a < (d.length:Int)))) (wln (W.seq (cn H (fun A H=>?_) (fun A H=>?_)))))
  ·refine W.skip (nrm (W.seq (W.block (sr (vv (I a) (wln (sr (va (.func (.func 156) #[] #[]) (va (v1) (va (I a) (bn H fun n h H=>?_)))))))))));obtain ⟨a0,D,P⟩:=Sl.at (j.mono Z) (bW h);obtain rfl:=D;refine vx (ix dS j.m h) (vx (l1 rh (P 0 _ rfl)) (bn H fun d0 E H=>cl (wZ q n E) ?_));rintro v22 g g0 ⟨f,rfl⟩;refine wln (cn H (fun M H=>?_) (fun M H=>?_))
   ·refine sr (vv (I a) (wln (W.ret (bkr (thr ?_)))));obtain rfl:=si H;exact ⟨_,rfl,⟨rfl,jn g ⟨f,rfl⟩⟩⟩
   refine W.skip (bkn (nrm (W.region (vv (I (w64 (a+1))) (WL.nil ?_)))));obtain rfl:=si H;exact ⟨_,rfl,jn g ⟨f,rfl⟩⟩
  refine W.exit (thx ?_);obtain rfl:=si H;exact ⟨_,rfl,rfl,jn X ⟨q,rfl⟩⟩
 ·exact jn c0 ⟨U,rfl⟩
 rcases b with b | b
 ·intro z; revert z;rintro _ x S ⟨rfl,s,e0,_,rfl,h0,rfl,o,rfl⟩;refine bkr (thr ?_);obtain rfl:=si i;exact r1 (qq s ⟨o,rfl⟩)
 rintro _ x S ⟨rfl,u,f0,_,rfl,i0,rfl,p,rfl⟩;refine bke (nrm (sr (va (I (-1)) (wln (W.ret ?_)))));obtain rfl:=si i;exact r1 (qq u ⟨p,rfl⟩)
def bR (p0:List Int):Option (Bool):=
 (cw p0).bind fun a=>
 some (decide (a≥0))
theorem iD (d:Own c0 G F) (b:List Int) {r:Bool} (g:Sl (RI .i32) c0 v1 b) (H:bR b=some r): Calls prog 155 #[v1,.func (.func 156) #[] #[]] c0.w (aO c0 fun c v=>Own c G (F)∧v=B r):=by
 unfold bR at H;refine en func155 rfl rfl (sr (va (B false) (wln (sr (va (v1) (va (.func (.func 156) #[] #[]) (bn H fun a h H=>cl (jp d b g h) ?_)))))));rintro v9 f i ⟨e,rfl⟩;refine vv (B (decide (a≥0))) (wln (W.ret ?_));obtain rfl:=si H;exact r1 (qq f ⟨e,rfl⟩)
def kz (p0:aa):Option (Bool):=
 (if (p0.Kind==0)=true then
 some (p0.Kind==0)
 else
 some (p0.Kind==3)).bind fun e=>
 if e=true then
 some ((p0.Text.length:Int)==0)
 else
 (if (p0.Kind==1)=true then
 some (p0.Kind==1)
 else
 some (p0.Kind==2)).bind fun d=>
 if d=true then
 (bX (decide ((p0.Text.length:Int) > 0)) (some (decide ((p0.Text.length:Int)≤16)))).bind fun a=>
 (bX a ((bR p0.Text).bind fun c=>
 some (!c))).bind fun b=>
 some b
 else
 some false
theorem zu (O0:Own c0 G F) (a:aa) {r:Bool} (s:Sl (RI .i32) c0 v1 a.Text) (H:kz a=some r): Calls prog 121 #[.agg #[I a.Kind,v1]] c0.w (aO c0 fun c v=>Own c G (F)∧v=B r):=by
 unfold kz at H;refine en func121 rfl rfl (sr ?_);obtain ⟨a3,a4,a5,rfl⟩:=(s).form;refine me (bx 104 [I a.Kind,.slice a3 a4 a5] O0) ?_;rintro v10 z l9 ⟨i,rfl,P,u⟩;refine va (B false) (wln (W.seq (sr (va (Q i) (vx (l1 u_3 (u 0 _ rfl)) (wln (W.block (bn H fun e0 d e=>W.seqJ (Jn z fun c l=>Own c G (F)∧l= [(1,Q i),(4,I a.Kind),(5,B e0)]) ?_ ?_))))))))
 ·refine sr (vv (B (a.Kind==0)) (wln (cn d (fun U d=>?_) (fun U d=>?_))))
  ·refine W.skip (nrm ?_);obtain rfl:=si d;exact jn z ⟨P,rfl⟩
  refine W.region (vv (B (a.Kind==3)) (wln ?_));obtain rfl:=si d;exact jn z ⟨P,rfl⟩
 rintro T w_ ⟨n,k0,_,rfl,o0,rfl,q,rfl⟩;refine cn e (fun X e=>?_) (fun X e=>?_)
 ·refine sr (va (Qo i (0+1)) (vx (l1 dS ((mm u) 1 _ rfl)) (vx (ln 3 dS s.m) (vv (B ((a.Text.length:Int)==0)) (wln (W.ret (bkr (thr ?_))))))));obtain rfl:=si e;exact r1 (qq n ⟨q,rfl⟩)
 refine bn e fun D f b=>W.seqJ (Jn n fun c l=>Own c G (F)∧l= [(1,Q i),(12,B D)]) ?_ ?_
 ·refine sr (vv (B (a.Kind==1)) (wln (cn f (fun Z f=>?_) (fun Z f=>?_))))
  ·refine W.skip (nrm ?_);obtain rfl:=si f;exact jn n ⟨q,rfl⟩
  refine W.region (vv (B (a.Kind==2)) (wln ?_));obtain rfl:=si f;exact jn n ⟨q,rfl⟩
 rintro T w_ ⟨o,l0,_,rfl,q0,rfl,k,rfl⟩;refine cn b (fun a0 b=>?_) (fun a0 b=>?_)
 ·refine W.seq (bn b fun j0 x b=>bn b fun A t b=>W.join (Jn o fun c l=>Own c G (F)∧l= [(2,B A)]) ?_ ?_)
  ·clear b;refine W.region (va (Qo i (0+1)) (vx (l1 dS ((mm u) 1 _ rfl)) (vx (ln 3 dS s.m) (va (B (decide ((a.Text.length:Int) > 0))) ?_))));rcases bo (decide ((a.Text.length:Int) > 0)) with g | g
   ·have E:=anT g x;refine vb g (wa (Qo i (0+1)) (wn (vx (l1 dS ((mm u) 1 _ rfl)) (wn (vx (ln 3 dS s.m) (wa (B (decide ((a.Text.length:Int)≤16))) ?_))))));obtain rfl:=si E;refine va (B (decide ((a.Text.length:Int)≤16))) ?_;rcases bo (decide ((a.Text.length:Int)≤16)) with h | h
    ·have p:=anT h t;refine vb h (wa (Qo i (0+1)) (wn (vx (l1 dS ((mm u) 1 _ rfl)) (wn (bn p fun j b0 p=>cl (iD k a.Text s.m b0) ?_)))));rintro v43 R s0 ⟨M,rfl⟩;refine wa (B (!j)) ?_;obtain rfl:=si p;exact vv (B (!j)) (wln (jn R ⟨M,rfl⟩))
    obtain rfl:=anF h t;exact vb h (pz (pz (vv (B false) (wln (jn o ⟨k,rfl⟩)))))
   obtain rfl:=anF g x;refine vb g (pz (pz (va (B false) ?_)));have y:false=false:=rfl;obtain rfl:=anF y t;exact vb y (pz (pz (vv (B false) (wln (jn o ⟨k,rfl⟩)))))
  rintro T w_ ⟨S,m0,_,rfl,t0,rfl,N,rfl⟩;refine nrm (W.ret (bkr (thr ?_)));obtain rfl:=si b;exact r1 (qq S ⟨N,rfl⟩)
 refine W.skip (bkn (nrm (sr (va (B false) (wln (W.ret ?_))))));obtain rfl:=si b;exact r1 (qq o ⟨k,rfl⟩)
def jm (p0:List aa):Option (Bool):=
 (cV (σ:=Bool×Int) (τ:=Bool ⊕ Bool) (((p0.length:Int) - 0).toNat+1) (fun b=>
 if (decide (b.2 < (p0.length:Int)))=true then
 (idx p0 b.2).bind fun c=>
 (kz c).bind fun e=>
 (orE (!e) (some (!(b.1==(c.Kind==3))))).bind fun d=>
 if d=true then
 some (.inr (.inl false))
 else
 some (.inl (c.Kind==2,(w64 (b.2+1))))
 else
 some (.inr (.inr (b.1)))) (false,0)).bind fun a=>
 match a with
 | .inl a=>
 some a
 | .inr a=>
 some (!a)
theorem pL (O0:Own c0 G F) (p:List aa) {r:Bool} (M:Sl ax c0 v1 p) (H:jm p=some r): Calls prog 84 #[v1] c0.w (aO c0 fun c v=>Own c G (F)∧v=B r):=by
 unfold jm at H;refine en func84 rfl rfl (sr (va (B false) (wln (sr (va (B false) (wln (W.seq (sr (va (v1) (vx (ln 3 dN M) (va (I 0) (wln (W.block (bn H fun d h3 A=>lp h3 (fun b=>Jn c0 fun c l=>Own c G (F)∧l= [(3,B b.1),(6,v1),(7,I (p.length:Int)),(8,I b.2)]) (fun t=>match t with | .inl R=>(fun s0 ex e w=>ex= .ret∧(Jn c0 fun c l=>Own c G (F)∧l= [(2,B s0)]) e w) R | .inr R=>(fun N ex e w=>ex= .exit 0∧(Jn c0 fun c l=>Own c G (F)∧l= [(3,B N)]) e w) R) ?_ ?_ ?_))))))))))))))
 ·clear A h3;intro b h1 g0 t0 H;revert g0 t0;rintro E P ⟨c5,g6,_,rfl,l5,rfl,O7,rfl⟩;refine sr (va (B (decide (b.2 < (p.length:Int)))) (wln (W.seq (cn H (fun i0 H=>?_) (fun i0 H=>?_)))))
  ·refine W.skip (nrm (W.seq (W.block (sr (bn H fun a y H=>?_)))));obtain ⟨x0,j0,q0⟩:=Sl.at (M.mono l5) (bW y);obtain ⟨v16,rfl,o⟩:=j0;refine vx (ix dN M.m y) (vx (lN 104 q0) (me (al 104 [I 0,Y] O7) ?_));rintro v21 y0 o0 ⟨g,rfl,T⟩;obtain ⟨j,k,n,rfl⟩:=((o.mono o0)).form;refine md (sA 104 [I a.Kind,.slice j k n] 0 T ⟨rfl,o.m.one,trivial⟩) ?_;rintro d0 c1 s;refine wln (W.seq (W.seq (bn H fun q k0 H=>bn H fun D z H=>W.join (Jn d0 fun c l=>Own c G ((Eb g 104 [I a.Kind,.slice j k n]) :: F)∧l= [(5,Q g),(6,v1),(7,I (p.length:Int)),(8,I b.2),(21,B D)]) ?_ ?_)))
   ·clear H;refine W.region (vx (leN 104 0 [I a.Kind,.slice j k n] (s.on 0 rfl)) (cl (zu s a o.m k0) ?_));rintro v34 u d1 ⟨h,rfl⟩;refine va (B (!q)) ?_;rcases bo (!q) with f | f
    ·obtain rfl:=orT f z;exact vb f (pz (pz (ps (va (B true) (wln (jn u ⟨h,rfl⟩))))))
    have S:=orF f z;refine vb f (wa (B b.1) (wa (Q g) (wn (vx (le1 0 u_3 (h.on 0 rfl)) (wa (B (a.Kind==3)) (wa (B (!(b.1==(a.Kind==3)))) ?_))))));obtain rfl:=si S;exact va (B (!(b.1==(a.Kind==3)))) (wln (jn u ⟨h,rfl⟩))
   rintro E P ⟨x,z0,_,rfl,e1,rfl,i,rfl⟩;refine nrm (cn H (fun m0 H=>?_) (fun m0 H=>?_))
   ·refine sr (va (B false) (wln (W.ret (thr (bkr (thr ?_))))));obtain rfl:=si H;refine ⟨_,rfl,⟨rfl,?_⟩⟩;have U:=i.sD 1 [];exact jn x ⟨U,rfl⟩
   refine W.skip (nrm (W.region (va (Q g) (vx (le1 0 u_3 (i.on 0 rfl)) (vv (B (a.Kind==2)) (WL.nil (bkn (nrm (W.region (vv (I (w64 (b.2+1))) (WL.nil ?_)))))))))));obtain rfl:=si H;refine ⟨_,rfl,?_⟩;have X:=i.sD 1 [];exact jn x ⟨X,rfl⟩
  refine W.exit (thx ?_);obtain rfl:=si H;exact ⟨_,rfl,rfl,jn c5 ⟨O7,rfl⟩⟩
 ·exact jn c0 ⟨O0,rfl⟩
 rcases d with d | d
 ·intro h0; revert h0;rintro _ E P ⟨rfl,e0,a1,_,rfl,f1,rfl,Z,rfl⟩;refine bkr (thr ?_);obtain rfl:=si A;exact r1 (qq e0 ⟨Z,rfl⟩)
 rintro _ E P ⟨rfl,f0,b1,_,rfl,g1,rfl,a0,rfl⟩;refine bke (nrm (sr (va (B d) (vv (B (!d)) (wln (W.ret ?_))))));obtain rfl:=si A;exact r1 (qq f0 ⟨a0,rfl⟩)
def eh (p0:Int):Option (List aa):=
 (rep (aS 0 (aM p0 1024)) (⟨0,([]:List Int)⟩:aa)).bind fun a=>
 some a
theorem jM (f:Own c0 G F) (a:Int) {r:List aa} (H:eh a=some r): Calls prog 78 #[I a] c0.w (aO c0 fun c v=>∃b e,Own c G (es true ax b 104 e r :: F)∧v=b∧OA ax c b e r):=by
 unfold eh at H;refine en func78 rfl rfl (sr (va (Y) (wln (sr (va (I a) (va (I (aM a 1024)) (va (I (aS 0 (aM a 1024))) (bn H fun m d H=>me (Own.mkS (kl:= .i64) (kc:= .i64) (R:=ax) (z:= .agg #[I 0,Y]) (lz:=[I 0,Y]) (x:=(⟨0,([]:List Int)⟩:aa)) (by_:=32) (i:=(aS 0 (aM a 1024))) (j:=(aS 0 (aM a 1024))) true f (aI _) d (Ld _) (BH d) dN (by kernel_rfl) rfl rfl (fun _=>⟨(Y),rfl,(Sl.nl _ _)⟩) (by kernel_rfl) (by kernel_rfl)) ?_))))))));rintro v6 h n ⟨l,g,k⟩;refine va (v6) (wln (W.ret ?_));obtain rfl:=si H;exact r1 (qq h ⟨v6,l,g,rfl,k⟩)
def kx (sg:Sto) (p0:Int):Option (Sto×(Option Nat)):=
 (eh (aS 1 p0)).bind fun b=>
 (some (sg.add_row_Row (⟨b,false⟩:bm))).bind fun a=>
 some (a,(some sg.row_Row.length))
theorem ug (N:Own c0 G F) (R:Rel c0 sg G) (g:Int) {r:Sto×(Option Nat)} (H:kx sg g=some r): Calls prog 43 #[I g] c0.w (aO c0 fun c v=>∃M,∃G_:Gm,Own c G_ (F)∧Rel c r.1 G_∧dY G G_∧v=M∧Pt 0 c M r.2):=by
 unfold kx at H;refine en func43 rfl rfl (sr (va (.pointer none) (wln (sr (va (I g) (va (I (aS 1 g)) (bn H fun j S H=>cl (jM N (aS 1 g) S) ?_)))))));rintro v2 c9 T ⟨_,D,P,rfl,z⟩;obtain ⟨d,e,f,rfl⟩:=(z).form;refine va (.agg #[.slice d e f,B false]) (me (al 137 [.slice d e f,B false] P) ?_);rintro v17 U l16 ⟨a,rfl,l⟩;have m:=l.sD 2 [0,1];refine bn H fun A q H=>?_;obtain ⟨i,k,s,a0,t,n,h,X,u,o⟩:=Rel.new_row_Row (E:=[(Eb a 137 [.slice d e f,B false]),es true ax (.slice d e f) 104 D j]) (F:=F) (x:=(⟨j,false⟩:bm)) (b:=a) m (R.mono (T.trans l16)) (fun c_ hle_=>⟨a,(.slice d e f),D,rfl,rfl,((z.mono l16).mono hle_)⟩);rw [aH q] at h;refine WL.gh s.1 ?_;have Z:=dY.nil (dY.refl _) u;have p:=(dY.refl _).trans o;have y:Pt 0 i (Q a) (some sg.row_Row.length):=⟨a,rfl,t⟩;refine va (Q a) (wln (W.ret ?_));obtain rfl:=si H;exact r1 (qq i ⟨(Q a),k,n,h,p,rfl,y⟩)
def lx (p0:aa):Option (aa):=
 (fK p0.Text).bind fun a=>
 some (⟨p0.Kind,a⟩:aa)
theorem qZ (E:Own c0 G F) (a:aa) {r:aa} (t:Sl (RI .i32) c0 v1 a.Text) (H:lx a=some r): Calls prog 122 #[.agg #[I a.Kind,v1]] c0.w (aO c0 fun c v=>∃i D,Own c G (es true (RI .i32) i 21 D r.Text :: F)∧v= .agg #[I r.Kind,i]∧OA (RI .i32) c i D r.Text):=by
 unfold lx at H;refine en func122 rfl rfl (sr ?_);obtain ⟨N,P,R,rfl⟩:=(t).form;refine me (bx 104 [I a.Kind,.slice N P R] E) ?_;rintro v10 c9 l9 ⟨o,rfl,M,x⟩;refine me (al 104 [I 0,Y] M) ?_;rintro v14 U X ⟨T,rfl,j⟩;refine wln (W.seq (rD [] (Kp G0 []) j ?_));intro p Z k;have d0:Kp G0 [] p:=Kp.nil0;refine ta 0 (Q o) (tx 1 (fun S u=>l1 u_3 ((mm x) 0 _ rfl)) (ta 2 (Qo o (0+1)) (tx 3 (fun S u=>l1 dS ((mm x) 1 _ rfl)) (bn H fun e0 s H=>o1 4 (gc 4 (wO k a.Text t.m s) ?_)))));rintro v19 q a0 ⟨_,A,l,rfl,g⟩;have y:Kp G0 [] q:=Kp.nil0;refine ⟨.inr y,?_⟩;obtain ⟨b,d,e,rfl⟩:=(g).form;refine ta 5 (.agg #[I a.Kind,.slice b d e]) (o1 6 (gD 6 (sA 104 [I a.Kind,.slice b d e] 1 l ⟨rfl,(g).one,trivial⟩) ?_));rintro f b0 h;have z:Kp G0 [] f:=Kp.nil0;refine ⟨.inr z,dn (nrm (W.ret ?_))⟩;obtain rfl:=si H;have n:=h.sD 2 [0];exact uV (c:=f) (vs:=[I a.Kind,.slice b d e]) rfl (by kernel_rfl) (by kernel_rfl) (by kernel_rfl) (h.on 1 rfl _ rfl).1 ⟨_,f,rfl,rfl,pt,(.slice b d e),A,n,rfl,g.m⟩
def wC (sg:Sto) (p0:List aa):Option (Sto×(Option Nat)×Er):=
 (orE ((p0.length:Int)==0) (some (decide ((p0.length:Int) > 1024)))).bind fun k=>
 if k=true then
 some (sg,(none:Option Nat),(Er.sent 3))
 else
 (jm p0).bind fun h=>
 if (!h)=true then
 some (sg,(none:Option Nat),(Er.sent 5))
 else
 (kx sg (p0.length:Int)).bind fun c=>
 (cV (σ:=Int×Sto) (τ:=Sto) (((p0.length:Int) - 0).toNat+1) (fun a=>
 if (decide (a.1 < (p0.length:Int)))=true then
 (idx p0 a.1).bind fun i=>
 (c.2).bind fun e=>
 (a.2.row_Row[e]?).bind fun b=>
 (lx i).bind fun j=>
 (idx b.cells a.1).bind fun l=>
 (mj b.cells a.1 j).bind fun g=>
 (a.2.set_row_Row e (⟨g,b.wrap⟩:bm)).bind fun d=>
 some (.inl ((w64 (a.1+1)),d))
 else
 some (.inr (a.2))) (0,c.1)).bind fun f=>
 some (f,c.2,Er.nil)
theorem Gs (O0:Own c0 G F) (R0:Rel c0 sg G) (hG:Gl [3,5] c0) (d:List aa) {r:Sto×(Option Nat)×Er} (j:Sl ax c0 v1 d) (H:wC sg d=some r): Calls prog 185 #[v1] c0.w (aO c0 fun c v=>∃y1 y2,∃G_:Gm,Own c G_ (F)∧Rel c r.1 G_∧v= .tuple #[y1,y2]∧Pt 0 c y1 r.2.1∧RE 318 126 c y2 r.2.2):=by
 unfold wC at H;refine en func185 rfl rfl (sr (va (.pointer none) (va (.nilIface) (wln (W.seq (W.block (W.seq (bn H fun m2 h3 H=>W.join (Jn c0 fun c l=>Own c G (F)∧l= [(0,v1),(7,B m2)]) ?_ ?_))))))))
 ·clear H;refine W.region (va (v1) (vx (ln 3 dN j) (va (B ((d.length:Int)==0)) ?_)));rcases bo ((d.length:Int)==0) with M | M
  ·obtain rfl:=orT M h3;exact vb M (pz (ps (vv (B true) (wln (jn c0 ⟨O0,rfl⟩)))))
  have H5:=orF M h3;refine vb M (wa (v1) (wn (vx (ln 3 dN j) (wa (B (decide ((d.length:Int) > 1024))) ?_))));obtain rfl:=si H5;exact vv (B (decide ((d.length:Int) > 1024))) (wln (jn c0 ⟨O0,rfl⟩))
 rintro e_ w_ ⟨c6,g7,_,rfl,l6,rfl,O8,rfl⟩;refine nrm (cn H (fun p2 H=>?_) (fun p2 H=>?_))
 ·refine W.seq (rD [] (Kp G0 []) O8 ?_);intro g0 g3 w1;have j4:Kp G0 [] g0:=Kp.nil0;obtain ⟨v16,i0⟩:=(hG.mono (l6.trans g3)).get 3 (by decide);refine tx 0 (fun c' p=>l1 qd i0.m.im) (ta 1 (.pointer none) (ta 2 (v16) (dn (nrm (W.ret (bkr (thr ?_)))))));obtain rfl:=si H;exact r2 (qq g0 ⟨(.pointer none),v16,G,w1,R0.m,rfl,rfl,i0⟩)
 refine sr (va (v1) (bn H fun Z q2 H=>cl (pL O8 d j.m q2) ?_));rintro v24 e4 t0 ⟨e0,rfl⟩;refine vv (B (!Z)) (wln (cn H (fun s2 H=>?_) (fun s2 H=>?_)))
 ·refine W.seq (rD [] (Kp G0 []) e0 ?_);intro h0 i3 x1;have k4:Kp G0 [] h0:=Kp.nil0;obtain ⟨v29,j0⟩:=(hG.mono (l6.trans (t0.trans i3))).get 5 (by decide);refine tx 0 (fun c' p=>l1 qd j0.m.im) (ta 1 (.pointer none) (ta 2 (v29) (dn (nrm (W.ret (bkr (thr ?_)))))));obtain rfl:=si H;exact r2 (qq h0 ⟨(.pointer none),v29,G,x1,R0.m,rfl,rfl,j0⟩)
 refine W.skip (bkn (nrm (sr (va (v1) (vx (ln 3 dN j.m) (bn H fun b4 u2 H=>cl (ug e0 R0.m (d.length:Int) u2) ?_))))));rintro v32 E j3 ⟨_,t1,z1,g2,d4,rfl,k0⟩;refine va (v32) (wln (W.seq (sr (va (v1) (vx (ln 3 dN j.m) (va (I 0) (wln (W.block (bn H fun a4 l0 d0=>lp l0 (fun a=>Jn E fun c l=>∃G_,Own c G_ (F)∧l= [(4,v32),(25,v1),(26,I (d.length:Int)),(27,I a.1)]∧Rel c a.2 G_) (fun b0 ex e w=>ex= .exit 1∧(Jn E fun c l=>∃G_,Own c G_ (F)∧l= [(4,v32)]∧Rel c b0 G_) e w) ?_ ?_ ?_)))))))))
 ·clear d0 l0;intro a p4 o2 p3 H;revert o2 p3;rintro e_ w_ ⟨i2,i4,_,rfl,u0,rfl,i,f0,rfl,y⟩;refine sr (va (B (decide (a.1 < (d.length:Int)))) (wln (W.seq (cn H (fun v2 H=>?_) (fun v2 H=>?_)))))
  ·refine W.skip (nrm (W.seq (W.block (sr (va (I a.1) (bn H fun b m0 H=>?_))))));obtain ⟨z3,w2,l3⟩:=Sl.at (j.mono (l6.trans (t0.trans (j3.trans u0)))) (bW m0);obtain ⟨v53,rfl,N⟩:=w2;refine vx (ix dN j.m m0) (vx (lN 104 l3) (me (al 104 [I 0,Y] f0) ?_));rintro v58 f4 q ⟨n,rfl,b2⟩;refine va (I a.1) ?_;obtain ⟨f,g,h,rfl⟩:=((N.mono q)).form;refine md (sA 104 [I b.Kind,.slice f g h] 0 b2 ⟨rfl,N.m.one,trivial⟩) ?_;rintro g4 S c2;refine wln (rD [8] (Kp i [(Eb n 104 [I b.Kind,.slice f g h])]) c2 ?_);intro j2 U s;have w0:Kp i [(Eb n 104 [I b.Kind,.slice f g h])] j2:=(Kp.cons (s.on 0 rfl) (Kp.nil s));refine ta 0 (v32) (bn H fun x3 x2 H=>?_);obtain ⟨o,rfl,o0⟩:=((k0.mono (u0.trans (q.trans (S.trans U))))).get x2;refine ta 1 (Q o) (ta 2 (Q o) (bn H fun p1 z2 H=>?_));obtain ⟨X,l4,s0,q0⟩:=Rel.open_row_Row (y.mono (q.trans (S.trans U))) z2 o0;refine tkx 3 w0 (fun c' p hk=>le1 0 dN (hk.gon s0 0 rfl)) (ta 4 (I a.1) (tkx 5 w0 (fun c' p hk=>leN 104 0 [I b.Kind,.slice f g h] (hk.on 0 rfl)) (bn H fun k a3 H=>o1 6 (gc 6 (qZ s b N.m a3) ?_))));rintro o4 k2 k3 ⟨n4,m4,t,rfl,b3⟩;have m3:Kp i [(Eb n 104 [I b.Kind,.slice f g h])] k2:=(Kp.cons (t.on 1 rfl) (Kp.nil t));refine ⟨.inr m3,bn H fun c4 c3 H=>tx 7 (fun c' p=>ixO dN q0.m c3) ?_⟩;obtain ⟨l2,d3,v0,x,P⟩:=t.frz 0 rfl b3;have n3:Kp i [(Eb n 104 [I b.Kind,.slice f g h])] l2:=(Kp.cons (x.on 1 rfl) (Kp.nil x));refine AC.gh d3 v0 (fun _=>n3) ?_;obtain ⟨z,A,D,rfl⟩:=(P).form;have e2:=x.borrow 1 s0 rfl;refine bn H fun q1 e3 H=>o1 8 (gD 8 (Own.stW (R:=ax) (T:=104) (us:=[I k.Kind,.slice z A D]) (x':=k) (u:= .agg #[I k.Kind,.slice z A D]) 0 e2 (by kernel_rfl) rfl q0.m e3 rfl (by kernel_rfl) ⟨rfl,P.one,trivial⟩ rfl ⟨(.slice z A D),rfl,P⟩) ?_);rintro h1 m1 ⟨x0,f2,f3⟩;have a1:=f2.giveB 1 rfl;refine bn H fun s1 j1 H=>?_;obtain ⟨y0,b1,f1,w3,u3⟩:=Rel.put_row_Row a1 (y.mono (q.trans (S.trans (U.trans (k3.trans (v0.trans m1)))))) (E':=[(Eb o 137 [X,B p1.wrap]),es true ax X 104 x0 q1]) j1 ⟨o,X,x0,(tm o0),rfl,f3⟩;refine ⟨.inl rfl,dn (bkn (nrm (W.region (vv (I (w64 (a.1+1))) (WL.nil ?_)))))⟩;obtain rfl:=si H;refine ⟨_,rfl,?_⟩;have c1:=b1.sD 2 [];exact jn h1 ⟨y0,c1,rfl,f1⟩
  refine W.exit (thx ?_);obtain rfl:=si H;exact ⟨_,rfl,rfl,jn i2 ⟨i,f0,rfl,y⟩⟩
 ·exact jn E ⟨t1,z1,rfl,g2⟩
 rintro _ e_ w_ ⟨rfl,i1,v3,_,rfl,y3,rfl,z0,d1,rfl,g1⟩;refine bke (nrm (sr (vv (v32) (va (.nilIface) (wln (W.ret ?_))))));obtain rfl:=si d0;exact r2 (qq i1 ⟨v32,.nilIface,z0,d1,g1,rfl,k0.m,rfl⟩)
def bK (sg:Sto) (p0:Option Nat):Option (Int):=
 if p0.isNone=true then
 some 0
 else
 (p0).bind fun b=>
 (sg.row_Row[b]?).bind fun a=>
 some (a.cells.length:Int)
theorem cv (d:Own c0 G F) (k:Rel c0 sg G) (f:Option Nat) {r:Int} (j:Pt 0 c0 v1 f) (H:bK sg f=some r): Calls prog 87 #[v1] c0.w (aO c0 fun c v=>Own c G (F)∧v=I r):=by
 unfold bK at H;refine en func87 rfl rfl (sr (va (I 0) (wln (W.seq (sr (va (v1) (vr (B f.isNone) (by rcases (j).cs with ⟨a,b⟩ | ⟨q,a,b⟩ <;> (subst a; rw [b]; kernel_rfl)) (wln (cn H (fun l H=>?_) (fun l H=>?_))))))))))
 ·refine sr (va (I 0) (wln (W.ret (thr ?_))));obtain rfl:=si H;exact r1 (qq c0 ⟨d,rfl⟩)
 refine W.skip (nrm (sr (va (v1) (bn H fun p n H=>?_))));obtain ⟨g,rfl,m⟩:=(j).get n;refine vv (Q g) (bn H fun e o H=>?_);obtain ⟨v8,s,i,h⟩:=Rel.open_row_Row k o m;refine vx (le1 0 dN (d.gon i 0 rfl)) (vx (lnO 3 dN h) (va (I (e.cells.length:Int)) (wln (W.ret ?_))));obtain rfl:=si H;exact r1 (qq c0 ⟨d,rfl⟩)
def em (sg:Sto) (p0:Option Nat):Option (List aa):=
 (bK sg p0).bind fun b=>
 (cV (σ:=(List aa)×Int) (τ:=(List aa)) ((b - 0).toNat+1) (fun a=>
 if (decide (a.2 < b))=true then
 (p0).bind fun c=>
 (sg.row_Row[c]?).bind fun d=>
 (idx d.cells a.2).bind fun e=>
 (lx e).bind fun f=>
 (app a.1 ([f]:List aa)).bind fun g=>
 some (.inl (g,(w64 (a.2+1))))
 else
 some (.inr (a.1))) (([]:List aa),0)).bind fun h=>
 some h
theorem kW (O0:Own c0 G F) (R0:Rel c0 sg G) (M:Option Nat) {r:List aa} (h2:Pt 0 c0 v1 M) (H:em sg M=some r): Calls prog 88 #[v1] c0.w (aO c0 fun c v=>∃N y2,Own c G (es true ax N 104 y2 r :: F)∧v=N∧OA ax c N y2 r):=by
 unfold em at H;refine en func88 rfl rfl (sr (va (Y) (wln (sr (va (Y) (wln (W.seq (sr (va (v1) (bn H fun E h3 H=>cl (cv O0 R0 M h2 h3) ?_))))))))));rintro v9 o l8 ⟨O5,rfl⟩;refine va (I 0) (wln (W.block (bn H fun j2 x p=>lp x (fun a=>Jn o fun c l=>∃v12 f,Own c G (es true ax v12 104 f a.1 :: F)∧l= [(0,v1),(3,v12),(6,I E),(7,I a.2)]∧OA ax c v12 f a.1) (fun k ex e w=>ex= .exit 0∧(Jn o fun c l=>∃v14 g,Own c G (es true ax v14 104 g k :: F)∧l= [(3,v14)]∧OA ax c v14 g k) e w) ?_ ?_ ?_)))
 ·clear p x;intro a n2 h0 f1 H;revert h0 f1;rintro e_ w_ ⟨e0,z1,_,rfl,l16,rfl,v12,f,d,rfl,y⟩;refine sr (va (B (decide (a.2 < E))) (wln (W.seq (cn H (fun j0 H=>?_) (fun j0 H=>?_)))))
  ·refine W.skip (nrm (W.seq (W.block (sr (vv (I a.2) (wln (W.region (va (v12) (va (v1) (bn H fun m1 l0 H=>?_))))))))));obtain ⟨u,rfl,k0⟩:=((h2.mono (l8.trans l16))).get l0;refine vv (Q u) (bn H fun p1 m0 H=>?_);obtain ⟨v28,k2,z,h⟩:=Rel.open_row_Row (R0.mono (l8.trans l16)) m0 k0;refine vx (le1 0 dN (d.gon z 0 rfl)) (va (I a.2) (bn H fun b i H=>vx (ixO dN h i) ?_));obtain ⟨n1,o0,d1⟩:=OA.at h i;obtain ⟨v36,rfl,q0⟩:=o0;refine vr (.agg #[I b.Kind,v36]) (rx (by kernel_rfl) (Jv (T:=104) (l:=[I b.Kind,v36]) (by kernel_rfl) (by kernel_rfl) (d.gon z 1 rfl) (h.blk i) (at2 (j:=0) d1 rfl))) (bn H fun n s0 H=>cl (qZ d b q0 s0) ?_);rintro v47 t1 c2 ⟨v39,l2,P,rfl,t0⟩;obtain ⟨u1,u0,d2,R,A⟩:=P.frz 0 rfl t0;refine WL.gh u0 ?_;obtain ⟨q,s,t,rfl⟩:=(A).form;refine me (sl ax 104 [[I n.Kind,.slice q s t]] ([n]:List aa) R ⟨⟨(.slice q s t),rfl,A⟩,trivial⟩) ?_;rintro v59 w1 e2 ⟨m2,S,v0⟩;obtain ⟨x1,x0,f2,U,w0⟩:=S.frz 0 rfl v0;refine WL.gh x0 (bn H fun s1 y0 H=>me (ap ax (.agg #[I 0,Y]) 32 99 2 U y.m w0 y0 dN) ?_);rintro D f0 g2 ⟨e1,X,z0⟩;refine va (D) (WL.nil (bkn (nrm (W.region (vv (I (w64 (a.2+1))) (WL.nil ?_))))));obtain rfl:=si H;refine ⟨_,rfl,?_⟩;have Z:=X.sD 3 [2];exact jn f0 ⟨D,e1,Z,rfl,z0⟩
  refine W.exit (thx ?_);obtain rfl:=si H;exact ⟨_,rfl,rfl,jn e0 ⟨v12,f,d,rfl,y⟩⟩
 ·have a1:OA ax o (Y) [] []:=OA.nil (aI _);have a0:=O5.addHole (e:=es true ax (Y) 104 [] ([]:List aa)) rfl;exact jn o ⟨(Y),[],a0,rfl,a1⟩
 rintro _ e_ w_ ⟨rfl,g0,b2,_,rfl,i2,rfl,v14,g,b0,rfl,b1⟩;refine bke (nrm (sr (vv (v14) (wln (W.ret ?_)))));obtain rfl:=si p;exact r1 (qq g0 ⟨v14,g,b0,rfl,b1⟩)
def fN (sg:Sto) (p0:Option Nat) (p1:Int):Option (aa×Bool):=
 (orE (decide (p1 < 0)) ((bK sg p0).bind fun c=>
 some (decide (p1≥c)))).bind fun f=>
 if f=true then
 some ((⟨0,([]:List Int)⟩:aa),false)
 else
 (p0).bind fun a=>
 (sg.row_Row[a]?).bind fun b=>
 (idx b.cells p1).bind fun d=>
 (lx d).bind fun e=>
 some (e,true)
theorem qJ (O0:Own c0 G F) (Z:Rel c0 sg G) (E:Option Nat) (a:Int) {r:aa×Bool} (h2:Pt 0 c0 v1 E) (H:fN sg E a=some r): Calls prog 269 #[v1,I a] c0.w (aO c0 fun c v=>∃M y2,Own c G (es true (RI .i32) M 21 y2 r.1.Text :: F)∧v= .tuple #[.agg #[I r.1.Kind,M],B r.2]∧OA (RI .i32) c M y2 r.1.Text):=by
 unfold fN at H;refine en func269 rfl rfl (sr (me (al 104 [I 0,Y] O0) ?_));rintro v6 c5 l5 ⟨b3,rfl,S⟩;refine va (B false) (wln (W.seq (W.seq (bn H fun e0 h7 H=>W.join (Jn c5 fun c l=>Own c G ((Eb b3 104 [I 0,Y]) :: F)∧l= [(0,v1),(1,I a),(4,Q b3),(13,B e0)]) ?_ ?_))))
 ·clear H;refine W.region (va (I a) (va (B (decide (a < 0))) ?_));rcases bo (decide (a < 0)) with p | p
  ·obtain rfl:=orT p h7;exact vb p (pz (pz (va (B true) (wln (jn c5 ⟨S,rfl⟩)))))
  have D:=orF p h7;refine vb p (wa (I a) (wa (v1) (wn (bn D fun q f0 D=>cl (cv S Z.m E h2.m f0) ?_))));rintro v16 b0 e1 ⟨N,rfl⟩;refine wa (B (decide (a≥q))) ?_;obtain rfl:=si D;exact va (B (decide (a≥q))) (wln (jn b0 ⟨N,rfl⟩))
 rintro e_ w_ ⟨b1,d1,_,rfl,A,rfl,d,rfl⟩;refine nrm (cn H (fun h0 H=>?_) (fun h0 H=>?_))
 ·refine sr (va (.agg #[I 0,Y]) (md (sA 104 [I 0,Y] 0 d ⟨rfl,rfl,trivial⟩) ?_));rintro i f1 P;refine va (B false) (wln (W.ret (thr ?_)));obtain rfl:=si H;have i0:OA (RI .i32) i (Y) [] []:=OA.nil (aI _);have t:=P.addHole (e:=es true (RI .i32) (Y) 21 [] ([]:List Int)) rfl;have R:=t.sD 2 [0];exact kK (c:=i) (vs:=[I 0,Y]) (v:=B false) rfl (by kernel_rfl) (by kernel_rfl) (by kernel_rfl) (by kernel_rfl) (t.on 1 rfl _ rfl).1 ⟨_,i,rfl,rfl,pt,(Y),[],R,rfl,i0⟩
 refine W.skip (nrm (sr (va (v1) (bn H fun y0 k0 H=>?_))));obtain ⟨x,rfl,j0⟩:=((h2.mono (l5.trans A))).get k0;refine vv (Q x) (bn H fun a1 l0 H=>?_);obtain ⟨v33,i1,z,k⟩:=Rel.open_row_Row (Z.mono (l5.trans A)) l0 j0;refine vx (le1 0 dN (d.gon z 0 rfl)) (va (I a) (bn H fun b n H=>vx (ixO dN k n) ?_));obtain ⟨z0,m0,u0⟩:=OA.at k n;obtain ⟨v41,rfl,o0⟩:=m0;refine vr (.agg #[I b.Kind,v41]) (rx (by kernel_rfl) (Jv (T:=104) (l:=[I b.Kind,v41]) (by kernel_rfl) (by kernel_rfl) (d.gon z 1 rfl) (k.blk n) (at2 (j:=0) u0 rfl))) (bn H fun s q0 H=>cl (qZ d b o0 q0) ?_);rintro v52 c1 g1 ⟨v44,v0,U,rfl,o⟩;obtain ⟨f,g,h,rfl⟩:=(o).form;refine md (sA 104 [I s.Kind,.slice f g h] 1 U ⟨rfl,(o).one,trivial⟩) ?_;rintro y h1 u;refine va (B true) (wln (W.ret ?_));obtain rfl:=si H;have X:=u.sD 2 [0];exact kK (c:=y) (vs:=[I s.Kind,.slice f g h]) (v:=B true) rfl (by kernel_rfl) (by kernel_rfl) (by kernel_rfl) (by kernel_rfl) (u.on 1 rfl _ rfl).1 ⟨_,y,rfl,rfl,pt,(.slice f g h),v0,X,rfl,o.m⟩
def gI (sg:Sto) (p0:Option Nat) (p1:Int):Option (Int):=
 (orE (decide (p1 < 0)) ((bK sg p0).bind fun e=>
 some (decide (p1≥e)))).bind fun d=>
 if d=true then
 some 0
 else
 (p0).bind fun a=>
 (sg.row_Row[a]?).bind fun b=>
 (idx b.cells p1).bind fun c=>
 some c.Kind
theorem qI (q:Own c0 G F) (s:Rel c0 sg G) (p:Option Nat) (a:Int) {r:Int} (y:Pt 0 c0 v1 p) (H:gI sg p a=some r): Calls prog 255 #[v1,I a] c0.w (aO c0 fun c v=>Own c G (F)∧v=I r):=by
 unfold gI at H;refine en func255 rfl rfl (sr (va (I 0) (wln (W.seq (W.seq (bn H fun u E H=>W.join (Jn c0 fun c l=>Own c G (F)∧l= [(0,v1),(1,I a),(12,B u)]) ?_ ?_))))))
 ·clear H;refine W.region (va (I a) (va (B (decide (a < 0))) ?_));rcases bo (decide (a < 0)) with f | f
  ·obtain rfl:=orT f E;exact vb f (pz (pz (va (B true) (wln (jn c0 ⟨q,rfl⟩)))))
  have o:=orF f E;refine vb f (wa (I a) (wa (v1) (wn (bn o fun n R o=>cl (cv q s p y R) ?_))));rintro v12 t a0 ⟨P,rfl⟩;refine wa (B (decide (a≥n))) ?_;obtain rfl:=si o;exact va (B (decide (a≥n))) (wln (jn t ⟨P,rfl⟩))
 rintro e_ w_ ⟨i,X,_,rfl,m,rfl,b,rfl⟩;refine nrm (cn H (fun x H=>?_) (fun x H=>?_))
 ·refine sr (va (I 0) (wln (W.ret (thr ?_))));obtain rfl:=si H;exact r1 (qq i ⟨b,rfl⟩)
 refine W.skip (nrm (sr (va (v1) (bn H fun S A H=>?_))));obtain ⟨h,rfl,z⟩:=((y.mono m)).get A;refine vv (Q h) (bn H fun U D H=>?_);obtain ⟨v24,b0,k,d⟩:=Rel.open_row_Row (s.mono m) D z;refine vx (le1 0 dN (b.gon k 0 rfl)) (va (I a) (bn H fun g e H=>vx (ixO dN d e) (va (Qo (sb v24) (a.toNat * 2)) ?_)));obtain ⟨T,M,N⟩:=OA.at d e;obtain ⟨v32,rfl,Z⟩:=M;refine vr (I g.Kind) (rx (by kernel_rfl) (Aq u_3 rfl (b.gon k 1 rfl) (d.blk e) (at1 (j:=0) N rfl))) (va (I g.Kind) (wln (W.ret ?_)));obtain rfl:=si H;exact r1 (qq i ⟨b,rfl⟩)
def fC (sg:Sto) (p0:Option Nat) (p1:Int) (p2:aa):Option (Sto):=
 (p0).bind fun d=>
 (sg.row_Row[d]?).bind fun e=>
 (lx p2).bind fun f=>
 (idx e.cells p1).bind fun g=>
 (mj e.cells p1 f).bind fun b=>
 (sg.set_row_Row d (⟨b,e.wrap⟩:bm)).bind fun a=>
 if (p1==(w64 ((b.length:Int) - 1)))=true then
 (a.set_row_Row d (⟨b,false⟩:bm)).bind fun c=>
 some c
 else
 some a
theorem oy (O0:Own c0 G F) (R0:Rel c0 sg G) (p0:Option Nat) (o:Int) (p:aa) {r:Sto} (h2:Pt 0 c0 v1 p0) (h4:Sl (RI .i32) c0 v3 p.Text) (H:fC sg p0 o p=some r): Calls prog 256 #[v1,I o,.agg #[I p.Kind,v3]] c0.w (aO c0 fun c v=>∃G_:Gm,Own c G_ (F)∧Rel c r G_∧v= .tuple #[]):=by
 unfold fC at H;refine en func256 rfl rfl (sr ?_);obtain ⟨a5,a6,a7,rfl⟩:=(h4).form;refine me (bx 104 [I p.Kind,.slice a5 a6 a7] O0) ?_;rintro v12 b2 l ⟨b8,rfl,O9,f1⟩;refine wln (W.seq (rD [8] (Kp G []) O9 ?_));intro k0 n s;have i1:Kp G [] k0:=(Kp.nil s);refine ta 0 (v1) (bn H fun d2 s0 H=>?_);obtain ⟨a,rfl,i⟩:=((h2.mono (l.trans n))).get s0;refine ta 1 (Q a) (ta 2 (Q a) (bn H fun g1 t0 H=>?_));obtain ⟨v20,e2,A,z⟩:=Rel.open_row_Row (R0.mono (l.trans n)) t0 i;refine tkx 3 i1 (fun c' E hk=>le1 0 dN (hk.gon A 0 rfl)) (ta 4 (I o) (tx 5 (fun c' E=>lN 104 (mm f1)) (bn H fun q u0 H=>o1 6 (gc 6 (qZ s p h4.m u0) ?_))));rintro v33 l0 d1 ⟨v25,f2,t,rfl,v0⟩;have j1:Kp G [] l0:=(Kp.nil t);refine ⟨.inr j1,bn H fun x1 w0 H=>tx 7 (fun c' E=>ixO dN z.m w0) ?_⟩;obtain ⟨m0,x0,M,x,j⟩:=t.frz 0 rfl v0;have k1:Kp G [] m0:=(Kp.nil x);refine AC.gh x0 M (fun _=>k1) ?_;obtain ⟨f,g,h,rfl⟩:=(j).form;have Z:=x.borrow 1 A rfl;refine bn H fun b z0 H=>o1 8 (gD 8 (Own.stW (R:=ax) (T:=104) (us:=[I q.Kind,.slice f g h]) (x':=q) (u:= .agg #[I q.Kind,.slice f g h]) 0 Z (by kernel_rfl) rfl z.m z0 rfl (by kernel_rfl) ⟨rfl,j.one,trivial⟩ rfl ⟨(.slice f g h),rfl,j⟩) ?_);rintro o0 e1 ⟨d,a0,k⟩;have b0:=a0.giveB 1 rfl;refine bn H fun P a1 H=>?_;obtain ⟨U,e,y,D,y1⟩:=Rel.put_row_Row b0 (R0.mono (l.trans (n.trans (d1.trans (M.trans e1))))) (E':=[(Eb a 137 [v20,B g1.wrap]),es true ax v20 104 d b]) a1 ⟨a,v20,d,(tm i),rfl,k⟩;refine ⟨.inl rfl,dn (nrm (sr (va (I o) (vv (Q a) (va (Q a) (vx (le1 0 dN (e.gon D 0 rfl)) (vx (lnO 3 dN k) (va (I (w64 ((b.length:Int) - 1))) (va (B (o==(w64 ((b.length:Int) - 1)))) (wln (cn H (fun b1 H=>?_) (fun b1 H=>?_))))))))))))⟩
 ·refine W.region (vv (Q a) (va (Qo a 1) (md (gC 4 1 (B false) [v20,B false] 0 e D ⟨rfl,trivial⟩) ?_)));rintro q0 N d0;refine bn H fun S c1 H=>?_;obtain ⟨X,e0,i0,c2,z1⟩:=Rel.put_row_Row d0 (y.mono N) (E':=[(Eb a 137 [v20,B false]),es true ax v20 104 d b]) c1 ⟨a,v20,d,(tm i),rfl,(k.mono N)⟩;refine WL.nil ?_;obtain rfl:=si H;have f0:=e0.sD 1 [];exact n0 (qq q0 ⟨X,f0,i0,rfl⟩)
 refine W.skip ?_;obtain rfl:=si H;have g0:=e.sD 1 [];exact n0 (qq o0 ⟨U,g0,y,rfl⟩)
def dH (sg:Sto) (p0:Option Nat) (p1:Int) (p2:List aa):Option (Sto×Er):=
 (orE p0.isNone (some (decide (p1 < 0)))).bind fun q=>
 (orE q ((p0).bind fun d=>
 (sg.row_Row[d]?).bind fun f=>
 some (decide (p1 > (f.cells.length:Int))))).bind fun r=>
 (orE r ((p0).bind fun e=>
 (sg.row_Row[e]?).bind fun g=>
 some (decide ((p2.length:Int) > (w64 ((g.cells.length:Int) - p1)))))).bind fun c=>
 if c=true then
 some (sg,(Er.sent 3))
 else
 (jm p2).bind fun i=>
 if (!i)=true then
 some (sg,(Er.sent 5))
 else
 if ((p2.length:Int)==0)=true then
 some (sg,Er.nil)
 else
 ((gI sg p0 p1).bind fun j=>
 if (j==3)=true then
 (fC sg p0 (w64 (p1 - 1)) (⟨0,([]:List Int)⟩:aa)).bind fun k=>
 some (k)
 else
 some (sg)).bind fun b=>
 ((gI b p0 (w64 (p1+(p2.length:Int)))).bind fun l=>
 if (l==3)=true then
 (fC b p0 (w64 (p1+(p2.length:Int))) (⟨0,([]:List Int)⟩:aa)).bind fun m=>
 some (m)
 else
 some (b)).bind fun p=>
 (cV (σ:=Int×Sto) (τ:=Sto) (((p2.length:Int) - 0).toNat+1) (fun a=>
 if (decide (a.1 < (p2.length:Int)))=true then
 (idx p2 a.1).bind fun n=>
 (fC a.2 p0 (w64 (p1+a.1)) n).bind fun o=>
 some (.inl ((w64 (a.1+1)),o))
 else
 some (.inr (a.2))) (0,p)).bind fun h=>
 some (h,Er.nil)
theorem jA (A:Own c0 G F) (o:Rel c0 sg G) (hG:Gl [3,5] c0) (j:Option Nat) (a:Int) (f:List aa) {r:Sto×Er} (s:Pt 0 c0 v1 j) (x:Sl ax c0 v3 f) (H:dH sg j a f=some r): Calls prog 227 #[v1,I a,v3] c0.w (aO c0 fun c v=>∃y1,∃G_:Gm,Own c G_ (F)∧Rel c r.1 G_∧v=y1∧RE 318 126 c y1 r.2):=by
 unfold dH at H;refine en func227 rfl rfl (sr (va (.nilIface) (wln (W.seq (W.block (W.seq (bn H fun u4 h5 H=>bn H fun v4 h6 H=>bn H fun j1 h7 H=>W.join (Jn c0 fun c l=>Own c G (F)∧l= [(0,v1),(1,I a),(2,v3),(10,B j1)]) ?_ ?_)))))))
 ·clear H;refine W.region (va (v1) (vr (B j.isNone) (by rcases (s).cs with ⟨q0,s0⟩ | ⟨b_,q0,s0⟩ <;> (subst q0; rw [s0]; kernel_rfl)) ?_));rcases bo (j.isNone) with h8 | h8
  ·obtain rfl:=orT h8 h5;refine vb h8 (pz (va (B true) ?_));have h9:true=true:=rfl;obtain rfl:=orT h9 h6;refine vb h9 (pz (pz (pz (ps (va (B true) ?_)))));have m0:true=true:=rfl;obtain rfl:=orT m0 h7;exact vb m0 (pz (pz (pz (pz (pz (vv (B true) (wln (jn c0 ⟨A,rfl⟩))))))))
  have g2:=orF h8 h5;refine vb h8 (wa (I a) (wa (B (decide (a < 0))) ?_));obtain rfl:=si g2;refine va (B (decide (a < 0))) ?_;rcases bo (decide (a < 0)) with q | q
  ·obtain rfl:=orT q h6;refine vb q (pz (pz (pz (ps (va (B true) ?_)))));have o0:true=true:=rfl;obtain rfl:=orT o0 h7;exact vb o0 (pz (pz (pz (pz (pz (vv (B true) (wln (jn c0 ⟨A,rfl⟩))))))))
  have k:=orF q h6;refine vb q (wa (I a) (wa (v1) (wn (bn k fun i4 a3 k=>?_))));obtain ⟨p,rfl,z2⟩:=(s).get a3;refine va (Q p) (wa (Q p) (wn (bn k fun y b3 k=>?_)));obtain ⟨v19,d5,d3,c3⟩:=Rel.open_row_Row o b3 z2;refine vx (le1 0 dN (A.gon d3 0 rfl)) (wn (vx (lnO 3 dN c3) (wa (B (decide (a > (y.cells.length:Int)))) ?_)));obtain rfl:=si k;refine va (B (decide (a > (y.cells.length:Int)))) ?_;rcases bo (decide (a > (y.cells.length:Int))) with t | t
  ·obtain rfl:=orT t h7;exact vb t (pz (pz (pz (pz (pz (vv (B true) (wln (jn c0 ⟨A,rfl⟩))))))))
  have n:=orF t h7;refine vb t (wa (v3) (wn (vx (ln 3 dN x) (wa (Q p) (wn (bn n fun j4 f3 n=>?_))))));have e3:=(s).get2 f3;refine va (Q p) (wa (Q p) (wn (bn n fun i g3 n=>?_)));obtain ⟨v29,e5,i3,h3⟩:=Rel.open_row_Row o g3 e3;refine vx (le1 0 dN (A.gon i3 0 rfl)) (wn (vx (lnO 3 dN h3) (wa (I a) (wa (I (w64 ((i.cells.length:Int) - a))) (wa (B (decide ((f.length:Int) > (w64 ((i.cells.length:Int) - a))))) ?_)))));obtain rfl:=si n;exact vv (B (decide ((f.length:Int) > (w64 ((i.cells.length:Int) - a))))) (wln (jn c0 ⟨A,rfl⟩))
 rintro e_ w_ ⟨s2,w4,_,rfl,d0,rfl,j0,rfl⟩;refine nrm (cn H (fun j3 H=>?_) (fun j3 H=>?_))
 ·refine sr ?_;obtain ⟨v40,t0⟩:=(hG.mono d0).get 3 (by decide);refine vx (l1 qd t0.im) (va (v40) (wln (W.ret (bkr (thr ?_)))));obtain rfl:=si H;exact r1 (qq s2 ⟨v40,G,j0,o.m,rfl,t0⟩)
 refine sr (va (v3) (bn H fun e0 k3 H=>cl (pL j0 f x.m k3) ?_));rintro v48 X w0 ⟨N,rfl⟩;refine vv (B (!e0)) (wln (cn H (fun l3 H=>?_) (fun l3 H=>?_)))
 ·refine sr ?_;obtain ⟨v50,u0⟩:=(hG.mono (d0.trans w0)).get 5 (by decide);refine vx (l1 qd u0.im) (va (v50) (wln (W.ret (bkr (thr ?_)))));obtain rfl:=si H;exact r1 (qq X ⟨v50,G,N,o.m,rfl,u0⟩)
 refine sr (va (v3) (vx (ln 3 dN x.m) (vv (B ((f.length:Int)==0)) (wln (cn H (fun n3 H=>?_) (fun n3 H=>?_))))))
 ·refine sr (va (.nilIface) (wln (W.ret (bkr (thr ?_)))));obtain rfl:=si H;exact r1 (qq X ⟨.nilIface,G,N,o.m,rfl,rfl⟩)
 refine W.skip (bkn (nrm (bn H fun z1 g i2=>W.seqJ (Jn X fun c l=>∃G_,Own c G_ (F)∧l= [(0,v1),(1,I a),(2,v3)]∧Rel c z1 G_) ?_ ?_)))
 ·refine sr (va (v1) (va (I a) (bn g fun w1 o3 g=>cl (qI N o.m j a s.m o3) ?_)));rintro f5 t2 z4 ⟨k0,rfl⟩;refine va (B (w1==3)) (wln (cn g (fun p3 g=>?_) (fun p3 g=>?_)))
  ·refine W.region (va (v1) (va (I a) (va (I (w64 (a - 1))) (va (.agg #[I 0,Y]) (bn g fun r4 q3 g=>cl (oy k0 o.m j (w64 (a - 1)) (⟨0,([]:List Int)⟩:aa) s.m (Sl.nl _ _) q3) ?_)))));rintro g5 u2 a5 ⟨c2,j2,n2,rfl⟩;refine wln ?_;obtain rfl:=si g;exact jn u2 ⟨c2,j2,rfl,n2⟩
  refine W.skip (nrm ?_);obtain rfl:=si g;exact jn t2 ⟨G,k0,rfl,o.m⟩
 rintro e_ w_ ⟨v2,x4,_,rfl,x3,rfl,d2,k2,rfl,R⟩;refine bn i2 fun b2 h d=>W.seqJ (Jn v2 fun c l=>∃G_,Own c G_ (F)∧l= [(0,v1),(1,I a),(2,v3)]∧Rel c b2 G_) ?_ ?_
 ·refine sr (va (I a) (va (v3) (vx (ln 3 dN x.m) (vv (I (w64 (a+(f.length:Int)))) (wln (sr (va (v1) (va (I (w64 (a+(f.length:Int)))) (bn h fun x1 s3 h=>cl (qI k2 R j (w64 (a+(f.length:Int))) s.m s3) ?_)))))))));rintro i5 w2 b5 ⟨l0,rfl⟩;refine va (B (x1==3)) (wln (cn h (fun t3 h=>?_) (fun t3 h=>?_)))
  ·refine W.region (va (v1) (va (I (w64 (a+(f.length:Int)))) (va (.agg #[I 0,Y]) (bn h fun s4 u3 h=>cl (oy l0 R.m j (w64 (a+(f.length:Int))) (⟨0,([]:List Int)⟩:aa) s.m (Sl.nl _ _) u3) ?_))));rintro j5 x2 c5 ⟨e2,l2,o2,rfl⟩;refine wln ?_;obtain rfl:=si h;exact jn x2 ⟨e2,l2,rfl,o2⟩
  refine W.skip (nrm ?_);obtain rfl:=si h;exact jn w2 ⟨d2,l0,rfl,R.m⟩
 rintro e_ w_ ⟨Z,y4,_,rfl,y3,rfl,f2,m2,rfl,q2⟩;refine W.seq (sr (va (v3) (vx (ln 3 dN x.m) (va (I 0) (wln (W.block (bn d fun n4 v0 D=>lp v0 (fun b=>Jn Z fun c l=>∃G_,Own c G_ (F)∧l= [(0,v1),(1,I a),(69,v3),(70,I (f.length:Int)),(71,I b.1)]∧Rel c b.2 G_) (fun h0 ex e w=>ex= .exit 1∧(Jn Z fun c l=>∃G_,Own c G_ (F)∧l= []∧Rel c h0 G_) e w) ?_ ?_ ?_)))))))
 ·clear D v0;intro b k5 y2 z3 d;revert y2 z3;rintro e_ w_ ⟨g1,f4,_,rfl,s1,rfl,x0,E,rfl,P⟩;refine sr (va (B (decide (b.1 < (f.length:Int)))) (wln (W.seq (cn d (fun k1 d=>?_) (fun k1 d=>?_)))))
  ·refine W.skip (nrm (W.seq (W.block (sr (va (I b.1) (bn d fun z a0 d=>?_))))));obtain ⟨b4,m1,u1⟩:=Sl.at (x.mono (d0.trans (w0.trans (x3.trans (y3.trans s1))))) (bW a0);obtain ⟨o4,rfl,u⟩:=m1;refine vx (ix dN x.m a0) (vx (lN 104 u1) (me (al 104 [I 0,Y] E) ?_));rintro p4 d4 t1 ⟨c4,rfl,a1⟩;refine va (I b.1) ?_;obtain ⟨S,T,U,rfl⟩:=((u.mono t1)).form;refine md (sA 104 [I z.Kind,.slice S T U] 0 a1 ⟨rfl,u.m.one,trivial⟩) ?_;rintro e4 k4 M;refine wln (W.region (va (v1) (va (I a) (va (I b.1) (va (I (w64 (a+b.1))) (vx (leN 104 0 [I z.Kind,.slice S T U] (M.on 0 rfl)) (bn d fun t4 n1 d=>cl (oy M P.m j (w64 (a+b.1)) z s.m u.m n1) ?_)))))));rintro q4 h1 l4 ⟨y0,b1,e1,rfl⟩;refine WL.nil (bkn (nrm (W.region (vv (I (w64 (b.1+1))) (WL.nil ?_)))));obtain rfl:=si d;refine ⟨_,rfl,?_⟩;have c1:=b1.sD 1 [];exact jn h1 ⟨y0,c1,rfl,e1⟩
  refine W.exit (thx ?_);obtain rfl:=si d;exact ⟨_,rfl,rfl,jn g1 ⟨x0,E,rfl,P⟩⟩
 ·exact jn Z ⟨f2,m2,rfl,q2⟩
 rintro _ e_ w_ ⟨rfl,i1,g4,_,rfl,m4,rfl,z0,d1,rfl,f1⟩;refine bke (nrm (sr (va (.nilIface) (wln (W.ret ?_)))));obtain rfl:=si D;exact r1 (qq i1 ⟨.nilIface,z0,d1,f1,rfl,rfl⟩)
def eB (sg:Sto) (p0:Option Nat) (p1:Bool):Option (Sto):=
 if (!p0.isNone)=true then
 (p0).bind fun b=>
 (sg.row_Row[b]?).bind fun c=>
 (sg.set_row_Row b (⟨c.cells,p1⟩:bm)).bind fun a=>
 some a
 else
 some sg
theorem ma (j:Own c0 G F) (g:Rel c0 sg G) (h:Option Nat) (a:Bool) {r:Sto} (s:Pt 0 c0 v1 h) (H:eB sg h a=some r): Calls prog 190 #[v1,B a] c0.w (aO c0 fun c v=>∃G_:Gm,Own c G_ (F)∧Rel c r G_∧v= .tuple #[]):=by
 unfold eB at H;refine en func190 rfl rfl (sr (va (v1) (vr (B (!h.isNone)) (by rcases (s).cs with ⟨d,e⟩ | ⟨P,d,e⟩ <;> (subst d; rw [e]; kernel_rfl)) (wln (cn H (fun z H=>?_) (fun z H=>?_))))))
 ·refine W.region (va (v1) (va (B a) (bn H fun N A H=>?_)));obtain ⟨b,rfl,t⟩:=(s).get A;refine va (Q b) (va (Qo b 1) (bn H fun u D H=>?_));obtain ⟨v8,y,p,o⟩:=Rel.open_row_Row g D t;refine md (gC 4 1 (B a) [v8,B a] 0 j p ⟨rfl,trivial⟩) ?_;rintro n f k;refine bn H fun x q H=>?_;obtain ⟨i,l,m,M,E⟩:=Rel.put_row_Row k (g.mono f) (E':=[(Eb b 137 [v8,B a]),es true ax v8 104 y u.cells]) q ⟨b,v8,y,(tm t),rfl,(o.mono f)⟩;refine WL.nil ?_;obtain rfl:=si H;exact n0 (qq n ⟨i,l,m,rfl⟩)
 refine W.skip ?_;obtain rfl:=si H;exact n0 (qq c0 ⟨G,j,g,rfl⟩)
def iL (sg:Sto) (p0:Option Nat):Option (Bool):=
 (bX (!p0.isNone) ((p0).bind fun c=>
 (sg.row_Row[c]?).bind fun a=>
 some a.wrap)).bind fun b=>
 some b
theorem wS (h:Own c0 G F) (q:Rel c0 sg G) (e:Option Nat) {r:Bool} (o:Pt 0 c0 v1 e) (H:iL sg e=some r): Calls prog 89 #[v1] c0.w (aO c0 fun c v=>Own c G (F)∧v=B r):=by
 unfold iL at H;refine en func89 rfl rfl (sr (va (B false) (wln (W.seq (bn H fun m p H=>W.join (Jn c0 fun c l=>Own c G (F)∧l= [(2,B m)]) ?_ ?_)))))
 ·clear H;refine W.region (va (v1) (vr (B (!e.isNone)) (by rcases (o).cs with ⟨f,g⟩ | ⟨E,f,g⟩ <;> (subst f; rw [g]; kernel_rfl)) ?_));rcases bo (!e.isNone) with b | b
  ·have a:=anT b p;refine vb b (wa (v1) (wn (bn a fun z t a=>?_)));obtain ⟨j,rfl,s⟩:=(o).get t;refine va (Q j) (wa (Qo j 1) (wn (bn a fun d u a=>?_)));obtain ⟨v10,D,n,y⟩:=Rel.open_row_Row q u s;refine vx (le1 1 u_4 (h.gon n 0 rfl)) ?_;obtain rfl:=si a;exact vv (B d.wrap) (wln (jn c0 ⟨h,rfl⟩))
  obtain rfl:=anF b p;exact vb b (pz (pz (vv (B false) (wln (jn c0 ⟨h,rfl⟩)))))
 rintro M N ⟨k,x,_,rfl,A,rfl,i,rfl⟩;refine nrm (W.ret ?_);obtain rfl:=si H;exact r1 (qq k ⟨i,rfl⟩)
def fF (p0:Int) (p1:Int) (p2:Int):Option (Int):=
 some (aS p1 (aM p0 p2))
theorem mb (e:Own c0 G F) (a:Int) (d:Int) (b:Int) {r:Int} (H:fF a d b=some r): Calls prog 194 #[I a,I d,I b] c0.w (aO c0 fun c v=>Own c G (F)∧v=I r):=by
 unfold fF at H;refine en func194 rfl rfl (sr (va (I 0) (wln (sr (va (I d) (va (I a) (va (I b) (va (I (aM a b)) (vv (I (aS d (aM a b))) (wln (W.ret ?_)))))))))));obtain rfl:=si H;exact r1 (qq c0 ⟨e,rfl⟩)
def go (sg:Sto) (p0:Option Nat) (p1:Int) (p2:Int):Option (Sto):=
 (bK sg p0).bind fun e=>
 (fF p1 0 e).bind fun a=>
 (bK sg p0).bind fun f=>
 (fF p2 0 f).bind fun b=>
 if (decide (a < b))=true then
 (eh (w64 (b - a))).bind fun c=>
 (dH sg p0 a c).bind fun d=>
 some d.1
 else
 some sg
theorem mD (U:Own c0 G F) (e:Rel c0 sg G) (hG:Gl [3,5] c0) (d:Option Nat) (f:Int) (g:Int) {r:Sto} (i:Pt 0 c0 v1 d) (H:go sg d f g=some r): Calls prog 195 #[v1,I f,I g] c0.w (aO c0 fun c v=>∃G_:Gm,Own c G_ (F)∧Rel c r G_∧v= .tuple #[]):=by
 unfold go at H;refine en func195 rfl rfl (sr (va (I f) (va (v1) (bn H fun S Z H=>cl (cv U e d i Z) ?_))));rintro v9 c8 l8 ⟨X,rfl⟩;refine bn H fun a y H=>cl (mb X f 0 S y) ?_;rintro v16 b0 h0 ⟨l,rfl⟩;refine va (I g) (va (v1) (bn H fun T z H=>cl (cv l e.m d i.m z) ?_));rintro v23 d0 i0 ⟨n,rfl⟩;refine bn H fun b A H=>cl (mb n g 0 T A) ?_;rintro v30 u j0 ⟨h,rfl⟩;refine va (I a) (va (I b) (wln (sr (va (I a) (va (I b) (va (B (decide (a < b))) (wln (cn H (fun D H=>?_) (fun D H=>?_)))))))))
 ·refine W.region (va (v1) (va (I a) (va (I b) (va (I a) (va (I (w64 (b - a))) (bn H fun j E H=>cl (jM h (w64 (b - a)) E) ?_))))));rintro v33 e0 k0 ⟨_,o0,o,rfl,M⟩;obtain ⟨f0,P,l0,p,N⟩:=o.frz 0 rfl M;refine WL.gh P (bn H fun a0 R H=>cl (jA p e.m (hG.m.le (by decide)) d a j i.m N R) ?_);rintro v47 x m0 ⟨_,k,q,t,rfl,g0⟩;refine WL.nil ?_;obtain rfl:=si H;have s:=q.sD 1 [];exact n0 (qq x ⟨k,s,t,rfl⟩)
 refine W.skip ?_;obtain rfl:=si H;exact n0 (qq u ⟨G,h,e.m,rfl⟩)
def jJ (sg:Sto) (p0:Option Nat) (p1:Int) (p2:Int):Option (Sto):=
 (bX (decide (p1≥0)) (some (decide (p2 > 0)))).bind fun f=>
 if f=true then
 (bK sg p0).bind fun b=>
 (fF p1 0 b).bind fun a=>
 (bK sg p0).bind fun c=>
 (fF p2 0 c).bind fun d=>
 (go sg p0 a (w64 (a+d))).bind fun e=>
 some e
 else
 some sg
theorem xD (o:Own c0 G F) (h:Rel c0 sg G) (hG:Gl [3,5] c0) (f:Option Nat) (b:Int) (d:Int) {r:Sto} (i:Pt 0 c0 v1 f) (H:jJ sg f b d=some r): Calls prog 152 #[v1,I b,I d] c0.w (aO c0 fun c v=>∃G_:Gm,Own c G_ (F)∧Rel c r G_∧v= .tuple #[]):=by
 unfold jJ at H;refine en func152 rfl rfl (W.seq (bn H fun A P H=>W.join (Jn c0 fun c l=>Own c G (F)∧l= [(0,v1),(1,I b),(2,I d),(11,B A)]) ?_ ?_))
 ·clear H;refine W.region (va (I b) (va (B (decide (b≥0))) ?_));rcases bo (decide (b≥0)) with e | e
  ·have T:=anT e P;refine vb e (wa (I d) (wa (B (decide (d > 0))) ?_));obtain rfl:=si T;exact va (B (decide (d > 0))) (wln (jn c0 ⟨o,rfl⟩))
  obtain rfl:=anF e P;exact vb e (pz (va (B false) (wln (jn c0 ⟨o,rfl⟩))))
 rintro e_ w_ ⟨U,g7,_,rfl,l6,rfl,x,rfl⟩;refine nrm (cn H (fun D H=>?_) (fun D H=>?_))
 ·refine sr (va (I b) (va (v1) (bn H fun j E H=>cl (cv x h.m f i.m E) ?_)));rintro v19 Z e0 ⟨p,rfl⟩;refine bn H fun a M H=>cl (mb p b 0 j M) ?_;rintro v26 a0 f0 ⟨q,rfl⟩;refine va (I a) (wln (W.region (va (v1) (vv (I a) (va (I d) (va (v1) (bn H fun k N H=>cl (cv q h.m f i.m N) ?_)))))));rintro v33 b0 g0 ⟨s,rfl⟩;refine bn H fun g R H=>cl (mb s d 0 k R) ?_;rintro v40 d0 h0 ⟨t,rfl⟩;refine va (I (w64 (a+g))) (bn H fun X S H=>cl (mD t h.m (hG.m.le (by decide)) f a (w64 (a+g)) i.m S) ?_);rintro v47 z i0 ⟨n,u,y,rfl⟩;refine WL.nil ?_;obtain rfl:=si H;exact n0 (qq z ⟨n,u,y,rfl⟩)
 refine W.skip ?_;obtain rfl:=si H;exact n0 (qq U ⟨G,x,h.m,rfl⟩)
def kP (sg:Sto) (p0:Option Nat) (p1:Int):Option (Sto):=
 (bK sg p0).bind fun a=>
 (go sg p0 p1 a).bind fun b=>
 some b
theorem xC (l:Own c0 G F) (f:Rel c0 sg G) (hG:Gl [3,5] c0) (a:Option Nat) (b:Int) {r:Sto} (j:Pt 0 c0 v1 a) (H:kP sg a b=some r): Calls prog 191 #[v1,I b] c0.w (aO c0 fun c v=>∃G_:Gm,Own c G_ (F)∧Rel c r G_∧v= .tuple #[]):=by
 unfold kP at H;refine en func191 rfl rfl (W.region (va (v1) (va (I b) (va (v1) (bn H fun k o H=>cl (cv l f a j o) ?_)))));rintro v9 s t ⟨n,rfl⟩;refine bn H fun q i H=>cl (mD n f.m (hG.m.le (by decide)) a b k j.m i) ?_;rintro v16 h p ⟨d,e,g,rfl⟩;refine WL.nil ?_;obtain rfl:=si H;exact n0 (qq h ⟨d,e,g,rfl⟩)
def lP (sg:Sto) (p0:Option Nat) (p1:Int):Option (Sto):=
 (bK sg p0).bind fun a=>
 (fF p1 (-1) a).bind fun b=>
 (go sg p0 0 (w64 (b+1))).bind fun c=>
 some c
theorem zp (p:Own c0 G F) (h:Rel c0 sg G) (hG:Gl [3,5] c0) (a:Option Nat) (b:Int) {r:Sto} (n:Pt 0 c0 v1 a) (H:lP sg a b=some r): Calls prog 192 #[v1,I b] c0.w (aO c0 fun c v=>∃G_:Gm,Own c G_ (F)∧Rel c r G_∧v= .tuple #[]):=by
 unfold lP at H;refine en func192 rfl rfl (W.region (va (v1) (va (I b) (va (v1) (bn H fun o s H=>cl (cv p h a n s) ?_)))));rintro v9 z A ⟨q,rfl⟩;refine bn H fun d k H=>cl (mb q b (-1) o k) ?_;rintro v16 t u ⟨f,rfl⟩;refine va (I (w64 (d+1))) (bn H fun y l H=>cl (mD f h.m (hG.m.le (by decide)) a 0 (w64 (d+1)) n.m l) ?_);rintro v23 j x ⟨e,g,i,rfl⟩;refine WL.nil ?_;obtain rfl:=si H;exact n0 (qq j ⟨e,g,i,rfl⟩)
def kh (sg:Sto) (p0:Option Nat):Option (Sto):=
 (bK sg p0).bind fun a=>
 (go sg p0 0 a).bind fun b=>
 (eB b p0 false).bind fun c=>
 some c
theorem uQ (o:Own c0 G F) (g:Rel c0 sg G) (hG:Gl [3,5] c0) (a:Option Nat) {r:Sto} (b:Pt 0 c0 v1 a) (H:kh sg a=some r): Calls prog 193 #[v1] c0.w (aO c0 fun c v=>∃G_:Gm,Own c G_ (F)∧Rel c r G_∧v= .tuple #[]):=by
 unfold kh at H;refine en func193 rfl rfl (sr (vv (v1) (bn H fun n q H=>cl (cv o g a b q) ?_)));rintro v9 A D ⟨p,rfl⟩;refine bn H fun y k H=>cl (mD p g.m (hG.m.le (by decide)) a 0 n b.m k) ?_;rintro v16 t u ⟨s,e,h,rfl⟩;refine wln (W.region (va (v1) (bn H fun z l H=>cl (ma e h a false b.m l) ?_)));rintro v23 j x ⟨d,f,i,rfl⟩;refine WL.nil ?_;obtain rfl:=si H;exact n0 (qq j ⟨d,f,i,rfl⟩)
def bJ (sg:Sto) (p0:Option Nat):Option (Int):=
 if p0.isNone=true then
 some 0
 else
 (p0).bind fun b=>
 (sg.grid_Grid[b]?).bind fun a=>
 some (a.rows.length:Int)
theorem bE (d:Own c0 G F) (k:Rel c0 sg G) (f:Option Nat) {r:Int} (j:Pt 1 c0 v1 f) (H:bJ sg f=some r): Calls prog 51 #[v1] c0.w (aO c0 fun c v=>Own c G (F)∧v=I r):=by
 unfold bJ at H;refine en func51 rfl rfl (sr (va (I 0) (wln (W.seq (sr (va (v1) (vr (B f.isNone) (by rcases (j).cs with ⟨a,b⟩ | ⟨q,a,b⟩ <;> (subst a; rw [b]; kernel_rfl)) (wln (cn H (fun l H=>?_) (fun l H=>?_))))))))))
 ·refine sr (va (I 0) (wln (W.ret (thr ?_))));obtain rfl:=si H;exact r1 (qq c0 ⟨d,rfl⟩)
 refine W.skip (nrm (sr (va (v1) (bn H fun p n H=>?_))));obtain ⟨g,rfl,m⟩:=(j).get n;refine vv (Q g) (bn H fun e o H=>?_);obtain ⟨v8,s,i,h⟩:=Rel.open_grid_Grid k o m;refine vx (le1 0 pX (d.gon i 0 rfl)) (vx (lnO 3 pX h) (va (I (e.rows.length:Int)) (wln (W.ret ?_))));obtain rfl:=si H;exact r1 (qq c0 ⟨d,rfl⟩)
def lv (sg:Sto) (p0:Option Nat) (p1:Int) (p2:Int) (p3:Int):Option (gF×Bool):=
 (bJ sg p0).bind fun b=>
 (bJ sg p0).bind fun a=>
 (bX (decide ((aS 0 (aM p1 b)) < (aS 0 (aM p2 a)))) (some (decide (p3 > 0)))).bind fun c=>
 some ((⟨(aS 0 (aM p1 b)),(aS 0 (aM p2 a)),(aM p3 (w64 ((aS 0 (aM p2 a)) - (aS 0 (aM p1 b)))))⟩:gF),c)
theorem uP (S:Own c0 G F) (z:Rel c0 sg G) (j:Option Nat) (d:Int) (e:Int) (f:Int) {r:gF×Bool} (R:Pt 1 c0 v1 j) (H:lv sg j d e f=some r): Calls prog 186 #[v1,I d,I e,I f] c0.w (aO c0 fun c v=>Own c G (F)∧v= .tuple #[.agg #[I r.1.from_,I r.1.to_,I r.1.n],B r.2]):=by
 unfold lv at H;refine en func186 rfl rfl (sr (me (al 255 [I 0,I 0,I 0] S) ?_));rintro v6 c5 l5 ⟨D,rfl,T⟩;refine va (B false) (wln (sr (va (I d) (va (v1) (bn H fun b X H=>cl (bE T z.m j R.m X) ?_)))));rintro v13 Z e0 ⟨U,rfl⟩;refine va (I (aM d b)) (va (I (aS 0 (aM d b))) (va (I e) (va (v1) (bn H fun a P H=>cl (bE U z.m j R.m P) ?_))));rintro v20 a0 f0 ⟨s,rfl⟩;refine va (I (aM e a)) (va (I (aS 0 (aM e a))) (va (I (aS 0 (aM d b))) (va (I (aS 0 (aM e a))) (wln (sr (va (I (aS 0 (aM d b))) (va (I (aS 0 (aM e a))) (va (I f) (va (I (aS 0 (aM e a))) (va (I (aS 0 (aM d b))) (va (I (w64 ((aS 0 (aM e a)) - (aS 0 (aM d b))))) (va (I (aM f (w64 ((aS 0 (aM e a)) - (aS 0 (aM d b)))))) (va (.agg #[I (aS 0 (aM d b)),I (aS 0 (aM e a)),I (aM f (w64 ((aS 0 (aM e a)) - (aS 0 (aM d b)))))]) (me (al 255 [I 0,I 0,I 0] s) ?_))))))))))))));rintro v24 b0 g0 ⟨A,rfl,t⟩;refine md (sA 255 [I (aS 0 (aM d b)),I (aS 0 (aM e a)),I (aM f (w64 ((aS 0 (aM e a)) - (aS 0 (aM d b)))))] 0 t ⟨rfl,rfl,rfl,trivial⟩) ?_;rintro E h0 h;refine wln (W.seq (bn H fun i p H=>W.join (Jn E fun c l=>Own c G ((Eb A 255 [I (aS 0 (aM d b)),I (aS 0 (aM e a)),I (aM f (w64 ((aS 0 (aM e a)) - (aS 0 (aM d b)))))]) :: (Eb D 255 [I (aS 0 (aM d b)),I (aS 0 (aM e a)),I (aM f (w64 ((aS 0 (aM e a)) - (aS 0 (aM d b)))))]) :: F)∧l= [(8,Q D),(9,B i)]) ?_ ?_))
 ·clear H;refine W.region (vx (leN 255 0 [I (aS 0 (aM d b)),I (aS 0 (aM e a)),I (aM f (w64 ((aS 0 (aM e a)) - (aS 0 (aM d b)))))] (h.on 0 rfl)) (va (I (aS 0 (aM d b))) (va (I (aS 0 (aM e a))) (va (B (decide ((aS 0 (aM d b)) < (aS 0 (aM e a))))) ?_))));rcases bo (decide ((aS 0 (aM d b)) < (aS 0 (aM e a)))) with g | g
  ·have q:=anT g p;refine vb g (wa (I f) (wa (B (decide (f > 0))) ?_));obtain rfl:=si q;refine va (B (decide (f > 0))) (md (sA 255 [I (aS 0 (aM d b)),I (aS 0 (aM e a)),I (aM f (w64 ((aS 0 (aM e a)) - (aS 0 (aM d b)))))] 1 h ⟨rfl,rfl,rfl,trivial⟩) ?_);rintro M i0 u;exact va (B (decide (f > 0))) (wln (jn M ⟨u,rfl⟩))
  obtain rfl:=anF g p;refine vb g (pz (va (B false) (md (sA 255 [I (aS 0 (aM d b)),I (aS 0 (aM e a)),I (aM f (w64 ((aS 0 (aM e a)) - (aS 0 (aM d b)))))] 1 h ⟨rfl,rfl,rfl,trivial⟩) ?_)));rintro N j0 x;exact va (B false) (wln (jn N ⟨x,rfl⟩))
 rintro e_ w_ ⟨o,d0,_,rfl,k0,rfl,k,rfl⟩;refine nrm (W.ret ?_);obtain rfl:=si H;have y:=k.sD 2 [];exact kK (c:=o) (vs:=[I (aS 0 (aM d b)),I (aS 0 (aM e a)),I (aM f (w64 ((aS 0 (aM e a)) - (aS 0 (aM d b)))))]) (v:=B i) rfl (by kernel_rfl) (by kernel_rfl) (by kernel_rfl) (by kernel_rfl) (k.on 1 rfl _ rfl).1 ⟨_,o,rfl,rfl,pt,y,rfl⟩
def bB (sg:Sto) (p0:Option Nat) (p1:Int):Option (Option Nat):=
 (orE (decide (p1 < 0)) ((bJ sg p0).bind fun e=>
 some (decide (p1≥e)))).bind fun d=>
 if d=true then
 some (none:Option Nat)
 else
 (p0).bind fun a=>
 (sg.grid_Grid[a]?).bind fun b=>
 (idx b.rows p1).bind fun c=>
 some c
theorem cL (p:Own c0 G F) (q:Rel c0 sg G) (o:Option Nat) (a:Int) {r:Option Nat} (x:Pt 1 c0 v1 o) (H:bB sg o a=some r): Calls prog 86 #[v1,I a] c0.w (aO c0 fun c v=>∃P,Own c G (F)∧v=P∧Pt 0 c P r):=by
 unfold bB at H;refine en func86 rfl rfl (sr (va (.pointer none) (wln (W.seq (W.seq (bn H fun t D H=>W.join (Jn c0 fun c l=>Own c G (F)∧l= [(0,v1),(1,I a),(12,B t)]) ?_ ?_))))))
 ·clear H;refine W.region (va (I a) (va (B (decide (a < 0))) ?_));rcases bo (decide (a < 0)) with f | f
  ·obtain rfl:=orT f D;exact vb f (pz (pz (va (B true) (wln (jn c0 ⟨p,rfl⟩)))))
  have n:=orF f D;refine vb f (wa (I a) (wa (v1) (wn (bn n fun m S n=>cl (bE p q o x S) ?_))));rintro v12 s b0 ⟨R,rfl⟩;refine wa (B (decide (a≥m))) ?_;obtain rfl:=si n;exact va (B (decide (a≥m))) (wln (jn s ⟨R,rfl⟩))
 rintro e_ w_ ⟨h,a0,_,rfl,k,rfl,b,rfl⟩;refine nrm (cn H (fun u H=>?_) (fun u H=>?_))
 ·refine sr (va (.pointer none) (wln (W.ret (thr ?_))));obtain rfl:=si H;exact r1 (qq h ⟨(.pointer none),b,rfl,rfl⟩)
 refine W.skip (nrm (sr (va (v1) (bn H fun T z H=>?_))));obtain ⟨g,rfl,y⟩:=((x.mono k)).get z;refine vv (Q g) (bn H fun X A H=>?_);obtain ⟨v24,d0,i,d⟩:=Rel.open_grid_Grid (q.mono k) A y;refine vx (le1 0 pX (b.gon i 0 rfl)) (va (I a) (bn H fun Z e H=>vx (ixO pX d e) ?_));obtain ⟨U,E,N⟩:=OA.at d e;obtain ⟨v32,rfl,M⟩:=E;refine vr v32 (rx (by kernel_rfl) (Aq Ha rfl (b.gon i 1 rfl) (d.blk e) (at1 (j:=0) N rfl))) (va (v32) (wln (W.ret ?_)));obtain rfl:=si H;exact r1 (qq h ⟨v32,b,rfl,M⟩)
def fW (sg:Sto) (p0:Option Nat) (p1:Int) (p2:Option Nat):Option (Sto×Bool):=
 (orE p2.isNone ((bB sg p0 p1).bind fun h=>
 (bK sg h).bind fun e=>
 (bK sg p2).bind fun f=>
 some (e != f))).bind fun g=>
 if g=true then
 some (sg,false)
 else
 (p0).bind fun b=>
 (sg.grid_Grid[b]?).bind fun c=>
 (idx c.rows p1).bind fun i=>
 (mj c.rows p1 p2).bind fun d=>
 (sg.set_grid_Grid b (⟨d⟩:cj)).bind fun a=>
 some (a,true)
theorem pS (M:Own c0 G F) (e:Rel c0 sg G) (z:Option Nat) (f:Int) (g:Option Nat) {r:Sto×Bool} (h2:Pt 1 c0 v1 z) (j:Pt 0 c0 v3 g) (H:fW sg z f g=some r): Calls prog 111 #[v1,I f,v3] c0.w (aO c0 fun c v=>∃G_:Gm,Own c G_ (F)∧Rel c r.1 G_∧v=B r.2):=by
 unfold fW at H;refine en func111 rfl rfl (sr (va (B false) (wln (W.seq (W.seq (bn H fun g0 h5 H=>W.join (Jn c0 fun c l=>Own c G (F)∧l= [(0,v1),(1,I f),(2,v3),(17,B g0)]) ?_ ?_))))))
 ·clear H;refine W.region (va (v3) (vr (B g.isNone) (by rcases (j).cs with ⟨p,q⟩ | ⟨b_,p,q⟩ <;> (subst p; rw [q]; kernel_rfl)) ?_));rcases bo (g.isNone) with k | k
  ·obtain rfl:=orT k h5;exact vb k (pz (pz (pz (ps (va (B true) (wln (jn c0 ⟨M,rfl⟩)))))))
  have a:=orF k h5;refine vb k (wa (v1) (wa (I f) (wn (bn a fun x0 h8 a=>cl (cL M e z f h2 h8) ?_))));rintro v9 d1 h1 ⟨_,N,rfl,h0⟩;refine wn (bn a fun n i0 a=>cl (cv N e.m x0 h0 i0) ?_);rintro v23 e1 i1 ⟨P,rfl⟩;refine wa (v3) (wn (bn a fun o k0 a=>cl (cv P e.m g j.m k0) ?_));rintro v30 d0 j1 ⟨S,rfl⟩;refine wa (B (n != o)) ?_;obtain rfl:=si a;exact va (B (n != o)) (wln (jn d0 ⟨S,rfl⟩))
 rintro e_ w_ ⟨e0,f1,_,rfl,d,rfl,h,rfl⟩;refine nrm (cn H (fun l0 H=>?_) (fun l0 H=>?_))
 ·refine sr (va (B false) (wln (W.ret (thr ?_))));obtain rfl:=si H;exact r1 (qq e0 ⟨G,h,e.m,rfl⟩)
 refine W.skip (nrm (sr (va (v1) (bn H fun z0 m0 H=>?_))));obtain ⟨b,rfl,s⟩:=((h2.mono d)).get m0;refine vv (Q b) (bn H fun a1 o0 H=>?_);obtain ⟨v42,k1,x,t⟩:=Rel.open_grid_Grid (e.mono d) o0 s;refine vx (le1 0 pX (h.gon x 0 rfl)) (va (I f) (va (v3) (bn H fun b1 q0 H=>vx (ixO pX t q0) ?_)));obtain ⟨i,rfl⟩:=((j.mono d)).form;have U:=h.borrow 1 x rfl;refine bn H fun A s0 H=>md (Own.stW (R:=(RP 0)) (T:=95) (us:=[.pointer i]) (x':=g) (u:= .pointer i) 0 U (by kernel_rfl) rfl t s0 rfl (by kernel_rfl) ⟨j.m.one,trivial⟩ rfl ⟨(.pointer i),rfl,j.m⟩) ?_;rintro f0 w0 ⟨y,X,u0⟩;have Z:=X.giveB 1 rfl;refine bn H fun D v0 H=>?_;obtain ⟨E,a0,b0,g1,c1⟩:=Rel.put_grid_Grid Z (e.mono (d.trans w0)) (E':=[(Eb b 94 [v42]),es true (RP 0) v42 95 y A]) v0 ⟨b,v42,y,(tm s),rfl,u0⟩;refine wln (sr (va (B true) (wln (W.ret ?_))));obtain rfl:=si H;exact r1 (qq f0 ⟨E,a0,b0,rfl⟩)
def eq (sg:Sto) (p0:gF) (p1:Option Nat) (p2:List (Option Nat)):Option (Sto):=
 (cV (σ:=Int×Sto) (τ:=Sto) (((p2.length:Int) - 0).toNat+1) (fun a=>
 if (decide (a.1 < (p2.length:Int)))=true then
 (idx p2 a.1).bind fun c=>
 (fW a.2 p1 (w64 (p0.from_+a.1)) c).bind fun d=>
 some (.inl ((w64 (a.1+1)),d.1))
 else
 some (.inr (a.2))) (0,sg)).bind fun b=>
 (bB b p1 (w64 (p0.from_ - 1))).bind fun e=>
 (eB b e false).bind fun f=>
 some f
theorem mX (O0:Own c0 G F) (R0:Rel c0 sg G) (b:gF) (g:Option Nat) (h:List (Option Nat)) {r:Sto} (h2:Pt 1 c0 v1 g) (s:Sl (RP 0) c0 v3 h) (H:eq sg b g h=some r): Calls prog 187 #[.agg #[I b.from_,I b.to_,I b.n],v1,v3] c0.w (aO c0 fun c v=>∃G_:Gm,Own c G_ (F)∧Rel c r G_∧v= .tuple #[]):=by
 unfold eq at H;refine en func187 rfl rfl (sr (me (bx 255 [I b.from_,I b.to_,I b.n] O0) ?_));rintro v9 q l8 ⟨f,rfl,O6,m7⟩;refine wln (W.seq (sr (va (v3) (vx (ln 3 pX s.m) (va (I 0) (wln (W.block (bn H fun h1 o d=>lp o (fun a=>Jn q fun c l=>∃G_,Own c G_ (F)∧l= [(1,v1),(3,Q f),(8,v3),(9,I (h.length:Int)),(10,I a.1)]∧Rel c a.2 G_) (fun t ex e w=>ex= .exit 0∧(Jn q fun c l=>∃G_,Own c G_ (F)∧l= [(1,v1),(3,Q f)]∧Rel c t G_) e w) ?_ ?_ ?_))))))))
 ·clear d o;intro a i1 X l0 H;revert X l0;rintro e_ w_ ⟨S,b1,_,rfl,i0,rfl,y,i,rfl,j⟩;refine sr (va (B (decide (a.1 < (h.length:Int)))) (wln (W.seq (cn H (fun Z H=>?_) (fun Z H=>?_)))))
  ·refine W.skip (nrm (W.seq (W.block (sr (va (I a.1) (bn H fun u p H=>?_))))));obtain ⟨u0,b0,j0⟩:=Sl.at (s.mono (l8.trans i0)) (bW p);obtain ⟨v23,rfl,d0⟩:=b0;refine vx (ix pX s.m p) (vx (l1 Ha (j0 0 _ rfl)) (va (I a.1) (va (v23) (wln (W.region (va (v1) (va (Q f) (vx (l1 u_3 ((mm m7) 0 _ rfl)) (va (I a.1) (va (I (w64 (b.from_+a.1))) (va (v23) (bn H fun w0 e0 H=>cl (pS i j g (w64 (b.from_+a.1)) u h2.m d0 e0) ?_))))))))))));rintro v31 T d1 ⟨z,D,P,rfl⟩;refine WL.nil (bkn (nrm (W.region (vv (I (w64 (a.1+1))) (WL.nil ?_)))));obtain rfl:=si H;exact ⟨_,rfl,jn T ⟨z,D,rfl,P⟩⟩
  refine W.exit (thx ?_);obtain rfl:=si H;exact ⟨_,rfl,rfl,jn S ⟨y,i,rfl,j⟩⟩
 ·exact jn q ⟨G,O6,rfl,R0.m⟩
 rintro _ e_ w_ ⟨rfl,z0,c1,_,rfl,e1,rfl,y0,E,rfl,k⟩;refine bke (nrm (W.region (va (v1) (va (Q f) (vx (l1 u_3 ((mm m7) 0 _ rfl)) (va (I (w64 (b.from_ - 1))) (bn d fun x f0 d=>cl (cL E k g (w64 (b.from_ - 1)) h2.m f0) ?_)))))));rintro v39 a1 f1 ⟨_,M,rfl,g0⟩;refine bn d fun x0 h0 d=>cl (ma M k.m x false g0 h0) ?_;rintro v53 U g1 ⟨A,N,R,rfl⟩;refine WL.nil ?_;obtain rfl:=si d;exact n0 (qq U ⟨A,N,R,rfl⟩)
def jF (sg:Sto) (p0:Option Nat) (p1:Int) (p2:Int):Option (List (Option Nat)):=
 (cV (σ:=(List (Option Nat))×Int) (τ:=(List (Option Nat))) ((p2 - p1).toNat+1) (fun a=>
 if (decide (a.2 < p2))=true then
 (bB sg p0 a.2).bind fun b=>
 (app a.1 ([b]:List (Option Nat))).bind fun c=>
 some (.inl (c,(w64 (a.2+1))))
 else
 some (.inr (a.1))) (([]:List (Option Nat)),p1)).bind fun d=>
 some d
theorem rM (O0:Own c0 G F) (R0:Rel c0 sg G) (o:Option Nat) (f:Int) (d:Int) {r:List (Option Nat)} (h2:Pt 1 c0 v1 o) (H:jF sg o f d=some r): Calls prog 188 #[v1,I f,I d] c0.w (aO c0 fun c v=>∃q y2,Own c G (es true (RP 0) q 95 y2 r :: F)∧v=q∧OA (RP 0) c q y2 r):=by
 unfold jF at H;refine en func188 rfl rfl (sr (va (Y) (wln (sr (va (Y) (wln (W.seq (sr (vv (I f) (wln (W.block (bn H fun b1 T s=>lp T (fun a=>Jn c0 fun c l=>∃v5 g,Own c G (es true (RP 0) v5 95 g a.1 :: F)∧l= [(0,v1),(2,I d),(7,v5),(8,I a.2)]∧OA (RP 0) c v5 g a.1) (fun b ex e w=>ex= .exit 0∧(Jn c0 fun c l=>∃v7 h,Own c G (es true (RP 0) v7 95 h b :: F)∧l= [(7,v7)]∧OA (RP 0) c v7 h b) e w) ?_ ?_ ?_))))))))))))
 ·clear s T;intro a d1 N f0 H;revert N f0;rintro e_ w_ ⟨c9,u0,_,rfl,l9,rfl,v5,g,i,rfl,k⟩;refine W.seq (sr (va (I a.2) (va (I d) (va (B (decide (a.2 < d))) (wln (cn H (fun P H=>?_) (fun P H=>?_)))))))
  ·refine W.skip (nrm (W.seq (W.block (W.region (va (v5) (va (v1) (va (I a.2) (bn H fun p R H=>cl (cL i R0.m o a.2 h2.m R) ?_))))))));rintro v18 q0 w0 ⟨_,t,rfl,n⟩;obtain ⟨j,rfl⟩:=(n).form;refine me (sl (RP 0) 95 [[.pointer j]] ([p]:List (Option Nat)) t ⟨⟨(.pointer j),rfl,n⟩,trivial⟩) ?_;rintro v31 s0 x0 ⟨c1,u,S⟩;obtain ⟨t0,X,y0,x,U⟩:=u.frz 0 rfl S;refine WL.gh X (bn H fun o0 Z H=>me (ap (RP 0) (.pointer none) 8 92 1 x k.m U Z pX) ?_);rintro v41 E z0 ⟨e0,y,a0⟩;refine va (v41) (WL.nil (bkn (nrm (W.region (va (I a.2) (vv (I (w64 (a.2+1))) (WL.nil ?_)))))));obtain rfl:=si H;refine ⟨_,rfl,?_⟩;have z:=y.sD 2 [1];exact jn E ⟨v41,e0,z,rfl,a0⟩
  refine W.exit (thx ?_);obtain rfl:=si H;exact ⟨_,rfl,rfl,jn c9 ⟨v5,g,i,rfl,k⟩⟩
 ·have b0:OA (RP 0) c0 (Y) [] []:=OA.nil (aI _);have A:=O0.addHole (e:=es true (RP 0) (Y) 95 [] ([]:List (Option Nat))) rfl;exact jn c0 ⟨(Y),[],A,rfl,b0⟩
 rintro _ e_ w_ ⟨rfl,M,v0,_,rfl,a1,rfl,v7,h,D,rfl,d0⟩;refine bke (nrm (sr (vv (v7) (wln (W.ret ?_)))));obtain rfl:=si s;exact r1 (qq M ⟨v7,h,D,rfl,d0⟩)
def bV (sg:Sto) (p0:Option Nat):Option (Int):=
 (bB sg p0 0).bind fun a=>
 (bK sg a).bind fun b=>
 some b
theorem cG (i:Own c0 G F) (d:Rel c0 sg G) (a:Option Nat) {r:Int} (k:Pt 1 c0 v1 a) (H:bV sg a=some r): Calls prog 50 #[v1] c0.w (aO c0 fun c v=>Own c G (F)∧v=I r):=by
 unfold bV at H;refine en func50 rfl rfl (sr (va (I 0) (wln (sr (va (v1) (bn H fun g l H=>cl (cL i d a 0 k l) ?_))))));rintro v4 o p ⟨_,j,rfl,n⟩;refine bn H fun h f H=>cl (cv j d.m g n f) ?_;rintro v18 e q ⟨b,rfl⟩;refine va (I h) (wln (W.ret ?_));obtain rfl:=si H;exact r1 (qq e ⟨b,rfl⟩)
def gW (sg:Sto) (p0:Option Nat) (p1:Int):Option (Sto×(List (Option Nat))):=
 (cV (σ:=(List (Option Nat))×Int×Sto) (τ:=((List (Option Nat))×Sto)) ((p1 - 0).toNat+1) (fun a=>
 if (decide (a.2.1 < p1))=true then
 (bV a.2.2 p0).bind fun d=>
 (kx a.2.2 d).bind fun b=>
 (app a.1 ([b.2]:List (Option Nat))).bind fun e=>
 some (.inl (e,(w64 (a.2.1+1)),b.1))
 else
 some (.inr (a.1,a.2.2))) (([]:List (Option Nat)),0,sg)).bind fun c=>
 some (c.2,c.1)
theorem pP (O0:Own c0 G F) (R0:Rel c0 sg G) (p:Option Nat) (f:Int) {r:Sto×(List (Option Nat))} (h2:Pt 1 c0 v1 p) (H:gW sg p f=some r): Calls prog 189 #[v1,I f] c0.w (aO c0 fun c v=>∃t y2,∃G_:Gm,Own c G_ (es true (RP 0) t 95 y2 r.2 :: F)∧Rel c r.1 G_∧dY G G_∧v=t∧OA (RP 0) c t y2 r.2):=by
 unfold gW at H;refine en func189 rfl rfl (sr (va (Y) (wln (sr (va (Y) (wln (W.seq (sr (va (I f) (va (I 0) (wln (W.block (bn H fun t1 h3 z=>lp h3 (fun a=>Jn c0 fun c l=>∃v5 g G_,Own c G_ (es true (RP 0) v5 95 g a.1 :: F)∧l= [(0,v1),(5,v5),(6,I f),(7,I a.2.1)]∧Rel c a.2.2 G_∧dY G G_∧OA (RP 0) c v5 g a.1) (fun b ex e w=>ex= .exit 0∧(Jn c0 fun c l=>∃v7 h G_,Own c G_ (es true (RP 0) v7 95 h b.1 :: F)∧l= [(5,v7)]∧Rel c b.2 G_∧dY G G_∧OA (RP 0) c v7 h b.1) e w) ?_ ?_ ?_)))))))))))))
 ·clear z h3;intro a w1 e0 u0 H;revert e0 u0;rintro e_ w_ ⟨c9,h1,_,rfl,l9,rfl,v5,g,u,i,rfl,d,j,n⟩;refine sr (va (B (decide (a.2.1 < f))) (wln (W.seq (cn H (fun f0 H=>?_) (fun f0 H=>?_)))))
  ·refine W.skip (nrm (W.seq (W.block (W.region (va (v5) (va (v1) (bn H fun q g0 H=>cl (cG i d p h2.m g0) ?_)))))));rintro v23 d1 j1 ⟨A,rfl⟩;refine bn H fun s h0 H=>cl (ug A d.m q h0) ?_;rintro v25 e1 k1 ⟨_,x,D,T,X,rfl,o⟩;have Z:=j.trans X;obtain ⟨k,rfl⟩:=(o).form;refine me (sl (RP 0) 95 [[.pointer k]] ([s.2]:List (Option Nat)) D ⟨⟨(.pointer k),rfl,o⟩,trivial⟩) ?_;rintro v39 f1 m1 ⟨u1,E,j0⟩;obtain ⟨g1,l0,n1,M,k0⟩:=E.frz 0 rfl j0;refine WL.gh l0 (bn H fun c1 m0 H=>me (ap (RP 0) (.pointer none) 8 92 1 M n.m k0 m0 pX) ?_);rintro v49 b0 q1 ⟨t0,N,o0⟩;refine va (v49) (WL.nil (bkn (nrm (W.region (vv (I (w64 (a.2.1+1))) (WL.nil ?_))))));obtain rfl:=si H;refine ⟨_,rfl,?_⟩;have P:=N.sD 2 [1];exact jn b0 ⟨v49,t0,x,P,rfl,T.m,Z,o0⟩
  refine W.exit (thx ?_);obtain rfl:=si H;exact ⟨_,rfl,rfl,jn c9 ⟨v5,g,u,i,rfl,d,j,n⟩⟩
 ·have q0:OA (RP 0) c0 (Y) [] []:=OA.nil (aI _);have R:=O0.addHole (e:=es true (RP 0) (Y) 95 [] ([]:List (Option Nat))) rfl;exact jn c0 ⟨(Y),[],G,R,rfl,R0,(dY.refl _),q0⟩
 rintro _ e_ w_ ⟨rfl,d0,i1,_,rfl,s1,rfl,v7,h,y,S,rfl,U,a0,s0⟩;refine bke (nrm (sr (vv (v7) (wln (W.ret ?_)))));obtain rfl:=si z;exact r1 (qq d0 ⟨v7,h,y,S,U,a0,rfl,s0⟩)
def kb (sg:Sto) (p0:Option Nat) (p1:Int) (p2:Int) (p3:Int):Option (Sto):=
 (lv sg p0 p1 p2 p3).bind fun a=>
 if a.2=true then
 (jF sg p0 (w64 (a.1.from_+a.1.n)) a.1.to_).bind fun c=>
 (gW sg p0 a.1.n).bind fun b=>
 (app c b.2).bind fun d=>
 (eq b.1 a.1 p0 d).bind fun e=>
 some e
 else
 some sg
theorem qF (O0:Own c0 G F) (h:Rel c0 sg G) (g:Option Nat) (k:Int) (l:Int) (o:Int) {r:Sto} (j:Pt 1 c0 v1 g) (H:kb sg g k l o=some r): Calls prog 147 #[v1,I k,I l,I o] c0.w (aO c0 fun c v=>∃G_:Gm,Own c G_ (F)∧Rel c r G_∧v= .tuple #[]):=by
 unfold kb at H;refine en func147 rfl rfl (sr (va (v1) (va (I k) (va (I l) (va (I o) (bn H fun a h3 H=>cl (uP O0 h g k l o j h3) ?_))))));rintro v9 c8 l8 ⟨O5,rfl⟩;refine va (.tuple #[.agg #[I a.1.from_,I a.1.to_,I a.1.n],B a.2]) (va (.agg #[I a.1.from_,I a.1.to_,I a.1.n]) (va (B a.2) (me (al 255 [I 0,I 0,I 0] O5) ?_)));rintro v13 j1 k1 ⟨b,rfl,M⟩;refine md (sA 255 [I a.1.from_,I a.1.to_,I a.1.n] 0 M ⟨rfl,rfl,rfl,trivial⟩) ?_;rintro T m1 p;refine va (B a.2) (wln (sr (va (B a.2) (wln (cn H (fun e0 H=>?_) (fun e0 H=>?_))))))
 ·refine rD [] (Kp G0 [(Eb b 255 [I a.1.from_,I a.1.to_,I a.1.n])]) p ?_;intro U n1 q;have e:Kp G0 [(Eb b 255 [I a.1.from_,I a.1.to_,I a.1.n])] U:=(Kp.cons (q.on 0 rfl) Kp.nil0);refine tkx 0 e (fun i f d=>leN 255 0 [I a.1.from_,I a.1.to_,I a.1.n] (d.on 0 rfl)) (ta 1 (v1) (ta 2 (v1) (ta 3 (Q b) (tkx 4 e (fun i f d=>le1 0 u_3 (d.on 0 rfl)) (ta 5 (Qo b 2) (tkx 6 e (fun i f d=>le1 2 u_3 (d.on 0 rfl)) (ta 7 (I (w64 (a.1.from_+a.1.n))) (ta 8 (Qo b 1) (tkx 9 e (fun i f d=>le1 1 u_3 (d.on 0 rfl)) (ta 11 (v1) (ta 12 (Qo b 2) (tkx 13 e (fun i f d=>le1 2 u_3 (d.on 0 rfl)) (bn H fun e1 f0 H=>o1 10 (gc 10 (rM q h.m g (w64 (a.1.from_+a.1.n)) a.1.to_ j.m f0) ?_))))))))))))));rintro v21 X q1 ⟨_,w1,s,rfl,g0⟩;have v0:Kp G0 [(Eb b 255 [I a.1.from_,I a.1.to_,I a.1.n])] X:=(Kp.cons (s.on 1 rfl) Kp.nil0);refine ⟨.inr v0,bn H fun f1 h0 H=>o1 14 (gc 14 (pP s h.m g a.1.n j.m h0) ?_)⟩;rintro v32 Z s1 ⟨_,x1,h1,t,R,i1,rfl,i0⟩;have w0:Kp G0 [(Eb b 255 [I a.1.from_,I a.1.to_,I a.1.n])] Z:=(Kp.cons (t.on 2 rfl) Kp.nil0);refine ⟨.inr w0,?_⟩;obtain ⟨a0,k0,t0,u,j0⟩:=t.frz 0 rfl i0;have x0:Kp G0 [(Eb b 255 [I a.1.from_,I a.1.to_,I a.1.n])] a0:=(Kp.cons (u.on 2 rfl) Kp.nil0);refine AC.gh k0 t0 (fun _=>x0) (bn H fun D l0 H=>o1 15 (gm 15 (ap (RP 0) (.pointer none) 8 92 1 u g0.m j0 l0 pX) ?_));rintro v52 b0 t1 ⟨y1,x,m0⟩;have y0:Kp G0 [(Eb b 255 [I a.1.from_,I a.1.to_,I a.1.n])] b0:=(Kp.cons (x.on 2 rfl) Kp.nil0);refine ⟨.inr y0,?_⟩;obtain ⟨d0,q0,u0,y,o0⟩:=x.frz 1 rfl m0;have z0:Kp G0 [(Eb b 255 [I a.1.from_,I a.1.to_,I a.1.n])] d0:=(Kp.cons (y.on 2 rfl) Kp.nil0);refine AC.gh q0 u0 (fun _=>z0) (bn H fun g1 s0 H=>o1 16 (gc 16 (mX y R.m a.1 g D j.m o0 s0) ?_));rintro z1 A u1 ⟨E,z,S,rfl⟩;have a1:Kp G0 [(Eb b 255 [I a.1.from_,I a.1.to_,I a.1.n])] A:=(Kp.cons (z.on 2 rfl) Kp.nil0);refine ⟨.inr a1,dn ?_⟩;obtain rfl:=si H;have N:=z.sD 3 [];exact n0 (qq A ⟨E,N,S,rfl⟩)
 refine W.skip ?_;obtain rfl:=si H;have P:=p.sD 1 [];exact n0 (qq T ⟨G,P,h.m,rfl⟩)
def jG (sg:Sto) (p0:Option Nat) (p1:Int) (p2:Int) (p3:Int):Option (Sto):=
 (lv sg p0 p1 p2 p3).bind fun a=>
 if a.2=true then
 (gW sg p0 a.1.n).bind fun b=>
 (jF b.1 p0 a.1.from_ (w64 (a.1.to_ - a.1.n))).bind fun d=>
 (app b.2 d).bind fun e=>
 (eq b.1 a.1 p0 e).bind fun c=>
 (bB c p0 (w64 (a.1.to_ - 1))).bind fun f=>
 (eB c f false).bind fun g=>
 some g
 else
 some sg
theorem rN (O0:Own c0 G F) (D:Rel c0 sg G) (f:Option Nat) (k:Int) (l:Int) (o:Int) {r:Sto} (i:Pt 1 c0 v1 f) (H:jG sg f k l o=some r): Calls prog 148 #[v1,I k,I l,I o] c0.w (aO c0 fun c v=>∃G_:Gm,Own c G_ (F)∧Rel c r G_∧v= .tuple #[]):=by
 unfold jG at H;refine en func148 rfl rfl (sr (va (v1) (va (I k) (va (I l) (va (I o) (bn H fun a h3 H=>cl (uP O0 D f k l o i h3) ?_))))));rintro v9 c8 l8 ⟨O5,rfl⟩;refine va (.tuple #[.agg #[I a.1.from_,I a.1.to_,I a.1.n],B a.2]) (va (.agg #[I a.1.from_,I a.1.to_,I a.1.n]) (va (B a.2) (me (al 255 [I 0,I 0,I 0] O5) ?_)));rintro v13 y1 b2 ⟨b,rfl,P⟩;refine md (sA 255 [I a.1.from_,I a.1.to_,I a.1.n] 0 P ⟨rfl,rfl,rfl,trivial⟩) ?_;rintro Z c2 p;refine va (B a.2) (wln (sr (va (B a.2) (wln (cn H (fun j0 H=>?_) (fun j0 H=>?_))))))
 ·refine W.seq (rD [] (Kp G0 [(Eb b 255 [I a.1.from_,I a.1.to_,I a.1.n])]) p ?_);intro a0 d2 q;have e:Kp G0 [(Eb b 255 [I a.1.from_,I a.1.to_,I a.1.n])] a0:=(Kp.cons (q.on 0 rfl) Kp.nil0);refine tkx 0 e (fun j g d=>leN 255 0 [I a.1.from_,I a.1.to_,I a.1.n] (d.on 0 rfl)) (ta 1 (v1) (ta 2 (v1) (ta 3 (Qo b 2) (tkx 4 e (fun j g d=>le1 2 u_3 (d.on 0 rfl)) (ta 6 (v1) (ta 7 (Q b) (tkx 8 e (fun j g d=>le1 0 u_3 (d.on 0 rfl)) (ta 9 (Qo b 1) (tkx 10 e (fun j g d=>le1 1 u_3 (d.on 0 rfl)) (ta 11 (Qo b 2) (tkx 12 e (fun j g d=>le1 2 u_3 (d.on 0 rfl)) (ta 13 (I (w64 (a.1.to_ - a.1.n))) (bn H fun n1 k0 H=>o1 5 (gc 5 (pP q D.m f a.1.n i.m k0) ?_))))))))))))));rintro v21 b0 e2 ⟨_,l2,u1,s,z,x1,rfl,l0⟩;have d1:Kp G0 [(Eb b 255 [I a.1.from_,I a.1.to_,I a.1.n])] b0:=(Kp.cons (s.on 1 rfl) Kp.nil0);refine ⟨.inr d1,bn H fun q1 m0 H=>o1 14 (gc 14 (rM s z f a.1.from_ (w64 (a.1.to_ - a.1.n)) i.m m0) ?_)⟩;rintro v32 d0 f2 ⟨_,m2,t,rfl,o0⟩;have e1:Kp G0 [(Eb b 255 [I a.1.from_,I a.1.to_,I a.1.n])] d0:=(Kp.cons (t.on 2 rfl) Kp.nil0);refine ⟨.inr e1,?_⟩;obtain ⟨e0,s0,b1,u,q0⟩:=t.frz 0 rfl o0;have f1:Kp G0 [(Eb b 255 [I a.1.from_,I a.1.to_,I a.1.n])] e0:=(Kp.cons (u.on 2 rfl) Kp.nil0);refine AC.gh s0 b1 (fun _=>f1) (bn H fun E t0 H=>o1 15 (gm 15 (ap (RP 0) (.pointer none) 8 92 1 u l0.m q0 t0 pX) ?_));rintro v52 f0 g2 ⟨n2,x,u0⟩;have g1:Kp G0 [(Eb b 255 [I a.1.from_,I a.1.to_,I a.1.n])] f0:=(Kp.cons (x.on 2 rfl) Kp.nil0);refine ⟨.inr g1,?_⟩;obtain ⟨g0,w0,c1,y,v0⟩:=x.frz 1 rfl u0;have h1:Kp G0 [(Eb b 255 [I a.1.from_,I a.1.to_,I a.1.n])] g0:=(Kp.cons (y.on 2 rfl) Kp.nil0);refine AC.gh w0 c1 (fun _=>h1) (bn H fun s1 x0 H=>o1 16 (gc 16 (mX y z.m a.1 f E i.m v0 x0) ?_));rintro o2 h0 i2 ⟨w1,h,A,rfl⟩;have i1:Kp G0 [(Eb b 255 [I a.1.from_,I a.1.to_,I a.1.n])] h0:=(Kp.cons (h.on 2 rfl) Kp.nil0);refine ⟨.inr i1,dn (nrm (W.region (va (v1) (va (Qo b 1) (vx (le1 1 u_3 (h.on 2 rfl)) (va (I (w64 (a.1.to_ - 1))) (bn H fun M y0 H=>cl (cL h A f (w64 (a.1.to_ - 1)) i.m y0) ?_)))))))⟩;rintro q2 z1 j2 ⟨_,R,rfl,z0⟩;refine bn H fun t1 a1 H=>cl (ma R A.m M false z0 a1) ?_;rintro s2 i0 k2 ⟨N,S,X,rfl⟩;refine WL.nil ?_;obtain rfl:=si H;have T:=S.sD 3 [];exact n0 (qq i0 ⟨N,T,X,rfl⟩)
 refine W.skip ?_;obtain rfl:=si H;have U:=p.sD 1 [];exact n0 (qq Z ⟨G,U,D.m,rfl⟩)
def io (sg:Sto) (p0:Option Nat):Option (List aq):=
 (bJ sg p0).bind fun c=>
 (cV (σ:=(List aq)×Int) (τ:=(List aq)) ((c - 0).toNat+1) (fun a=>
 if (decide (a.2 < c))=true then
 (p0).bind fun d=>
 (sg.grid_Grid[d]?).bind fun b=>
 (idx b.rows a.2).bind fun e=>
 (idx b.rows a.2).bind fun f=>
 (em sg e).bind fun g=>
 (iL sg f).bind fun h=>
 (app a.1 ([(⟨g,h⟩:aq)]:List aq)).bind fun i=>
 some (.inl (i,(w64 (a.2+1))))
 else
 some (.inr (a.1))) (([]:List aq),0)).bind fun j=>
 some j
theorem tz (O0:Own c0 G F) (z:Rel c0 sg G) (p0:Option Nat) {r:List aq} (h2:Pt 1 c0 v1 p0) (H:io sg p0=some r): Calls prog 52 #[v1] c0.w (aO c0 fun c v=>∃y1 y2,Own c G (es true cU y1 101 y2 r :: F)∧v=y1∧OA cU c y1 y2 r):=by
 unfold io at H;refine en func52 rfl rfl (sr (va (Y) (wln (sr (va (Y) (wln (W.seq (sr (va (v1) (bn H fun g0 h3 H=>cl (bE O0 z p0 h2 h3) ?_))))))))));rintro v9 A l8 ⟨O5,rfl⟩;refine va (I 0) (wln (W.block (bn H fun j3 Z D=>lp Z (fun a=>Jn A fun c l=>∃v12 n,Own c G (es true cU v12 101 n a.1 :: F)∧l= [(0,v1),(3,v12),(6,I g0),(7,I a.2)]∧OA cU c v12 n a.1) (fun y ex e w=>ex= .exit 0∧(Jn A fun c l=>∃v14 o,Own c G (es true cU v14 101 o y :: F)∧l= [(3,v14)]∧OA cU c v14 o y) e w) ?_ ?_ ?_)))
 ·clear D Z;intro a p3 a1 o2 H;revert a1 o2;rintro e_ w_ ⟨s0,c3,_,rfl,l16,rfl,v12,n,E,rfl,a0⟩;refine sr (va (B (decide (a.2 < g0))) (wln (W.seq (cn H (fun c1 H=>?_) (fun c1 H=>?_)))))
  ·refine W.skip (nrm (W.seq (W.block (sr (vv (I a.2) (wln (rD [] (Kp G []) E ?_)))))));intro t0 d0 M;have k:Kp G [] t0:=(Kp.nil M);refine ta 0 (v12) (ta 1 (v1) (bn H fun v2 e1 H=>?_));obtain ⟨d,rfl,d1⟩:=((h2.mono (l8.trans (l16.trans d0)))).get e1;refine ta 2 (Q d) (ta 3 (Q d) (bn H fun z2 f1 H=>?_));obtain ⟨v31,k3,i,b⟩:=Rel.open_grid_Grid (z.mono (l8.trans (l16.trans d0))) f1 d1;refine tkx 4 k (fun t f g=>le1 0 pX (g.gon i 0 rfl)) (ta 5 (I a.2) (bn H fun i0 u H=>tx 6 (fun t f=>ixO pX b u) ?_));obtain ⟨w2,g1,e2⟩:=OA.at b u;obtain ⟨v39,rfl,h1⟩:=g1;refine AC.takeK 7 (v39) k rfl (by kernel_rfl) (by kernel_rfl) (by kernel_rfl) (fun t f g=>(rx (by kernel_rfl) (Aq Ha rfl (g.gon i 1 rfl) (b.blk u) (at1 (j:=0) e2 rfl)))) (ta 9 (Q d) (ta 10 (Q d) (ta 11 (Q d) (tkx 12 k (fun t f g=>le1 0 pX (g.gon i 0 rfl)) (ta 13 (I a.2) (bn H fun j0 x H=>tx 14 (fun t f=>ixO pX b x) ?_))))));obtain ⟨x2,i1,f2⟩:=OA.at b x;obtain ⟨v45,rfl,j1⟩:=i1;refine AC.takeK 15 (v45) k rfl (by kernel_rfl) (by kernel_rfl) (by kernel_rfl) (fun t f g=>(rx (by kernel_rfl) (Aq Ha rfl (g.gon i 1 rfl) (b.blk x) (at1 (j:=0) f2 rfl)))) (bn H fun k0 k1 H=>o1 8 (gc 8 (kW M z.m i0 h1 k1) ?_));rintro v48 u0 e3 ⟨_,l3,N,rfl,b0⟩;have g2:Kp G [] u0:=(Kp.nil N);refine ⟨.inr g2,bn H fun h m1 H=>o1 16 (gc 16 (wS N z.m j0 j1.m m1) ?_)⟩;rintro n3 v0 e0 ⟨P,rfl⟩;have i2:Kp G [] v0:=(Kp.nil P);refine ⟨.inr i2,?_⟩;obtain ⟨p,q,s,rfl⟩:=((b0.mono e0)).form;refine ta 17 (.agg #[.slice p q s,B h]) ?_;obtain ⟨w0,p1,b2,R,n1⟩:=P.frz 0 rfl (b0.mono e0);have j2:Kp G [] w0:=(Kp.nil R);refine AC.gh p1 b2 (fun _=>j2) (o1 18 (gm 18 (sl cU 101 [[.slice p q s,B h]] ([(⟨k0,h⟩:aq)]:List aq) R ⟨⟨(.slice p q s),rfl,n1⟩,trivial⟩) ?_));rintro o3 x0 f3 ⟨m3,S,q1⟩;have k2:Kp G [] x0:=(Kp.nil S);refine ⟨.inr k2,?_⟩;obtain ⟨y0,t1,d2,T,s1⟩:=S.frz 0 rfl q1;have l2:Kp G [] y0:=(Kp.nil T);refine AC.gh t1 d2 (fun _=>l2) (bn H fun b3 u1 H=>o1 19 (gm 19 (ap cU (.agg #[Y,B false]) 32 72 2 T a0.m s1 u1 qc) ?_));rintro f0 X g3 ⟨n2,U,w1⟩;have m2:Kp G [] X:=(Kp.nil U);refine ⟨.inr m2,ta 20 (f0) (dn (bkn (nrm (W.region (vv (I (w64 (a.2+1))) (WL.nil ?_))))))⟩;obtain rfl:=si H;refine ⟨_,rfl,?_⟩;have m0:=U.sD 3 [2];exact jn X ⟨f0,n2,m0,rfl,w1⟩
  refine W.exit (thx ?_);obtain rfl:=si H;exact ⟨_,rfl,rfl,jn s0 ⟨v12,n,E,rfl,a0⟩⟩
 ·have x1:OA cU A (Y) [] []:=OA.nil (aI _);have o0:=O5.addHole (e:=es true cU (Y) 101 [] ([]:List aq)) rfl;exact jn A ⟨(Y),[],o0,rfl,x1⟩
 rintro _ e_ w_ ⟨rfl,z0,d3,_,rfl,i3,rfl,v14,o,q0,rfl,z1⟩;refine bke (nrm (sr (vv (v14) (wln (W.ret ?_)))));obtain rfl:=si D;exact r1 (qq z0 ⟨v14,o,q0,rfl,z1⟩)
def gw (p0:List Int):Option (List Int):=
 (rep 0 0).bind fun g=>
 (rep (p0.length:Int) 0).bind fun h=>
 (cV (σ:=(List Int)×Int) (τ:=(List Int)) (((p0.length:Int) - 0).toNat+1) (fun a=>
 if (decide (a.2 < (p0.length:Int)))=true then
 (idx p0 a.2).bind fun b=>
 ((dE b).bind fun d=>
 if (!d)=true then
 some (65533)
 else
 some (b)).bind fun f=>
 (app a.1 ([f]:List Int)).bind fun e=>
 some (.inl (e,(w64 (a.2+1))))
 else
 some (.inr (a.1))) (g,0)).bind fun c=>
 some c
theorem pg (O0:Own c0 G F) (n:List Int) {r:List Int} (p:Sl (RI .i32) c0 v1 n) (H:gw n=some r): Calls prog 59 #[v1] c0.w (aO c0 fun c v=>∃P y2,Own c G (es true (RI .i32) P 21 y2 r :: F)∧v=P∧OA (RI .i32) c P y2 r):=by
 unfold gw at H;refine en func59 rfl rfl (sr (va (Y) (wln (sr (va (v1) (vx (ln 3 dS p) (bn H fun b2 h3 H=>bn H fun d2 h4 H=>me (Own.mkS (kl:= .i64) (kc:= .i64) (R:=(RI .i32)) (z:=J 0) (lz:=[J 0]) (x:=0) (by_:=4) (i:=0) (j:=(n.length:Int)) true O0 (aI _) h3 (Jf h4) (BH h4) dS (by kernel_rfl) rfl rfl (fun _=>rfl) (by kernel_rfl) (by kernel_rfl)) ?_)))))));rintro v9 M l8 ⟨u6,O5,h7⟩;refine va (v9) (wln (W.seq (sr (va (v1) (vx (ln 3 dS p.m) (va (I 0) (wln (W.block (bn H fun f1 A q=>lp A (fun a=>Jn M fun c l=>∃v12 f,Own c G (es true (RI .i32) v12 21 f a.1 :: F)∧l= [(3,v12),(9,v1),(10,I (n.length:Int)),(11,I a.2)]∧OA (RI .i32) c v12 f a.1) (fun h ex e w=>ex= .exit 0∧(Jn M fun c l=>∃v14 k,Own c G (es true (RI .i32) v14 21 k h :: F)∧l= [(3,v14)]∧OA (RI .i32) c v14 k h) e w) ?_ ?_ ?_)))))))))
 ·clear q A;intro a c2 f0 x0 H;revert f0 x0;rintro e_ w_ ⟨u,m1,_,rfl,l16,rfl,v12,f,s,rfl,D⟩;refine sr (va (B (decide (a.2 < (n.length:Int)))) (wln (W.seq (cn H (fun g0 H=>?_) (fun g0 H=>?_)))))
  ·refine W.skip (nrm (W.seq (W.block (sr (bn H fun g E H=>?_)))));obtain ⟨e1,h0,u0⟩:=Sl.at (p.mono (l8.trans l16)) (bW E);obtain rfl:=h0;refine vx (ix dS p.m E) (vx (l1 rh (u0 0 _ rfl)) (va (J g) (wln (bn H fun d b o=>W.seqJ (Jn u fun c l=>Own c G (es true (RI .i32) v12 21 f a.1 :: F)∧l= [(3,v12),(5,J d),(9,v1),(10,I (n.length:Int)),(11,I a.2)]) ?_ ?_))))
   ·refine sr (va (J g) (bn b fun N i0 b=>cl (km s g i0) ?_));rintro v36 y q1 ⟨t,rfl⟩;refine va (B (!N)) (wln (cn b (fun j0 b=>?_) (fun j0 b=>?_)))
    ·refine W.region (va (J 65533) (wln ?_));obtain rfl:=si b;exact jn y ⟨t,rfl⟩
    refine W.skip (nrm ?_);obtain rfl:=si b;exact jn y ⟨t,rfl⟩
   rintro e_ w_ ⟨i1,n1,_,rfl,s1,rfl,S,rfl⟩;refine W.region (va (v12) (va (J d) (me (sl (RI .i32) 21 [[J d]] ([d]:List Int) S ⟨rfl,trivial⟩) ?_)));rintro v48 j1 t1 ⟨z1,T,l0⟩;obtain ⟨k1,o0,u1,U,m0⟩:=T.frz 0 rfl l0;refine WL.gh o0 (bn o fun h1 q0 o=>me (ap (RI .i32) (J 0) 4 102 1 U D.m m0 q0 dS) ?_);rintro v58 b0 w1 ⟨v0,X,s0⟩;refine va (v58) (WL.nil (bkn (nrm (W.region (vv (I (w64 (a.2+1))) (WL.nil ?_))))));obtain rfl:=si o;refine ⟨_,rfl,?_⟩;have Z:=X.sD 2 [1];exact jn b0 ⟨v58,v0,Z,rfl,s0⟩
  refine W.exit (thx ?_);obtain rfl:=si H;exact ⟨_,rfl,rfl,jn u ⟨v12,f,s,rfl,D⟩⟩
 ·exact jn M ⟨v9,u6,O5,rfl,h7⟩
 rintro _ e_ w_ ⟨rfl,d0,p1,_,rfl,x1,rfl,v14,k,a0,rfl,t0⟩;refine bke (nrm (sr (vv (v14) (wln (W.ret ?_)))));obtain rfl:=si q;exact r1 (qq d0 ⟨v14,k,a0,rfl,t0⟩)
def pa (p0:Int) (p1:List Int):Option (List aa):=
 (if (decide (p0≥2))=true then
 (app ([(⟨0,([]:List Int)⟩:aa)]:List aa) ([(⟨0,([]:List Int)⟩:aa)]:List aa)).bind fun e=>
 some (e)
 else
 some (([(⟨0,([]:List Int)⟩:aa)]:List aa))).bind fun c=>
 if ((p1.length:Int)==0)=true then
 some c
 else
 (slc p1 0 (aM (p1.length:Int) 16)).bind fun f=>
 (gw f).bind fun g=>
 (idx c 0).bind fun k=>
 (mj c 0 (⟨1,g⟩:aa)).bind fun a=>
 (if (decide (p0≥2))=true then
 (idx a 0).bind fun h=>
 (mj a 0 (⟨2,h.Text⟩:aa)).bind fun b=>
 (idx b 1).bind fun i=>
 (mj b 1 (⟨3,i.Text⟩:aa)).bind fun d=>
 some (d)
 else
 some (a)).bind fun j=>
 some j
theorem Eg (O0:Own c0 G F) (i:Int) (A:List Int) {r:List aa} (h2:Sl (RI .i32) c0 v1 A) (H:pa i A=some r): Calls prog 268 #[I i,v1] c0.w (aO c0 fun c v=>∃y1 y2,Own c G (es true ax y1 104 y2 r :: F)∧v=y1∧OA ax c y1 y2 r):=by
 unfold pa at H;refine en func268 rfl rfl (sr (va (Y) (wln (sr (va (.agg #[I 0,Y]) (me (sl ax 104 [[I 0,Y]] ([(⟨0,([]:List Int)⟩:aa)]:List aa) O0 ⟨⟨(Y),rfl,(Sl.nl _ _)⟩,trivial⟩) ?_))))));rintro v7 c6 l6 ⟨u4,O3,h5⟩;refine va (v7) (wln (bn H fun a0 h b=>W.seqJ (Jn c6 fun c l=>∃v10 n,Own c G (es true ax v10 104 n a0 :: F)∧l= [(0,I i),(1,v1),(5,v10)]∧OA ax c v10 n a0) ?_ ?_))
 ·refine sr (va (I i) (va (B (decide (i≥2))) (wln (cn h (fun b1 h=>?_) (fun b1 h=>?_)))))
  ·refine W.region (va (v7) (va (.agg #[I 0,Y]) (me (sl ax 104 [[I 0,Y]] ([(⟨0,([]:List Int)⟩:aa)]:List aa) O3 ⟨⟨(Y),rfl,(Sl.nl _ _)⟩,trivial⟩) ?_)));rintro v17 d3 l16 ⟨t3,h0,c1⟩;obtain ⟨e3,e1,k3,i0,d1⟩:=h0.frz 0 rfl c1;refine WL.gh e1 (bn h fun b3 f1 h=>me (ap ax (.agg #[I 0,Y]) 32 99 1 i0 h5.m d1 f1 dN) ?_);rintro v27 w0 l3 ⟨k2,j0,g1⟩;refine va (v27) (wln ?_);obtain rfl:=si h;have k0:=j0.sD 2 [1];exact jn w0 ⟨v27,k2,k0,rfl,g1⟩
  refine W.skip (nrm ?_);obtain rfl:=si h;exact jn c6 ⟨v7,u4,O3,rfl,h5⟩
 rintro e_ w_ ⟨x0,i3,_,rfl,g2,rfl,v10,n,D,rfl,p⟩;refine W.seq (sr (va (v1) (vx (ln 3 dS h2.m) (va (B ((A.length:Int)==0)) (wln (cn b (fun h1 b=>?_) (fun h1 b=>?_)))))))
 ·refine sr (vv (v10) (wln (W.ret (thr ?_))));obtain rfl:=si b;exact r1 (qq x0 ⟨v10,n,D,rfl,p⟩)
 refine W.skip (nrm (sr (va (v10) (vv (v1) (vx (ln 3 dS h2.m) (va (I (aM (A.length:Int) 16)) (bn b fun e0 i1 b=>?_)))))));obtain ⟨v38,j1,k1⟩:=qm (k':= .i64) dS (by kernel_rfl) (h2.mono (l6.trans g2)) i1;refine vr v38 (rx (by kernel_rfl) (j1 _)) (bn b fun s m1 b=>cl (pg D e0 k1 m1) ?_);rintro v42 f3 m3 ⟨_,l2,m0,rfl,N⟩;obtain ⟨e,f,g,rfl⟩:=(N).form;refine va (.agg #[I 1,.slice e f g]) (bn b fun c3 q1 b=>vx (ixO dN p.m q1) ?_);obtain ⟨g3,s1,n3,o0,P⟩:=m0.frz 0 rfl N;refine WL.gh s1 (bn b fun x2 t1 b=>md (Own.stW (R:=ax) (T:=104) (us:=[I 1,.slice e f g]) (x':=(⟨1,s⟩:aa)) (u:= .agg #[I 1,.slice e f g]) 1 o0 (by kernel_rfl) rfl p.m t1 rfl (by kernel_rfl) ⟨rfl,P.one,trivial⟩ rfl ⟨(.slice e f g),rfl,P⟩) ?_);rintro M o3 ⟨m2,E,k⟩;refine wln (bn b fun z a g0=>W.seqJ (Jn M fun c l=>∃d o,Own c G (es true ax d 104 o z :: es false (RI .i32) (.slice e f g) 21 l2 s :: F)∧l= [(5,d)]∧OA ax c d o z) ?_ ?_)
 ·refine sr (va (I i) (va (B (decide (i≥2))) (wln (cn a (fun u1 a=>?_) (fun u1 a=>?_)))))
  ·refine W.region (vv (v10) (bn a fun t S a=>vx (ixO dN k S) (va (Qo (sb v10) ((0:Int).toNat * 2)) ?_)));obtain ⟨t2,w1,i2⟩:=OA.at k S;obtain ⟨X,rfl,x1⟩:=w1;refine bn a fun z2 z1 a=>md (Own.stO (R:=ax) (T:=3) (us:=[I 2]) (x':=(⟨2,t.Text⟩:aa)) (u:=I 2) (x:=(⟨2,t.Text⟩:aa)) (j:=0) (l':=[I 2,X]) 1 E (by kernel_rfl) rfl k z1 i2 rfl (by kernel_rfl) ⟨rfl,trivial⟩ (by kernel_rfl) rfl ⟨X,rfl,x1⟩) ?_;rintro h3 p3 ⟨u3,q0,q⟩;refine bn a fun y U a=>vx (ixO dN q U) (va (Qo (sb v10) ((1:Int).toNat * 2)) ?_);obtain ⟨u2,b2,j2⟩:=OA.at q U;obtain ⟨Z,rfl,c2⟩:=b2;refine bn a fun a3 d2 a=>md (Own.stO (R:=ax) (T:=3) (us:=[I 3]) (x':=(⟨3,y.Text⟩:aa)) (u:=I 3) (x:=(⟨3,y.Text⟩:aa)) (j:=0) (l':=[I 3,Z]) 1 q0 (by kernel_rfl) rfl q d2 j2 rfl (by kernel_rfl) ⟨rfl,trivial⟩ (by kernel_rfl) rfl ⟨Z,rfl,c2⟩) ?_;rintro z0 q3 ⟨n2,s0,e2⟩;refine wln ?_;obtain rfl:=si a;have t0:=s0.sD 2 [1,0];exact jn z0 ⟨v10,n2,t0,rfl,e2⟩
  refine W.skip (nrm ?_);obtain rfl:=si a;have u0:=E.sD 2 [1,0];exact jn M ⟨v10,m2,u0,rfl,k⟩
 rintro e_ w_ ⟨a1,j3,_,rfl,s3,rfl,d,o,v0,rfl,f2⟩;refine sr (vv (d) (wln (W.ret ?_)));obtain rfl:=si g0;have b0:=v0.sD 2 [0];exact r1 (qq a1 ⟨d,o,b0,rfl,f2⟩)
def lc (sg:Sto) (p0:Option Nat) (p1:Int) (p2:Int) (p3:List Int):Option (Sto×Er):=
 (pa p2 p3).bind fun b=>
 (dH sg p0 p1 b).bind fun a=>
 some (a.1,a.2)
theorem wU (u:Own c0 G F) (x:Rel c0 sg G) (hG:Gl [3,5] c0) (d:Option Nat) (a:Int) (b:Int) (e:List Int) {r:Sto×Er} (y:Pt 0 c0 v1 d) (z:Sl (RI .i32) c0 v3 e) (H:lc sg d a b e=some r): Calls prog 252 #[v1,I a,I b,v3] c0.w (aO c0 fun c v=>∃t,∃G_:Gm,Own c G_ (F)∧Rel c r.1 G_∧v=t∧RE 318 126 c t r.2):=by
 unfold lc at H;refine en func252 rfl rfl (sr (va (.nilIface) (wln (sr (va (v1) (va (I a) (va (I b) (va (v3) (bn H fun s A H=>cl (Eg u b e z A) ?_)))))))));rintro v6 E N ⟨_,T,g,rfl,D⟩;obtain ⟨M,o,P,h,n⟩:=g.frz 0 rfl D;refine WL.gh o (bn H fun S p H=>cl (jA h x.m (hG.m.le (by decide)) d a s y.m n p) ?_);rintro v20 l R ⟨_,f,i,k,rfl,q⟩;refine va (v20) (wln (W.ret ?_));obtain rfl:=si H;have j:=i.sD 1 [];exact r1 (qq l ⟨v20,f,j,k,rfl,q⟩)
def oV (sg:Sto) (p0:Option Nat) (p1:Int):Option (Int×nQ×Bool):=
 (fN sg p0 p1).bind fun b=>
 ((bX b.2 (some (b.1.Kind==3))).bind fun d=>
 if d=true then
 (fN sg p0 (w64 (p1 - 1))).bind fun c=>
 some ((w64 (p1 - 1)),c.2,c.1.Kind,c.1.Text)
 else
 some (p1,b.2,b.1.Kind,b.1.Text)).bind fun a=>
 (bX a.2.1 (some (a.2.2.1==1))).bind fun e=>
 if e=true then
 some (a.1,(⟨1,a.2.2.2⟩:nQ),true)
 else
 (bX a.2.1 (some (a.2.2.1==2))).bind fun f=>
 if f=true then
 some (a.1,(⟨2,a.2.2.2⟩:nQ),true)
 else
 some (0,(⟨0,([]:List Int)⟩:nQ),false)
theorem D9 (O0:Own c0 G F) (R0:Rel c0 sg G) (p0:Option Nat) (j:Int) {r:Int×nQ×Bool} (h2:Pt 0 c0 v1 p0) (H:oV sg p0 j=some r): Calls prog 254 #[v1,I j] c0.w (aO c0 fun c v=>∃y1 y2,Own c G (es true (RI .i32) y1 21 y2 r.2.1.Text :: F)∧v= .tuple #[I r.1,.agg #[I r.2.1.Wide,y1],B r.2.2]∧OA (RI .i32) c y1 y2 r.2.1.Text):=by
 unfold oV at H;refine en func254 rfl rfl (sr (va (I 0) (me (al 313 [I 0,Y] O0) ?_)));rintro v6 c5 l5 ⟨u,rfl,O4⟩;refine va (B false) (wln (sr (va (v1) (va (I j) (bn H fun f h7 H=>cl (qJ O4 R0.m p0 j h2.m h7) ?_)))));rintro v16 d3 l3 ⟨v8,u9,k1,rfl,e0⟩;refine va (.tuple #[.agg #[I f.1.Kind,v8],B f.2]) (va (.agg #[I f.1.Kind,v8]) (va (B f.2) (me (al 104 [I 0,Y] k1) ?_)));rintro v20 e3 k2 ⟨b,rfl,m1⟩;obtain ⟨N,P,R,rfl⟩:=((e0.mono k2)).form;refine md (sA 104 [I f.1.Kind,.slice N P R] 0 m1 ⟨rfl,e0.m.one,trivial⟩) ?_;rintro S m3 U;refine va (B f.2) (wln (bn H fun a g d=>W.seqJ (Jn S fun c l=>∃v28 i,Own c G (es true (RI .i32) v28 21 i a.2.2.2 :: (Eb b 104 [I a.2.2.1,v28]) :: (Eb u 313 [I 0,Y]) :: F)∧l= [(1,I a.1),(5,Q u),(6,B a.2.1),(7,Q b)]∧OA (RI .i32) c v28 i a.2.2.2) ?_ ?_))
 ·refine W.seq (bn g fun y0 q0 g=>W.join (Jn S fun c l=>Own c G ((Eb b 104 [I f.1.Kind,.slice N P R]) :: es true (RI .i32) (.slice N P R) 21 u9 f.1.Text :: (Eb u 313 [I 0,Y]) :: F)∧l= [(0,v1),(1,I j),(5,Q u),(6,B f.2),(7,Q b),(19,B y0)]) ?_ ?_)
  ·clear g;refine W.region (va (B f.2) ?_);rcases bo (f.2) with x | x
   ·have h1:=anT x q0;refine vb x (wa (Q b) (wn (vx (le1 0 u_3 (U.on 0 rfl)) (wa (B (f.1.Kind==3)) ?_))));obtain rfl:=si h1;exact va (B (f.1.Kind==3)) (wln (jn S ⟨U,rfl⟩))
   obtain rfl:=anF x q0;exact vb x (pz (ps (va (B false) (wln (jn S ⟨U,rfl⟩)))))
  rintro e_ w_ ⟨x1,h3,_,rfl,n3,rfl,h0,rfl⟩;refine nrm (cn g (fun e2 g=>?_) (fun e2 g=>?_))
  ·refine sr (va (I j) (vv (I (w64 (j - 1))) (wln (W.region (va (v1) (va (I (w64 (j - 1))) (bn g fun h f2 g=>cl (qJ h0 R0.m p0 (w64 (j - 1)) h2.m f2) ?_)))))));rintro v49 f3 o3 ⟨v41,s2,n1,rfl,f0⟩;refine va (.tuple #[.agg #[I h.1.Kind,v41],B h.2]) (va (.agg #[I h.1.Kind,v41]) (va (B h.2) ?_));obtain ⟨l0,m0,o0,rfl⟩:=(f0).form;refine md (sA 104 [I h.1.Kind,.slice l0 m0 o0] 1 n1 ⟨rfl,(f0).one,trivial⟩) ?_;rintro z1 p3 q1;refine va (B h.2) (wln ?_);obtain rfl:=si g;have s1:=q1.sD 4 [0,1,3];exact jn z1 ⟨(.slice l0 m0 o0),s2,s1,rfl,f0.m⟩
  refine W.skip (nrm ?_);obtain rfl:=si g;have t1:=h0.sD 3 [1,0,2];exact jn x1 ⟨(.slice N P R),u9,t1,rfl,e0.m⟩
 rintro e_ w_ ⟨a0,i3,_,rfl,q3,rfl,v28,i,X,rfl,k⟩;refine W.seq (W.block (W.seq (bn d fun z0 s0 d=>W.join (Jn a0 fun c l=>Own c G (es true (RI .i32) v28 21 i a.2.2.2 :: (Eb b 104 [I a.2.2.1,v28]) :: (Eb u 313 [I 0,Y]) :: F)∧l= [(1,I a.1),(5,Q u),(6,B a.2.1),(7,Q b),(28,B z0)]) ?_ ?_)))
 ·clear d;refine W.region (va (B a.2.1) ?_);rcases bo (a.2.1) with y | y
  ·have i1:=anT y s0;refine vb y (wa (Q b) (wn (vx (le1 0 u_3 (X.on 1 rfl)) (wa (B (a.2.2.1==1)) ?_))));obtain rfl:=si i1;exact vv (B (a.2.2.1==1)) (wln (jn a0 ⟨X,rfl⟩))
  obtain rfl:=anF y s0;exact vb y (pz (ps (vv (B false) (wln (jn a0 ⟨X,rfl⟩)))))
 rintro e_ w_ ⟨b0,j3,_,rfl,u0,rfl,M,rfl⟩;refine nrm (cn d (fun g2 d=>?_) (fun g2 d=>?_))
 ·refine W.seq (rD [] (Kp G0 [(Eb b 104 [I a.2.2.1,v28])]) M ?_);intro b2 l2 i0;have o2:Kp G0 [(Eb b 104 [I a.2.2.1,v28])] b2:=(Kp.cons (i0.on 1 rfl) Kp.nil0);refine ta 0 (I a.1) (ta 1 (Qo b 1) (tkx 2 o2 (fun c' j2 hk=>le1 1 dS (hk.on 0 rfl)) ?_));obtain ⟨n,o,p,rfl⟩:=((k.mono (u0.trans l2))).form;refine ta 3 (.agg #[I 1,.slice n o p]) (ta 4 (I a.1) (o1 5 (gD 5 (sA 313 [I 1,.slice n o p] 2 i0 ⟨rfl,k.m.one,trivial⟩) ?_)));rintro d0 s3 Z;have p2:Kp G0 [(Eb b 104 [I a.2.2.1,(.slice n o p)])] d0:=(Kp.cons (Z.on 1 rfl) Kp.nil0);refine ⟨.inr p2,ta 6 (B true) (dn (nrm (W.ret (bkr (thr ?_)))))⟩;obtain rfl:=si d;have u1:=Z.sD 3 [0];exact BF (c:=d0) (vs:=[I 1,.slice n o p]) (v:=B true) (v':=I a.1) rfl (by kernel_rfl) (by kernel_rfl) (by kernel_rfl) (by kernel_rfl) (by kernel_rfl) (Z.on 2 rfl _ rfl).1 ⟨_,d0,rfl,rfl,pt,(.slice n o p),i,u1,rfl,k.m⟩
 refine W.seq (bn d fun a1 t0 d=>W.join (Jn b0 fun c l=>Own c G (es true (RI .i32) v28 21 i a.2.2.2 :: (Eb b 104 [I a.2.2.1,v28]) :: (Eb u 313 [I 0,Y]) :: F)∧l= [(1,I a.1),(5,Q u),(7,Q b),(39,B a1)]) ?_ ?_)
 ·clear d;refine W.region (va (B a.2.1) ?_);rcases bo (a.2.1) with z | z
  ·have j1:=anT z t0;refine vb z (wa (Q b) (wn (vx (le1 0 u_3 (M.on 1 rfl)) (wa (B (a.2.2.1==2)) ?_))));obtain rfl:=si j1;exact vv (B (a.2.2.1==2)) (wln (jn b0 ⟨M,rfl⟩))
  obtain rfl:=anF z t0;exact vb z (pz (ps (vv (B false) (wln (jn b0 ⟨M,rfl⟩)))))
 rintro e_ w_ ⟨g3,k3,_,rfl,m2,rfl,j0,rfl⟩;refine nrm (cn d (fun i2 d=>?_) (fun i2 d=>?_))
 ·refine W.seq (rD [] (Kp G0 [(Eb b 104 [I a.2.2.1,v28])]) j0 ?_);intro c2 n2 k0;have q2:Kp G0 [(Eb b 104 [I a.2.2.1,v28])] c2:=(Kp.cons (k0.on 1 rfl) Kp.nil0);refine ta 0 (I a.1) (ta 1 (Qo b 1) (tkx 2 q2 (fun c' j2 hk=>le1 1 dS (hk.on 0 rfl)) ?_));obtain ⟨q,s,t,rfl⟩:=((k.mono (u0.trans (m2.trans n2)))).form;refine ta 3 (.agg #[I 2,.slice q s t]) (ta 4 (I a.1) (o1 5 (gD 5 (sA 313 [I 2,.slice q s t] 2 k0 ⟨rfl,k.m.one,trivial⟩) ?_)));rintro D a3 A;have e1:Kp G0 [(Eb b 104 [I a.2.2.1,(.slice q s t)])] D:=(Kp.cons (A.on 1 rfl) Kp.nil0);refine ⟨.inr e1,ta 6 (B true) (dn (nrm (W.ret (bkr (thr ?_)))))⟩;obtain rfl:=si d;have v0:=A.sD 3 [0];exact BF (c:=D) (vs:=[I 2,.slice q s t]) (v:=B true) (v':=I a.1) rfl (by kernel_rfl) (by kernel_rfl) (by kernel_rfl) (by kernel_rfl) (by kernel_rfl) (A.on 2 rfl _ rfl).1 ⟨_,D,rfl,rfl,pt,(.slice q s t),i,v0,rfl,k.m⟩
 refine W.skip (bkn (nrm (sr (va (.agg #[I 0,Y]) (va (I 0) (md (sA 313 [I 0,Y] 2 j0 ⟨rfl,rfl,trivial⟩) ?_))))));rintro E c3 w0;refine va (B false) (wln (W.ret ?_));obtain rfl:=si d;have c1:OA (RI .i32) E (Y) [] []:=OA.nil (aI _);have T:=w0.addHole (e:=es true (RI .i32) (Y) 21 [] ([]:List Int)) rfl;have x0:=T.sD 4 [0];exact BF (c:=E) (vs:=[I 0,Y]) (v:=B false) (v':=I 0) rfl (by kernel_rfl) (by kernel_rfl) (by kernel_rfl) (by kernel_rfl) (by kernel_rfl) (T.on 3 rfl _ rfl).1 ⟨_,E,rfl,rfl,pt,(Y),[],x0,rfl,c1⟩
def nC (sg:Sto) (p0:Option Nat) (p1:Int) (p2:Int):Option (Sto×Bool):=
 (oV sg p0 p1).bind fun a=>
 (orE (!a.2.2) (some (decide ((a.2.1.Text.length:Int)≥16)))).bind fun c=>
 if c=true then
 some (sg,false)
 else
 (app a.2.1.Text ([p2]:List Int)).bind fun d=>
 (lc sg p0 a.1 a.2.1.Wide d).bind fun b=>
 some (b.1,b.2.isNil)
theorem B2 (O0:Own c0 G F) (R:Rel c0 sg G) (hG:Gl [3,5] c0) (q:Option Nat) (s:Int) (h:Int) {r:Sto×Bool} (h2:Pt 0 c0 v1 q) (H:nC sg q s h=some r): Calls prog 226 #[v1,I s,J h] c0.w (aO c0 fun c v=>∃G_:Gm,Own c G_ (F)∧Rel c r.1 G_∧v=B r.2):=by
 unfold nC at H;refine en func226 rfl rfl (sr (va (B false) (wln (sr (va (v1) (va (I s) (bn H fun a h3 H=>cl (D9 O0 R q s h2 h3) ?_)))))));rintro v12 q1 u1 ⟨v4,u5,O8,rfl,p⟩;refine va (.tuple #[I a.1,.agg #[I a.2.1.Wide,v4],B a.2.2]) (va (I a.1) (va (.agg #[I a.2.1.Wide,v4]) (va (B a.2.2) (me (al 313 [I 0,Y] O8) ?_))));rintro v16 s1 a1 ⟨b,rfl,a0⟩;refine va (I a.1) ?_;obtain ⟨d,e,f,rfl⟩:=((p.mono a1)).form;refine md (sA 313 [I a.2.1.Wide,.slice d e f] 0 a0 ⟨rfl,p.m.one,trivial⟩) ?_;rintro j w1 i;refine va (B a.2.2) (wln (W.seq (W.seq (bn H fun S M H=>W.join (Jn j fun c l=>Own c G ((Eb b 313 [I a.2.1.Wide,.slice d e f]) :: es true (RI .i32) (.slice d e f) 21 u5 a.2.1.Text :: F)∧l= [(0,v1),(2,J h),(7,I a.1),(8,Q b),(24,B S)]) ?_ ?_))))
 ·clear H;refine W.region (va (B a.2.2) (va (B (!a.2.2)) ?_));rcases bo (!a.2.2) with g | g
  ·obtain rfl:=orT g M;exact vb g (pz (pz (va (B true) (wln (jn j ⟨i,rfl⟩)))))
  have Z:=orF g M;refine vb g (wa (Qo b 1) (wn (vx (le1 1 dS (i.on 0 rfl)) (wn (vx (lnO 3 dS p.m) (wa (B (decide ((a.2.1.Text.length:Int)≥16))) ?_))))));obtain rfl:=si Z;exact va (B (decide ((a.2.1.Text.length:Int)≥16))) (wln (jn j ⟨i,rfl⟩))
 rintro e_ w_ ⟨g0,t1,_,rfl,x1,rfl,t,rfl⟩;refine nrm (cn H (fun o0 H=>?_) (fun o0 H=>?_))
 ·refine sr (va (B false) (wln (W.ret (thr ?_))));obtain rfl:=si H;have b0:=t.sD 2 [];exact r1 (qq g0 ⟨G,b0,R.m,rfl⟩)
 refine W.skip (nrm (W.seq (rD [] (Kp G0 [(Eb b 313 [I a.2.1.Wide,.slice d e f])]) t ?_)));intro h0 y1 u;have P:Kp G0 [(Eb b 313 [I a.2.1.Wide,.slice d e f])] h0:=(Kp.cons (u.on 0 rfl) Kp.nil0);refine ta 0 (v1) (ta 1 (I a.1) (ta 2 (Q b) (tkx 3 P (fun c' N T=>le1 0 u_3 (T.on 0 rfl)) (ta 4 (Qo b 1) (tkx 5 P (fun c' N T=>le1 1 dS (T.on 0 rfl)) (ta 6 (J h) (o1 7 (gm 7 (sl (RI .i32) 21 [[J h]] ([h]:List Int) u ⟨rfl,trivial⟩) ?_))))))));rintro v40 i0 z1 ⟨d2,x,q0⟩;have d1:Kp G0 [(Eb b 313 [I a.2.1.Wide,.slice d e f])] i0:=(Kp.cons (x.on 1 rfl) Kp.nil0);refine ⟨.inr d1,?_⟩;obtain ⟨j0,t0,b1,y,s0⟩:=x.frz 0 rfl q0;have e1:Kp G0 [(Eb b 313 [I a.2.1.Wide,.slice d e f])] j0:=(Kp.cons (y.on 1 rfl) Kp.nil0);refine AC.gh t0 b1 (fun _=>e1) (bn H fun U u0 H=>o1 8 (gm 8 (ap (RI .i32) (J 0) 4 102 2 y p.m s0 u0 dS) ?_));rintro v52 k0 b2 ⟨e2,z,v0⟩;have f1:Kp G0 [(Eb b 313 [I a.2.1.Wide,.slice d e f])] k0:=(Kp.cons (z.on 1 rfl) Kp.nil0);refine ⟨.inr f1,?_⟩;obtain ⟨l0,x0,c1,A,w0⟩:=z.frz 2 rfl v0;have g1:Kp G0 [(Eb b 313 [I a.2.1.Wide,.slice d e f])] l0:=(Kp.cons (A.on 1 rfl) Kp.nil0);refine AC.gh x0 c1 (fun _=>g1) (bn H fun o y0 H=>o1 9 (gc 9 (wU A R.m (hG.m.le (by decide)) q a.1 a.2.1.Wide U h2.m w0 y0) ?_));rintro v60 E c2 ⟨_,X,D,e0,rfl,z0⟩;have h1:Kp G0 [(Eb b 313 [I a.2.1.Wide,.slice d e f])] E:=(Kp.cons (D.on 1 rfl) Kp.nil0);refine ⟨.inr h1,AC.take 10 (B o.2.isNil) rfl (by kernel_rfl) (by kernel_rfl) (fun c' N=>(by rcases (z0).cs with ⟨k,n⟩ | ⟨b_,k,n⟩ | ⟨b_,k,n⟩ <;> (subst k; rw [n]; kernel_rfl))) (ta 11 (B o.2.isNil) (dn (nrm (W.ret ?_))))⟩;obtain rfl:=si H;have d0:=D.sD 3 [];exact r1 (qq E ⟨X,d0,e0,rfl⟩)
def mx (sg:Sto) (p0:Int) (p1:Int):Option (Sto×(Option Nat)):=
 (some (sg.add_grid_Grid (⟨([]:List (Option Nat))⟩:cj))).bind fun c=>
 (cV (σ:=Int×Sto) (τ:=Sto) (((aS 1 (aM p1 1024)) - 0).toNat+1) (fun a=>
 if (decide (a.1 < (aS 1 (aM p1 1024))))=true then
 (a.2.grid_Grid[sg.grid_Grid.length]?).bind fun f=>
 (kx a.2 p0).bind fun d=>
 (app f.rows ([d.2]:List (Option Nat))).bind fun g=>
 (d.1.set_grid_Grid sg.grid_Grid.length (⟨g⟩:cj)).bind fun b=>
 some (.inl ((w64 (a.1+1)),b))
 else
 some (.inr (a.2))) (0,c)).bind fun e=>
 some (e,(some sg.grid_Grid.length))
theorem wW (O0:Own c0 G F) (R0:Rel c0 sg G) (y:Int) (n:Int) {r:Sto×(Option Nat)} (H:mx sg y n=some r): Calls prog 23 #[I y,I n] c0.w (aO c0 fun c v=>∃y1,∃G_:Gm,Own c G_ (F)∧Rel c r.1 G_∧dY G G_∧v=y1∧Pt 1 c y1 r.2):=by
 unfold mx at H;refine en func23 rfl rfl (sr (va (.pointer none) (wln (sr (va (.agg #[Y]) ?_)))));have h2:OA (RP 0) c0 (Y) [] []:=OA.nil (aI _);have O1:=O0.addHole (e:=es true (RP 0) (Y) 95 [] ([]:List (Option Nat))) rfl;refine me (al 94 [(Y)] O1) ?_;rintro v6 c5 l5 ⟨a,rfl,O4⟩;have O7:=O4.sD 2 [0,1];refine bn H fun q2 h8 H=>?_;obtain ⟨z,l0,t1,l9,p,q0,U,l3,u1,a16⟩:=Rel.new_grid_Grid (E:=[(Eb a 94 [(Y)]),es true (RP 0) (Y) 95 [] ([]:List (Option Nat))]) (F:=F) (x:=(⟨([]:List (Option Nat))⟩:cj)) (b:=a) O7 (R0.mono l5) (fun c_ hle_=>⟨a,(Y),[],rfl,rfl,((h2.mono l5).mono hle_)⟩);rw [aH h8] at U;refine WL.gh t1.1 ?_;have v1:=dY.nil (dY.refl _) u1;have c1:=(dY.refl _).trans a16;have w1:Pt 1 z (Q a) (some sg.grid_Grid.length):=⟨a,rfl,p⟩;refine va (Q a) (wln (W.seq (sr (va (I n) (va (I (aM n 1024)) (va (I (aS 1 (aM n 1024))) (va (I 0) (wln (W.block (bn H fun e3 a0 D=>lp a0 (fun d=>Jn z fun c l=>∃G_,Own c G_ (F)∧l= [(0,I y),(5,Q a),(10,I (aS 1 (aM n 1024))),(11,I d.1)]∧Rel c d.2 G_∧dY G G_) (fun A ex e w=>ex= .exit 0∧(Jn z fun c l=>∃G_,Own c G_ (F)∧l= [(5,Q a)]∧Rel c A G_∧dY G G_) e w) ?_ ?_ ?_))))))))))
 ·clear D a0;intro d t3 s1 s2 H;revert s1 s2;rintro e_ w_ ⟨h1,j3,_,rfl,j2,rfl,f,M,rfl,o,X⟩;refine sr (va (B (decide (d.1 < (aS 1 (aM n 1024))))) (wln (W.seq (cn H (fun x1 H=>?_) (fun x1 H=>?_)))))
  ·refine W.skip (nrm (W.seq (W.block (rD [8,11] (Kp f []) M ?_))));intro i1 e0 N;have m2:Kp f [] i1:=(Kp.nil N);refine ta 0 (Q a) (ta 1 (Q a) (ta 2 (Q a) (ta 3 (Q a) (bn H fun f3 z1 H=>?_))));obtain ⟨v35,p3,b0,b2⟩:=Rel.open_grid_Grid (o.mono e0) z1 (tm p);refine tkx 4 m2 (fun c' n3 hk=>le1 0 pX (hk.gon b0 0 rfl)) (ta 5 (I y) (bn H fun i0 c2 H=>o1 6 (gc 6 (ug N o.m y c2) ?_)));rintro v40 j1 k2 ⟨_,h3,P,z0,k,rfl,d0⟩;have d1:=X.trans k;have n2:Kp f [] j1:=(Kp.adds P k);refine ⟨.inr n2,?_⟩;obtain ⟨Z,rfl⟩:=(d0).form;refine o1 7 (gm 7 (sl (RP 0) 95 [[.pointer Z]] ([i0.2]:List (Option Nat)) P ⟨⟨(.pointer Z),rfl,d0⟩,trivial⟩) ?_);rintro v55 k1 f0 ⟨q3,R,d2⟩;have o2:Kp f [] k1:=(Kp.adds R k);refine ⟨.inr o2,?_⟩;obtain ⟨m1,f2,s,S,e2⟩:=R.frz 0 rfl d2;have p2:Kp f [] m1:=(Kp.adds S k);refine AC.gh f2 s (fun _=>p2) (bn H fun j0 g2 H=>?_);have s0:=S.borrow 1 (k.get b0) rfl;refine o1 8 (gm 8 (ap (RP 0) (.pointer none) 8 92 0 s0 b2.m e2 g2 pX) ?_);rintro s3 i3 g0 ⟨h0,t0,q⟩;have u0:=t0.giveB 1 rfl;refine ⟨.inl rfl,ta 9 (Q a) (ta 10 (Q a) ?_)⟩;obtain ⟨g,h,i,rfl⟩:=(q).form;refine o1 11 (gD 11 (Own.stGB (T:=92) (j:=0) (us:=[.slice g h i]) (nw:=[.slice g h i]) (v:= .slice g h i) 0 u0 (by kernel_rfl) rfl rfl rfl rfl (by kernel_rfl) ⟨(q).one,trivial⟩ (by kernel_rfl) rfl) ?_);rintro n1 u v0;refine bn H fun k0 i2 H=>?_;obtain ⟨m0,w0,a1,m3,e1⟩:=Rel.put_grid_Grid v0 (z0.mono (f0.trans (s.trans (g0.trans u)))) (E':=[(Eb a 94 [.slice g h i]),es true (RP 0) (.slice g h i) 95 h0 j0]) i2 ⟨a,(.slice g h i),h0,((j2.trans (e0.trans (k2.trans (f0.trans (s.trans (g0.trans u)))))).t _ _ _ p),rfl,(q.mono u)⟩;have f1:=e1 _ d1 v1;refine ⟨.inl rfl,dn (bkn (nrm (W.region (vv (I (w64 (d.1+1))) (WL.nil ?_)))))⟩;obtain rfl:=si H;refine ⟨_,rfl,?_⟩;have x0:=w0.sD 1 [];exact jn n1 ⟨m0,x0,rfl,a1,f1⟩
  refine W.exit (thx ?_);obtain rfl:=si H;exact ⟨_,rfl,rfl,jn h1 ⟨f,M,rfl,o,X⟩⟩
 ·exact jn z ⟨l0,q0,rfl,U,c1⟩
 rintro _ e_ w_ ⟨rfl,q1,k3,_,rfl,o3,rfl,o0,y0,rfl,b1,g1⟩;refine bke (nrm (sr (vv (Q a) (wln (W.ret ?_)))));obtain rfl:=si D;exact r1 (qq q1 ⟨(Q a),o0,y0,b1,g1,rfl,w1.m⟩)
def mL (sg:Sto) (p0:Int) (p1:Int):Option (Sto×(Option Nat)):=
 (mx sg p0 p1).bind fun b=>
 (some (b.1.add_place_Pen (⟨b.2,(⟨0,0,false⟩:aj),true⟩:bf))).bind fun a=>
 some (a,(some b.1.place_Pen.length))
theorem A1 (N:Own c0 G F) (R:Rel c0 sg G) (e:Int) (f:Int) {r:Sto×(Option Nat)} (H:mL sg e f=some r): Calls prog 11 #[I e,I f] c0.w (aO c0 fun c v=>∃M,∃G_:Gm,Own c G_ (F)∧Rel c r.1 G_∧dY G G_∧v=M∧Pt 2 c M r.2):=by
 unfold mL at H;refine en func11 rfl rfl (sr (va (.pointer none) (wln (sr (va (I e) (va (I f) (bn H fun k U H=>cl (wW N R e f U) ?_)))))));rintro v2 c8 l8 ⟨_,G4,P,S,T,rfl,z⟩;have h:=(dY.refl _).trans T;obtain ⟨d,rfl⟩:=(z).form;refine va (.agg #[.pointer d,I 0,I 0,B false,B true]) (me (al 57 [.pointer d,I 0,I 0,B false,B true] P) ?_);rintro v15 X j ⟨a,rfl,m⟩;have n:=m.sD 1 [0];refine bn H fun D s H=>?_;obtain ⟨i,l,t,b0,u,o,g,Z,y,p⟩:=Rel.new_place_Pen (E:=[(Eb a 57 [.pointer d,I 0,I 0,B false,B true])]) (F:=F) (x:=(⟨k.2,(⟨0,0,false⟩:aj),true⟩:bf)) (b:=a) n (S.mono j) (fun c_ hle_=>⟨a,(.pointer d),rfl,rfl,(z.mono (j.trans hle_))⟩);rw [aH s] at g;refine WL.gh t.1 ?_;have a0:=dY.nil h y;have q:=h.trans p;have A:Pt 2 i (Q a) (some k.1.place_Pen.length):=⟨a,rfl,u⟩;refine va (Q a) (wln (W.ret ?_));obtain rfl:=si H;exact r1 (qq i ⟨(Q a),l,o,g,q,rfl,A⟩)
def fH (p0:Int):Option (Int):=
 some (aS 1 (aM p0 1024))
theorem mF (b:Own c0 G F) (a:Int) {r:Int} (H:fH a=some r): Calls prog 143 #[I a] c0.w (aO c0 fun c v=>Own c G (F)∧v=I r):=by
 unfold fH at H;refine en func143 rfl rfl (sr (va (I 0) (wln (sr (va (I a) (va (I (aM a 1024)) (vv (I (aS 1 (aM a 1024))) (wln (W.ret ?_)))))))));obtain rfl:=si H;exact r1 (qq c0 ⟨b,rfl⟩)
def jK (p0:Int) (p1:Int):Option (Int):=
 some (aS 0 (aM p0 (w64 (p1 - 1))))
theorem rP (d:Own c0 G F) (b:Int) (a:Int) {r:Int} (H:jK b a=some r): Calls prog 144 #[I b,I a] c0.w (aO c0 fun c v=>Own c G (F)∧v=I r):=by
 unfold jK at H;refine en func144 rfl rfl (sr (va (I 0) (wln (sr (va (I b) (va (I a) (va (I (w64 (a - 1))) (va (I (aM b (w64 (a - 1)))) (vv (I (aS 0 (aM b (w64 (a - 1))))) (wln (W.ret ?_)))))))))));obtain rfl:=si H;exact r1 (qq c0 ⟨d,rfl⟩)
def ed (p0:aj) (p1:Int) (p2:Int):Option (aj):=
 (fH p1).bind fun a=>
 (fH p2).bind fun e=>
 (jK p0.Row e).bind fun c=>
 (jK p0.Col a).bind fun d=>
 (bX p0.Pending (some (p0.Col==(w64 (a - 1))))).bind fun b=>
 some (⟨c,d,b⟩:aj)
theorem dI (O0:Own c0 G F) (a:aj) (n:Int) (o:Int) {r:aj} (H:ed a n o=some r): Calls prog 110 #[.agg #[I a.Row,I a.Col,B a.Pending],I n,I o] c0.w (aO c0 fun c v=>Own c G (F)∧v= .agg #[I r.Row,I r.Col,B r.Pending]):=by
 unfold ed at H;refine en func110 rfl rfl (sr (me (bx 55 [I a.Row,I a.Col,B a.Pending] O0) ?_));rintro v5 c4 l4 ⟨k,rfl,O2,m⟩;refine me (al 55 [I 0,I 0,B false] O2) ?_;rintro v9 c8 l8 ⟨R,rfl,O7⟩;refine wln (sr (va (I n) (bn H fun b Z H=>cl (mF O7 n Z) ?_)));rintro v16 l0 o0 ⟨z,rfl⟩;refine va (I o) (bn H fun j a0 H=>cl (mF z o a0) ?_);rintro v23 S q0 ⟨A,rfl⟩;refine va (I b) (va (I j) (wln (W.seq (bn H fun d b0 H=>bn H fun e d0 H=>bn H fun i x H=>W.join (Jn S fun c l=>Own c G ((Eb R 55 [I d,I e,B i]) :: F)∧l= [(6,Q R)]) ?_ ?_))))
 ·clear H;refine rD [] (Kp G0 []) A ?_;intro T s0 D;have y0:Kp G0 [] T:=Kp.nil0;refine ta 0 (Q k) (tx 1 (fun h g=>l1 u_3 ((mm m) 0 _ rfl)) (ta 2 (I j) (ta 4 (Qo k (0+1)) (tx 5 (fun h g=>l1 u_3 ((mm m) 1 _ rfl)) (ta 6 (I b) (ta 8 (Qo k (0+2)) (tx 9 (fun h g=>l1 u_4 ((mm m) 2 _ rfl)) (o1 3 (gc 3 (rP D a.Row j b0) ?_)))))))));rintro v35 U t0 ⟨E,rfl⟩;have e0:Kp G0 [] U:=Kp.nil0;refine ⟨.inr e0,o1 7 (gc 7 (rP E a.Col b d0) ?_)⟩;rintro v42 X u0 ⟨p,rfl⟩;have f0:Kp G0 [] X:=Kp.nil0;refine ⟨.inr f0,?_⟩;rcases bo (a.Pending) with f | f
  ·have y:=anT f x;refine AC.takeb 10 f rfl (by kernel_rfl) (by kernel_rfl) (fun h g=>(by kernel_rfl)) (ta 11 (Qo k (0+1)) (tx 12 (fun h g=>l1 u_3 ((mm m) 1 _ rfl)) (ta 13 (I b) (ta 14 (I (w64 (b - 1))) (ta 15 (B (a.Col==(w64 (b - 1)))) ?_)))));obtain rfl:=si y;refine ta 16 (B (a.Col==(w64 (b - 1)))) (ta 17 (.agg #[I d,I e,B (a.Col==(w64 (b - 1)))]) (o1 18 (gD 18 (sA 55 [I d,I e,B (a.Col==(w64 (b - 1)))] 0 p ⟨rfl,rfl,rfl,trivial⟩) ?_)));rintro s v0 M;have g0:Kp G0 [] s:=Kp.nil0;exact ⟨.inr g0,dn (nrm (jn s ⟨M,rfl⟩))⟩
  obtain rfl:=anF f x;refine AC.takeb 10 f rfl (by kernel_rfl) (by kernel_rfl) (fun h g=>(by kernel_rfl)) (tp 11 (tp 12 (tp 13 (tp 14 (tp 15 (ta 16 (B false) (ta 17 (.agg #[I d,I e,B false]) (o1 18 (gD 18 (sA 55 [I d,I e,B false] 0 p ⟨rfl,rfl,rfl,trivial⟩) ?_)))))))));rintro t w0 N;have h0:Kp G0 [] t:=Kp.nil0;exact ⟨.inr h0,dn (nrm (jn t ⟨N,rfl⟩))⟩
 rintro e_ w_ ⟨u,m0,_,rfl,x0,rfl,q,rfl⟩;refine nrm (W.ret ?_);obtain rfl:=si H;have P:=q.sD 1 [];exact uV (c:=u) (vs:=[I d,I e,B i]) rfl (by kernel_rfl) (by kernel_rfl) (by kernel_rfl) (q.on 0 rfl _ rfl).1 ⟨_,u,rfl,rfl,pt,P,rfl⟩
def fU (sg:Sto) (p0:Option Nat):Option (Sto×Bool):=
 (orE p0.isNone ((p0).bind fun i=>
 (sg.place_Pen[i]?).bind fun d=>
 some d.G.isNone)).bind fun h=>
 if h=true then
 some (sg,false)
 else
 (p0).bind fun c=>
 (sg.place_Pen[c]?).bind fun a=>
 (bV sg a.G).bind fun e=>
 (bJ sg a.G).bind fun f=>
 (ed a.At e f).bind fun g=>
 (sg.set_place_Pen c (⟨a.G,g,a.Auto⟩:bf)).bind fun b=>
 some (b,true)
theorem oa (S:Own c0 G F) (h:Rel c0 sg G) (t:Option Nat) {r:Sto×Bool} (T:Pt 2 c0 v1 t) (H:fU sg t=some r): Calls prog 235 #[v1] c0.w (aO c0 fun c v=>∃G_:Gm,Own c G_ (F)∧Rel c r.1 G_∧v=B r.2):=by
 unfold fU at H;refine en func235 rfl rfl (sr (va (B false) (wln (W.seq (W.seq (bn H fun o0 h3 H=>W.join (Jn c0 fun c l=>Own c G (F)∧l= [(0,v1),(11,B o0)]) ?_ ?_))))))
 ·clear H;refine W.region (va (v1) (vr (B t.isNone) (by rcases (T).cs with ⟨e,f⟩ | ⟨b_,e,f⟩ <;> (subst e; rw [f]; kernel_rfl)) ?_));rcases bo (t.isNone) with k | k
  ·obtain rfl:=orT k h3;exact vb k (pz (pz (ps (va (B true) (wln (jn c0 ⟨S,rfl⟩))))))
  have i:=orF k h3;refine vb k (wa (v1) (wn (bn i fun n1 h8 i=>?_)));obtain ⟨b6,rfl,h7⟩:=(T).get h8;refine va (Q b6) (wa (Q b6) (wn (bn i fun q h9 i=>?_)));obtain ⟨v10,s0,q0⟩:=Rel.open_place_Pen h h9 h7;refine vx (le1 0 iZ (S.gon s0 0 rfl)) (wn (vr (B q.G.isNone) (by rcases (q0).cs with ⟨e,f⟩ | ⟨b_,e,f⟩ <;> (subst e; rw [f]; kernel_rfl)) ?_));obtain rfl:=si i;exact va (B q.G.isNone) (wln (jn c0 ⟨S,rfl⟩))
 rintro e_ w_ ⟨h0,k1,_,rfl,o,rfl,u,rfl⟩;refine nrm (cn H (fun t0 H=>?_) (fun t0 H=>?_))
 ·refine sr (va (B false) (wln (W.ret (thr ?_))));obtain rfl:=si H;exact r1 (qq h0 ⟨G,u,h.m,rfl⟩)
 refine W.skip (nrm (W.seq (rD [18] (Kp G []) u ?_)));intro i0 p x;have s:Kp G [] i0:=(Kp.nil x);refine ta 0 (v1) (ta 1 (v1) (bn H fun i1 u0 H=>?_));obtain ⟨b,rfl,D⟩:=((T.mono (o.trans p))).get u0;refine ta 2 (Q b) (ta 3 (Qo b 1) (bn H fun d v0 H=>?_));obtain ⟨v27,g,j⟩:=Rel.open_place_Pen (h.mono (o.trans p)) v0 D;refine tkx 4 s (fun c' E n=>leN 55 1 [I d.At.Row,I d.At.Col,B d.At.Pending] (n.gon g 0 rfl)) (ta 5 (Q b) (ta 6 (Q b) (ta 7 (Q b) (tkx 8 s (fun c' E n=>le1 0 iZ (n.gon g 0 rfl)) (ta 10 (Q b) (ta 11 (Q b) (ta 12 (Q b) (tkx 13 s (fun c' E n=>le1 0 iZ (n.gon g 0 rfl)) (bn H fun U x0 H=>o1 9 (gc 9 (cG x h.m d.G j x0) ?_))))))))));rintro v36 j0 M ⟨y,rfl⟩;have b1:Kp G [] j0:=(Kp.nil y);refine ⟨.inr b1,bn H fun X y0 H=>o1 14 (gc 14 (bE y h.m d.G j.m y0) ?_)⟩;rintro v44 k0 N ⟨z,rfl⟩;have c1:Kp G [] k0:=(Kp.nil z);refine ⟨.inr c1,bn H fun a z0 H=>o1 15 (gc 15 (dI z d.At U X z0) ?_)⟩;rintro v52 l0 P ⟨A,rfl⟩;have d1:Kp G [] l0:=(Kp.nil A);refine ⟨.inr d1,ta 16 (Q b) (ta 17 (Qo b 1) (o1 18 (gD 18 (gB 55 1 [I a.Row,I a.Col,B a.Pending] [v27,I a.Row,I a.Col,B a.Pending,B d.Auto] 0 A g ⟨rfl,rfl,rfl,trivial⟩) ?_)))⟩;rintro m0 R b0;refine bn H fun Z a1 H=>?_;obtain ⟨a0,d0,e0,m1,j1⟩:=Rel.put_place_Pen b0 (h.mono (o.trans (p.trans (M.trans (N.trans (P.trans R)))))) (E':=[(Eb b 57 [v27,I a.Row,I a.Col,B a.Pending,B d.Auto])]) a1 ⟨b,v27,(tm D),rfl,(j.mono (M.trans (N.trans (P.trans R))))⟩;refine ⟨.inl rfl,dn (nrm (sr (va (B true) (wln (W.ret ?_)))))⟩;obtain rfl:=si H;exact r1 (qq m0 ⟨a0,d0,e0,rfl⟩)
def dr (p0:aj):Option (aj):=
 some (⟨p0.Row,0,false⟩:aj)
theorem jB (f:Own c0 G F) (a:aj) {r:aj} (H:dr a=some r): Calls prog 149 #[.agg #[I a.Row,I a.Col,B a.Pending]] c0.w (aO c0 fun c v=>Own c G (F)∧v= .agg #[I r.Row,I r.Col,B r.Pending]):=by
 unfold dr at H;refine en func149 rfl rfl (sr (me (bx 55 [I a.Row,I a.Col,B a.Pending] f) ?_));rintro v5 m o ⟨i,rfl,g,j⟩;refine me (al 55 [I 0,I 0,B false] g) ?_;rintro v9 n p ⟨l,rfl,h⟩;refine wln (sr (va (Q i) (vx (l1 u_3 ((mm j) 0 _ rfl)) (va (.agg #[I a.Row,I 0,B false]) (md (sA 55 [I a.Row,I 0,B false] 0 h ⟨rfl,rfl,rfl,trivial⟩) ?_)))));rintro d k b;refine wln (W.ret ?_);obtain rfl:=si H;have e:=b.sD 1 [];exact uV (c:=d) (vs:=[I a.Row,I 0,B false]) rfl (by kernel_rfl) (by kernel_rfl) (by kernel_rfl) (b.on 0 rfl _ rfl).1 ⟨_,d,rfl,rfl,pt,e,rfl⟩
def mC (p0:aj) (p1:Int):Option (aj×Bool):=
 (fH p1).bind fun a=>
 if (decide (p0.Row≥(w64 (a - 1))))=true then
 some ((⟨p0.Row,p0.Col,false⟩:aj),true)
 else
 some ((⟨(w64 (p0.Row+1)),p0.Col,false⟩:aj),false)
theorem oA (x:Own c0 G F) (a:aj) (f:Int) {r:aj×Bool} (H:mC a f=some r): Calls prog 236 #[.agg #[I a.Row,I a.Col,B a.Pending],I f] c0.w (aO c0 fun c v=>Own c G (F)∧v= .tuple #[.agg #[I r.1.Row,I r.1.Col,B r.1.Pending],B r.2]):=by
 unfold mC at H;refine en func236 rfl rfl (sr (me (al 55 [I a.Row,I a.Col,B a.Pending] x) ?_));rintro v4 c3 l3 ⟨d,rfl,y⟩;refine me (al 55 [I 0,I 0,B false] y) ?_;rintro v8 c7 l7 ⟨Z,rfl,z⟩;refine va (B false) (wln (sr (va (Qo d 2) (md (sC 4 2 (B false) [I a.Row,I a.Col,B false] 1 z ⟨rfl,trivial⟩) ?_))));rintro E P A;refine wln (W.seq (W.seq (rD [] (Kp G0 [(Eb d 55 [I a.Row,I a.Col,B false])]) A ?_)));intro o R g;have t:Kp G0 [(Eb d 55 [I a.Row,I a.Col,B false])] o:=(Kp.cons (g.on 1 rfl) Kp.nil0);refine ta 0 (Q d) (tkx 1 t (fun c' N D=>le1 0 u_3 (D.on 0 rfl)) (ta 2 (I f) (bn H fun e q H=>o1 3 (gc 3 (mF g f q) ?_))));rintro v20 p S ⟨b,rfl⟩;have u:Kp G0 [(Eb d 55 [I a.Row,I a.Col,B false])] p:=(Kp.cons (b.on 1 rfl) Kp.nil0);refine ⟨.inr u,ta 4 (I (w64 (e - 1))) (ta 5 (B (decide (a.Row≥(w64 (e - 1))))) (dn (nrm (cn H (fun s H=>?_) (fun s H=>?_)))))⟩
 ·refine sr (vx (leN 55 0 [I a.Row,I a.Col,B false] (b.on 1 rfl)) (md (sA 55 [I a.Row,I a.Col,B false] 0 b ⟨rfl,rfl,rfl,trivial⟩) ?_));rintro k T h;refine va (B true) (wln (W.ret (thr ?_)));obtain rfl:=si H;have m:=h.sD 2 [];exact kK (c:=k) (vs:=[I a.Row,I a.Col,B false]) (v:=B true) rfl (by kernel_rfl) (by kernel_rfl) (by kernel_rfl) (by kernel_rfl) (h.on 0 rfl _ rfl).1 ⟨_,k,rfl,rfl,pt,m,rfl⟩
 refine W.skip (nrm (sr (va (Q d) (vx (le1 0 u_3 (b.on 1 rfl)) (va (I (w64 (a.Row+1))) (va (Q d) (md (sC 3 0 (I (w64 (a.Row+1))) [I (w64 (a.Row+1)),I a.Col,B false] 1 b ⟨rfl,trivial⟩) ?_)))))));rintro M U i;refine wln (sr (vx (leN 55 0 [I (w64 (a.Row+1)),I a.Col,B false] (i.on 1 rfl)) (md (sA 55 [I (w64 (a.Row+1)),I a.Col,B false] 0 i ⟨rfl,rfl,rfl,trivial⟩) ?_)));rintro l X j;refine va (B false) (wln (W.ret ?_));obtain rfl:=si H;have n:=j.sD 2 [];exact kK (c:=l) (vs:=[I (w64 (a.Row+1)),I a.Col,B false]) (v:=B false) rfl (by kernel_rfl) (by kernel_rfl) (by kernel_rfl) (by kernel_rfl) (j.on 0 rfl _ rfl).1 ⟨_,l,rfl,rfl,pt,n,rfl⟩
def eN (sg:Sto) (p0:Option Nat):Option (Sto):=
 (fU sg p0).bind fun b=>
 if (!b.2)=true then
 some b.1
 else
 (p0).bind fun j=>
 (b.1.place_Pen[j]?).bind fun f=>
 (bJ b.1 f.G).bind fun g=>
 (mC f.At g).bind fun e=>
 (p0).bind fun d=>
 (b.1.place_Pen[d]?).bind fun c=>
 (b.1.set_place_Pen d (⟨c.G,e.1,c.Auto⟩:bf)).bind fun a=>
 if e.2=true then
 (bJ a c.G).bind fun h=>
 (kb a c.G 0 h 1).bind fun i=>
 some i
 else
 some a
theorem nk (O0:Own c0 G F) (R0:Rel c0 sg G) (p0:Option Nat) {r:Sto} (h2:Pt 2 c0 v1 p0) (H:eN sg p0=some r): Calls prog 213 #[v1] c0.w (aO c0 fun c v=>∃G_:Gm,Own c G_ (F)∧Rel c r G_∧v= .tuple #[]):=by
 unfold eN at H;refine en func213 rfl rfl (W.seq (sr (va (v1) (bn H fun y2 h3 H=>cl (oa O0 R0 p0 h2 h3) ?_))));rintro v9 c8 l8 ⟨d,O5,n,rfl⟩;refine va (B (!y2.2)) (wln (cn H (fun d2 H=>?_) (fun d2 H=>?_)))
 ·refine W.ret (thr ?_);obtain rfl:=si H;exact r0 (qq c8 ⟨d,O5,n,rfl⟩)
 refine W.skip (nrm (W.seq (bn H fun n3 e2 H=>bn H fun e f2 H=>bn H fun j h0 H=>bn H fun a x H=>W.join (Jn c8 fun c l=>∃t,Own c d ((Eb t 55 [I a.1.Row,I a.1.Col,B a.1.Pending]) :: F)∧l= [(0,v1),(2,Q t),(3,B a.2)]) ?_ ?_)))
 ·clear H;refine rD [] (Kp d []) O5 ?_;intro p1 l16 q;have m0:Kp d [] p1:=(Kp.nil q);refine ta 0 (v1) ?_;obtain ⟨g,rfl,g2⟩:=((h2.mono (l8.trans l16))).get e2;refine ta 1 (Q g) (ta 2 (Qo g 1) ?_);obtain ⟨v21,j0,i0⟩:=Rel.open_place_Pen (n.mono l16) f2 g2;refine tkx 3 m0 (fun c' z i=>leN 55 1 [I e.At.Row,I e.At.Col,B e.At.Pending] (i.gon j0 0 rfl)) (ta 4 (Q g) (ta 5 (Q g) (ta 6 (Q g) (tkx 7 m0 (fun c' z i=>le1 0 iZ (i.gon j0 0 rfl)) (mn2 8 13 ?_ ?_)))))
  ·refine gc 8 (bE q n.m e.G i0 h0) ?_;rintro v29 q1 o3 ⟨s,rfl⟩;have m2:Kp d [] q1:=(Kp.nil s);refine ⟨.inr m2,mn2 9 13 ?_ ?_⟩
   ·refine gc 9 (oA s e.At j x) ?_;rintro v36 s1 p3 ⟨M,rfl⟩;have n2:Kp d [] s1:=(Kp.nil M);refine ⟨.inr n2,ta 10 (.tuple #[.agg #[I a.1.Row,I a.1.Col,B a.1.Pending],B a.2]) (ta 11 (.agg #[I a.1.Row,I a.1.Col,B a.1.Pending]) (ta 12 (B a.2) (o1 13 (gm 13 (al 55 [I 0,I 0,B false] M) ?_))))⟩;rintro v41 t1 q3 ⟨k1,rfl,N⟩;have o2:Kp d [] t1:=(Kp.nil N);refine ⟨.inr o2,o1 14 (gD 14 (sA 55 [I a.1.Row,I a.1.Col,B a.1.Pending] 0 N ⟨rfl,rfl,rfl,trivial⟩) ?_)⟩;rintro e0 s3 P;have p2:Kp d [] e0:=(Kp.nil P);exact ⟨.inr p2,ta 15 (B a.2) (dn (nrm (jn e0 ⟨k1,P,rfl⟩)))⟩
   refine gm 13 (al 55 [I 0,I 0,B false] s) ?_;rintro v49 u1 t3 ⟨m1,rfl,R⟩;have q2:Kp d [] u1:=(Kp.nil R);refine ⟨.inr q2,o1 9 (gc 9 (oA R e.At j x) ?_)⟩;rintro v56 w1 u3 ⟨S,rfl⟩;have s2:Kp d [] w1:=(Kp.nil S);refine ⟨.inr s2,ta 10 (.tuple #[.agg #[I a.1.Row,I a.1.Col,B a.1.Pending],B a.2]) (ta 11 (.agg #[I a.1.Row,I a.1.Col,B a.1.Pending]) (ta 12 (B a.2) (o1 14 (gD 14 (sA 55 [I a.1.Row,I a.1.Col,B a.1.Pending] 0 S ⟨rfl,rfl,rfl,trivial⟩) ?_))))⟩;rintro f0 v3 T;have t2:Kp d [] f0:=(Kp.nil T);exact ⟨.inr t2,ta 15 (B a.2) (dn (nrm (jn f0 ⟨m1,T,rfl⟩)))⟩
  refine gm 13 (al 55 [I 0,I 0,B false] q) ?_;rintro a4 x1 w3 ⟨n1,rfl,U⟩;have u2:Kp d [] x1:=(Kp.nil U);refine ⟨.inr u2,o1 8 (gc 8 (bE U n.m e.G i0.m h0) ?_)⟩;rintro b4 y1 x3 ⟨X,rfl⟩;have v2:Kp d [] y1:=(Kp.nil X);refine ⟨.inr v2,o1 9 (gc 9 (oA X e.At j x) ?_)⟩;rintro c4 z1 y3 ⟨Z,rfl⟩;have w2:Kp d [] z1:=(Kp.nil Z);refine ⟨.inr w2,ta 10 (.tuple #[.agg #[I a.1.Row,I a.1.Col,B a.1.Pending],B a.2]) (ta 11 (.agg #[I a.1.Row,I a.1.Col,B a.1.Pending]) (ta 12 (B a.2) (o1 14 (gD 14 (sA 55 [I a.1.Row,I a.1.Col,B a.1.Pending] 0 Z ⟨rfl,rfl,rfl,trivial⟩) ?_))))⟩;rintro g0 z3 a0;have x2:Kp d [] g0:=(Kp.nil a0);exact ⟨.inr x2,ta 15 (B a.2) (dn (nrm (jn g0 ⟨n1,a0,rfl⟩)))⟩
 rintro e_ w_ ⟨l3,m3,_,rfl,A,rfl,t,b0,rfl⟩;refine nrm (sr (va (v1) (vx (leN 55 0 [I a.1.Row,I a.1.Col,B a.1.Pending] (b0.on 0 rfl)) (bn H fun d3 i2 H=>?_))));obtain ⟨b,rfl,k0⟩:=((h2.mono (l8.trans A))).get i2;refine va (Q b) (va (Qo b 1) (bn H fun f j2 H=>?_));obtain ⟨E,k2,y⟩:=Rel.open_place_Pen (n.mono A) j2 k0;refine md (gB 55 1 [I a.1.Row,I a.1.Col,B a.1.Pending] [E,I a.1.Row,I a.1.Col,B a.1.Pending,B f.Auto] 0 b0 k2 ⟨rfl,rfl,rfl,trivial⟩) ?_;rintro c2 l0 j1;refine bn H fun h1 z0 H=>?_;obtain ⟨k,d0,h,u,b3⟩:=Rel.put_place_Pen j1 (n.mono (A.trans l0)) (E':=[(Eb b 57 [E,I a.1.Row,I a.1.Col,B a.1.Pending,B f.Auto])]) z0 ⟨b,E,(tm k0),rfl,(y.mono l0)⟩;refine wln (sr (va (B a.2) (wln (cn H (fun a1 H=>?_) (fun a1 H=>?_)))))
 ·refine rD [9] (Kp k []) d0 ?_;intro w0 e3 o;have D:Kp k [] w0:=(Kp.nil o);refine ta 0 (Q b) (ta 1 (Q b) (ta 2 (Q b) (tkx 3 D (fun c' z i=>le1 0 iZ (i.gon u 0 rfl)) (ta 4 (Q b) (ta 5 (Q b) (ta 6 (Q b) (tkx 7 D (fun c' z i=>le1 0 iZ (i.gon u 0 rfl)) (bn H fun g1 b1 H=>o1 8 (gc 8 (bE o h.m f.G y.m b1) ?_)))))))));rintro i3 x0 f3 ⟨p,rfl⟩;have f1:Kp k [] x0:=(Kp.nil p);refine ⟨.inr f1,bn H fun k3 c1 H=>o1 9 (gc 9 (qF p h.m f.G 0 g1 1 y.m c1) ?_)⟩;rintro j3 y0 g3 ⟨o0,q0,u0,rfl⟩;refine ⟨.inl rfl,dn ?_⟩;obtain rfl:=si H;have s0:=q0.sD 1 [];exact n0 (qq y0 ⟨o0,s0,u0,rfl⟩)
 refine W.skip ?_;obtain rfl:=si H;have t0:=d0.sD 1 [];exact n0 (qq c2 ⟨k,t0,h,rfl⟩)
def fp (sg:Sto) (p0:Option Nat):Option (Sto):=
 (p0).bind fun c=>
 (sg.place_Pen[c]?).bind fun e=>
 (bB sg e.G e.At.Row).bind fun f=>
 (eB sg f true).bind fun d=>
 (d.place_Pen[c]?).bind fun a=>
 (dr a.At).bind fun g=>
 (d.set_place_Pen c (⟨a.G,g,a.Auto⟩:bf)).bind fun b=>
 (eN b p0).bind fun h=>
 some h
theorem ph (O0:Own c0 G F) (n:Rel c0 sg G) (q:Option Nat) {r:Sto} (U:Pt 2 c0 v1 q) (H:fp sg q=some r): Calls prog 267 #[v1] c0.w (aO c0 fun c v=>∃G_:Gm,Own c G_ (F)∧Rel c r G_∧v= .tuple #[]):=by
 unfold fp at H;refine en func267 rfl rfl (W.seq (rD [10] (Kp G []) O0 ?_));intro c3 l3 y;have p5:Kp G [] c3:=(Kp.nil y);refine ta 0 (v1) (bn H fun a1 h8 H=>?_);obtain ⟨b,rfl,o⟩:=((U.mono l3)).get h8;refine ta 1 (Q b) (ta 2 (Q b) (bn H fun l h9 H=>?_));obtain ⟨v10,h,R⟩:=Rel.open_place_Pen (n.mono l3) h9 o;refine tkx 3 p5 (fun c' f0 p=>le1 0 iZ (p.gon h 0 rfl)) (ta 4 (Q b) (ta 5 (Q b) (ta 6 (Qo b 1) (ta 7 (Qo b 1) (tkx 8 p5 (fun c' f0 p=>le1 1 u_3 (p.gon h 0 rfl)) (bn H fun s S H=>o1 9 (gc 9 (cL y n.m l.G l.At.Row R S) ?_)))))));rintro v14 N b1 ⟨_,e,rfl,T⟩;have h0:Kp G [] N:=(Kp.nil e);refine ⟨.inr h0,bn H fun q0 X H=>o1 10 (gc 10 (ma e n.m s true T X) ?_)⟩;rintro v29 w0 c1 ⟨t0,f,g,rfl⟩;refine ⟨.inl rfl,dn (nrm (sr (vv (Q b) (va (Q b) (va (Qo b 1) (bn H fun d Z H=>?_))))))⟩;obtain ⟨v31,i,a0⟩:=Rel.open_place_Pen g Z (tm o);refine vx (leN 55 1 [I d.At.Row,I d.At.Col,B d.At.Pending] (f.gon i 0 rfl)) (bn H fun a b0 H=>cl (jB f d.At b0) ?_);rintro v40 x0 j ⟨x,rfl⟩;refine va (Q b) (va (Qo b 1) (md (gB 55 1 [I a.Row,I a.Col,B a.Pending] [v31,I a.Row,I a.Col,B a.Pending,B d.Auto] 0 x i ⟨rfl,rfl,rfl,trivial⟩) ?_));rintro y0 k z;refine bn H fun t d0 H=>?_;obtain ⟨u0,A,E,z0,v0⟩:=Rel.put_place_Pen z (g.mono (j.trans k)) (E':=[(Eb b 57 [v31,I a.Row,I a.Col,B a.Pending,B d.Auto])]) d0 ⟨b,v31,(tm o),rfl,(a0.mono (j.trans k))⟩;refine wln (W.region (va (Q b) (bn H fun s0 e0 H=>cl (nk A E q U.m e0) ?_)));rintro v55 P d1 ⟨u,D,M,rfl⟩;refine WL.nil ?_;obtain rfl:=si H;exact n0 (qq P ⟨u,D,M,rfl⟩)
def iO (sg:Sto) (p0:Option Nat) (p1:Int):Option (Sto):=
 ((p0).bind fun k=>
 (sg.place_Pen[k]?).bind fun l=>
 if l.At.Pending=true then
 (fp sg p0).bind fun m=>
 some (m)
 else
 some (sg)).bind fun b=>
 (p0).bind fun d=>
 (b.place_Pen[d]?).bind fun a=>
 (bV b a.G).bind fun e=>
 (orE (p1==1) (some (decide (a.At.Col < (w64 (e - 1)))))).bind fun f=>
 if f=true then
 some b
 else
 if a.Auto=true then
 (bB b a.G a.At.Row).bind fun g=>
 (eh 1).bind fun h=>
 (dH b g (w64 (e - 1)) h).bind fun i=>
 (fp i.1 p0).bind fun j=>
 some j
 else
 (b.set_place_Pen d (⟨a.G,(⟨a.At.Row,(w64 (a.At.Col - 1)),a.At.Pending⟩:aj),a.Auto⟩:bf)).bind fun c=>
 some c
theorem um (T:Own c0 G F) (X:Rel c0 sg G) (hG:Gl [3,5] c0) (u:Option Nat) (n:Int) {r:Sto} (t:Pt 2 c0 v1 u) (H:iO sg u n=some r): Calls prog 251 #[v1,I n] c0.w (aO c0 fun c v=>∃G_:Gm,Own c G_ (F)∧Rel c r G_∧v= .tuple #[]):=by
 unfold iO at H;refine en func251 rfl rfl (bn H fun g2 g d=>W.seqJ (Jn c0 fun c l=>∃G_,Own c G_ (F)∧l= [(0,v1),(1,I n)]∧Rel c g2 G_) ?_ ?_)
 ·refine sr (va (v1) (bn g fun b3 h7 g=>?_));obtain ⟨s,rfl,h6⟩:=(t).get h7;refine va (Q s) (va (Qo s 1) (va (Qo s 3) (bn g fun i3 h8 g=>?_)));obtain ⟨v9,e1,z2⟩:=Rel.open_place_Pen X h8 h6;refine vx (le1 3 u_4 (T.gon e1 0 rfl)) (wln (cn g (fun f1 g=>?_) (fun f1 g=>?_)))
  ·refine W.region (va (Q s) (bn g fun n3 g1 g=>cl (ph T X u t g1) ?_));rintro v19 w0 c3 ⟨h0,l0,t0,rfl⟩;refine wln ?_;obtain rfl:=si g;exact jn w0 ⟨h0,l0,rfl,t0⟩
  refine W.skip (nrm ?_);obtain rfl:=si g;exact jn c0 ⟨G,T,rfl,X⟩
 rintro e_ w_ ⟨v2,x2,_,rfl,b2,rfl,f,x,rfl,i⟩;refine sr (va (v1) (bn d fun p2 h1 d=>?_));obtain ⟨a,rfl,E⟩:=((t.mono b2)).get h1;refine vv (Q a) (bn d fun b i1 d=>?_);obtain ⟨v30,h,q⟩:=Rel.open_place_Pen i i1 E;refine vx (le1 0 iZ (x.gon h 0 rfl)) (bn d fun e j1 d=>cl (cG x i b.G q j1) ?_);rintro v39 p N ⟨o,rfl⟩;refine vv (I (w64 (e - 1))) (wln (W.block (W.seq (bn d fun a0 M d=>W.join (Jn p fun c l=>Own c f (F)∧l= [(0,Q a),(4,I (w64 (e - 1))),(27,B a0)]) ?_ ?_))))
 ·clear d;refine W.region (va (I n) (va (B (n==1)) ?_));rcases bo (n==1) with k | k
  ·obtain rfl:=orT k M;exact vb k (pz (pz (pz (ps (vv (B true) (wln (jn p ⟨o,rfl⟩)))))))
  have k0:=orF k M;refine vb k (wa (Q a) (wa (Q a) (wa (Qo a 1) (wa (Qo a 2) (wn (vx (le1 2 u_3 (o.gon h 0 rfl)) (wa (I (w64 (e - 1))) (wa (B (decide (b.At.Col < (w64 (e - 1))))) ?_))))))));obtain rfl:=si k0;exact vv (B (decide (b.At.Col < (w64 (e - 1))))) (wln (jn p ⟨o,rfl⟩))
 rintro e_ w_ ⟨x0,y2,_,rfl,P,rfl,j,rfl⟩;refine nrm (cn d (fun k1 d=>?_) (fun k1 d=>?_))
 ·refine W.ret (bkr ?_);obtain rfl:=si d;exact r0 (qq x0 ⟨f,j,i.m,rfl⟩)
 refine sr (vv (Q a) (va (Qo a 4) (vx (le1 4 u_4 (j.gon h 0 rfl)) (va (B b.Auto) (wln (cn d (fun m1 d=>?_) (fun m1 d=>?_)))))))
 ·refine W.seq (rD [12] (Kp f []) j ?_);intro y0 d3 y;have S:Kp f [] y0:=(Kp.nil y);refine ta 0 (Q a) (ta 1 (Q a) (ta 2 (Q a) (tkx 3 S (fun c' z1 hk=>le1 0 iZ (hk.gon h 0 rfl)) (ta 4 (Q a) (ta 5 (Q a) (ta 6 (Qo a 1) (ta 7 (Qo a 1) (tkx 8 S (fun c' z1 hk=>le1 1 u_3 (hk.gon h 0 rfl)) (ta 10 (I (w64 (e - 1))) (bn d fun e0 n1 d=>o1 9 (gc 9 (cL y i.m b.G b.At.Row q.m n1) ?_)))))))))));rintro v55 z0 e3 ⟨_,z,rfl,q1⟩;have d2:Kp f [] z0:=(Kp.nil z);refine ⟨.inr d2,bn d fun f0 s1 d=>o1 11 (gc 11 (jM z 1 s1) ?_)⟩;rintro k3 a1 f3 ⟨_,j3,A,rfl,t1⟩;have e2:Kp f [] a1:=(Kp.nil A);refine ⟨.inr e2,?_⟩;obtain ⟨b1,w1,c2,D,u1⟩:=A.frz 0 rfl t1;have f2:Kp f [] b1:=(Kp.nil D);refine AC.gh w1 c2 (fun _=>f2) (bn d fun s2 x1 d=>o1 12 (gc 12 (jA D i.m (hG.m.le (by decide)) e0 (w64 (e - 1)) f0 q1.m u1 x1) ?_));rintro l3 w2 g3 ⟨_,u2,m0,u0,rfl,a3⟩;refine ⟨.inl rfl,dn (nrm (W.region (va (Q a) (bn d fun t2 y1 d=>cl (ph m0 u0 u t.m y1) ?_))))⟩;rintro m3 c1 h3 ⟨i0,o0,v0,rfl⟩;refine WL.nil (bkn ?_);obtain rfl:=si d;have q0:=o0.sD 1 [];exact n0 (qq c1 ⟨i0,q0,v0,rfl⟩)
 refine W.region (vv (Q a) (va (Qo a 1) (va (Qo a 2) (vx (le1 2 u_3 (j.gon h 0 rfl)) (va (I (w64 (b.At.Col - 1))) (va (Q a) (va (Qo a 1) (va (Qo a 2) (md (gC 3 2 (I (w64 (b.At.Col - 1))) [v30,I b.At.Row,I (w64 (b.At.Col - 1)),B b.At.Pending,B b.Auto] 0 j h ⟨rfl,trivial⟩) ?_)))))))));rintro d1 R s0;refine bn d fun g0 b0 d=>?_;obtain ⟨j0,U,Z,l2,i2⟩:=Rel.put_place_Pen s0 (i.mono (N.trans (P.trans R))) (E':=[(Eb a 57 [v30,I b.At.Row,I (w64 (b.At.Col - 1)),B b.At.Pending,B b.Auto])]) b0 ⟨a,v30,(tm E),rfl,(q.mono (N.trans (P.trans R)))⟩;refine WL.nil (bkn ?_);obtain rfl:=si d;exact n0 (qq d1 ⟨j0,U,Z,rfl⟩)
def kj (p0:aj) (p1:Int) (p2:Int) (p3:Bool):Option (aj):=
 (fH p2).bind fun a=>
 if (decide (p0.Col < (w64 (a - (aS 1 (aM p1 2))))))=true then
 some (⟨p0.Row,(w64 (p0.Col+(aS 1 (aM p1 2)))),false⟩:aj)
 else
 some (⟨p0.Row,(w64 (a - 1)),p3⟩:aj)
theorem wY (s:Own c0 G F) (a:aj) (b:Int) (h:Int) (e:Bool) {r:aj} (H:kj a b h e=some r): Calls prog 253 #[.agg #[I a.Row,I a.Col,B a.Pending],I b,I h,B e] c0.w (aO c0 fun c v=>Own c G (F)∧v= .agg #[I r.Row,I r.Col,B r.Pending]):=by
 unfold kj at H;refine en func253 rfl rfl (sr (me (bx 55 [I a.Row,I a.Col,B a.Pending] s) ?_));rintro v5 E N ⟨f,rfl,t,g⟩;refine me (al 55 [I 0,I 0,B false] t) ?_;rintro v9 M P ⟨D,rfl,u⟩;refine wln (sr (va (I b) (va (I (aM b 2)) (va (I (aS 1 (aM b 2))) (va (I h) (bn H fun d p H=>cl (mF u h p) ?_))))));rintro v16 x y ⟨i,rfl⟩;refine va (I (aS 1 (aM b 2))) (va (I d) (wln (W.seq (sr (va (Qo f (0+1)) (vx (l1 u_3 ((mm g) 1 _ rfl)) (va (I d) (va (I (aS 1 (aM b 2))) (va (I (w64 (d - (aS 1 (aM b 2))))) (va (B (decide (a.Col < (w64 (d - (aS 1 (aM b 2))))))) (wln (cn H (fun q H=>?_) (fun q H=>?_)))))))))))))
 ·refine sr (va (Q f) (vx (l1 u_3 ((mm g) 0 _ rfl)) (va (Qo f (0+1)) (vx (l1 u_3 ((mm g) 1 _ rfl)) (va (I (aS 1 (aM b 2))) (va (I (w64 (a.Col+(aS 1 (aM b 2))))) (va (.agg #[I a.Row,I (w64 (a.Col+(aS 1 (aM b 2)))),B false]) (md (sA 55 [I a.Row,I (w64 (a.Col+(aS 1 (aM b 2)))),B false] 0 i ⟨rfl,rfl,rfl,trivial⟩) ?_))))))));rintro l z j;refine wln (W.ret (thr ?_));obtain rfl:=si H;have n:=j.sD 1 [];exact uV (c:=l) (vs:=[I a.Row,I (w64 (a.Col+(aS 1 (aM b 2)))),B false]) rfl (by kernel_rfl) (by kernel_rfl) (by kernel_rfl) (j.on 0 rfl _ rfl).1 ⟨_,l,rfl,rfl,pt,n,rfl⟩
 refine W.skip (nrm (sr (va (Q f) (vx (l1 u_3 ((mm g) 0 _ rfl)) (va (I d) (va (I (w64 (d - 1))) (va (B e) (va (.agg #[I a.Row,I (w64 (d - 1)),B e]) (md (sA 55 [I a.Row,I (w64 (d - 1)),B e] 0 i ⟨rfl,rfl,rfl,trivial⟩) ?_)))))))));rintro m A k;refine wln (W.ret ?_);obtain rfl:=si H;have o:=k.sD 1 [];exact uV (c:=m) (vs:=[I a.Row,I (w64 (d - 1)),B e]) rfl (by kernel_rfl) (by kernel_rfl) (by kernel_rfl) (k.on 0 rfl _ rfl).1 ⟨_,m,rfl,rfl,pt,o,rfl⟩
def ib (sg:Sto) (p0:Option Nat) (p1:Int) (p2:List Int):Option (Sto×aj):=
 (fU sg p0).bind fun d=>
 if (!d.2)=true then
 some (d.1,(⟨0,0,false⟩:aj))
 else
 ((p0).bind fun i=>
 (d.1.place_Pen[i]?).bind fun j=>
 (bV d.1 j.G).bind fun k=>
 if (decide ((aS 1 (aM p1 2)) > k))=true then
 some (1,([65533]:List Int))
 else
 some ((aS 1 (aM p1 2)),p2)).bind fun c=>
 (iO d.1 p0 c.1).bind fun f=>
 (p0).bind fun e=>
 (f.place_Pen[e]?).bind fun a=>
 (bB f a.G a.At.Row).bind fun l=>
 (lc f l a.At.Col c.1 c.2).bind fun g=>
 (g.1.place_Pen[e]?).bind fun b=>
 (bV g.1 b.G).bind fun m=>
 (kj (⟨a.At.Row,a.At.Col,false⟩:aj) c.1 m b.Auto).bind fun n=>
 (g.1.set_place_Pen e (⟨b.G,n,b.Auto⟩:bf)).bind fun h=>
 some (h,(⟨a.At.Row,a.At.Col,false⟩:aj))
theorem pR (O0:Own c0 G F) (R0:Rel c0 sg G) (hG:Gl [3,5] c0) (p0:Option Nat) (o:Int) (p2:List Int) {r:Sto×aj} (h2:Pt 2 c0 v1 p0) (h4:Sl (RI .i32) c0 v3 p2) (H:ib sg p0 o p2=some r): Calls prog 224 #[v1,I o,v3] c0.w (aO c0 fun c v=>∃G_:Gm,Own c G_ (F)∧Rel c r.1 G_∧v= .agg #[I r.2.Row,I r.2.Col,B r.2.Pending]):=by
 unfold ib at H;refine en func224 rfl rfl (sr (me (al 55 [I 0,I 0,B false] O0) ?_));rintro v8 c7 l7 ⟨b5,rfl,O6⟩;refine wln (W.seq (sr (va (v1) (bn H fun u3 h9 H=>cl (oa O6 R0.m p0 h2.m h9) ?_))));rintro v15 e2 u0 ⟨j0,R,P,rfl⟩;refine va (B (!u3.2)) (wln (cn H (fun n2 H=>?_) (fun n2 H=>?_)))
 ·refine sr (va (.agg #[I 0,I 0,B false]) (md (sA 55 [I 0,I 0,B false] 0 R ⟨rfl,rfl,rfl,trivial⟩) ?_));rintro t0 s4 k0;refine wln (W.ret (thr ?_));obtain rfl:=si H;have u1:=k0.sD 1 [];exact uV (c:=t0) (vs:=[I 0,I 0,B false]) rfl (by kernel_rfl) (by kernel_rfl) (by kernel_rfl) (k0.on 0 rfl _ rfl).1 ⟨_,t0,rfl,rfl,pt,j0,u1,P.m,rfl⟩
 refine W.skip (nrm (sr (va (I o) (va (I (aM o 2)) (vv (I (aS 1 (aM o 2))) (wln (bn H fun f g d=>W.seqJ (Jn e2 fun c l=>∃v22,Own c j0 ((Eb b5 55 [I 0,I 0,B false]) :: F)∧l= [(0,v1),(1,I f.1),(2,v22),(6,Q b5)]∧Sl (RI .i32) c v22 f.2) ?_ ?_)))))))
 ·refine sr (va (I (aS 1 (aM o 2))) (va (v1) (bn g fun f4 q2 g=>?_)));obtain ⟨s0,rfl,o2⟩:=((h2.mono (l7.trans u0))).get q2;refine vv (Q s0) (bn g fun j1 s2 g=>?_);obtain ⟨v27,u2,t2⟩:=Rel.open_place_Pen P s2 o2;refine vx (le1 0 iZ (R.gon u2 0 rfl)) (bn g fun n1 v2 g=>cl (cG R P j1.G t2 v2) ?_);rintro v36 f2 t4 ⟨l0,rfl⟩;refine va (B (decide ((aS 1 (aM o 2)) > n1))) (wln (cn g (fun w2 g=>?_) (fun w2 g=>?_)))
  ·refine W.region (me (sl (RI .i32) 21 [[J 65533]] ([65533]:List Int) l0 ⟨rfl,trivial⟩) ?_);rintro v42 n4 u4 ⟨w4,w1,x2⟩;refine va (I 1) (va (v42) (wln ?_));obtain rfl:=si g;obtain ⟨g2,z2,v4,x1,y2⟩:=w1.frz 0 rfl x2;have y1:=x1.sD 2 [1];exact ⟨g2,_,_,z2.symm,pt,us,v42,y1,rfl,y2⟩
  refine W.skip (nrm ?_);obtain rfl:=si g;exact jn f2 ⟨v3,l0,rfl,h4.m⟩
 rintro e_ w_ ⟨o4,q4,_,rfl,i3,rfl,v22,z1,rfl,a3⟩;refine sr (va (v1) (va (I f.1) (bn d fun l4 b3 d=>cl (um z1 P.m (hG.m.le (by decide)) p0 f.1 h2.m b3) ?_)));rintro x4 p4 j3 ⟨j,b2,Z,rfl⟩;refine wln (W.seq (rD [] (Kp j []) b2 ?_));intro i2 v0 m0;have w0:Kp j [] i2:=(Kp.nil m0);refine ta 0 (v1) (bn d fun g4 c3 d=>?_);obtain ⟨b,rfl,e0⟩:=((h2.mono (l7.trans (u0.trans (i3.trans (j3.trans v0)))))).get c3;refine ta 1 (Q b) (ta 2 (Qo b 1) (ta 3 (Qo b 1) (bn d fun a d3 d=>?_)));obtain ⟨y4,f0,e3⟩:=Rel.open_place_Pen (Z.mono v0) d3 e0;refine tkx 4 w0 (fun u k h=>le1 1 u_3 (h.gon f0 0 rfl)) (ta 5 (Q b) (ta 6 (Q b) (ta 7 (Qo b 1) (ta 8 (Qo b 2) (tkx 9 w0 (fun u k h=>le1 2 u_3 (h.gon f0 0 rfl)) (ta 10 (.agg #[I a.At.Row,I a.At.Col,B false]) (o1 11 (gm 11 (al 55 [I 0,I 0,B false] m0) ?_))))))));rintro z4 j2 l3 ⟨i,rfl,o0⟩;have q3:Kp j [] j2:=(Kp.nil o0);refine ⟨.inr q3,o1 12 (gD 12 (sA 55 [I a.At.Row,I a.At.Col,B false] 0 o0 ⟨rfl,rfl,rfl,trivial⟩) ?_)⟩;rintro k2 m3 q0;have s3:Kp j [] k2:=(Kp.nil q0);refine ⟨.inr s3,dn (nrm (W.seq (rD [11] (Kp j [(Eb i 55 [I a.At.Row,I a.At.Col,B false])]) q0 ?_)))⟩;intro l2 n3 U;have g0:Kp j [(Eb i 55 [I a.At.Row,I a.At.Col,B false])] l2:=(Kp.cons (U.on 0 rfl) (Kp.nil U));refine ta 0 (Q b) (ta 1 (Q b) (ta 2 (Q b) (tkx 3 g0 (fun u k h=>le1 0 iZ (h.gon f0 0 rfl)) (ta 4 (Q i) (tkx 5 g0 (fun u k h=>le1 0 u_3 (h.on 0 rfl)) (ta 7 (Qo i 1) (tkx 8 g0 (fun u k h=>le1 1 u_3 (h.on 0 rfl)) (ta 9 (I f.1) (ta 10 (v22) (bn d fun q1 f3 d=>o1 6 (gc 6 (cL U Z.m a.G a.At.Row e3.m f3) ?_)))))))))));rintro a5 m2 o3 ⟨_,X,rfl,g3⟩;have t3:Kp j [(Eb i 55 [I a.At.Row,I a.At.Col,B false])] m2:=(Kp.cons (X.on 0 rfl) (Kp.nil X));refine ⟨.inr t3,bn d fun m4 h3 d=>o1 11 (gc 11 (wU X Z.m (hG.m.le (by decide)) q1 a.At.Col f.1 f.2 g3 a3.m h3) ?_)⟩;rintro c5 a4 i1 ⟨_,N,c2,a0,rfl,r4⟩;refine ⟨.inl rfl,dn (nrm (W.seq (rD [15] (Kp N [(Eb i 55 [I a.At.Row,I a.At.Col,B false])]) c2 ?_)))⟩;intro b1 y p;have E:Kp N [(Eb i 55 [I a.At.Row,I a.At.Col,B false])] b1:=(Kp.cons (p.on 0 rfl) (Kp.nil p));refine ta 0 (Q b) (tkx 1 E (fun u k h=>leN 55 0 [I a.At.Row,I a.At.Col,B false] (h.on 0 rfl)) (ta 2 (I f.1) (ta 3 (Q b) (ta 4 (Q b) (ta 5 (Q b) (bn d fun n e1 d=>?_))))));obtain ⟨M,x,d0⟩:=Rel.open_place_Pen (a0.mono y) e1 (tm e0);refine tkx 6 E (fun u k h=>le1 0 iZ (h.gon x 0 rfl)) (ta 8 (Q b) (ta 9 (Q b) (ta 10 (Qo b 4) (tkx 11 E (fun u k h=>le1 4 u_4 (h.gon x 0 rfl)) (bn d fun s1 f1 d=>o1 7 (gc 7 (cG p a0.m n.G d0 f1) ?_))))));rintro j4 c1 z ⟨q,rfl⟩;have k1:Kp N [(Eb i 55 [I a.At.Row,I a.At.Col,B false])] c1:=(Kp.cons (q.on 0 rfl) (Kp.nil q));refine ⟨.inr k1,bn d fun e g1 d=>o1 12 (gc 12 (wY q (⟨a.At.Row,a.At.Col,false⟩:aj) f.1 s1 n.Auto g1) ?_)⟩;rintro k4 d1 A ⟨s,rfl⟩;have m1:Kp N [(Eb i 55 [I a.At.Row,I a.At.Col,B false])] d1:=(Kp.cons (s.on 0 rfl) (Kp.nil s));refine ⟨.inr m1,ta 13 (Q b) (ta 14 (Qo b 1) (o1 15 (gD 15 (gB 55 1 [I e.Row,I e.Col,B e.Pending] [M,I e.Row,I e.Col,B e.Pending,B n.Auto] 0 s x ⟨rfl,rfl,rfl,trivial⟩) ?_)))⟩;rintro b4 D y0;refine bn d fun t1 h1 d=>?_;obtain ⟨x0,S,a1,c4,z3⟩:=Rel.put_place_Pen y0 (a0.mono (y.trans (z.trans (A.trans D)))) (E':=[(Eb b 57 [M,I e.Row,I e.Col,B e.Pending,B n.Auto])]) h1 ⟨b,M,((l3.trans (m3.trans (n3.trans (o3.trans (i1.trans (y.trans (z.trans (A.trans D)))))))).t _ _ _ e0),rfl,(d0.mono (z.trans (A.trans D)))⟩;refine ⟨.inl rfl,dn (nrm (sr (vx (leN 55 0 [I a.At.Row,I a.At.Col,B false] (S.on 0 rfl)) (md (sA 55 [I a.At.Row,I a.At.Col,B false] 1 S ⟨rfl,rfl,rfl,trivial⟩) ?_))))⟩;rintro b0 i4 T;refine wln (W.ret ?_);obtain rfl:=si d;have z0:=T.sD 2 [];exact uV (c:=b0) (vs:=[I a.At.Row,I a.At.Col,B false]) rfl (by kernel_rfl) (by kernel_rfl) (by kernel_rfl) (T.on 1 rfl _ rfl).1 ⟨_,b0,rfl,rfl,pt,x0,z0,a1.m,rfl⟩
end Go.Proofs.YtceciacilfhmjaaGreatDoor
namespace Go.Proofs.YtceciacilfhmjaaGreatDoor
open Go Go.Lt
set_option maxRecDepth 10000
set_option linter.unusedVariables false
attribute [local irreducible] W WL AC
theorem tn {Q:Program} (w:World) (dT sT ty E:TypeId) (g o dLen dCap:Nat) (a:Addr) (sLen sCap n size:Nat) (us vs:List Value) (T:TypeId)
  (hu:Q.underlying dT=some (.slice E)) (hs:(Q.info? E).map (·.size)=some size) (hn:Nat.min sLen dLen=n) (hul:us.length=n * size)
  (hsrc:∀j v,us[j]? = some v→w.cell? (a.add j)=some v) (hrow:w.heap[g]? = some (.cells vs.toArray T (0,0))) (hl:o+us.length≤vs.length) (h1:∀v∈us,v.oneCell'=true):
  (Builtin.copy_ #[dT,sT] ty #[.slice (some ⟨g,o,none⟩) dLen dCap,.slice (some a) sLen sCap]).run Q w= .ok (goInt n) (w.setRow g (vs.take o++us++vs.drop (o+us.length)).toArray):=by
 obtain ⟨i,hi,hsz⟩:=Option.map_eq_some_iff.1 hs;have hf:=Lf (P:=Q) (w:=w) size n a sLen sCap us hul hsrc;have hst:=zY Q g o T us 0 vs.toArray w hrow (by simpa using hl) h1;simp only [nN] at hst;simp [Builtin.copy_,aY hu,Builtin.lenOf,sizeOf,typeInfo,hi,hsz,hn,hf,hst]
set_option maxHeartbeats 4000000 in
set_option maxRecDepth 100000 in
theorem DU {w:World} {g n cap i vb m vc:Nat} {vs us vs2:List Value} {T T2:TypeId} (hrow:w.heap[g]? = some (.cells vs.toArray T (0,0))) (hrow2:w.heap[vb]? = some (.cells vs2.toArray T2 (0,0)))
  (hi:i < n) (hm:0 < m) (hroom:n+m≤cap) (hcap:cap * 2≤vs.length) (hc63:cap≤9223372036854775807) (hvb:vb≠g) (hul:us.length=m * 2) (hus:∀(j:Nat) (v:Value),us[j]? = some v→vs2[j]? = some v)
  (h1:∀v∈vs.take (n * 2),v.oneCell'=true) (h2:∀v∈us,v.oneCell'=true):
  Calls Tryz.prog 198 #[.slice (some ⟨g,0,none⟩) n cap,.int .i64 i,.slice (some ⟨vb,0,none⟩) m vc] w fun e w'=>
   e= .returned (.slice (some ⟨g,0,none⟩) (n+m) cap)∧w'=(w.drew.setRow g (vs.take ((i+m) * 2)++(vs.drop (i * 2)).take ((n - i) * 2)++vs.drop ((n+m) * 2)).toArray).setRow g (vs.take (i * 2)++us++(vs.drop (i * 2)).take ((n - i) * 2)++vs.drop ((n+m) * 2)).toArray:=by
 have hsz:(Tryz.prog.info? 104).map (·.size)=some 2:=by kernel_rfl
 have hov:∀lb cb,(callFunc 228 #[.slice (some ⟨vb,0,none⟩) m vc,.slice (some ⟨g,(i+m) * 2,none⟩) lb cb]).run Tryz.prog w= .ok (.value (.bool false)) w:=fun lb cb=>by
  rw [cI Tryz.func228 (by kernel_rfl) (by kernel_rfl) (by kernel_rfl) (e:=Extern.SlicesOverlaps.overlaps #[99,99] #[4]) (by kernel_rfl)];rw [Lib.run_overlaps_apart w 99 4 104 Tryz.underlying99 2 (fun w=>by kernel_rfl) ⟨vb,0,none⟩ ⟨g,(i+m) * 2,none⟩ m vc lb cb hvb T2 T vs2.length vs.length (by simp [World.shape?,hrow2]) (by simp [World.shape?,hrow]) (by omega) (by simp [World.frozen?,hrow2]) (by simp [World.frozen?,hrow2])];rfl
 have hdl:((vs.drop (i * 2)).take ((n - i) * 2)).length=(n - i) * 2:=by rw [av,aN]; omega
 have hcp1:∀ty dc sc,(Builtin.copy_ #[99,99] ty #[.slice (some ⟨g,(i+m) * 2,none⟩) (n+m - (i+m)) dc,.slice (some ⟨g,i * 2,none⟩) (n+m - i) sc]).run Tryz.prog w.drew= .ok (goInt ((n - i:Nat):Int)) (w.drew.setRow g (vs.take ((i+m) * 2)++(vs.drop (i * 2)).take ((n - i) * 2)++vs.drop ((n+m) * 2)).toArray):=fun ty dc sc=>by
  have:=tn (Q:=Tryz.prog) w.drew 99 99 ty 104 g ((i+m) * 2) (n+m - (i+m)) dc ⟨g,i * 2,none⟩ (n+m - i) sc (n - i) 2 ((vs.drop (i * 2)).take ((n - i) * 2)) vs T Tryz.underlying99 hsz (by simp only [Dd]; split <;> omega) hdl
   (fun j v hj=>by
    rw [dp];rw [aK] at hj;split at hj
    ·rw [bH] at hj;rw [fg w.drew g (i * 2+j) vs.toArray T (0,0) hrow,bj];exact hj
    ·cases hj) hrow (by rw [hdl]; omega) (fun v hv=>h1 v (by rw [show (n - i) * 2=n * 2 - i * 2 by omega,←gN] at hv; exact jD hv))
  rw [hdl,show (i+m) * 2+(n - i) * 2=(n+m) * 2 by omega] at this;exact this
 obtain ⟨W1,hW1⟩:∃W1,W1=w.drew.setRow g (vs.take ((i+m) * 2)++(vs.drop (i * 2)).take ((n - i) * 2)++vs.drop ((n+m) * 2)).toArray:=⟨_,rfl⟩;have hr1:W1.heap[g]? = some (.cells (vs.take ((i+m) * 2)++(vs.drop (i * 2)).take ((n - i) * 2)++vs.drop ((n+m) * 2)).toArray T (0,0)):=by
  rw [hW1];exact CC w.drew g vs.toArray _ T (0,0) hrow
 have hr2:W1.heap[vb]? = some (.cells vs2.toArray T2 (0,0)):=by
  rw [hW1,Jc w.drew g vb _ hvb];exact hrow2
 have hA2:(vs.take ((i+m) * 2)++(vs.drop (i * 2)).take ((n - i) * 2)++vs.drop ((n+m) * 2)).take (i * 2)=vs.take (i * 2):=by
  rw [aD,eu (by rw [av]; omega),iS,cH (by omega)]
 have hA3:(vs.take ((i+m) * 2)++(vs.drop (i * 2)).take ((n - i) * 2)++vs.drop ((n+m) * 2)).drop (i * 2+m * 2)=(vs.drop (i * 2)).take ((n - i) * 2)++vs.drop ((n+m) * 2):=by
  have hl:(vs.take ((i+m) * 2)).length=i * 2+m * 2:=by rw [av]; omega
  rw [aD,←hl,eJ]
 have hcp2:∀ty dc,(Builtin.copy_ #[99,99] ty #[.slice (some ⟨g,i * 2,none⟩) (n+m - i) dc,.slice (some ⟨vb,0,none⟩) m vc]).run Tryz.prog W1= .ok (goInt m) (W1.setRow g (vs.take (i * 2)++us++(vs.drop (i * 2)).take ((n - i) * 2)++vs.drop ((n+m) * 2)).toArray):=fun ty dc=>by
  have:=tn (Q:=Tryz.prog) W1 99 99 ty 104 g (i * 2) (n+m - i) dc ⟨vb,0,none⟩ m vc m 2 us _ T Tryz.underlying99 hsz (by simp only [Dd]; split <;> omega) hul
   (fun j v hj=>by
    rw [dp,fg W1 vb (0+j) vs2.toArray T2 (0,0) hr2,bj,ep];exact hus j v hj) hr1 (by simp only [ag,av,aN]; omega) h2
  rw [hul,hA2,hA3,←aD] at this;exact this
 rw [←hW1] at hcp1⊢;have hw1:IntKind.i64.wrap ((i:Int)+(m:Int))=(i:Int)+(m:Int):=by rw [Cm]; omega
 have hb1:(0:Int)≤(i:Int)+(m:Int):=by omega
 have hin:i≤n:=by omega
 have hz1:¬((m:Int)=0):=by omega
 have hz2:¬((i:Int)=(n:Int)):=by omega
 have htn:((i:Int)+(m:Int)).toNat=i+m:=by omega
 have hb2:¬(cap=i+m):=by omega
 have hb3:(i:Int)≤(n:Int)+(m:Int):=by omega
 have hb4:¬(cap=i):=by omega
 have mixed:Tryz.prog.follows Departure.mixedOrders=true:=by kernel_rfl
 clear hA2 hA3 hr1 hr2 hW1 hdl h1 h2 hus hul
 go_enter Tryz.func198,Tryz.ntmps198
 go_wp2_with (simp only [hov])
 go_region_law_o (refine step_copy_runI rfl _ _ 99 99 rfl _ _ (by simp [Act.eval,Act.put]) (by simp [Act.eval,Act.put]) (hcp1 _ _ _) ?_)
 go_wp2_with (at_builtin; refine wpList_copy_runI _ rfl _ _ 99 99 rfl _ _ rfl rfl (hcp2 _ _) ?_)
 go_ret
 exact ⟨rfl,by simp only [aD]⟩
def nR (k:Nat):List Value:=(Builtin.zeroCells (Value.agg #[.int .i64 0,.slice none 0 0]).cells k).toList
theorem oS (k:Nat):(nR k).length=k * 2:=by
 unfold nR;rw [xL,pO];rfl
set_option maxHeartbeats 4000000 in
set_option maxRecDepth 100000 in
theorem FO {w:World} {g n cap i vb m vc:Nat} {vs us vs2:List Value} {T T2:TypeId} (hrow:w.heap[g]? = some (.cells vs.toArray T (0,0))) (hrow2:w.heap[vb]? = some (.cells vs2.toArray T2 (0,0)))
  (hi:i < n) (hm:0 < m) (hnc:n≤cap) (hroom:cap < n+m) (hcap:cap * 2≤vs.length) (hbig:(n+m) * 128≤140737488355328) (hul:us.length=m * 2) (hus:∀(j:Nat) (v:Value),us[j]? = some v→vs2[j]? = some v)
  (h1:∀v∈vs.take (n * 2),v.oneCell'=true) (h2:∀v∈us,v.oneCell'=true):
  Calls Tryz.prog 198 #[.slice (some ⟨g,0,none⟩) n cap,.int .i64 i,.slice (some ⟨vb,0,none⟩) m vc] w fun e w'=>
   e= .returned (.slice (some ⟨w.heap.size,0,none⟩) (n+m) (grownCap w (n+m) cap 104))∧
   w'=(((w.drew.alloc (.cells (vs.take (i * 2)++nR (n+m - i)++nR (grownCap w (n+m) cap 104 - (n+m))).toArray 104)).setRow w.heap.size (vs.take (i * 2)++us++(nR (n+m - i)++nR (grownCap w (n+m) cap 104 - (n+m))).drop (m * 2)).toArray).drew).setRow w.heap.size
    (vs.take (i * 2)++us++(vs.drop (i * 2)).take ((n - i) * 2)++(nR (n+m - i)++nR (grownCap w (n+m) cap 104 - (n+m))).drop ((n+m - i) * 2)).toArray:=by
 have hsz:(Tryz.prog.info? 104).map (·.size)=some 2:=by kernel_rfl
 obtain ⟨ti,hti,hzz⟩:=Option.map_eq_some_iff.1 (show (Tryz.prog.info? 104).map (fun i=>(i.zero,i.size,i.bytes))=some (some (Value.agg #[.int .i64 0,.slice none 0 0]),2,32) by kernel_rfl);simp only [gE] at hzz;obtain ⟨hz0,hz3,hz4⟩:=hzz;have hold:(Builtin.firstCells ti.size i (.slice (some ⟨g,0,none⟩) i cap)).run Tryz.prog w.drew= .ok (vs.take (i * 2)).toArray w.drew:=by
  rw [hz3];exact Lf w.drew 2 i ⟨g,0,none⟩ i cap (vs.take (i * 2)) (by rw [av]; omega) (fun j v hj=>by
   rw [dp,ep,fg w.drew g j vs.toArray T (0,0) hrow,bj];rw [aK] at hj;split at hj
   ·exact hj
   ·cases hj)
 obtain ⟨N,hN⟩:∃N,N=w.heap.size:=⟨_,rfl⟩;obtain ⟨Gc,hGc⟩:∃Gc,Gc=grownCap w (n+m) cap 104:=⟨_,rfl⟩;obtain ⟨Zs,hZs⟩:∃Zs,Zs=nR (n+m - i)++nR (Gc - (n+m)):=⟨_,rfl⟩;have hZl:Zs.length=(n+m - i) * 2+(Gc - (n+m)) * 2:=by rw [hZs,ag,oS,oS]
 obtain ⟨W2,hW2⟩:∃W2,W2=w.drew.alloc (.cells (vs.take (i * 2)++Zs).toArray 104):=⟨_,rfl⟩;have hkk:(n:Int)+(m:Int) - (i:Int)=((n+m - i:Nat):Int):=by omega
 have hrz:∀ty,(Builtin.append_ #[99,3] ty #[.slice (some ⟨g,0,none⟩) i cap,.int .i64 ((n:Int)+(m:Int) - (i:Int))]).run Tryz.prog w= .ok (.slice (some ⟨N,0,none⟩) (n+m) Gc) W2:=fun ty=>by
  have h:=Lib.run_append_grow_zeros (P:=Tryz.prog) w 99 3 ty 104 ti _ .i64 .i64 Tryz.underlying99 Tryz.underlying3 hti hz0 (some ⟨g,0,none⟩) i cap (vs.take (i * 2)) hold (n+m - i) (by omega) (by omega) (by omega) (by omega) (by rw [hz4]; omega) (by rw [hz4,show i+(n+m - i)=n+m by omega]; exact FT hroom (by omega));rw [show i+(n+m - i)=n+m by omega] at h;rw [hkk,hN,hGc,hW2,h,hZs,←hGc]
  congr 3
  rw [←aD];apply LJ;simp [nR]
 have hNg:g < N:=by rw [hN]; exact (Array.getElem?_eq_some_iff.1 hrow).1
 have hNv:vb < N:=by rw [hN]; exact (Array.getElem?_eq_some_iff.1 hrow2).1
 have r2N:W2.heap[N]? = some (.cells (vs.take (i * 2)++Zs).toArray 104 (0,0)):=by
  rw [hW2,hN];exact qv w.drew _
 have r2g:W2.heap[g]? = some (.cells vs.toArray T (0,0)):=by
  rw [hW2,bM w.drew _ g (by rw [hN] at hNg; exact hNg)];exact hrow
 have r2v:W2.heap[vb]? = some (.cells vs2.toArray T2 (0,0)):=by
  rw [hW2,bM w.drew _ vb (by rw [hN] at hNv; exact hNv)];exact hrow2
 have ht:(vs.take (i * 2)).length=i * 2:=by rw [av]; omega
 have hGe:n+m≤Gc:=by rw [hGc]; exact wA w _ _ _
 obtain ⟨W3,hW3⟩:∃W3,W3=W2.setRow N (vs.take (i * 2)++us++Zs.drop (m * 2)).toArray:=⟨_,rfl⟩;have hcpA:∀ty dc,(Builtin.copy_ #[99,99] ty #[.slice (some ⟨N,i * 2,none⟩) (n+m - i) dc,.slice (some ⟨vb,0,none⟩) m vc]).run Tryz.prog W2= .ok (goInt m) W3:=fun ty dc=>by
  have:=tn (Q:=Tryz.prog) W2 99 99 ty 104 N (i * 2) (n+m - i) dc ⟨vb,0,none⟩ m vc m 2 us _ 104 Tryz.underlying99 hsz (by simp only [Dd]; split <;> omega) hul
   (fun j v hj=>by
    rw [dp,fg W2 vb (0+j) vs2.toArray T2 (0,0) r2v,bj,ep];exact hus j v hj) r2N (by simp only [ag,ht,hZl]; omega) h2
  rw [hul,eu (by omega),aJ (by omega),←de,List.drop_left' ht] at this;rw [hW3];exact this
 have r3N:W3.heap[N]? = some (.cells (vs.take (i * 2)++us++Zs.drop (m * 2)).toArray 104 (0,0)):=by
  rw [hW3];exact CC W2 N _ _ _ (0,0) r2N
 have r3g:W3.heap[g]? = some (.cells vs.toArray T (0,0)):=by
  rw [hW3,Jc W2 N g _ (by omega)];exact r2g
 have hcpB:∀ty dc sc,(Builtin.copy_ #[99,99] ty #[.slice (some ⟨N,(i+m) * 2,none⟩) (n+m - (i+m)) dc,.slice (some ⟨g,i * 2,none⟩) (n - i) sc]).run Tryz.prog W3.drew= .ok (goInt ((n - i:Nat):Int)) (W3.drew.setRow N (vs.take (i * 2)++us++(vs.drop (i * 2)).take ((n - i) * 2)++Zs.drop ((n+m - i) * 2)).toArray):=fun ty dc sc=>by
  have hdl:((vs.drop (i * 2)).take ((n - i) * 2)).length=(n - i) * 2:=by rw [av,aN]; omega
  have hau:(vs.take (i * 2)++us).length=(i+m) * 2:=by rw [ag,ht,hul]; omega
  have:=tn (Q:=Tryz.prog) W3.drew 99 99 ty 104 N ((i+m) * 2) (n+m - (i+m)) dc ⟨g,i * 2,none⟩ (n - i) sc (n - i) 2 ((vs.drop (i * 2)).take ((n - i) * 2)) _ 104 Tryz.underlying99 hsz (by simp only [Dd]; split <;> omega) hdl
   (fun j v hj=>by
    rw [dp];rw [aK] at hj;split at hj
    ·rw [bH] at hj;rw [fg W3.drew g (i * 2+j) vs.toArray T (0,0) r3g,bj];exact hj
    ·cases hj) r3N (by rw [hdl,ag,hau,aN,hZl]; omega) (fun v hv=>h1 v (by rw [show (n - i) * 2=n * 2 - i * 2 by omega,←gN] at hv; exact jD hv))
  rw [hdl] at this;rw [this]
  congr 3
  rw [←hau,nO,←de,eJ,de,show m * 2+(n - i) * 2=(n+m - i) * 2 by omega]
 have hN2:w.heap.size=N:=hN.symm;have hG2:grownCap w (n+m) cap 104=Gc:=hGc.symm;rw [hG2,←hZs,show vs.take (i * 2)++nR (n+m - i)++nR (Gc - (n+m))=vs.take (i * 2)++Zs by rw [hZs,aD],hN2,←hW2,←hW3];have hG63:Gc≤9223372036854775807:=by
  have:=nf w (n+m) cap 104 (by unfold maxLen; omega);rw [←hGc] at this;unfold maxLen at this;omega
 have hGi:¬(Gc=i):=by omega
 have hGim:¬(Gc=i+m):=by omega
 have hci:¬(cap=i):=by omega
 have hw1:IntKind.i64.wrap ((i:Int)+(m:Int))=(i:Int)+(m:Int):=by rw [Cm]; omega
 have hb1:(0:Int)≤(i:Int)+(m:Int):=by omega
 have hin:i≤n:=by omega
 have htn:((i:Int)+(m:Int)).toNat=i+m:=by omega
 have hb3:(i:Int)≤(n:Int):=by omega
 have hz1:¬((m:Int)=0):=by omega
 have hz2:¬((i:Int)=(n:Int)):=by omega
 have hz5:(cap:Int) < (n:Int)+(m:Int):=by omega
 have mixed:Tryz.prog.follows Departure.mixedOrders=true:=by kernel_rfl
 clear hkk hold hZs hZl hW2 hW3 r2N r2g r2v r3N r3g hN hN2 hG2 hGc ht hti hz0 hz3 hz4 h1 h2 hus hul hNg hNv hrow hrow2
 go_enter Tryz.func198,Tryz.ntmps198
 go_wp2_with (first
  | (at_builtin; refine Lib.wpList_append_run _ rfl _ _ _ _ rfl _ _ rfl rfl _ _ (hrz _) ?_)
  | (at_builtin; refine wpList_copy_runI _ rfl _ _ 99 99 rfl _ _ rfl rfl (hcpA _ _) ?_))
 go_region_law_o (refine step_copy_runI rfl _ _ 99 99 rfl (.slice (some ⟨N,(i+m) * 2,none⟩) (n+m - (i+m)) (Gc - (i+m))) (.slice (some ⟨g,i * 2,none⟩) (n - i) (cap - i)) (by simp [Act.eval,Act.put]) (by simp [Act.eval,Act.put]) (hcpB _ _ _) ?_)
 go_wp2
 go_ret
 exact ⟨rfl,by simp only [aD]⟩
section
variable {c c':Cx} {α:Type} {R:Rp α}
theorem _root_.Go.Lt.AR.take {vs:List Value} {xs:List α} (h:AR R c vs xs) (k:Nat):AR R c (vs.take (k * R.size)) (xs.take k):=fun i x hx=>by
 rw [aK] at hx;split at hx
 ·rename_i hik
  have hm:=jv (s:=R.size) hik;rw [gN,iS,cH (by omega)];exact h i x hx
 ·cases hx
theorem _root_.Go.Lt.AR.drop {vs:List Value} {xs:List α} (h:AR R c vs xs) (k:Nat):AR R c (vs.drop (k * R.size)) (xs.drop k):=fun i x hx=>by
 rw [bH] at hx;rw [de,←fh];exact h _ x hx
theorem _root_.Go.Lt.AR.more {vs ts:List Value} {xs:List α} (h:AR R c vs xs) (hl:xs.length * R.size≤vs.length):AR R c (vs++ts) xs:=fun i x hx=>by
 have hi:=(List.getElem?_eq_some_iff.1 hx).1;have hm:=jv (s:=R.size) hi;rw [iH (by omega)];exact h i x hx
theorem _root_.Go.Lt.AR.app {vs us:List Value} {xs ys:List α} (h:AR R c vs xs) (hl:vs.length=xs.length * R.size) (k:AR R c us ys):AR R c (vs++us) (xs++ys):=fun i x hx=>by
 rw [gM] at hx;split at hx
 ·rename_i hi
  have hm:=jv (s:=R.size) hi;rw [iH (by omega)];exact h i x hx
 ·rename_i hi
  rw [show i * R.size=vs.length+(i - xs.length) * R.size by rw [hl,←fh]; congr 1; omega,←de,eJ];exact k _ x hx
theorem _root_.Go.Lt.AR.ones {vs:List Value} {xs:List α} (h:AR R c vs xs) (hp:0 < R.size):∀v∈vs.take (xs.length * R.size),v.oneCell'=true:=fun v hv=>by
 obtain ⟨j,hj⟩:=List.mem_iff_getElem?.1 hv;rw [aK] at hj;split at hj
 ·rename_i hlt
  have hq:j / R.size < xs.length:=by rw [J9 hp]; exact hlt
  have hc:=h _ _ (ah hq);refine R.one hc v (List.mem_iff_getElem?.2 ⟨j % R.size,?_⟩);rw [aK,af (uv _ hp),bH,J3,Nat.div_add_mod];exact hj
 ·cases hj
end
def jy (p0:List aa) (p1:Int) (p2:List aa):Option (List aa):=if 0≤p1∧p1 < p0.length∧1≤p2.length∧p0.length+p2.length≤far then some (p0.take p1.toNat++p2++p0.drop p1.toNat) else none
theorem _root_.Go.Lt.OA.some {c:Cx} {α:Type} {R:Rp α} {v:Value} {vs:List Value} {xs:List α} (h:OA R c v vs xs) (hn:1≤xs.length):∃g cap,v= .slice (some ⟨g,0,none⟩) xs.length cap∧xs.length≤cap∧cap≤maxLen∧cap * R.size≤vs.length∧AR R c vs xs:=by
 rcases h.2.1 with ⟨_,rfl⟩ | ⟨g,cap,h1,h2,h3,h4⟩
 ·simp at hn
 ·exact ⟨g,cap,h1,h2,h3,h4,h.2.2⟩
theorem ve {c0:Cx} {G:Gm} {F:List En} {v0 v2:Value} {u0 u2:List Value} (p0:List aa) (p1:Int) (p2:List aa) (O0:Own c0 G (es true ax v0 104 u0 p0 :: es true ax v2 104 u2 p2 :: F)) (h0:OA ax c0 v0 u0 p0) (h2:OA ax c0 v2 u2 p2) {r:List aa} (H:jy p0 p1 p2=some r): Calls Tryz.prog 198 #[v0,.int .i64 p1,v2] c0.w (aO c0 fun c v=>∃y1:Value,∃y2:List Value,Own c G (es true ax y1 104 y2 r :: F)∧v=y1∧OA ax c y1 y2 r):=by
 unfold jy at H;split at H
 ·rename_i hc;obtain ⟨hc1,hc2,hc3,hc4⟩:=hc;obtain ⟨i,rfl⟩:∃i:Nat,p1=(i:Int):=⟨p1.toNat,by omega⟩;rw [bp] at H;obtain rfl:=aH H;obtain ⟨g,cap,rfl,a1,a2,a3,a4⟩:=h0.some (by omega);obtain ⟨vb,vc,rfl,b1,b2,b3,b4⟩:=h2.some hc3;have hsz:ax.size=2:=rfl;have hon0:=O0.on 0 rfl g rfl;have hon2:=O0.on 1 rfl vb rfl;have hne:vb≠g:=fun e=>O0.m.2 (.inl 0) (.inl 1) _ _ rfl rfl (by simp) g rfl (by rw [←e]; rfl);have o0:=a4.ones (by decide);have o2:=b4.ones (by decide);rw [hsz] at o0 o2 a3 b3;unfold maxLen at a2 b2;unfold far at hc4;have ht0:(u0.take (i * 2)).length=i * 2:=by rw [av]; omega
  have ht2:(u2.take (p2.length * 2)).length=p2.length * 2:=by rw [av]; omega
  have htl:((u0.drop (i * 2)).take ((p0.length - i) * 2)).length=(p0.length - i) * 2:=by rw [av,aN]; omega
  have hus:∀(j:Nat) (v:Value),(u2.take (p2.length * 2))[j]? = some v→u2[j]? = some v:=fun j v hj=>by
   rw [aK] at hj;split at hj
   ·exact hj
   ·cases hj
  have hAR:∀(c:Cx) (ts:List Value),c0.le c→AR ax c (u0.take (i * 2)++u2.take (p2.length * 2)++(u0.drop (i * 2)).take ((p0.length - i) * 2)++ts) (p0.take i++p2++p0.drop i):=fun c ts hle=>by
   have k0:AR ax c (u0.take (i * 2)) (p0.take i):=(a4.take i).mono hle;have k2:AR ax c (u2.take (p2.length * 2)) p2:=by
    have:=(b4.take p2.length).mono hle;rwa [aJ (ao p2.length)] at this
   have k1:AR ax c ((u0.drop (i * 2)).take ((p0.length - i) * 2)) (p0.drop i):=by
    have:=((a4.drop i).take (p0.length - i)).mono hle;rwa [aJ (l:=p0.drop i) (by rw [aN]; exact ao _)] at this
   refine AR.more (AR.app (AR.app k0 ?_ k2) ?_ k1) ?_
   ·rw [ht0,av,cH (by omega),hsz]
   ·rw [ag,ht0,ht2,ag,av,cH (by omega),hsz,fh]
   ·simp only [ag];rw [ht0,ht2,htl,av,aN,cH (by omega),hsz];omega
  have hrl:(p0.take i++p2++p0.drop i).length=p0.length+p2.length:=by
   rw [ag,ag,av,aN];omega
  rcases aR cap (p0.length+p2.length) with hg | hg
  ·refine (FO (vs:=u0) (us:=u2.take (p2.length * 2)) (vs2:=u2) hon0.1 hon2.1 (by omega) (by omega) a1 hg a3 (by omega) ht2 hus o0 o2).mono ?_;rintro e w' ⟨rfl,rfl⟩;obtain ⟨Gc,hGc⟩:∃Gc,Gc=grownCap c0.w (p0.length+p2.length) cap 104:=⟨_,rfl⟩;have hGe:p0.length+p2.length≤Gc:=by rw [hGc]; exact wA _ _ _ _
   have hGm:Gc≤maxLen:=by rw [hGc]; exact nf _ _ _ _ (by unfold maxLen; omega)
   rw [←hGc];obtain ⟨Zs,hZs⟩:∃Zs,Zs=nR (p0.length+p2.length - i)++nR (Gc - (p0.length+p2.length)):=⟨_,rfl⟩;have hZl:Zs.length=(p0.length+p2.length - i) * 2+(Gc - (p0.length+p2.length)) * 2:=by rw [hZs,ag,oS,oS]
   rw [aD (u0.take (i * 2)),←hZs];have hd:=Cx.drew_le c0;obtain ⟨c1,e1,e2,e3,e4,e5⟩:=Cx.new ⟨c0.w.drew,c0.A,c0.t⟩ (u0.take (i * 2)++Zs) 104 0;have O1:=Own.cons (O0.keep hd) e2 (fun _=>id) (e:=⟨.slice (some ⟨c0.w.heap.size,0,none⟩) (p0.length+p2.length) Gc,104,u0.take (i * 2)++Zs,0⟩) (fun b hb=>by
    simp only [bk,az] at hb;subst hb;exact ⟨e3,e5⟩) (fun b hb=>by
    simp only [bk,az] at hb;subst hb;exact ao _)
   obtain ⟨c2,f1,f2,f3,f4⟩:=Cx.row (m:=u0.take (i * 2)++u2.take (p2.length * 2)++Zs.drop (p2.length * 2)) e3 0 e5 (fun o ho=>by omega) 0 (ao _);have O2:=Own.set O1 0 rfl f2 (fun b hb=>by rw [hb]; rfl) (e':=⟨.slice (some ⟨c0.w.heap.size,0,none⟩) (p0.length+p2.length) Gc,104,u0.take (i * 2)++u2.take (p2.length * 2)++Zs.drop (p2.length * 2),0⟩) (fun b hb=>by
    simp only [bk,az] at hb;subst hb;exact ⟨f3,f4⟩) (fun b hb=> .inl hb)
   have hd2:=Cx.drew_le c2;obtain ⟨c3,g1,g2,g3,g4⟩:=Cx.row (c:=⟨c2.w.drew,c2.A,c2.t⟩) (m:=u0.take (i * 2)++u2.take (p2.length * 2)++(u0.drop (i * 2)).take ((p0.length - i) * 2)++Zs.drop ((p0.length+p2.length - i) * 2)) (T:=104) (b:=c0.w.heap.size) f3 0 f4 (fun o ho=>by omega) 0 (ao _);have O3:=Own.set (O2.keep hd2) 0 rfl g2 (fun b hb=>by rw [hb]; rfl) (e':=es true ax (.slice (some ⟨c0.w.heap.size,0,none⟩) (p0.length+p2.length) Gc) 104 (u0.take (i * 2)++u2.take (p2.length * 2)++(u0.drop (i * 2)).take ((p0.length - i) * 2)++Zs.drop ((p0.length+p2.length - i) * 2)) (p0.take i++p2++p0.drop i)) (fun b hb=>by
    simp only [es,bk,az] at hb;subst hb;exact ⟨g3,g4⟩) (fun b hb=> .inl hb)
   have hle:=hd.le.trans (e2.le.trans (f2.le.trans (hd2.le.trans g2.le)));have O4:=O3.selD 3 [0] (by kernel_rfl) (by kernel_rfl);refine ⟨_,c3,rfl,by rw [g1]; show _=(c2.w.drew).setRow _ _; rw [f1,e1]; rfl,hle,_,_,O4,rfl,by decide,.inr ⟨_,Gc,by rw [hrl],by rw [hrl]; exact hGe,hGm,?_⟩,hAR c3 _ hle⟩;rw [hsz,ag,ag,ag,ht0,ht2,htl,aN,hZl];omega
  ·refine (DU (vs:=u0) (us:=u2.take (p2.length * 2)) (vs2:=u2) hon0.1 hon2.1 (by omega) (by omega) hg a3 a2 hne ht2 hus o0 o2).mono ?_;rintro e w' ⟨rfl,rfl⟩;have hd:=Cx.drew_le c0;obtain ⟨c2,f1,f2,f3,f4⟩:=Cx.row (c:=⟨c0.w.drew,c0.A,c0.t⟩) (l:=u0) (T:=104) (b:=g) (m:=u0.take ((i+p2.length) * 2)++(u0.drop (i * 2)).take ((p0.length - i) * 2)++u0.drop ((p0.length+p2.length) * 2)) hon0.1 0 hon0.2 (fun o ho=>by omega) 0 (ao _);have O2:=Own.set (O0.keep hd) 0 rfl f2 (fun b hb=>by rw [hb]; rfl) (e':=⟨.slice (some ⟨g,0,none⟩) p0.length cap,104,u0.take ((i+p2.length) * 2)++(u0.drop (i * 2)).take ((p0.length - i) * 2)++u0.drop ((p0.length+p2.length) * 2),0⟩) (fun b hb=>by
    simp only [bk,az] at hb;subst hb;exact ⟨f3,f4⟩) (fun b hb=> .inl hb)
   obtain ⟨c3,g1,g2,g3,g4⟩:=Cx.row (c:=c2) (m:=u0.take (i * 2)++u2.take (p2.length * 2)++(u0.drop (i * 2)).take ((p0.length - i) * 2)++u0.drop ((p0.length+p2.length) * 2)) (T:=104) (b:=g) f3 0 f4 (fun o ho=>by omega) 0 (ao _);have O3:=Own.set O2 0 rfl g2 (fun b hb=>by rw [hb]; rfl) (e':=es true ax (.slice (some ⟨g,0,none⟩) (p0.length+p2.length) cap) 104 (u0.take (i * 2)++u2.take (p2.length * 2)++(u0.drop (i * 2)).take ((p0.length - i) * 2)++u0.drop ((p0.length+p2.length) * 2)) (p0.take i++p2++p0.drop i)) (fun b hb=>by
    simp only [es,bk,az] at hb;subst hb;exact ⟨g3,g4⟩) (fun b hb=> .inl hb)
   have hle:=hd.le.trans (f2.le.trans g2.le);have O4:=O3.selD 2 [0] (by kernel_rfl) (by kernel_rfl);refine ⟨_,c3,rfl,by rw [g1,f1],hle,_,_,O4,rfl,by decide,.inr ⟨g,cap,by rw [hrl],by rw [hrl]; exact hg,by unfold maxLen; exact a2,?_⟩,hAR c3 _ hle⟩;rw [hsz,ag,ag,ag,ht0,ht2,htl,aN];omega
 ·cases H
theorem FQ (k:Nat):∀v∈nR k,v.oneCell'=true:=fun v hv=>by
 unfold nR Builtin.zeroCells at hv;simp only [Cn,List.mem_map] at hv;obtain ⟨a,_,rfl⟩:=hv;have h2:(Value.agg #[.int .i64 0,.slice none 0 0]).cells= #[.int .i64 0,.slice none 0 0]:=rfl;rw [h2];show (#[Value.int .i64 0,Value.slice none 0 0][a % 2]!).oneCell'=true;rcases Nat.mod_two_eq_zero_or_one a with h | h <;> rw [h] <;> rfl
theorem sG {P:Program} {ops:Array Oper} {o:Oper} {a:Act} {w:World} {K:Act→World→Prop} {Q:Exit→Act→World→Prop} {E:Prop}
  (hg:o.guard=none) (d x:Operand) (dT sT:TypeId) (hop:o.op=Op.call { callee:=Callee.builtin Builtin.append,args:= #[d,x],argTypes:= #[dT,sT]})
  (v u:Value) (hd:a.eval d=v) (hx:a.eval x=u) {v':Value} {w':World} (hr:(Builtin.append_ #[dT,sT] o.type #[v,u]).run P w= .ok v' w') (hK:K (a.put o.dst v') w'):
  if Region.wanted o (yielded ops a.tmps)=true then Oper.wp P o a w K Q else E:=by
 have hw:Region.wanted o (yielded ops a.tmps)=true:=by simp [Region.wanted,hg]
 rw [af hw];unfold Oper.wp;simp [execOp,hop,resolve,invoke,builtin,hd,hx,hr,Result.andThen];exact hK
theorem sy {P:Program} (w:World) {ops:Array Oper} {rest:List Oper} {o:Oper} {a:Act} {Q:Exit→Act→World→Prop} (hgd:o.guard=none) (d:Operand) (t:TypeId)
  (ho:o.op= .call { callee:= .builtin .clear,args:= #[d],argTypes:= #[t]}) (v:Value) (hd:a.eval d=v) {v':Value} {w':World}
  (hr:(Builtin.clear_ #[t] o.type #[v]).run P w= .ok v' w') (h:wpList P ops Q rest (a.put o.dst v') w'):wpList P ops Q (o :: rest) a w:=
 wpList_plain hgd fun _ hK=>by
  unfold Oper.wp execOp;simp only [ho,resolve,invoke,builtin,gA,Bk,nL,List.map_toArray,dL,Bn,hd,hr];exact hK _ _ h
theorem D6 {Q:Program} (w:World) (t ty E:TypeId) (g o k c:Nat) (z:Value) (vs:List Value) (T:TypeId) (hk:k≠0)
  (hu:Q.underlying t=some (.slice E)) (hz:∀w,(zeroValue E).run Q w= .ok z w) (hrow:w.heap[g]? = some (.cells vs.toArray T (0,0))) (hl:o+(Builtin.zeroCells z.cells k).toList.length≤vs.length) (h1:∀v∈(Builtin.zeroCells z.cells k).toList,v.oneCell'=true):
  (Builtin.clear_ #[t] ty #[.slice (some ⟨g,o,none⟩) k c]).run Q w= .ok (.tuple #[]) (w.setRow g (vs.take o++(Builtin.zeroCells z.cells k).toList++vs.drop (o+(Builtin.zeroCells z.cells k).toList.length)).toArray):=by
 have hst:=zY Q g o T (Builtin.zeroCells z.cells k).toList 0 vs.toArray w hrow (by simpa using hl) h1;simp only [nN] at hst
 cases k with
 | zero=>exact absurd rfl hk
 | succ k=>
  simp [Builtin.clear_,aY hu,hz,hst]
set_option maxHeartbeats 4000000 in
set_option maxRecDepth 100000 in
theorem Iq {w:World} {g n cap i j:Nat} {vs:List Value} (hrow:w.heap[g]? = some (.cells vs.toArray 104 (0,0)))
  (hij:i < j) (hjn:j≤n) (hnc:n≤cap) (hcap:cap * 2≤vs.length) (hc63:cap≤9223372036854775807) (h1:∀v∈vs.take (n * 2),v.oneCell'=true):
  Calls Tryz.prog 201 #[.slice (some ⟨g,0,none⟩) n cap,.int .i64 i,.int .i64 j] w fun e w'=>
   e= .returned (.slice (some ⟨g,0,none⟩) (i+(n - j)) cap)∧w'=(w.drew.setRow g (vs.take (i * 2)++(vs.drop (j * 2)).take ((n - j) * 2)++vs.drop ((i+(n - j)) * 2)).toArray).setRow g
    (vs.take (i * 2)++(vs.drop (j * 2)).take ((n - j) * 2)++nR (j - i)++vs.drop (n * 2)).toArray:=by
 obtain ⟨ti,hti,hzz⟩:=Option.map_eq_some_iff.1 (show (Tryz.prog.info? 104).map (fun i=>i.size)=some 2 by kernel_rfl);have hul:((vs.drop (j * 2)).take ((n - j) * 2)).length=(n - j) * 2:=by rw [av,aN]; omega
 have ht:(vs.take (i * 2)).length=i * 2:=by rw [av]; omega
 obtain ⟨W1,hW1⟩:∃W1,W1=w.drew.setRow g (vs.take (i * 2)++(vs.drop (j * 2)).take ((n - j) * 2)++vs.drop ((i+(n - j)) * 2)).toArray:=⟨_,rfl⟩;have hap:∀ty a k,(∀x v,((vs.drop (j * 2)).take ((n - j) * 2))[x]? = some v→w.drew.cell? (a.add x)=some v)→
   (Builtin.append_ #[99,99] ty #[.slice (some ⟨g,0,none⟩) i cap,.slice (some a) (n - j) k]).run Tryz.prog w.drew= .ok (.slice (some ⟨g,0,none⟩) (i+(n - j)) cap) W1:=fun ty a k hx=>by
  have:=L4 (P:=Tryz.prog) w.drew 99 ty 104 ti Tryz.underlying99 hti g i cap vs.toArray hrow a (n - j) k ((vs.drop (j * 2)).take ((n - j) * 2)) (by rw [hul,hzz]) hx (fun v hv=>h1 v (by rw [show (n - j) * 2=n * 2 - j * 2 by omega,←gN] at hv; exact jD hv)) (by omega) (by rw [hzz,hul]; simp; omega);rw [this,hW1,hzz,hul];simp only [List.toList_toArray,nP];rw [show i * 2+(n - j) * 2=(i+(n - j)) * 2 by omega]
 have hr1:W1.heap[g]? = some (.cells (vs.take (i * 2)++(vs.drop (j * 2)).take ((n - j) * 2)++vs.drop ((i+(n - j)) * 2)).toArray 104 (0,0)):=by
  rw [hW1];exact CC w.drew g vs.toArray _ 104 (0,0) hrow
 have hau:(vs.take (i * 2)++(vs.drop (j * 2)).take ((n - j) * 2)).length=(i+(n - j)) * 2:=by rw [ag,ht,hul]; omega
 have hcl:∀ty c,(Builtin.clear_ #[99] ty #[.slice (some ⟨g,(i+(n - j)) * 2,none⟩) (n - (i+(n - j))) c]).run Tryz.prog W1= .ok (.tuple #[]) (W1.setRow g (vs.take (i * 2)++(vs.drop (j * 2)).take ((n - j) * 2)++nR (j - i)++vs.drop (n * 2)).toArray):=fun ty c=>by
  have hzl:=oS (j - i);unfold nR at hzl;have:=D6 (Q:=Tryz.prog) W1 99 ty 104 g ((i+(n - j)) * 2) (j - i) c (Value.agg #[.int .i64 0,.slice none 0 0]) _ 104 (by omega) Tryz.underlying99 (fun w=>by kernel_rfl) hr1 (by rw [hzl,ag,hau,aN]; omega) (fun v hv=>by
   exact FQ _ v hv)
  rw [hzl] at this;rw [show n - (i+(n - j))=j - i by omega,this]
  congr 3
  rw [←hau,nO,←de,eJ,de,hau,show (i+(n - j)) * 2+(j - i) * 2=n * 2 by omega];rfl
 have hcell:∀(x:Nat) (v:Value),((vs.drop (j * 2)).take ((n - j) * 2))[x]? = some v→w.drew.cell? ((⟨g,j * 2,none⟩:Addr).add x)=some v:=fun x v hx=>by
  rw [dp];rw [aK] at hx;split at hx
  ·rw [bH] at hx;rw [fg w.drew g (j * 2+x) vs.toArray 104 (0,0) hrow,bj];exact hx
  ·cases hx
 have hnil:cap=j→∀(x:Nat) (v:Value),((vs.drop (j * 2)).take ((n - j) * 2))[x]? = some v→w.drew.cell? ((⟨g,0,none⟩:Addr).add x)=some v:=fun e x v hx=>by
  rw [show (n - j) * 2=0 by omega,mh] at hx;cases hx
 have hWW:cap=j→W1=w.drew:=fun e=>by
  rw [hW1,show n - j=0 by omega,ut,mh,eP,nN,iU];exact setRow_self w.drew g vs.toArray _ (0,0) hrow
 have hap1:=fun ty k=>hap ty ⟨g,j * 2,none⟩ k hcell;have hap2:=fun (e:cap=j) ty k=>hap ty ⟨g,0,none⟩ k (hnil e);rw [←hW1];have hmixed:Tryz.prog.follows Departure.mixedOrders=true:=by kernel_rfl
 have z1:¬((i:Int)=(j:Int)):=by omega
 have z2:(0:Int)≤(i:Int):=by omega
 have z3:(i:Int)≤(j:Int):=by omega
 have z4:(j:Int)≤(n:Int):=by omega
 have z5:¬(cap=i+(n - j)):=by omega
 have z6:i≤cap:=by omega
 have z7:j≤cap:=by omega
 have z8:i+(n - j)≤n:=by omega
 have z9:n≤cap:=hnc;have z10:¬(n=i):=by omega
 clear hW1 hul ht hr1 hau hap hcell hnil h1 hti hzz hcap hrow
 by_cases hcj:cap=j
 ·have hap3:=hap2 hcj
  clear hap1 hap2 hWW
  subst hcj;obtain rfl:n=cap:=by omega
  simp only [uu,nN,ut,mh,eP] at hap3 hcl z5⊢
  go_enter Tryz.func201,Tryz.ntmps201
  go_wp2_with fail
  go_region_law_o (refine sG rfl (.tmp 22) (.tmp 25) 99 99 rfl (.slice (some ⟨g,0,none⟩) i n) (.slice (some ⟨g,0,none⟩) 0 0) (by simp [Act.eval,Act.put]) (by simp [Act.eval,Act.put]) (hap3 _ _) ?_)
  go_wp2_with (at_builtin; refine sy _ rfl _ 99 rfl _ rfl (hcl _ _) ?_)
  go_ret
  exact ⟨rfl,by simp only [aD]⟩
 ·clear hap2 hWW
  go_enter Tryz.func201,Tryz.ntmps201
  go_wp2_with fail
  go_region_law_o (refine sG rfl (.tmp 22) (.tmp 25) 99 99 rfl (.slice (some ⟨g,0,none⟩) i cap) (.slice (some ⟨g,j * 2,none⟩) (n - j) (cap - j)) (by simp [Act.eval,Act.put]) (by simp [Act.eval,Act.put]) (hap1 _ _) ?_)
  go_wp2_with (at_builtin; refine sy _ rfl _ 99 rfl _ rfl (hcl _ _) ?_)
  go_ret
  exact ⟨rfl,by simp only [aD]⟩
def jz (p0:List aa) (p1 p2:Int):Option (List aa):=if 0≤p1∧p1 < p2∧p2≤p0.length then some (p0.take p1.toNat++p0.drop p2.toNat) else none
theorem vf {c0:Cx} {G:Gm} {F:List En} {v0:Value} {u0:List Value} (p0:List aa) (p1 p2:Int) (O0:Own c0 G (es true ax v0 104 u0 p0 :: F)) (h0:OA ax c0 v0 u0 p0) {r:List aa} (H:jz p0 p1 p2=some r): Calls Tryz.prog 201 #[v0,.int .i64 p1,.int .i64 p2] c0.w (aO c0 fun c v=>∃y1:Value,∃y2:List Value,Own c G (es true ax y1 104 y2 r :: F)∧v=y1∧OA ax c y1 y2 r):=by
 unfold jz at H;split at H
 ·rename_i hc;obtain ⟨hc1,hc2,hc3⟩:=hc;obtain ⟨i,rfl⟩:∃i:Nat,p1=(i:Int):=⟨p1.toNat,by omega⟩;obtain ⟨j,rfl⟩:∃j:Nat,p2=(j:Int):=⟨p2.toNat,by omega⟩;rw [bp,bp] at H;obtain rfl:=aH H;obtain ⟨g,cap,rfl,a1,a2,a3,a4⟩:=h0.some (by omega);have hsz:ax.size=2:=rfl;have hon0:=O0.on 0 rfl g rfl;have o0:=a4.ones (by decide);rw [hsz] at o0 a3;unfold maxLen at a2;have ht0:(u0.take (i * 2)).length=i * 2:=by rw [av]; omega
  have htl:((u0.drop (j * 2)).take ((p0.length - j) * 2)).length=(p0.length - j) * 2:=by rw [av,aN]; omega
  have hrl:(p0.take i++p0.drop j).length=i+(p0.length - j):=by
   rw [ag,av,aN];omega
  have hAR:∀(c:Cx) (ts:List Value),c0.le c→AR ax c (u0.take (i * 2)++(u0.drop (j * 2)).take ((p0.length - j) * 2)++ts) (p0.take i++p0.drop j):=fun c ts hle=>by
   have k0:AR ax c (u0.take (i * 2)) (p0.take i):=(a4.take i).mono hle;have k1:AR ax c ((u0.drop (j * 2)).take ((p0.length - j) * 2)) (p0.drop j):=by
    have:=((a4.drop j).take (p0.length - j)).mono hle;rwa [aJ (l:=p0.drop j) (by rw [aN]; exact ao _)] at this
   refine AR.more (AR.app k0 ?_ k1) ?_
   ·rw [ht0,av,cH (by omega),hsz]
   ·rw [hrl,hsz,ag,ht0,htl];omega
  refine (Iq (vs:=u0) hon0.1 (by omega) (by omega) a1 a3 (by omega) o0).mono ?_;rintro e w' ⟨rfl,rfl⟩;have hd:=Cx.drew_le c0;obtain ⟨c2,f1,f2,f3,f4⟩:=Cx.row (c:=⟨c0.w.drew,c0.A,c0.t⟩) (l:=u0) (T:=104) (b:=g) (m:=u0.take (i * 2)++(u0.drop (j * 2)).take ((p0.length - j) * 2)++u0.drop ((i+(p0.length - j)) * 2)) hon0.1 0 hon0.2 (fun o ho=>by omega) 0 (ao _);have O2:=Own.set (O0.keep hd) 0 rfl f2 (fun b hb=>by rw [hb]; rfl) (e':=⟨.slice (some ⟨g,0,none⟩) p0.length cap,104,u0.take (i * 2)++(u0.drop (j * 2)).take ((p0.length - j) * 2)++u0.drop ((i+(p0.length - j)) * 2),0⟩) (fun b hb=>by
   simp only [bk,az] at hb;subst hb;exact ⟨f3,f4⟩) (fun b hb=> .inl hb)
  obtain ⟨c3,g1,g2,g3,g4⟩:=Cx.row (c:=c2) (m:=u0.take (i * 2)++(u0.drop (j * 2)).take ((p0.length - j) * 2)++nR (j - i)++u0.drop (p0.length * 2)) (T:=104) (b:=g) f3 0 f4 (fun o ho=>by omega) 0 (ao _);have O3:=Own.set O2 0 rfl g2 (fun b hb=>by rw [hb]; rfl) (e':=es true ax (.slice (some ⟨g,0,none⟩) (i+(p0.length - j)) cap) 104 (u0.take (i * 2)++(u0.drop (j * 2)).take ((p0.length - j) * 2)++nR (j - i)++u0.drop (p0.length * 2)) (p0.take i++p0.drop j)) (fun b hb=>by
   simp only [es,bk,az] at hb;subst hb;exact ⟨g3,g4⟩) (fun b hb=> .inl hb)
  have hle:=hd.le.trans (f2.le.trans g2.le);refine ⟨_,c3,rfl,by rw [g1,f1],hle,_,_,O3,rfl,by decide,.inr ⟨g,cap,by rw [hrl],by rw [hrl]; omega,by unfold maxLen; exact a2,?_⟩,?_⟩
  ·rw [hsz,ag,ag,ag,ht0,htl,oS,aN];omega
  ·rw [aD];exact hAR c3 _ hle
 ·cases H
end Go.Proofs.YtceciacilfhmjaaGreatDoor
namespace Go.Proofs.YtceciacilfhmjaaGreatDoor
open Go Go.Lt
set_option maxRecDepth 10000
set_option linter.unusedVariables false
attribute [local irreducible] W WL AC
open Tryz
variable {c0:Cx} {G:Gm} {F:List En} {sg:Sto} {v1 v2 v3 v4 v5 v6 v7 v8 v9 v10 v11 v12 v13 v14 v15 v16 v17 v18 v19 v20 v21 v22 v23 v24 v25 v26 v27 v28 v29 v30 v31 v32 v33 v34 v35 v36 v37 v38 v39 v40 v41 v42 v43 v44 v45 v46 v47 v48 v49 v50 v51 v52 v53 v54 v55 v56 v57 v58 v59 v60:Value}
def iJ (p0:List aa) (p1:Int) (q0_0:Int):Option (List aa):=
 (eh p1).bind fun c=>
 (jy p0 q0_0 c).bind fun d=>
 (slc d 0 (p0.length:Int)).bind fun a=>
 ((idx a (w64 ((p0.length:Int) - 1))).bind fun e=>
 if (e.Kind==2)=true then
 (idx a (w64 ((p0.length:Int) - 1))).bind fun g=>
 (mj a (w64 ((p0.length:Int) - 1)) (⟨0,([]:List Int)⟩:aa)).bind fun b=>
 some (b)
 else
 some (a)).bind fun f=>
 some f
theorem ud {e:Value} {q:List Value} {p:Nat} (b:List aa) (o:Int) (q0_0:Int) (O0:Own c0 G (es true ax e 104 q b :: F)) {r:List aa} (S:OA ax c0 e q b) (m2:∀j u,([I q0_0]:List Value)[j]? = some u→Im c0 p (0+j) u) (H:iJ b o q0_0=some r): Calls prog 197 #[e,I o,Q p] c0.w (aO c0 fun c v=>∃t y2,Own c G (es true ax t 104 y2 r :: F)∧v=t∧OA ax c t y2 r):=by
 unfold iJ at H;refine en func197 rfl rfl (sr (va (Y) (wln (sr (va (e) (vx (lnO 3 dN S) (va (I (b.length:Int)) (wln (W.seq (rD [] (Kp G0 []) O0 ?_))))))))));intro c3 l3 O4;have p5:Kp G0 [] c3:=Kp.nil0;refine ta 0 (e) (tx 1 (fun c' i0=>l1 u_3 ((mm m2) 0 _ rfl)) (ta 2 (I o) (ta 5 (I (b.length:Int)) (bn H fun s h6 H=>o1 3 (gc 3 (jM O4 o h6) ?_)))));rintro v7 M g1 ⟨_,u8,y,rfl,h9⟩;have k0:Kp G0 [] M:=Kp.nil0;refine ⟨.inr k0,?_⟩;have z:=y.sD 2 [1,0];refine bn H fun b1 U H=>o1 4 (gc 4 (ve b q0_0 s z S.m h9 U) ?_);rintro v19 h i1 ⟨_,m0,A,rfl,X⟩;have l0:Kp G0 [] h:=Kp.nil0;refine ⟨.inr l0,bn H fun c1 Z H=>?_⟩;obtain ⟨v30,a0,g,d⟩:=Own.cutH (k':= .i64) 0 A rfl dN X (by kernel_rfl) Z;refine AC.take 6 (v30) rfl (by kernel_rfl) (by kernel_rfl) (fun c' i0=>(rx (by kernel_rfl) (a0 _))) (ta 7 (v30) (dn (nrm (bn H fun n a x=>W.seqJ (Jn h fun c l=>∃v36 f,Own c G (es true ax v36 104 f n :: F)∧l= [(0,v36)]∧OA ax c v36 f n) ?_ ?_))))
 ·refine sr (va (v30) (va (I (b.length:Int)) (va (I (w64 ((b.length:Int) - 1))) (bn a fun k i a=>vx (ixO dN d i) (va (Qo (sb v30) ((w64 ((b.length:Int) - 1)).toNat * 2)) ?_)))));obtain ⟨y0,b0,j0⟩:=OA.at d i;obtain ⟨v42,rfl,f1⟩:=b0;refine vr (I k.Kind) (rx (by kernel_rfl) (Aq u_3 rfl (g.on 0 rfl) (d.blk i) (at1 (j:=0) j0 rfl))) (va (B (k.Kind==2)) (wln (cn a (fun d0 a=>?_) (fun d0 a=>?_))))
  ·refine W.region (va (v30) (va (I (b.length:Int)) (va (I (w64 ((b.length:Int) - 1))) (va (.agg #[I 0,Y]) (bn a fun d1 e0 a=>vx (ixO dN d e0) (bn a fun a1 f0 a=>md (Own.stW (R:=ax) (T:=104) (us:=[I 0,Y]) (x':=(⟨0,([]:List Int)⟩:aa)) (u:= .agg #[I 0,Y]) 0 g (by kernel_rfl) rfl d f0 rfl (by kernel_rfl) ⟨rfl,rfl,trivial⟩ rfl ⟨(Y),rfl,(Sl.nl _ _)⟩) ?_))))));rintro N j1 ⟨o0,D,g0⟩;refine wln ?_;obtain rfl:=si a;exact jn N ⟨v30,o0,D,rfl,g0⟩
  refine W.skip (nrm ?_);obtain rfl:=si a;exact jn h ⟨v30,m0,g,rfl,d⟩
 rintro e_ w_ ⟨P,e1,_,rfl,k1,rfl,v36,f,E,rfl,h0⟩;refine sr (vv (v36) (wln (W.ret ?_)));obtain rfl:=si x;exact r1 (qq P ⟨v36,f,E,rfl,h0⟩)
def jf (p0:List aa) (p1:Int):Option (List aa):=
 (bX (decide (p1 < (p0.length:Int))) ((idx p0 p1).bind fun d=>
 some (d.Kind==3))).bind fun c=>
 if c=true then
 (idx p0 (w64 (p1 - 1))).bind fun e=>
 (mj p0 (w64 (p1 - 1)) (⟨0,([]:List Int)⟩:aa)).bind fun a=>
 (idx a p1).bind fun f=>
 (mj a p1 (⟨0,([]:List Int)⟩:aa)).bind fun b=>
 some b
 else
 some p0
theorem pC {a:Value} {e:List Value} (f:List aa) (b:Int) (o:Own c0 G (es true ax a 104 e f :: F)) {r:List aa} (d:OA ax c0 a e f) (H:jf f b=some r): Calls prog 200 #[a,I b] c0.w (aO c0 fun c v=>∃U,Own c G (es true ax a 104 U r :: F)∧v= .tuple #[]∧OA ax c a U r):=by
 unfold jf at H;refine en func200 rfl rfl (W.seq (bn H fun y E H=>W.join (Jn c0 fun c l=>Own c G (es true ax a 104 e f :: F)∧l= [(0,a),(1,I b),(15,B y)]) ?_ ?_))
 ·clear H;refine W.region (va (I b) (va (a) (vx (lnO 3 dN d) (va (B (decide (b < (f.length:Int)))) ?_))));rcases bo (decide (b < (f.length:Int))) with g | g
  ·have n:=anT g E;refine vb g (wa (a) (wa (I b) (wn (bn n fun h p n=>vx (ixO dN d p) (wa (Qo (sb a) (b.toNat * 2)) (wn ?_))))));obtain ⟨l0,X,Z⟩:=OA.at d p;obtain ⟨v9,rfl,h0⟩:=X;refine vr (I h.Kind) (rx (by kernel_rfl) (Aq u_3 rfl (o.on 0 rfl) (d.blk p) (at1 (j:=0) Z rfl))) (wa (B (h.Kind==3)) ?_);obtain rfl:=si n;exact va (B (h.Kind==3)) (wln (jn c0 ⟨o,rfl⟩))
  obtain rfl:=anF g E;exact vb g (pz (pz (pz (va (B false) (wln (jn c0 ⟨o,rfl⟩))))))
 rintro e_ w_ ⟨t,g0,_,rfl,i0,rfl,i,rfl⟩;refine nrm (cn H (fun z H=>?_) (fun z H=>?_))
 ·refine W.region (va (a) (va (I b) (va (I (w64 (b - 1))) (va (a) (va (I b) (vv (.agg #[I 0,Y]) (bn H fun d0 A H=>vx (ixO dN d.m A) (bn H fun a0 D H=>md (Own.stW (R:=ax) (T:=104) (us:=[I 0,Y]) (x':=(⟨0,([]:List Int)⟩:aa)) (u:= .agg #[I 0,Y]) 0 i (by kernel_rfl) rfl d.m D rfl (by kernel_rfl) ⟨rfl,rfl,trivial⟩ rfl ⟨(Y),rfl,(Sl.nl _ _)⟩) ?_))))))));rintro f0 j0 ⟨m0,q,k⟩;refine bn H fun e0 M H=>vx (ixO dN k M) (bn H fun b0 N H=>md (Own.stW (R:=ax) (T:=104) (us:=[I 0,Y]) (x':=(⟨0,([]:List Int)⟩:aa)) (u:= .agg #[I 0,Y]) 0 q (by kernel_rfl) rfl k N rfl (by kernel_rfl) ⟨rfl,rfl,trivial⟩ rfl ⟨(Y),rfl,(Sl.nl _ _)⟩) ?_);rintro x k0 ⟨S,s,P⟩;refine WL.nil ?_;obtain rfl:=si H;exact n0 (qq x ⟨S,s,rfl,P⟩)
 refine W.skip ?_;obtain rfl:=si H;exact n0 (qq t ⟨e,i,rfl,d.m⟩)
def dV (sg:Sto) (p0:Option Nat) (p1:Int) (p2:Int) (p3_0_0:Int):Option (Sto):=
 (bK sg p0).bind fun a=>
 (orE (decide (p1 < 0)) (some (decide (p1≥a)))).bind fun g=>
 (orE g (some (decide (p2 < 1)))).bind fun b=>
 if b=true then
 some sg
 else
 (em sg p0).bind fun c=>
 (jf c p1).bind fun d=>
 (iJ d (aM p2 (w64 (a - p1))) p3_0_0).bind fun e=>
 (dH sg p0 0 e).bind fun f=>
 some f.1
theorem mV {b3_0:Nat} (O0:Own c0 G F) (i:Rel c0 sg G) (hG:Gl [3,5] c0) (h:Option Nat) (a:Int) (d:Int) (p3_0_0:Int) {r:Sto} (t:Pt 0 c0 v1 h) (m3:∀j u,([I p3_0_0]:List Value)[j]? = some u→Im c0 b3_0 (0+j) u) (H:dV sg h a d p3_0_0=some r): Calls prog 196 #[v1,I a,I d,.func (.func 197) #[] #[Q b3_0]] c0.w (aO c0 fun c v=>∃G_:Gm,Own c G_ (F)∧Rel c r G_∧v= .tuple #[]):=by
 unfold dV at H;refine en func196 rfl rfl (sr (va (v1) (bn H fun b h4 H=>cl (cv O0 i h t h4) ?_)));rintro v10 k l9 ⟨q,rfl⟩;refine va (I b) (wln (W.seq (W.seq (bn H fun w0 o H=>bn H fun s g H=>W.join (Jn k fun c l=>Own c G (F)∧l= [(0,v1),(1,I a),(2,I d),(3,.func (.func 197) #[] #[Q b3_0]),(8,I b),(22,B s)]) ?_ ?_))))
 ·clear H;refine W.region (va (I a) (va (B (decide (a < 0))) ?_));rcases bo (decide (a < 0)) with e | e
  ·obtain rfl:=orT e o;refine vb e (pz (ps (va (B true) ?_)));have p:true=true:=rfl;obtain rfl:=orT p g;exact vb p (pz (va (B true) (wln (jn k ⟨q,rfl⟩))))
  have D:=orF e o;refine vb e (wa (I a) (wa (I b) (wa (B (decide (a≥b))) ?_)));obtain rfl:=si D;refine va (B (decide (a≥b))) ?_;rcases bo (decide (a≥b)) with f | f
  ·obtain rfl:=orT f g;exact vb f (pz (va (B true) (wln (jn k ⟨q,rfl⟩))))
  have E:=orF f g;refine vb f (wa (I d) (wa (B (decide (d < 1))) ?_));obtain rfl:=si E;exact va (B (decide (d < 1))) (wln (jn k ⟨q,rfl⟩))
 rintro e_ w_ ⟨X,x0,_,rfl,z0,rfl,n,rfl⟩;refine nrm (cn H (fun a0 H=>?_) (fun a0 H=>?_))
 ·refine W.ret (thr ?_);obtain rfl:=si H;exact r0 (qq X ⟨G,n,i.m,rfl⟩)
 refine W.skip (nrm (sr (va (v1) (bn H fun x b0 H=>cl (kW n i.m h t.m b0) ?_))));rintro v26 s0 a1 ⟨_,f1,M,rfl,d0⟩;refine va (v26) (wln (sr (va (v26) (va (I a) (bn H fun y e0 H=>cl (pC x a M d0 e0) ?_)))));rintro v44 t0 b1 ⟨g1,N,rfl,f0⟩;refine wln (W.region (va (v1) (va (.func (.func 197) #[] #[Q b3_0]) (va (v26) (va (I d) (va (I b) (va (I a) (va (I (w64 (b - a))) (va (I (aM d (w64 (b - a)))) (bn H fun z g0 H=>cl (ud y (aM d (w64 (b - a))) p3_0_0 N f0 (mm m3) g0) ?_))))))))));rintro v47 u0 c1 ⟨_,h1,P,rfl,h0⟩;obtain ⟨v0,j0,d1,R,i0⟩:=P.frz 0 rfl h0;refine WL.gh j0 (bn H fun q0 k0 H=>cl (jA R i.m (hG.m.le (by decide)) h 0 z t.m i0 k0) ?_);rintro i1 Z e1 ⟨_,A,S,U,rfl,y0⟩;refine WL.nil ?_;obtain rfl:=si H;have T:=S.sD 1 [];exact n0 (qq Z ⟨A,T,U,rfl⟩)
def jZ (sg:Sto) (p0:Option Nat) (p1:Int) (p2:Int):Option (Sto):=
 (dV sg p0 p1 p2 p1).bind fun a=>
 some a
theorem wP (j:Own c0 G F) (l:Rel c0 sg G) (hG:Gl [3,5] c0) (d:Option Nat) (a:Int) (b:Int) {r:Sto} (o:Pt 0 c0 v1 d) (H:jZ sg d a b=some r): Calls prog 153 #[v1,I a,I b] c0.w (aO c0 fun c v=>∃G_:Gm,Own c G_ (F)∧Rel c r G_∧v= .tuple #[]):=by
 unfold jZ at H;refine en func153 rfl rfl (sr (me (bx 3 [I a] j) ?_));rintro v7 t u ⟨n,rfl,k,h⟩;refine wln (W.region (va (v1) (vx (l1 u_3 (h 0 _ rfl)) (va (I b) (va (.func (.func 197) #[] #[Q n]) (bn H fun s p H=>cl (mV k l.m (hG.m.le (by decide)) d a b a o.m h p) ?_))))));rintro v14 g q ⟨i,e,f,rfl⟩;refine WL.nil ?_;obtain rfl:=si H;exact n0 (qq g ⟨i,e,f,rfl⟩)
def iK (p0:List aa) (p1:Int) (q0_0:Int):Option (List aa):=
 (jf p0 (w64 (q0_0+p1))).bind fun d=>
 (jz d q0_0 (w64 (q0_0+p1))).bind fun a=>
 (eh p1).bind fun b=>
 (app a b).bind fun c=>
 some c
theorem ue {b:Value} {f:List Value} {e:Nat} (d:List aa) (a:Int) (q0_0:Int) (P:Own c0 G (es true ax b 104 f d :: F)) {r:List aa} (S:OA ax c0 b f d) (g:∀j u,([I q0_0]:List Value)[j]? = some u→Im c0 e (0+j) u) (H:iK d a q0_0=some r): Calls prog 199 #[b,I a,Q e] c0.w (aO c0 fun c v=>∃h N,Own c G (es true ax h 104 N r :: F)∧v=h∧OA ax c h N r):=by
 unfold iK at H;refine en func199 rfl rfl (sr (va (Y) (wln (sr (va (b) (vx (l1 u_3 (g 0 _ rfl)) (va (I a) (va (I (w64 (q0_0+a))) (bn H fun M T H=>cl (pC d (w64 (q0_0+a)) P S T) ?_)))))))));rintro v12 b0 g0 ⟨u5,R,rfl,U⟩;refine wln (sr (va (b) (vx (l1 u_3 ((mm g) 0 _ rfl)) (vx (l1 u_3 ((mm g) 0 _ rfl)) (va (I a) (va (I (w64 (q0_0+a))) (bn H fun X q H=>cl (vf M q0_0 (w64 (q0_0+a)) R U q) ?_)))))));rintro v15 d0 h0 ⟨_,l0,i,rfl,s⟩;refine va (I a) (bn H fun Z t H=>cl (jM i a t) ?_);rintro v25 e0 i0 ⟨_,m0,k,rfl,x⟩;obtain ⟨f0,z,j0,l,y⟩:=k.frz 0 rfl x;refine WL.gh z (bn H fun a0 A H=>me (ap ax (.agg #[I 0,Y]) 32 99 1 l s.m y A dN) ?_);rintro v43 p k0 ⟨E,n,D⟩;refine va (v43) (wln (W.ret ?_));obtain rfl:=si H;have o:=n.sD 2 [1];exact r1 (qq p ⟨v43,E,o,rfl,D⟩)
def dW (sg:Sto) (p0:Option Nat) (p1:Int) (p2:Int) (p3_0_0:Int):Option (Sto):=
 (bK sg p0).bind fun a=>
 (orE (decide (p1 < 0)) (some (decide (p1≥a)))).bind fun g=>
 (orE g (some (decide (p2 < 1)))).bind fun b=>
 if b=true then
 some sg
 else
 (em sg p0).bind fun c=>
 (jf c p1).bind fun d=>
 (iK d (aM p2 (w64 (a - p1))) p3_0_0).bind fun e=>
 (dH sg p0 0 e).bind fun f=>
 some f.1
theorem mW {b3_0:Nat} (O0:Own c0 G F) (i:Rel c0 sg G) (hG:Gl [3,5] c0) (h:Option Nat) (a:Int) (d:Int) (p3_0_0:Int) {r:Sto} (t:Pt 0 c0 v1 h) (m3:∀j u,([I p3_0_0]:List Value)[j]? = some u→Im c0 b3_0 (0+j) u) (H:dW sg h a d p3_0_0=some r): Calls prog 196 #[v1,I a,I d,.func (.func 199) #[] #[Q b3_0]] c0.w (aO c0 fun c v=>∃G_:Gm,Own c G_ (F)∧Rel c r G_∧v= .tuple #[]):=by
 unfold dW at H;refine en func196 rfl rfl (sr (va (v1) (bn H fun b h4 H=>cl (cv O0 i h t h4) ?_)));rintro v10 k l9 ⟨q,rfl⟩;refine va (I b) (wln (W.seq (W.seq (bn H fun w0 o H=>bn H fun s g H=>W.join (Jn k fun c l=>Own c G (F)∧l= [(0,v1),(1,I a),(2,I d),(3,.func (.func 199) #[] #[Q b3_0]),(8,I b),(22,B s)]) ?_ ?_))))
 ·clear H;refine W.region (va (I a) (va (B (decide (a < 0))) ?_));rcases bo (decide (a < 0)) with e | e
  ·obtain rfl:=orT e o;refine vb e (pz (ps (va (B true) ?_)));have p:true=true:=rfl;obtain rfl:=orT p g;exact vb p (pz (va (B true) (wln (jn k ⟨q,rfl⟩))))
  have D:=orF e o;refine vb e (wa (I a) (wa (I b) (wa (B (decide (a≥b))) ?_)));obtain rfl:=si D;refine va (B (decide (a≥b))) ?_;rcases bo (decide (a≥b)) with f | f
  ·obtain rfl:=orT f g;exact vb f (pz (va (B true) (wln (jn k ⟨q,rfl⟩))))
  have E:=orF f g;refine vb f (wa (I d) (wa (B (decide (d < 1))) ?_));obtain rfl:=si E;exact va (B (decide (d < 1))) (wln (jn k ⟨q,rfl⟩))
 rintro e_ w_ ⟨X,x0,_,rfl,z0,rfl,n,rfl⟩;refine nrm (cn H (fun a0 H=>?_) (fun a0 H=>?_))
 ·refine W.ret (thr ?_);obtain rfl:=si H;exact r0 (qq X ⟨G,n,i.m,rfl⟩)
 refine W.skip (nrm (sr (va (v1) (bn H fun x b0 H=>cl (kW n i.m h t.m b0) ?_))));rintro v26 s0 a1 ⟨_,f1,M,rfl,d0⟩;refine va (v26) (wln (sr (va (v26) (va (I a) (bn H fun y e0 H=>cl (pC x a M d0 e0) ?_)))));rintro v44 t0 b1 ⟨g1,N,rfl,f0⟩;refine wln (W.region (va (v1) (va (.func (.func 199) #[] #[Q b3_0]) (va (v26) (va (I d) (va (I b) (va (I a) (va (I (w64 (b - a))) (va (I (aM d (w64 (b - a)))) (bn H fun z g0 H=>cl (ue y (aM d (w64 (b - a))) p3_0_0 N f0 (mm m3) g0) ?_))))))))));rintro v47 u0 c1 ⟨_,h1,P,rfl,h0⟩;obtain ⟨v0,j0,d1,R,i0⟩:=P.frz 0 rfl h0;refine WL.gh j0 (bn H fun q0 k0 H=>cl (jA R i.m (hG.m.le (by decide)) h 0 z t.m i0 k0) ?_);rintro i1 Z e1 ⟨_,A,S,U,rfl,y0⟩;refine WL.nil ?_;obtain rfl:=si H;have T:=S.sD 1 [];exact n0 (qq Z ⟨A,T,U,rfl⟩)
def ka (sg:Sto) (p0:Option Nat) (p1:Int) (p2:Int):Option (Sto):=
 (dW sg p0 p1 p2 p1).bind fun a=>
 some a
theorem wQ (j:Own c0 G F) (l:Rel c0 sg G) (hG:Gl [3,5] c0) (d:Option Nat) (a:Int) (b:Int) {r:Sto} (o:Pt 0 c0 v1 d) (H:ka sg d a b=some r): Calls prog 154 #[v1,I a,I b] c0.w (aO c0 fun c v=>∃G_:Gm,Own c G_ (F)∧Rel c r G_∧v= .tuple #[]):=by
 unfold ka at H;refine en func154 rfl rfl (sr (me (bx 3 [I a] j) ?_));rintro v7 t u ⟨n,rfl,k,h⟩;refine wln (W.region (va (v1) (vx (l1 u_3 (h 0 _ rfl)) (va (I b) (va (.func (.func 199) #[] #[Q n]) (bn H fun s p H=>cl (mW k l.m (hG.m.le (by decide)) d a b a o.m h p) ?_))))));rintro v14 g q ⟨i,e,f,rfl⟩;refine WL.nil ?_;obtain rfl:=si H;exact n0 (qq g ⟨i,e,f,rfl⟩)
def kQ (p0:Int) (p1:Int) (p2:Int) (p3:Int):Option (aj):=
 (ed (⟨p0,p1,false⟩:aj) p2 p3).bind fun a=>
 some a
theorem rQ (j:Own c0 G F) (b:Int) (d:Int) (e:Int) (f:Int) {r:aj} (H:kQ b d e f=some r): Calls prog 113 #[I b,I d,I e,I f] c0.w (aO c0 fun c v=>Own c G (F)∧v= .agg #[I r.Row,I r.Col,B r.Pending]):=by
 unfold kQ at H;refine en func113 rfl rfl (sr (me (al 55 [I 0,I 0,B false] j) ?_));rintro v4 s t ⟨q,rfl,k⟩;refine wln (sr (va (I b) (va (I d) (va (.agg #[I b,I d,B false]) (va (I e) (va (I f) (bn H fun a m H=>cl (dI k (⟨b,d,false⟩:aj) e f m) ?_)))))));rintro v11 n o ⟨l,rfl⟩;refine md (sA 55 [I a.Row,I a.Col,B a.Pending] 0 l ⟨rfl,rfl,rfl,trivial⟩) ?_;rintro h p g;refine wln (W.ret ?_);obtain rfl:=si H;have i:=g.sD 1 [];exact uV (c:=h) (vs:=[I a.Row,I a.Col,B a.Pending]) rfl (by kernel_rfl) (by kernel_rfl) (by kernel_rfl) (g.on 0 rfl _ rfl).1 ⟨_,h,rfl,rfl,pt,i,rfl⟩
def tZ (p0:List aa) (p1:Int):Option (List aa):=
 (slc p0 0 p1).bind fun a=>
 ((bX (decide (p1 > 0)) ((idx a (w64 (p1 - 1))).bind fun d=>
 some (d.Kind==2))).bind fun b=>
 if b=true then
 (idx a (w64 (p1 - 1))).bind fun f=>
 (mj a (w64 (p1 - 1)) (⟨0,([]:List Int)⟩:aa)).bind fun c=>
 some (c)
 else
 some (a)).bind fun e=>
 some e
theorem Ea {h:Value} {f:List Value} (x:List aa) (a:Int) (O0:Own c0 G (es true ax h 104 f x :: F)) {r:List aa} (h1:OA ax c0 h f x) (H:tZ x a=some r): Calls prog 145 #[h,I a] c0.w (aO c0 fun c v=>∃y y2,Own c G (es true ax y 104 y2 r :: F)∧v=y∧OA ax c y y2 r):=by
 unfold tZ at H;refine en func145 rfl rfl (sr (va (Y) (wln (sr (va (h) (vv (I a) (bn H fun d0 h2 H=>?_)))))));obtain ⟨v3,h4,s,i⟩:=Own.cutHM (k2:= .i64) (k':= .i64) 0 O0 rfl dN h1 (by kernel_rfl) h2;refine vr v3 (rx (by kernel_rfl) (h4 _)) (va (v3) (wln (bn H fun q b H8=>W.seqJ (Jn c0 fun c l=>∃v9 g,Own c G (es true ax v9 104 g q :: F)∧l= [(0,v9)]∧OA ax c v9 g q) ?_ ?_)))
 ·refine W.seq (bn b fun t p b=>W.join (Jn c0 fun c l=>Own c G (es true ax v3 104 f d0 :: F)∧l= [(0,v3),(1,I a),(19,B t)]) ?_ ?_)
  ·clear b;refine W.region (va (I a) (va (B (decide (a > 0))) ?_));rcases bo (decide (a > 0)) with d | d
   ·have k:=anT d p;refine vb d (wa (v3) (wa (I a) (wa (I (w64 (a - 1))) (wn (bn k fun e n k=>vx (ixO dN i n) (wa (Qo (sb v3) ((w64 (a - 1)).toNat * 2)) (wn ?_)))))));obtain ⟨l0,N,a0⟩:=OA.at i n;obtain ⟨v18,rfl,u0⟩:=N;refine vr (I e.Kind) (rx (by kernel_rfl) (Aq u_3 rfl (s.on 0 rfl) (i.blk n) (at1 (j:=0) a0 rfl))) (wa (B (e.Kind==2)) ?_);obtain rfl:=si k;exact va (B (e.Kind==2)) (wln (jn c0 ⟨s,rfl⟩))
   obtain rfl:=anF d p;exact vb d (pz (pz (pz (ps (va (B false) (wln (jn c0 ⟨s,rfl⟩)))))))
  rintro e_ w_ ⟨D,s0,_,rfl,v0,rfl,o,rfl⟩;refine nrm (cn b (fun P b=>?_) (fun P b=>?_))
  ·refine W.region (va (v3) (va (I a) (va (I (w64 (a - 1))) (va (.agg #[I 0,Y]) (bn b fun q0 S b=>vx (ixO dN i.m S) (bn b fun o0 U b=>md (Own.stW (R:=ax) (T:=104) (us:=[I 0,Y]) (x':=(⟨0,([]:List Int)⟩:aa)) (u:= .agg #[I 0,Y]) 0 o (by kernel_rfl) rfl i.m U rfl (by kernel_rfl) ⟨rfl,rfl,trivial⟩ rfl ⟨(Y),rfl,(Sl.nl _ _)⟩) ?_))))));rintro E w0 ⟨b0,z,X⟩;refine wln ?_;obtain rfl:=si b;exact jn E ⟨v3,b0,z,rfl,X⟩
  refine W.skip (nrm ?_);obtain rfl:=si b;exact jn D ⟨v3,f,o,rfl,i.m⟩
 rintro e_ w_ ⟨M,t0,_,rfl,x0,rfl,v9,g,A,rfl,Z⟩;refine sr (vv (v9) (wln (W.ret ?_)));obtain rfl:=si H8;exact r1 (qq M ⟨v9,g,A,rfl,Z⟩)
def wD (sg:Sto) (p0:List aa):Option (Sto×(Option Nat)):=
 (wC sg p0).bind fun a=>
 if (!a.2.2.isNil)=true then
 some (a.1,(none:Option Nat))
 else
 some (a.1,a.2.1)
theorem Gu (l:Own c0 G F) (m:Rel c0 sg G) (hG:Gl [3,5] c0) (f:List aa) {r:Sto×(Option Nat)} (o:Sl ax c0 v1 f) (H:wD sg f=some r): Calls prog 146 #[v1] c0.w (aO c0 fun c v=>∃k,∃G_:Gm,Own c G_ (F)∧Rel c r.1 G_∧v=k∧Pt 0 c k r.2):=by
 unfold wD at H;refine en func146 rfl rfl (sr (va (.pointer none) (wln (sr (va (v1) (bn H fun j p H=>cl (Gs l m (hG.le (by decide)) f o p) ?_))))));rintro v13 e t ⟨v4,v6,g,h,d,rfl,q,s⟩;refine va (.tuple #[v4,v6]) (va (v4) (va (v6) (va (v4) (va (v6) (wln (W.seq (sr (va (v6) (vr (B (!j.2.2.isNil)) (by rcases (s).cs with ⟨a,b⟩ | ⟨n,a,b⟩ | ⟨n,a,b⟩ <;> (subst a; rw [b]; kernel_rfl)) (wln (cn H (fun i H=>?_) (fun i H=>?_))))))))))))
 ·refine sr (va (.pointer none) (wln (W.ret (thr ?_))));obtain rfl:=si H;exact r1 (qq e ⟨(.pointer none),g,h,d,rfl,rfl⟩)
 refine W.skip (nrm (sr (vv (v4) (wln (W.ret ?_)))));obtain rfl:=si H;exact r1 (qq e ⟨v4,g,h,d,rfl,q⟩)
def px (sg:Sto) (p0:Option Nat) (p1:Int):Option (Sto×(Option Nat)):=
 if p0.isNone=true then
 some (sg,(none:Option Nat))
 else
 (em sg p0).bind fun c=>
 (bK sg p0).bind fun d=>
 (tZ c (aM (aS 1 (aM p1 1024)) d)).bind fun a=>
 (eh (w64 ((aS 1 (aM p1 1024)) - (a.length:Int)))).bind fun e=>
 (app a e).bind fun f=>
 (wD sg f).bind fun b=>
 some (b.1,b.2)
theorem zn (o:Own c0 G F) (f:Rel c0 sg G) (hG:Gl [3,5] c0) (b:Option Nat) (a:Int) {r:Sto×(Option Nat)} (j:Pt 0 c0 v1 b) (H:px sg b a=some r): Calls prog 112 #[v1,I a] c0.w (aO c0 fun c v=>∃y1,∃G_:Gm,Own c G_ (F)∧Rel c r.1 G_∧v=y1∧Pt 0 c y1 r.2):=by
 unfold px at H;refine en func112 rfl rfl (sr (va (.pointer none) (wln (W.seq (sr (va (v1) (vr (B b.isNone) (by rcases (j).cs with ⟨g,i⟩ | ⟨b_,g,i⟩ <;> (subst g; rw [i]; kernel_rfl)) (wln (cn H (fun h3 H=>?_) (fun h3 H=>?_))))))))))
 ·refine sr (va (.pointer none) (wln (W.ret (thr ?_))));obtain rfl:=si H;exact r1 (qq c0 ⟨(.pointer none),G,o,f,rfl,rfl⟩)
 refine W.skip (nrm (sr (va (I a) (va (I (aM a 1024)) (vv (I (aS 1 (aM a 1024))) (wln (sr (va (v1) (bn H fun k h4 H=>cl (kW o f b j h4) ?_)))))))));rintro v5 k0 u0 ⟨_,u6,O9,rfl,h7⟩;refine va (I (aS 1 (aM a 1024))) (va (v1) (bn H fun d E H=>cl (cv O9 f.m b j.m E) ?_));rintro v20 l0 v0 ⟨p,rfl⟩;refine va (I (aM (aS 1 (aM a 1024)) d)) (bn H fun e M H=>cl (Ea k (aM (aS 1 (aM a 1024)) d) p h7.m M) ?_);rintro v23 m0 w0 ⟨_,c1,q,rfl,h⟩;refine va (v23) (wln (sr (va (v23) (va (I (aS 1 (aM a 1024))) (va (v23) (vx (lnO 3 dN h) (va (I (w64 ((aS 1 (aM a 1024)) - (e.length:Int)))) (bn H fun i0 N H=>cl (jM q (w64 ((aS 1 (aM a 1024)) - (e.length:Int))) N) ?_))))))));rintro v33 o0 x0 ⟨_,d1,s,rfl,P⟩;obtain ⟨q0,S,y0,t,R⟩:=s.frz 0 rfl P;refine WL.gh S (bn H fun l T H=>me (ap ax (.agg #[I 0,Y]) 32 99 1 t h.m R T dN) ?_);rintro v51 s0 z0 ⟨e1,u,U⟩;obtain ⟨t0,Z,a1,x,X⟩:=u.frz 1 rfl U;refine WL.gh Z (bn H fun j0 a0 H=>cl (Gu x f.m (hG.m.le (by decide)) l X a0) ?_);rintro v57 D b1 ⟨_,n,y,A,rfl,b0⟩;refine va (v57) (wln (W.ret ?_));obtain rfl:=si H;have z:=y.sD 2 [];exact r1 (qq D ⟨v57,n,z,A,rfl,b0⟩)
def oq (sg:Sto) (p0:Option Nat) (p1:Int) (p2:Int):Option (Sto):=
 (orE p0.isNone ((p0).bind fun u=>
 (sg.place_Pen[u]?).bind fun v=>
 some v.G.isNone)).bind fun t=>
 if t=true then
 some sg
 else
 (p0).bind fun l=>
 (sg.place_Pen[l]?).bind fun e=>
 (bV sg e.G).bind fun o=>
 (bJ sg e.G).bind fun p=>
 (ed e.At o p).bind fun b=>
 (mx sg (aS 1 (aM p1 1024)) (aS 1 (aM p2 1024))).bind fun c=>
 (cV (σ:=Int×Sto) (τ:=Sto) (((aS 1 (aM p2 1024)) - 0).toNat+1) (fun a=>
 if (decide (a.1 < (aS 1 (aM p2 1024))))=true then
 ((p0).bind fun m=>
 (a.2.place_Pen[m]?).bind fun n=>
 (bB a.2 n.G (w64 ((aS 0 (w64 ((w64 (b.Row - (aS 1 (aM p2 1024))))+1)))+a.1))).bind fun j=>
 if (!j.isNone)=true then
 (px a.2 j (aS 1 (aM p1 1024))).bind fun k=>
 (fW k.1 c.2 a.1 k.2).bind fun q=>
 some (q.1)
 else
 some (a.2)).bind fun s=>
 some (.inl ((w64 (a.1+1)),s))
 else
 some (.inr (a.2))) (0,c.1)).bind fun i=>
 (p0).bind fun d=>
 (i.place_Pen[d]?).bind fun f=>
 (i.set_place_Pen d (⟨c.2,f.At,f.Auto⟩:bf)).bind fun h=>
 (kQ (w64 (b.Row - (aS 0 (w64 ((w64 (b.Row - (aS 1 (aM p2 1024))))+1))))) b.Col (aS 1 (aM p1 1024)) (aS 1 (aM p2 1024))).bind fun r=>
 (h.set_place_Pen d (⟨c.2,r,f.Auto⟩:bf)).bind fun g=>
 some g
theorem xt (O0:Own c0 G F) (z:Rel c0 sg G) (hG:Gl [3,5] c0) (p0:Option Nat) (o:Int) (b:Int) {r:Sto} (h2:Pt 2 c0 v1 p0) (H:oq sg p0 o b=some r): Calls prog 74 #[v1,I o,I b] c0.w (aO c0 fun c v=>∃G_:Gm,Own c G_ (F)∧Rel c r G_∧v= .tuple #[]):=by
 unfold oq at H;refine en func74 rfl rfl (W.seq (W.seq (bn H fun q5 h3 H=>W.join (Jn c0 fun c l=>Own c G (F)∧l= [(0,v1),(1,I o),(2,I b),(19,B q5)]) ?_ ?_)))
 ·clear H;refine W.region (va (v1) (vr (B p0.isNone) (by rcases (h2).cs with ⟨t,u⟩ | ⟨b_,t,u⟩ <;> (subst t; rw [u]; kernel_rfl)) ?_));rcases bo (p0.isNone) with h4 | h4
  ·obtain rfl:=orT h4 h3;exact vb h4 (pz (pz (ps (va (B true) (wln (jn c0 ⟨O0,rfl⟩))))))
  have H5:=orF h4 h3;refine vb h4 (wa (v1) (wn (bn H5 fun g8 h8 H5=>?_)));obtain ⟨b6,rfl,h7⟩:=(h2).get h8;refine va (Q b6) (wa (Q b6) (wn (bn H5 fun k2 h9 H5=>?_)));obtain ⟨v10,t5,s5⟩:=Rel.open_place_Pen z h9 h7;refine vx (le1 0 iZ (O0.gon t5 0 rfl)) (wn (vr (B k2.G.isNone) (by rcases (s5).cs with ⟨t,u⟩ | ⟨b_,t,u⟩ <;> (subst t; rw [u]; kernel_rfl)) ?_));obtain rfl:=si H5;exact va (B k2.G.isNone) (wln (jn c0 ⟨O0,rfl⟩))
 rintro e_ w_ ⟨c2,f8,_,rfl,Z,rfl,m1,rfl⟩;refine nrm (cn H (fun u5 H=>?_) (fun u5 H=>?_))
 ·refine W.ret (thr ?_);obtain rfl:=si H;exact r0 (qq c2 ⟨G,m1,z.m,rfl⟩)
 refine W.skip (nrm (sr (va (I o) (va (I (aM o 1024)) (va (I (aS 1 (aM o 1024))) (va (I b) (va (I (aM b 1024)) (va (I (aS 1 (aM b 1024))) (va (I (aS 1 (aM o 1024))) (va (I (aS 1 (aM b 1024))) (wln (W.seq (bn H fun i7 v5 H=>bn H fun h w5 H=>bn H fun D g2 H=>bn H fun E x0 H=>bn H fun a X H=>W.join (Jn c2 fun c l=>∃n,Own c G ((Eb n 55 [I a.Row,I a.Col,B a.Pending]) :: F)∧l= [(0,v1),(1,I (aS 1 (aM o 1024))),(2,I (aS 1 (aM b 1024))),(6,Q n)]) ?_ ?_)))))))))))))
 ·clear H;refine rD [] (Kp G []) m1 ?_;intro g5 j2 k0;have f1:Kp G [] g5:=(Kp.nil k0);refine ta 0 (v1) ?_;obtain ⟨s,rfl,y5⟩:=((h2.mono (Z.trans j2))).get v5;refine ta 1 (Q s) (ta 2 (Qo s 1) ?_);obtain ⟨v31,y0,M⟩:=Rel.open_place_Pen (z.mono (Z.trans j2)) w5 y5;refine tkx 3 f1 (fun c' i2 hk=>leN 55 1 [I h.At.Row,I h.At.Col,B h.At.Pending] (hk.gon y0 0 rfl)) (ta 4 (Q s) (ta 5 (Q s) (ta 6 (Q s) (tkx 7 f1 (fun c' i2 hk=>le1 0 iZ (hk.gon y0 0 rfl)) (ta 9 (Q s) (ta 10 (Q s) (ta 11 (Q s) (tkx 12 f1 (fun c' i2 hk=>le1 0 iZ (hk.gon y0 0 rfl)) (mn2 8 15 ?_ ?_)))))))))
  ·refine gc 8 (cG k0 z.m h.G M g2) ?_;rintro v39 h5 i8 ⟨l0,rfl⟩;have z5:Kp G [] h5:=(Kp.nil l0);refine ⟨.inr z5,mn2 13 15 ?_ ?_⟩
   ·refine gc 13 (bE l0 z.m h.G M.m x0) ?_;rintro v46 i5 j8 ⟨m0,rfl⟩;have a6:Kp G [] i5:=(Kp.nil m0);refine ⟨.inr a6,mn2 14 15 ?_ ?_⟩
    ·refine gc 14 (dI m0 h.At D E X) ?_;rintro v53 j5 k8 ⟨n1,rfl⟩;have c6:Kp G [] j5:=(Kp.nil n1);refine ⟨.inr c6,o1 15 (gm 15 (al 55 [I 0,I 0,B false] n1) ?_)⟩;rintro v58 k5 l8 ⟨a5,rfl,q1⟩;have d6:Kp G [] k5:=(Kp.nil q1);refine ⟨.inr d6,o1 16 (gD 16 (sA 55 [I a.Row,I a.Col,B a.Pending] 0 q1 ⟨rfl,rfl,rfl,trivial⟩) ?_)⟩;rintro d2 m8 s1;have e6:Kp G [] d2:=(Kp.nil s1);exact ⟨.inr e6,dn (nrm (jn d2 ⟨a5,s1,rfl⟩))⟩
    refine gm 15 (al 55 [I 0,I 0,B false] m0) ?_;rintro u8 l5 n8 ⟨c5,rfl,t1⟩;have f6:Kp G [] l5:=(Kp.nil t1);refine ⟨.inr f6,o1 14 (gc 14 (dI t1 h.At D E X) ?_)⟩;rintro v8 m5 o8 ⟨u1,rfl⟩;have g6:Kp G [] m5:=(Kp.nil u1);refine ⟨.inr g6,o1 16 (gD 16 (sA 55 [I a.Row,I a.Col,B a.Pending] 0 u1 ⟨rfl,rfl,rfl,trivial⟩) ?_)⟩;rintro e2 p8 w1;have h6:Kp G [] e2:=(Kp.nil w1);exact ⟨.inr h6,dn (nrm (jn e2 ⟨c5,w1,rfl⟩))⟩
   refine gm 15 (al 55 [I 0,I 0,B false] l0) ?_;rintro w8 n5 q8 ⟨d5,rfl,x1⟩;have i6:Kp G [] n5:=(Kp.nil x1);refine ⟨.inr i6,o1 13 (gc 13 (bE x1 z.m h.G M.m x0) ?_)⟩;rintro x8 o5 r8 ⟨y1,rfl⟩;have j6:Kp G [] o5:=(Kp.nil y1);refine ⟨.inr j6,o1 14 (gc 14 (dI y1 h.At D E X) ?_)⟩;rintro y8 p5 s8 ⟨z1,rfl⟩;have k6:Kp G [] p5:=(Kp.nil z1);refine ⟨.inr k6,o1 16 (gD 16 (sA 55 [I a.Row,I a.Col,B a.Pending] 0 z1 ⟨rfl,rfl,rfl,trivial⟩) ?_)⟩;rintro f2 t8 b2;have l6:Kp G [] f2:=(Kp.nil b2);exact ⟨.inr l6,dn (nrm (jn f2 ⟨d5,b2,rfl⟩))⟩
  refine gm 15 (al 55 [I 0,I 0,B false] k0) ?_;rintro v7 l3 l7 ⟨k3,rfl,d0⟩;have q4:Kp G [] l3:=(Kp.nil d0);refine ⟨.inr q4,o1 8 (gc 8 (cG d0 z.m h.G M.m g2) ?_)⟩;rintro w7 m3 m7 ⟨e0,rfl⟩;have r4:Kp G [] m3:=(Kp.nil e0);refine ⟨.inr r4,o1 13 (gc 13 (bE e0 z.m h.G M.m x0) ?_)⟩;rintro x7 n3 n7 ⟨f0,rfl⟩;have s4:Kp G [] n3:=(Kp.nil f0);refine ⟨.inr s4,o1 14 (gc 14 (dI f0 h.At D E X) ?_)⟩;rintro y7 o3 o7 ⟨g0,rfl⟩;have t4:Kp G [] o3:=(Kp.nil g0);refine ⟨.inr t4,o1 16 (gD 16 (sA 55 [I a.Row,I a.Col,B a.Pending] 0 g0 ⟨rfl,rfl,rfl,trivial⟩) ?_)⟩;rintro s0 p7 h0;have u4:Kp G [] s0:=(Kp.nil h0);exact ⟨.inr u4,dn (nrm (jn s0 ⟨k3,h0,rfl⟩))⟩
 rintro e_ w_ ⟨t6,y6,_,rfl,b1,rfl,n,i0,rfl⟩;refine nrm (sr (va (Q n) (vx (le1 0 u_3 (i0.on 0 rfl)) (va (I (aS 1 (aM b 1024))) (va (I (w64 (a.Row - (aS 1 (aM b 1024))))) (va (I (w64 ((w64 (a.Row - (aS 1 (aM b 1024))))+1))) (vv (I (aS 0 (w64 ((w64 (a.Row - (aS 1 (aM b 1024))))+1)))) (wln (sr (va (I (aS 1 (aM o 1024))) (va (I (aS 1 (aM b 1024))) (bn H fun w4 u3 H=>cl (wW i0 z.m (aS 1 (aM o 1024)) (aS 1 (aM b 1024)) u3) ?_))))))))))));rintro q R c1 ⟨_,l2,t2,d3,q6,rfl,y⟩;refine va (q) (wln (W.seq (sr (va (I (aS 1 (aM b 1024))) (va (I 0) (wln (W.block (bn H fun u7 u0 g=>lp u0 (fun f=>Jn R fun c l=>∃G_,Own c G_ ((Eb n 55 [I a.Row,I a.Col,B a.Pending]) :: F)∧l= [(0,v1),(1,I (aS 1 (aM o 1024))),(2,I (aS 1 (aM b 1024))),(6,Q n),(7,I (aS 0 (w64 ((w64 (a.Row - (aS 1 (aM b 1024))))+1)))),(8,q),(50,I (aS 1 (aM b 1024))),(51,I f.1)]∧Rel c f.2 G_) (fun i1 ex e w=>ex= .exit 0∧(Jn R fun c l=>∃G_,Own c G_ ((Eb n 55 [I a.Row,I a.Col,B a.Pending]) :: F)∧l= [(0,v1),(1,I (aS 1 (aM o 1024))),(2,I (aS 1 (aM b 1024))),(6,Q n),(7,I (aS 0 (w64 ((w64 (a.Row - (aS 1 (aM b 1024))))+1)))),(8,q)]∧Rel c i1 G_) e w) ?_ ?_ ?_))))))))
 ·clear g u0;intro f z8 r5 m6 H;revert r5 m6;rintro e_ w_ ⟨t0,z6,_,rfl,o4,rfl,a0,N,rfl,x⟩;refine sr (va (B (decide (f.1 < (aS 1 (aM b 1024))))) (wln (W.seq (cn H (fun v3 H=>?_) (fun v3 H=>?_)))))
  ·refine W.skip (nrm (bn H fun y4 d q2=>W.seqJ (Jn t0 fun c l=>∃G_,Own c G_ ((Eb n 55 [I a.Row,I a.Col,B a.Pending]) :: F)∧l= [(0,v1),(1,I (aS 1 (aM o 1024))),(2,I (aS 1 (aM b 1024))),(6,Q n),(7,I (aS 0 (w64 ((w64 (a.Row - (aS 1 (aM b 1024))))+1)))),(8,q),(50,I (aS 1 (aM b 1024))),(51,I f.1)]∧Rel c y4 G_) ?_ ?_))
   ·refine W.block (sr (vv (I f.1) (wln (sr (va (v1) (bn d fun j7 x3 d=>?_))))));obtain ⟨q0,rfl,w3⟩:=((h2.mono (Z.trans (b1.trans (c1.trans o4))))).get x3;refine vv (Q q0) (bn d fun p4 y3 d=>?_);obtain ⟨z7,a4,z3⟩:=Rel.open_place_Pen x y3 w3;refine vx (le1 0 iZ (N.gon a4 0 rfl)) (va (I (aS 0 (w64 ((w64 (a.Row - (aS 1 (aM b 1024))))+1)))) (va (I f.1) (va (I (w64 ((aS 0 (w64 ((w64 (a.Row - (aS 1 (aM b 1024))))+1)))+f.1))) (bn d fun g1 b4 d=>cl (cL N x p4.G (w64 ((aS 0 (w64 ((w64 (a.Row - (aS 1 (aM b 1024))))+1)))+f.1)) z3 b4) ?_))));rintro U p3 q7 ⟨_,j0,rfl,v0⟩;refine va (U) (wln (sr (va (U) (vr (B (!g1.isNone)) (by rcases (v0).cs with ⟨t,u⟩ | ⟨b_,t,u⟩ <;> (subst t; rw [u]; kernel_rfl)) (wln (cn d (fun c4 d=>?_) (fun c4 d=>?_)))))))
    ·refine W.region (va (q) (va (I f.1) (va (U) (va (I (aS 1 (aM o 1024))) (bn d fun x4 d4 d=>cl (zn j0 x.m (hG.m.le (by decide)) g1 (aS 1 (aM o 1024)) v0 d4) ?_)))));rintro a8 u6 r7 ⟨_,n6,u2,e3,rfl,e4⟩;refine bn d fun e8 f4 d=>cl (pS u2 e3 w4.2 f.1 x4.2 y.m e4 f4) ?_;rintro b8 q3 s7 ⟨m2,v2,f3,rfl⟩;refine WL.nil (bkn (nrm ?_));obtain rfl:=si d;exact jn q3 ⟨m2,v2,rfl,f3⟩
    refine W.skip (bkn (nrm ?_));obtain rfl:=si d;exact jn p3 ⟨a0,j0,rfl,x.m⟩
   rintro e_ w_ ⟨s3,a7,_,rfl,t7,rfl,n2,w2,rfl,g3⟩;refine W.region (vv (I (w64 (f.1+1))) (WL.nil ?_));obtain rfl:=si q2;exact ⟨_,rfl,jn s3 ⟨n2,w2,rfl,g3⟩⟩
  refine W.exit (thx ?_);obtain rfl:=si H;exact ⟨_,rfl,rfl,jn t0 ⟨a0,N,rfl,x⟩⟩
 ·exact jn R ⟨l2,t2,rfl,d3⟩
 rintro _ e_ w_ ⟨rfl,v6,b7,_,rfl,A,rfl,o6,x2,rfl,o0⟩;refine bke (nrm (sr (va (v1) (va (q) (bn g fun k7 g4 g=>?_)))));obtain ⟨j,rfl,S⟩:=((h2.mono (Z.trans (b1.trans (c1.trans A))))).get g4;refine vv (Q j) ?_;obtain ⟨p,rfl⟩:=((y.mono A)).form;refine bn g fun i i4 g=>?_;obtain ⟨c8,j4,c7⟩:=Rel.open_place_Pen o0 i4 S;refine md (gC 52 0 (.pointer p) [.pointer p,I i.At.Row,I i.At.Col,B i.At.Pending,B i.Auto] 0 x2 j4 ⟨y.m.one,trivial⟩) ?_;rintro w6 T y2;refine bn g fun z4 l4 g=>?_;obtain ⟨p6,P,i3,k4,r6⟩:=Rel.put_place_Pen y2 (o0.mono T) (E':=[(Eb j 57 [.pointer p,I i.At.Row,I i.At.Col,B i.At.Pending,B i.Auto])]) l4 ⟨j,(.pointer p),(tm S),rfl,(y.mono (A.trans T))⟩;refine wln (W.region (va (Q j) (va (Q n) (vx (le1 0 u_3 (P.on 0 rfl)) (va (I (aS 0 (w64 ((w64 (a.Row - (aS 1 (aM b 1024))))+1)))) (va (I (w64 (a.Row - (aS 0 (w64 ((w64 (a.Row - (aS 1 (aM b 1024))))+1)))))) (va (Qo n 1) (vx (le1 1 u_3 (P.on 0 rfl)) (va (I (aS 1 (aM o 1024))) (va (I (aS 1 (aM b 1024))) (bn g fun k m4 g=>cl (rQ P (w64 (a.Row - (aS 0 (w64 ((w64 (a.Row - (aS 1 (aM b 1024))))+1))))) a.Col (aS 1 (aM o 1024)) (aS 1 (aM b 1024)) m4) ?_)))))))))));rintro d8 x6 d1 ⟨z2,rfl⟩;refine va (Q j) (va (Qo j 1) (md (gB 55 1 [I k.Row,I k.Col,B k.Pending] [.pointer p,I k.Row,I k.Col,B k.Pending,B i.Auto] 0 z2 k4 ⟨rfl,rfl,rfl,trivial⟩) ?_));rintro t3 e1 a3;refine bn g fun v4 n4 g=>?_;obtain ⟨o2,b3,j3,d7,s6⟩:=Rel.put_place_Pen a3 (i3.mono (d1.trans e1)) (E':=[(Eb j 57 [.pointer p,I k.Row,I k.Col,B k.Pending,B i.Auto])]) n4 ⟨j,(.pointer p),(tm S),rfl,(y.mono (A.trans (T.trans (d1.trans e1))))⟩;refine WL.nil ?_;obtain rfl:=si g;have c3:=b3.sD 1 [];exact n0 (qq t3 ⟨o2,c3,j3,rfl⟩)
def iQ (p0:Int):Option (Bool):=
 (bX (decide (p0≥0)) (some (decide (p0 < 32)))).bind fun b=>
 (orE b ((bX (decide (p0≥127)) (some (decide (p0≤159)))).bind fun a=>
 some a)).bind fun c=>
 some c
theorem qO (e:Own c0 G F) (a:Int) {r:Bool} (H:iQ a=some r): Calls prog 176 #[J a] c0.w (aO c0 fun c v=>Own c G (F)∧v=B r):=by
 unfold iQ at H;refine en func176 rfl rfl (sr (va (B false) (wln (W.seq (bn H fun z t H=>bn H fun s n H=>W.join (Jn c0 fun c l=>Own c G (F)∧l= [(2,B s)]) ?_ ?_)))))
 ·clear H;refine W.region (va (J a) (va (B (decide (a≥0))) ?_));rcases bo (decide (a≥0)) with f | f
  ·have x:=anT f t;refine vb f (wa (J a) (wa (B (decide (a < 32))) ?_));obtain rfl:=si x;refine va (B (decide (a < 32))) ?_;rcases bo (decide (a < 32)) with g | g
   ·obtain rfl:=orT g n;exact vb g (pz (pz (pz (vv (B true) (wln (jn c0 ⟨e,rfl⟩))))))
   have i:=orF g n;refine vb g (wa (J a) (wa (B (decide (a≥127))) (wn (bn i fun m u i=>?_))));rcases bo (decide (a≥127)) with h | h
   ·have y:=anT h u;refine vb h (wa (J a) (wa (B (decide (a≤159))) (wn ?_)));obtain rfl:=si y;refine va (B (decide (a≤159))) ?_;obtain rfl:=si i;exact vv (B (decide (a≤159))) (wln (jn c0 ⟨e,rfl⟩))
   obtain rfl:=anF h u;refine vb h (pz (wa (B false) ?_));obtain rfl:=si i;exact vv (B false) (wln (jn c0 ⟨e,rfl⟩))
  obtain rfl:=anF f t;refine vb f (pz (va (B false) ?_));have j:false=false:=rfl;have d:=orF j n;refine vb j (wa (J a) (wa (B (decide (a≥127))) (wn (bn d fun m k d=>?_))));rcases bo (decide (a≥127)) with b | b
  ·have o:=anT b k;refine vb b (wa (J a) (wa (B (decide (a≤159))) (wn ?_)));obtain rfl:=si o;refine va (B (decide (a≤159))) ?_;obtain rfl:=si d;exact vv (B (decide (a≤159))) (wln (jn c0 ⟨e,rfl⟩))
  obtain rfl:=anF b k;refine vb b (pz (wa (B false) ?_));obtain rfl:=si d;exact vv (B false) (wln (jn c0 ⟨e,rfl⟩))
 rintro E M ⟨q,A,_,rfl,D,rfl,p,rfl⟩;refine nrm (W.ret ?_);obtain rfl:=si H;exact r1 (qq q ⟨p,rfl⟩)
def kR (p0:aj):Option (aj):=
 (if (decide (p0.Col > 0))=true then
 some ((w64 (p0.Col - 1)))
 else
 some (p0.Col)).bind fun a=>
 some (⟨p0.Row,a,false⟩:aj)
theorem xF (s:Own c0 G F) (a:aj) {r:aj} (H:kR a=some r): Calls prog 214 #[.agg #[I a.Row,I a.Col,B a.Pending]] c0.w (aO c0 fun c v=>Own c G (F)∧v= .agg #[I r.Row,I r.Col,B r.Pending]):=by
 unfold kR at H;refine en func214 rfl rfl (sr (me (al 55 [I a.Row,I a.Col,B a.Pending] s) ?_));rintro v4 E P ⟨e,rfl,t⟩;refine me (al 55 [I 0,I 0,B false] t) ?_;rintro v8 M R ⟨o,rfl,u⟩;refine wln (sr (va (Qo e 2) (md (sC 4 2 (B false) [I a.Row,I a.Col,B false] 1 u ⟨rfl,trivial⟩) ?_)));rintro i z f;refine wln (bn H fun d b k=>W.seqJ (Jn i fun c l=>Own c G ((Eb o 55 [I 0,I 0,B false]) :: (Eb e 55 [I a.Row,I d,B false]) :: F)∧l= [(1,Q e),(2,Q o)]) ?_ ?_)
 ·refine sr (va (Qo e 1) (vx (le1 1 u_3 (f.on 1 rfl)) (va (B (decide (a.Col > 0))) (wln (cn b (fun q b=>?_) (fun q b=>?_))))))
  ·refine W.region (va (Qo e 1) (vx (le1 1 u_3 (f.on 1 rfl)) (va (I (w64 (a.Col - 1))) (va (Qo e 1) (md (sC 3 1 (I (w64 (a.Col - 1))) [I a.Row,I (w64 (a.Col - 1)),B false] 1 f ⟨rfl,trivial⟩) ?_)))));rintro p A m;refine wln ?_;obtain rfl:=si b;exact jn p ⟨m,rfl⟩
  refine W.skip (nrm ?_);obtain rfl:=si b;exact jn i ⟨f,rfl⟩
 rintro N S ⟨x,y,_,rfl,l16,rfl,g,rfl⟩;refine sr (vx (leN 55 0 [I a.Row,I d,B false] (g.on 1 rfl)) (md (sA 55 [I a.Row,I d,B false] 0 g ⟨rfl,rfl,rfl,trivial⟩) ?_));rintro j D h;refine wln (W.ret ?_);obtain rfl:=si k;have n:=h.sD 2 [];exact uV (c:=j) (vs:=[I a.Row,I d,B false]) rfl (by kernel_rfl) (by kernel_rfl) (by kernel_rfl) (h.on 0 rfl _ rfl).1 ⟨_,j,rfl,rfl,pt,n,rfl⟩
def oY (sg:Sto) (p0:Option Nat) (p1:Int):Option (Sto×Bool):=
 (iQ p1).bind fun s=>
 if (!s)=true then
 some (sg,false)
 else
 (orE p0.isNone ((p0).bind fun j=>
 (sg.place_Pen[j]?).bind fun l=>
 some l.G.isNone)).bind fun i=>
 if i=true then
 some (sg,true)
 else
 (p0).bind fun k=>
 (sg.place_Pen[k]?).bind fun a=>
 (bV sg a.G).bind fun m=>
 (bJ sg a.G).bind fun n=>
 (ed a.At m n).bind fun h=>
 (if (p1==13)=true then
 (dr h).bind fun o=>
 (p0).bind fun d=>
 (sg.place_Pen[d]?).bind fun f=>
 (sg.set_place_Pen d (⟨f.G,o,f.Auto⟩:bf)).bind fun b=>
 some (b)
 else
 if (p1==10)=true then
 (eN sg p0).bind fun p=>
 some (p)
 else
 if (p1==8)=true then
 (kR h).bind fun q=>
 (p0).bind fun e=>
 (sg.place_Pen[e]?).bind fun g=>
 (sg.set_place_Pen e (⟨g.G,q,g.Auto⟩:bf)).bind fun c=>
 some (c)
 else
 some (sg)).bind fun r=>
 some (r,true)
theorem Ee (O0:Own c0 G F) (g:Rel c0 sg G) (p0:Option Nat) (j:Int) {r:Sto×Bool} (S:Pt 2 c0 v1 p0) (H:oY sg p0 j=some r): Calls prog 177 #[v1,J j] c0.w (aO c0 fun c v=>∃G_:Gm,Own c G_ (F)∧Rel c r.1 G_∧v=B r.2):=by
 unfold oY at H;refine en func177 rfl rfl (sr (va (B false) (wln (W.seq (sr (va (J j) (bn H fun o5 h3 H=>cl (qO O0 j h3) ?_)))))));rintro v9 c8 o ⟨O5,rfl⟩;refine va (B (!o5)) (wln (cn H (fun t4 H=>?_) (fun t4 H=>?_)))
 ·refine sr (va (B false) (wln (W.ret (thr ?_))));obtain rfl:=si H;exact r1 (qq c8 ⟨G,O5,g.m,rfl⟩)
 refine W.skip (nrm (W.seq (W.seq (bn H fun c3 s1 H=>W.join (Jn c8 fun c l=>Own c G (F)∧l= [(0,v1),(1,J j),(17,B c3)]) ?_ ?_))))
 ·clear H;refine W.region (va (v1) (vr (B p0.isNone) (by rcases S.m.cs with ⟨y,z⟩ | ⟨b_,y,z⟩ <;> (subst y; rw [z]; kernel_rfl)) ?_));rcases bo (p0.isNone) with x | x
  ·obtain rfl:=orT x s1;exact vb x (pz (pz (ps (va (B true) (wln (jn c8 ⟨O5,rfl⟩))))))
  have u:=orF x s1;refine vb x (wa (v1) (wn (bn u fun a6 v4 u=>?_)));obtain ⟨k1,rfl,u4⟩:=((S.mono o)).get v4;refine va (Q k1) (wa (Q k1) (wn (bn u fun t0 w4 u=>?_)));obtain ⟨v18,y4,x4⟩:=Rel.open_place_Pen (g.mono o) w4 u4;refine vx (le1 0 iZ (O5.gon y4 0 rfl)) (wn (vr (B t0.G.isNone) (by rcases (x4).cs with ⟨y,z⟩ | ⟨b_,y,z⟩ <;> (subst y; rw [z]; kernel_rfl)) ?_));obtain rfl:=si u;exact va (B t0.G.isNone) (wln (jn c8 ⟨O5,rfl⟩))
 rintro e_ w_ ⟨m1,w6,_,rfl,n,rfl,a1,rfl⟩;refine nrm (cn H (fun z4 H=>?_) (fun z4 H=>?_))
 ·refine sr (va (B true) (wln (W.ret (thr ?_))));obtain rfl:=si H;exact r1 (qq m1 ⟨G,a1,g.m,rfl⟩)
 refine W.skip (nrm (W.seq (bn H fun b6 a5 H=>bn H fun d b5 H=>bn H fun s t1 H=>bn H fun t l0 H=>bn H fun b R H=>W.join (Jn m1 fun c l=>∃P,Own c G ((Eb P 55 [I b.Row,I b.Col,B b.Pending]) :: F)∧l= [(0,v1),(1,J j),(5,Q P)]) ?_ ?_)))
 ·clear H;refine rD [] (Kp G []) a1 ?_;intro j4 w1 d0;have x0:Kp G [] j4:=(Kp.nil d0);refine ta 0 (v1) ?_;obtain ⟨k,rfl,c5⟩:=((S.mono (o.trans (n.trans w1)))).get a5;refine ta 1 (Q k) (ta 2 (Qo k 1) ?_);obtain ⟨v39,m0,A⟩:=Rel.open_place_Pen (g.mono (o.trans (n.trans w1))) b5 c5;refine tkx 3 x0 (fun c' u1 hk=>leN 55 1 [I d.At.Row,I d.At.Col,B d.At.Pending] (hk.gon m0 0 rfl)) (ta 4 (Q k) (ta 5 (Q k) (ta 6 (Q k) (tkx 7 x0 (fun c' u1 hk=>le1 0 iZ (hk.gon m0 0 rfl)) (ta 9 (Q k) (ta 10 (Q k) (ta 11 (Q k) (tkx 12 x0 (fun c' u1 hk=>le1 0 iZ (hk.gon m0 0 rfl)) (mn2 8 15 ?_ ?_)))))))))
  ·refine gc 8 (cG d0 g.m d.G A t1) ?_;rintro v47 k4 x6 ⟨e0,rfl⟩;have d5:Kp G [] k4:=(Kp.nil e0);refine ⟨.inr d5,mn2 13 15 ?_ ?_⟩
   ·refine gc 13 (bE e0 g.m d.G A.m l0) ?_;rintro v54 l4 y6 ⟨f0,rfl⟩;have e5:Kp G [] l4:=(Kp.nil f0);refine ⟨.inr e5,mn2 14 15 ?_ ?_⟩
    ·refine gc 14 (dI f0 d.At s t R) ?_;rintro h7 m4 z6 ⟨b1,rfl⟩;have f5:Kp G [] m4:=(Kp.nil b1);refine ⟨.inr f5,o1 15 (gm 15 (al 55 [I 0,I 0,B false] b1) ?_)⟩;rintro i7 n4 a7 ⟨f4,rfl,c1⟩;have g5:Kp G [] n4:=(Kp.nil c1);refine ⟨.inr g5,o1 16 (gD 16 (sA 55 [I b.Row,I b.Col,B b.Pending] 0 c1 ⟨rfl,rfl,rfl,trivial⟩) ?_)⟩;rintro n1 b7 d1;have h5:Kp G [] n1:=(Kp.nil d1);exact ⟨.inr h5,dn (nrm (jn n1 ⟨f4,d1,rfl⟩))⟩
    refine gm 15 (al 55 [I 0,I 0,B false] f0) ?_;rintro j7 o4 c7 ⟨g4,rfl,e1⟩;have i5:Kp G [] o4:=(Kp.nil e1);refine ⟨.inr i5,o1 14 (gc 14 (dI e1 d.At s t R) ?_)⟩;rintro k7 p4 d7 ⟨f1,rfl⟩;have j5:Kp G [] p4:=(Kp.nil f1);refine ⟨.inr j5,o1 16 (gD 16 (sA 55 [I b.Row,I b.Col,B b.Pending] 0 f1 ⟨rfl,rfl,rfl,trivial⟩) ?_)⟩;rintro q1 e7 g1;have k5:Kp G [] q1:=(Kp.nil g1);exact ⟨.inr k5,dn (nrm (jn q1 ⟨g4,g1,rfl⟩))⟩
   refine gm 15 (al 55 [I 0,I 0,B false] e0) ?_;rintro l7 q4 f7 ⟨h4,rfl,h1⟩;have l5:Kp G [] q4:=(Kp.nil h1);refine ⟨.inr l5,o1 13 (gc 13 (bE h1 g.m d.G A.m l0) ?_)⟩;rintro m7 r4 g7 ⟨i1,rfl⟩;have m5:Kp G [] r4:=(Kp.nil i1);refine ⟨.inr m5,o1 14 (gc 14 (dI i1 d.At s t R) ?_)⟩;rintro n6 t2 e6 ⟨j1,rfl⟩;have v3:Kp G [] t2:=(Kp.nil j1);refine ⟨.inr v3,o1 16 (gD 16 (sA 55 [I b.Row,I b.Col,B b.Pending] 0 j1 ⟨rfl,rfl,rfl,trivial⟩) ?_)⟩;rintro g0 f6 T;have w3:Kp G [] g0:=(Kp.nil T);exact ⟨.inr w3,dn (nrm (jn g0 ⟨h4,T,rfl⟩))⟩
  refine gm 15 (al 55 [I 0,I 0,B false] d0) ?_;rintro o6 u2 g6 ⟨s2,rfl,U⟩;have x3:Kp G [] u2:=(Kp.nil U);refine ⟨.inr x3,o1 8 (gc 8 (cG U g.m d.G A.m t1) ?_)⟩;rintro p6 v2 h6 ⟨X,rfl⟩;have y3:Kp G [] v2:=(Kp.nil X);refine ⟨.inr y3,o1 13 (gc 13 (bE X g.m d.G A.m l0) ?_)⟩;rintro q6 w2 i6 ⟨Z,rfl⟩;have z3:Kp G [] w2:=(Kp.nil Z);refine ⟨.inr z3,o1 14 (gc 14 (dI Z d.At s t R) ?_)⟩;rintro r6 x2 j6 ⟨a0,rfl⟩;have a4:Kp G [] x2:=(Kp.nil a0);refine ⟨.inr a4,o1 16 (gD 16 (sA 55 [I b.Row,I b.Col,B b.Pending] 0 a0 ⟨rfl,rfl,rfl,trivial⟩) ?_)⟩;rintro h0 k6 b0;have b4:Kp G [] h0:=(Kp.nil b0);exact ⟨.inr b4,dn (nrm (jn h0 ⟨s2,b0,rfl⟩))⟩
 rintro e_ w_ ⟨i0,v5,_,rfl,i,rfl,P,h,rfl⟩;refine nrm (bn H fun c4 a c2=>W.seqJ (Jn i0 fun c l=>∃G_,Own c G_ ((Eb P 55 [I b.Row,I b.Col,B b.Pending]) :: F)∧l= []∧Rel c c4 G_) ?_ ?_)
 ·refine sr (va (J j) (wln (W.block (sr (vv (B (j==13)) (wln (cn a (fun d3 a=>?_) (fun d3 a=>?_))))))))
  ·refine W.region (va (v1) (vx (leN 55 0 [I b.Row,I b.Col,B b.Pending] (h.on 0 rfl)) (bn a fun e e3 a=>cl (jB h b e3) ?_)));rintro s6 t5 D ⟨d2,rfl⟩;refine bn a fun c6 f3 a=>?_;obtain ⟨p,rfl,j0⟩:=((S.mono (o.trans (n.trans (i.trans D))))).get f3;refine va (Q p) (va (Qo p 1) (bn a fun u0 g3 a=>?_));obtain ⟨M,j3,i3⟩:=Rel.open_place_Pen (g.mono (o.trans (n.trans (i.trans D)))) g3 j0;refine md (gB 55 1 [I e.Row,I e.Col,B e.Pending] [M,I e.Row,I e.Col,B e.Pending,B u0.Auto] 0 d2 j3 ⟨rfl,rfl,rfl,trivial⟩) ?_;rintro y2 q0 e2;refine bn a fun d4 k3 a=>?_;obtain ⟨x1,f2,n2,x5,q5⟩:=Rel.put_place_Pen e2 (g.mono (o.trans (n.trans (i.trans (D.trans q0))))) (E':=[(Eb p 57 [M,I e.Row,I e.Col,B e.Pending,B u0.Auto])]) k3 ⟨p,M,(tm j0),rfl,(i3.mono q0)⟩;refine WL.nil (bkn (nrm ?_));obtain rfl:=si a;exact jn y2 ⟨x1,f2,rfl,n2⟩
  refine sr (vv (B (j==10)) (wln (cn a (fun l3 a=>?_) (fun l3 a=>?_))))
  ·refine W.region (va (v1) (bn a fun v6 m3 a=>cl (nk h g.m p0 S.m m3) ?_));rintro t6 z2 l6 ⟨y1,g2,o2,rfl⟩;refine WL.nil (bkn (nrm ?_));obtain rfl:=si a;exact jn z2 ⟨y1,g2,rfl,o2⟩
  refine sr (vv (B (j==8)) (wln (cn a (fun n3 a=>?_) (fun n3 a=>?_))))
  ·refine W.region (va (v1) (vx (leN 55 0 [I b.Row,I b.Col,B b.Pending] (h.on 0 rfl)) (bn a fun f o3 a=>cl (xF h b o3) ?_)));rintro u6 u5 E ⟨i2,rfl⟩;refine bn a fun d6 p3 a=>?_;obtain ⟨q,rfl,k0⟩:=((S.mono (o.trans (n.trans (i.trans E))))).get p3;refine va (Q q) (va (Qo q 1) (bn a fun v0 q3 a=>?_));obtain ⟨N,t3,s3⟩:=Rel.open_place_Pen (g.mono (o.trans (n.trans (i.trans E)))) q3 k0;refine md (gB 55 1 [I f.Row,I f.Col,B f.Pending] [N,I f.Row,I f.Col,B f.Pending,B v0.Auto] 0 i2 t3 ⟨rfl,rfl,rfl,trivial⟩) ?_;rintro a3 s0 j2;refine bn a fun e4 u3 a=>?_;obtain ⟨z1,k2,p2,y5,r5⟩:=Rel.put_place_Pen j2 (g.mono (o.trans (n.trans (i.trans (E.trans s0))))) (E':=[(Eb q 57 [N,I f.Row,I f.Col,B f.Pending,B v0.Auto])]) u3 ⟨q,N,(tm k0),rfl,(s3.mono s0)⟩;refine WL.nil (bkn (nrm ?_));obtain rfl:=si a;exact jn a3 ⟨z1,k2,rfl,p2⟩
  refine W.skip (bkn (nrm ?_));obtain rfl:=si a;exact jn i0 ⟨G,h,rfl,g.m⟩
 rintro e_ w_ ⟨b3,w5,_,rfl,m6,rfl,b2,l2,rfl,q2⟩;refine sr (va (B true) (wln (W.ret ?_)));obtain rfl:=si c2;have m2:=l2.sD 1 [];exact r1 (qq b3 ⟨b2,m2,q2,rfl⟩)
def lT (p0:Int):Option (Bool):=
 (if (p0==1)=true then
 some (p0==1)
 else
 if (p0==2)=true then
 some (p0==2)
 else
 some (p0==3)).bind fun c=>
 if c=true then
 some true
 else
 (if (p0==4)=true then
 some (p0==4)
 else
 some (p0==5)).bind fun a=>
 if a=true then
 some true
 else
 (if (p0==10)=true then
 some (p0==10)
 else
 some (p0==11)).bind fun b=>
 if b=true then
 some true
 else
 some false
theorem zx (o:Own c0 G F) (a:Int) {r:Bool} (H:lT a=some r): Calls prog 272 #[I a] c0.w (aO c0 fun c v=>Own c G (F)∧v=B r):=by
 unfold lT at H;refine en func272 rfl rfl (sr (va (B false) (wln (W.seq (sr (va (I a) (wln (W.block (W.seq (W.block (W.block (W.block (W.seq (W.seq (bn H fun E b i=>W.seqJ (Jn c0 fun c l=>Own c G (F)∧l= [(3,I a),(4,B E)]) ?_ ?_)))))))))))))))
 ·refine sr (vv (B (a==1)) (wln (cn b (fun M b=>?_) (fun M b=>?_))))
  ·refine W.skip (nrm ?_);obtain rfl:=si b;exact jn c0 ⟨o,rfl⟩
  refine sr (vv (B (a==2)) (wln (cn b (fun N b=>?_) (fun N b=>?_))))
  ·refine W.skip (nrm ?_);obtain rfl:=si b;exact jn c0 ⟨o,rfl⟩
  refine W.region (vv (B (a==3)) (wln ?_));obtain rfl:=si b;exact jn c0 ⟨o,rfl⟩
 rintro t D ⟨k,U,_,rfl,X,rfl,p,rfl⟩;refine cn i (fun u i=>?_) (fun u i=>?_)
 ·refine W.exit (thx (thx (bke (bkn (bkn (nrm (W.seq (sr (va (B true) (wln (W.ret (thr (bkr (thr ?_))))))))))))));obtain rfl:=si i;exact r1 (qq k ⟨p,rfl⟩)
 refine W.skip (nrm (W.seq (bn i fun q d e=>W.seqJ (Jn k fun c l=>Own c G (F)∧l= [(3,I a),(8,B q)]) ?_ ?_)))
 ·refine sr (vv (B (a==4)) (wln (cn d (fun x d=>?_) (fun x d=>?_))))
  ·refine W.skip (nrm ?_);obtain rfl:=si d;exact jn k ⟨p,rfl⟩
  refine W.region (vv (B (a==5)) (wln ?_));obtain rfl:=si d;exact jn k ⟨p,rfl⟩
 rintro t D ⟨h,P,_,rfl,S,rfl,j,rfl⟩;refine cn e (fun y e=>?_) (fun y e=>?_)
 ·refine W.exit (thx (thx (bko rfl (bke (bkn (nrm (W.seq (sr (va (B true) (wln (W.ret (thr (bkr (thr ?_))))))))))))));obtain rfl:=si e;exact r1 (qq h ⟨j,rfl⟩)
 refine W.skip (nrm (bn e fun s f g=>W.seqJ (Jn h fun c l=>Own c G (F)∧l= [(11,B s)]) ?_ ?_))
 ·refine sr (vv (B (a==10)) (wln (cn f (fun z f=>?_) (fun z f=>?_))))
  ·refine W.skip (nrm ?_);obtain rfl:=si f;exact jn h ⟨j,rfl⟩
  refine W.region (vv (B (a==11)) (wln ?_));obtain rfl:=si f;exact jn h ⟨j,rfl⟩
 rintro t D ⟨n,R,_,rfl,T,rfl,m,rfl⟩;refine cn g (fun A g=>?_) (fun A g=>?_)
 ·refine W.exit (thx (bko rfl (bko rfl (bke (nrm (W.seq (sr (va (B true) (wln (W.ret (thr (bkr (thr ?_)))))))))))));obtain rfl:=si g;exact r1 (qq n ⟨m,rfl⟩)
 refine W.skip (nrm (W.exit (bko rfl (bko rfl (bko rfl (thx (bke (nrm (sr (va (B false) (wln (W.ret ?_))))))))))));obtain rfl:=si g;exact r1 (qq n ⟨m,rfl⟩)
def nH (p0:aP):Option (Int):=
 (lT p0.Break).bind fun b=>
 if b=true then
 some 0
 else
 (orE (p0.East==1) (some (p0.East==2))).bind fun a=>
 if a=true then
 some 2
 else
 some 1
theorem B5 (q:Own c0 G F) (a:aP) {r:Int} (H:nH a=some r): Calls prog 271 #[.agg #[I a.Break,B a.Pict,I a.Conj,I a.East]] c0.w (aO c0 fun c v=>Own c G (F)∧v=I r):=by
 unfold nH at H;refine en func271 rfl rfl (sr (me (bx 244 [I a.Break,B a.Pict,I a.Conj,I a.East] q) ?_));rintro v5 z D ⟨i,rfl,s,k⟩;refine va (I 0) (wln (W.seq (W.block (sr (va (Q i) (vx (l1 u_3 (k 0 _ rfl)) (bn H fun p t H=>cl (zx s a.Break t) ?_)))))));rintro v12 d x ⟨h,rfl⟩;refine va (B p) (wln (cn H (fun n H=>?_) (fun n H=>?_)))
 ·refine sr (va (I 0) (wln (W.ret (bkr (thr ?_)))));obtain rfl:=si H;exact r1 (qq d ⟨h,rfl⟩)
 refine W.seq (bn H fun j g H=>W.join (Jn d fun c l=>Own c G (F)∧l= [(7,B j)]) ?_ ?_)
 ·clear H;refine W.region (va (Qo i (0+3)) (vx (l1 u_3 ((mm k) 3 _ rfl)) (va (B (a.East==1)) ?_)));rcases bo (a.East==1) with b | b
  ·obtain rfl:=orT b g;exact vb b (pz (ps (vv (B true) (wln (jn d ⟨h,rfl⟩)))))
  have m:=orF b g;refine vb b (wa (Qo i (0+3)) (wn (vx (l1 u_3 ((mm k) 3 _ rfl)) (wa (B (a.East==2)) ?_))));obtain rfl:=si m;exact vv (B (a.East==2)) (wln (jn d ⟨h,rfl⟩))
 rintro A E ⟨f,u,_,rfl,y,rfl,e,rfl⟩;refine nrm (cn H (fun o H=>?_) (fun o H=>?_))
 ·refine sr (va (I 2) (wln (W.ret (bkr (thr ?_)))));obtain rfl:=si H;exact r1 (qq f ⟨e,rfl⟩)
 refine W.skip (bkn (nrm (sr (va (I 1) (wln (W.ret ?_))))));obtain rfl:=si H;exact r1 (qq f ⟨e,rfl⟩)
def cP (p0:bC):Option (Int):=
 if false=true then
 some 0
 else
 some p0.n
theorem ko {b:Nat} {r0_0:Value} {r0_1:Value} {r0_2:Value} {r0_3:Value} {r0_21:Value} {r0_22:Value} {r0_23:Value} (a:bC) (e:Own c0 G ((Eb b 286 [r0_0,r0_1,r0_2,r0_3,J a.text.1,J a.text.2.1,J a.text.2.2.1,J a.text.2.2.2.1,J a.text.2.2.2.2.1,J a.text.2.2.2.2.2.1,J a.text.2.2.2.2.2.2.1,J a.text.2.2.2.2.2.2.2.1,J a.text.2.2.2.2.2.2.2.2.1,J a.text.2.2.2.2.2.2.2.2.2.1,J a.text.2.2.2.2.2.2.2.2.2.2.1,J a.text.2.2.2.2.2.2.2.2.2.2.2.1,J a.text.2.2.2.2.2.2.2.2.2.2.2.2.1,J a.text.2.2.2.2.2.2.2.2.2.2.2.2.2.1,J a.text.2.2.2.2.2.2.2.2.2.2.2.2.2.2.1,J a.text.2.2.2.2.2.2.2.2.2.2.2.2.2.2.2,I a.n,r0_21,r0_22,r0_23]) :: F)) {r:Int} (H:cP a=some r): Calls prog 248 #[.pointer (some ⟨b,4,none⟩)] c0.w (aO c0 fun c v=>Own c G ((Eb b 286 [r0_0,r0_1,r0_2,r0_3,J a.text.1,J a.text.2.1,J a.text.2.2.1,J a.text.2.2.2.1,J a.text.2.2.2.2.1,J a.text.2.2.2.2.2.1,J a.text.2.2.2.2.2.2.1,J a.text.2.2.2.2.2.2.2.1,J a.text.2.2.2.2.2.2.2.2.1,J a.text.2.2.2.2.2.2.2.2.2.1,J a.text.2.2.2.2.2.2.2.2.2.2.1,J a.text.2.2.2.2.2.2.2.2.2.2.2.1,J a.text.2.2.2.2.2.2.2.2.2.2.2.2.1,J a.text.2.2.2.2.2.2.2.2.2.2.2.2.2.1,J a.text.2.2.2.2.2.2.2.2.2.2.2.2.2.2.1,J a.text.2.2.2.2.2.2.2.2.2.2.2.2.2.2.2,I a.n,r0_21,r0_22,r0_23]) :: F)∧v=I r):=by
 unfold cP at H;refine en func248 rfl rfl (sr (va (I 0) (wln (W.seq (sr (va (Qo b 4) (va (B false) (wln (W.cond (t:=false) (by kernel_rfl) (fun d=>?_) (fun d=>?_))))))))))
 ·cases d
 have H:=ie d H;refine W.skip (nrm (sr (vv (Qo b 4) (va (Qo b 20) (vx (le1 20 u_3 (e.on 0 rfl)) (va (I a.n) (wln (W.ret ?_))))))));obtain rfl:=si H;exact r1 (qq c0 ⟨e,rfl⟩)
def bQ (p0:bC):Option (Bool):=
 (cP p0).bind fun a=>
 some (a==16)
theorem fv {b:Nat} {r0_0:Value} {r0_1:Value} {r0_2:Value} {r0_3:Value} {r0_21:Value} {r0_22:Value} {r0_23:Value} (a:bC) (e:Own c0 G ((Eb b 286 [r0_0,r0_1,r0_2,r0_3,J a.text.1,J a.text.2.1,J a.text.2.2.1,J a.text.2.2.2.1,J a.text.2.2.2.2.1,J a.text.2.2.2.2.2.1,J a.text.2.2.2.2.2.2.1,J a.text.2.2.2.2.2.2.2.1,J a.text.2.2.2.2.2.2.2.2.1,J a.text.2.2.2.2.2.2.2.2.2.1,J a.text.2.2.2.2.2.2.2.2.2.2.1,J a.text.2.2.2.2.2.2.2.2.2.2.2.1,J a.text.2.2.2.2.2.2.2.2.2.2.2.2.1,J a.text.2.2.2.2.2.2.2.2.2.2.2.2.2.1,J a.text.2.2.2.2.2.2.2.2.2.2.2.2.2.2.1,J a.text.2.2.2.2.2.2.2.2.2.2.2.2.2.2.2,I a.n,r0_21,r0_22,r0_23]) :: F)) {r:Bool} (H:bQ a=some r): Calls prog 222 #[.pointer (some ⟨b,4,none⟩)] c0.w (aO c0 fun c v=>Own c G ((Eb b 286 [r0_0,r0_1,r0_2,r0_3,J a.text.1,J a.text.2.1,J a.text.2.2.1,J a.text.2.2.2.1,J a.text.2.2.2.2.1,J a.text.2.2.2.2.2.1,J a.text.2.2.2.2.2.2.1,J a.text.2.2.2.2.2.2.2.1,J a.text.2.2.2.2.2.2.2.2.1,J a.text.2.2.2.2.2.2.2.2.2.1,J a.text.2.2.2.2.2.2.2.2.2.2.1,J a.text.2.2.2.2.2.2.2.2.2.2.2.1,J a.text.2.2.2.2.2.2.2.2.2.2.2.2.1,J a.text.2.2.2.2.2.2.2.2.2.2.2.2.2.1,J a.text.2.2.2.2.2.2.2.2.2.2.2.2.2.2.1,J a.text.2.2.2.2.2.2.2.2.2.2.2.2.2.2.2,I a.n,r0_21,r0_22,r0_23]) :: F)∧v=B r):=by
 unfold bQ at H;refine en func222 rfl rfl (sr (va (B false) (wln (sr (va (Qo b 4) (bn H fun d h H=>cl (ko a e h) ?_))))));rintro v8 g i ⟨f,rfl⟩;refine vv (B (d==16)) (wln (W.ret ?_));obtain rfl:=si H;exact r1 (qq g ⟨f,rfl⟩)
def ci (p0:bC) (p1:Int):Option (bC×Bool):=
 (orE false ((bQ p0).bind fun c=>
 some c)).bind fun b=>
 if b=true then
 some (p0,false)
 else
 (idx (a16 p0.text) p0.n).bind fun d=>
 (some (Ce p0.text p0.n p1)).bind fun a=>
 some ((⟨a,(w64 (p0.n+1))⟩:bC),true)
theorem kp {d:Nat} {r0_0:Value} {r0_1:Value} {r0_2:Value} {r0_3:Value} {r0_21:Value} {r0_22:Value} {r0_23:Value} (a:bC) (f:Int) (M:Own c0 G ((Eb d 286 [r0_0,r0_1,r0_2,r0_3,J a.text.1,J a.text.2.1,J a.text.2.2.1,J a.text.2.2.2.1,J a.text.2.2.2.2.1,J a.text.2.2.2.2.2.1,J a.text.2.2.2.2.2.2.1,J a.text.2.2.2.2.2.2.2.1,J a.text.2.2.2.2.2.2.2.2.1,J a.text.2.2.2.2.2.2.2.2.2.1,J a.text.2.2.2.2.2.2.2.2.2.2.1,J a.text.2.2.2.2.2.2.2.2.2.2.2.1,J a.text.2.2.2.2.2.2.2.2.2.2.2.2.1,J a.text.2.2.2.2.2.2.2.2.2.2.2.2.2.1,J a.text.2.2.2.2.2.2.2.2.2.2.2.2.2.2.1,J a.text.2.2.2.2.2.2.2.2.2.2.2.2.2.2.2,I a.n,r0_21,r0_22,r0_23]) :: F)) {r:bC×Bool} (H:ci a f=some r): Calls prog 249 #[.pointer (some ⟨d,4,none⟩),J f] c0.w (aO c0 fun c v=>Own c G ((Eb d 286 [r0_0,r0_1,r0_2,r0_3,J r.1.text.1,J r.1.text.2.1,J r.1.text.2.2.1,J r.1.text.2.2.2.1,J r.1.text.2.2.2.2.1,J r.1.text.2.2.2.2.2.1,J r.1.text.2.2.2.2.2.2.1,J r.1.text.2.2.2.2.2.2.2.1,J r.1.text.2.2.2.2.2.2.2.2.1,J r.1.text.2.2.2.2.2.2.2.2.2.1,J r.1.text.2.2.2.2.2.2.2.2.2.2.1,J r.1.text.2.2.2.2.2.2.2.2.2.2.2.1,J r.1.text.2.2.2.2.2.2.2.2.2.2.2.2.1,J r.1.text.2.2.2.2.2.2.2.2.2.2.2.2.2.1,J r.1.text.2.2.2.2.2.2.2.2.2.2.2.2.2.2.1,J r.1.text.2.2.2.2.2.2.2.2.2.2.2.2.2.2.2,I r.1.n,r0_21,r0_22,r0_23]) :: F)∧v=B r.2):=by
 unfold ci at H;refine en func249 rfl rfl (sr (va (B false) (wln (W.seq (W.seq (bn H fun u R H=>W.join (Jn c0 fun c l=>Own c G ((Eb d 286 [r0_0,r0_1,r0_2,r0_3,J a.text.1,J a.text.2.1,J a.text.2.2.1,J a.text.2.2.2.1,J a.text.2.2.2.2.1,J a.text.2.2.2.2.2.1,J a.text.2.2.2.2.2.2.1,J a.text.2.2.2.2.2.2.2.1,J a.text.2.2.2.2.2.2.2.2.1,J a.text.2.2.2.2.2.2.2.2.2.1,J a.text.2.2.2.2.2.2.2.2.2.2.1,J a.text.2.2.2.2.2.2.2.2.2.2.2.1,J a.text.2.2.2.2.2.2.2.2.2.2.2.2.1,J a.text.2.2.2.2.2.2.2.2.2.2.2.2.2.1,J a.text.2.2.2.2.2.2.2.2.2.2.2.2.2.2.1,J a.text.2.2.2.2.2.2.2.2.2.2.2.2.2.2.2,I a.n,r0_21,r0_22,r0_23]) :: F)∧l= [(0,.pointer (some ⟨d,4,none⟩)),(1,J f),(10,B u)]) ?_ ?_))))))
 ·clear H;refine W.region (va (Qo d 4) (va (B false) ?_));have y:false=false:=rfl;have m:=orF y R;refine vb y (wa (Qo d 4) (wn (bn m fun E S m=>cl (fv a M S) ?_)));rintro v11 p b0 ⟨N,rfl⟩;obtain rfl:=si m;exact va (B E) (wln (jn p ⟨N,rfl⟩))
 rintro e_ w_ ⟨q,a0,_,rfl,d0,rfl,g,rfl⟩;refine nrm (cn H (fun x H=>?_) (fun x H=>?_))
 ·refine sr (va (B false) (wln (W.ret (thr ?_))));obtain rfl:=si H;exact r1 (qq q ⟨g,rfl⟩)
 refine W.skip (nrm (W.seq (rD [9] (Kp G0 [(Eb d 286 [r0_0,r0_1,r0_2,r0_3,J a.text.1,J a.text.2.1,J a.text.2.2.1,J a.text.2.2.2.1,J a.text.2.2.2.2.1,J a.text.2.2.2.2.2.1,J a.text.2.2.2.2.2.2.1,J a.text.2.2.2.2.2.2.2.1,J a.text.2.2.2.2.2.2.2.2.1,J a.text.2.2.2.2.2.2.2.2.2.1,J a.text.2.2.2.2.2.2.2.2.2.2.1,J a.text.2.2.2.2.2.2.2.2.2.2.2.1,J a.text.2.2.2.2.2.2.2.2.2.2.2.2.1,J a.text.2.2.2.2.2.2.2.2.2.2.2.2.2.1,J a.text.2.2.2.2.2.2.2.2.2.2.2.2.2.2.1,J a.text.2.2.2.2.2.2.2.2.2.2.2.2.2.2.2,I a.n,r0_21,r0_22,r0_23])]) g ?_)));intro s e0 h;have D:Kp G0 [(Eb d 286 [r0_0,r0_1,r0_2,r0_3,J a.text.1,J a.text.2.1,J a.text.2.2.1,J a.text.2.2.2.1,J a.text.2.2.2.2.1,J a.text.2.2.2.2.2.1,J a.text.2.2.2.2.2.2.1,J a.text.2.2.2.2.2.2.2.1,J a.text.2.2.2.2.2.2.2.2.1,J a.text.2.2.2.2.2.2.2.2.2.1,J a.text.2.2.2.2.2.2.2.2.2.2.1,J a.text.2.2.2.2.2.2.2.2.2.2.2.1,J a.text.2.2.2.2.2.2.2.2.2.2.2.2.1,J a.text.2.2.2.2.2.2.2.2.2.2.2.2.2.1,J a.text.2.2.2.2.2.2.2.2.2.2.2.2.2.2.1,J a.text.2.2.2.2.2.2.2.2.2.2.2.2.2.2.2,I a.n,r0_21,r0_22,r0_23])] s:=(Kp.cons (h.on 0 rfl) Kp.nil0);refine ta 0 (.pointer (some ⟨d,4,none⟩)) (ta 1 (Qo d 4) (ta 2 (Qo d 4) (ta 3 (Qo d 20) (tkx 4 D (fun P A U=>le1 20 u_3 (U.on 0 rfl)) (ta 5 (J f) (ta 6 (Qo d 4) (ta 7 (Qo d 4) (bn H fun X e H=>AC.take 8 (.pointer (some ⟨d,4+a.n.toNat * 1,none⟩)) rfl (by kernel_rfl) (by kernel_rfl) (fun P A=>(rx (by kernel_rfl) (rX (k:= .i64) underlying280 (by kernel_rfl) (la e).1 (la e).2 _))) (bn H fun b z H=>o1 9 (gD 9 (Own.st (T:=21) (j:=4+a.n.toNat * 1) (us:=[J f]) (nw:=[r0_0,r0_1,r0_2,r0_3,J b.1,J b.2.1,J b.2.2.1,J b.2.2.2.1,J b.2.2.2.2.1,J b.2.2.2.2.2.1,J b.2.2.2.2.2.2.1,J b.2.2.2.2.2.2.2.1,J b.2.2.2.2.2.2.2.2.1,J b.2.2.2.2.2.2.2.2.2.1,J b.2.2.2.2.2.2.2.2.2.2.1,J b.2.2.2.2.2.2.2.2.2.2.2.1,J b.2.2.2.2.2.2.2.2.2.2.2.2.1,J b.2.2.2.2.2.2.2.2.2.2.2.2.2.1,J b.2.2.2.2.2.2.2.2.2.2.2.2.2.2.1,J b.2.2.2.2.2.2.2.2.2.2.2.2.2.2.2,I a.n,r0_21,r0_22,r0_23]) (v:=J f) 0 h (by kernel_rfl) rfl rfl rfl rfl (by kernel_rfl) ⟨rfl,trivial⟩ (K3 e (bh rfl)) (Kn (k:= .i32) e z [r0_0,r0_1,r0_2,r0_3] [I a.n,r0_21,r0_22,r0_23])) ?_))))))))));rintro Z f0 i;refine ⟨.inl rfl,dn (nrm (sr (vv (Qo d 4) (va (Qo d 20) (vx (le1 20 u_3 (i.on 0 rfl)) (va (I (w64 (a.n+1))) (va (Qo d 4) (va (Qo d 20) (md (sC 3 20 (I (w64 (a.n+1))) [r0_0,r0_1,r0_2,r0_3,J b.1,J b.2.1,J b.2.2.1,J b.2.2.2.1,J b.2.2.2.2.1,J b.2.2.2.2.2.1,J b.2.2.2.2.2.2.1,J b.2.2.2.2.2.2.2.1,J b.2.2.2.2.2.2.2.2.1,J b.2.2.2.2.2.2.2.2.2.1,J b.2.2.2.2.2.2.2.2.2.2.1,J b.2.2.2.2.2.2.2.2.2.2.2.1,J b.2.2.2.2.2.2.2.2.2.2.2.2.1,J b.2.2.2.2.2.2.2.2.2.2.2.2.2.1,J b.2.2.2.2.2.2.2.2.2.2.2.2.2.2.1,J b.2.2.2.2.2.2.2.2.2.2.2.2.2.2.2,I (w64 (a.n+1)),r0_21,r0_22,r0_23] 0 i ⟨rfl,trivial⟩) ?_)))))))))⟩;rintro t g0 o;refine wln (sr (va (B true) (wln (W.ret ?_))));obtain rfl:=si H;exact r1 (qq t ⟨o,rfl⟩)
def bY (p0:br) (p1:Int) (p2:aP):Option (Bool):=
 (nH p2).bind fun d=>
 if (d==2)=true then
 some true
 else
 if (!p0.some)=true then
 some false
 else
 (bX (p1==65039) (some p0.pict)).bind fun a=>
 (orE a (some p2.Pict)).bind fun b=>
 (orE b (some (p2.Break==6))).bind fun c=>
 some c
theorem jU {b:Nat} {r0_0:Value} {r0_1:Value} {r0_2:Value} {r0_3:Value} {r0_4:Value} {r0_5:Value} {r0_6:Value} {r0_7:Value} {r0_8:Value} {r0_9:Value} {r0_10:Value} {r0_11:Value} {r0_12:Value} {r0_13:Value} {r0_14:Value} {r0_15:Value} {r0_16:Value} {r0_17:Value} {r0_18:Value} {r0_19:Value} {r0_20:Value} (d:br) (o:Int) (a:aP) (S:Own c0 G ((Eb b 286 [r0_0,r0_1,r0_2,r0_3,r0_4,r0_5,r0_6,r0_7,r0_8,r0_9,r0_10,r0_11,r0_12,r0_13,r0_14,r0_15,r0_16,r0_17,r0_18,r0_19,r0_20,B d.some,B d.pict,B d.wide]) :: F)) {r:Bool} (H:bY d o a=some r): Calls prog 266 #[.pointer (some ⟨b,21,none⟩),J o,.agg #[I a.Break,B a.Pict,I a.Conj,I a.East]] c0.w (aO c0 fun c v=>Own c G ((Eb b 286 [r0_0,r0_1,r0_2,r0_3,r0_4,r0_5,r0_6,r0_7,r0_8,r0_9,r0_10,r0_11,r0_12,r0_13,r0_14,r0_15,r0_16,r0_17,r0_18,r0_19,r0_20,B d.some,B d.pict,B d.wide]) :: F)∧v=B r):=by
 unfold bY at H;refine en func266 rfl rfl (sr (me (bx 244 [I a.Break,B a.Pict,I a.Conj,I a.East] S) ?_));rintro v5 c4 l4 ⟨p,rfl,T,n⟩;refine va (B false) (wln (W.seq (W.block (sr (vx (lN 244 n) (bn H fun u Z H=>cl (B5 T a Z) ?_))))));rintro v12 e b0 ⟨f,rfl⟩;refine vv (B (u==2)) (wln (cn H (fun P H=>?_) (fun P H=>?_)))
 ·refine sr (va (B true) (wln (W.ret (bkr (thr ?_)))));obtain rfl:=si H;exact r1 (qq e ⟨f,rfl⟩)
 refine sr (vv (Qo b 21) (va (Qo b 21) (vx (le1 21 u_4 (f.on 0 rfl)) (vv (B (!d.some)) (wln (cn H (fun R H=>?_) (fun R H=>?_)))))))
 ·refine sr (va (B false) (wln (W.ret (bkr (thr ?_)))));obtain rfl:=si H;exact r1 (qq e ⟨f,rfl⟩)
 refine W.skip (bkn (nrm (W.seq (bn H fun U q H=>bn H fun X m H=>bn H fun x g H=>W.join (Jn e fun c l=>Own c G ((Eb b 286 [r0_0,r0_1,r0_2,r0_3,r0_4,r0_5,r0_6,r0_7,r0_8,r0_9,r0_10,r0_11,r0_12,r0_13,r0_14,r0_15,r0_16,r0_17,r0_18,r0_19,r0_20,B d.some,B d.pict,B d.wide]) :: F)∧l= [(6,B x)]) ?_ ?_))))
 ·clear H;refine W.region (va (J o) (va (B (o==65039)) ?_));rcases bo (o==65039) with h | h
  ·have y:=anT h q;refine vb h (wa (Qo b 21) (wa (Qo b 21) (wa (Qo b 22) (wn (vx (le1 22 u_4 (f.on 0 rfl)) ?_)))));obtain rfl:=si y;refine va (B d.pict) ?_;rcases bo (d.pict) with i | i
   ·obtain rfl:=orT i m;refine vb i (pz (va (B true) ?_));have s:true=true:=rfl;obtain rfl:=orT s g;exact vb s (pz (ps (vv (B true) (wln (jn e ⟨f,rfl⟩)))))
   have z:=orF i m;refine vb i (wa (Qo p (0+1)) (wn (vx (l1 u_4 ((mm n) 1 _ rfl)) ?_)));obtain rfl:=si z;refine va (B a.Pict) ?_;rcases bo (a.Pict) with j | j
   ·obtain rfl:=orT j g;exact vb j (pz (ps (vv (B true) (wln (jn e ⟨f,rfl⟩)))))
   have A:=orF j g;refine vb j (wa (Q p) (wn (vx (l1 u_3 ((mm n) 0 _ rfl)) (wa (B (a.Break==6)) ?_))));obtain rfl:=si A;exact vv (B (a.Break==6)) (wln (jn e ⟨f,rfl⟩))
  obtain rfl:=anF h q;refine vb h (pz (pz (va (B false) ?_)));have t:false=false:=rfl;have D:=orF t m;refine vb t (wa (Qo p (0+1)) (wn (vx (l1 u_4 ((mm n) 1 _ rfl)) ?_)));obtain rfl:=si D;refine va (B a.Pict) ?_;rcases bo (a.Pict) with k | k
  ·obtain rfl:=orT k g;exact vb k (pz (ps (vv (B true) (wln (jn e ⟨f,rfl⟩)))))
  have E:=orF k g;refine vb k (wa (Q p) (wn (vx (l1 u_3 ((mm n) 0 _ rfl)) (wa (B (a.Break==6)) ?_))));obtain rfl:=si E;exact vv (B (a.Break==6)) (wln (jn e ⟨f,rfl⟩))
 rintro e_ w_ ⟨N,a0,_,rfl,d0,rfl,M,rfl⟩;refine nrm (W.ret ?_);obtain rfl:=si H;exact r1 (qq N ⟨M,rfl⟩)
def cm (p0:br) (p1:Int) (p2:aP):Option (br×Int):=
 if false=true then
 some (p0,1)
 else
 (orE p0.wide ((bY p0 p1 p2).bind fun b=>
 some b)).bind fun a=>
 if a=true then
 some ((⟨true,p2.Pict,a⟩:br),2)
 else
 some ((⟨true,p2.Pict,a⟩:br),1)
theorem kF {a:Nat} {r0_0:Value} {r0_1:Value} {r0_2:Value} {r0_3:Value} {r0_4:Value} {r0_5:Value} {r0_6:Value} {r0_7:Value} {r0_8:Value} {r0_9:Value} {r0_10:Value} {r0_11:Value} {r0_12:Value} {r0_13:Value} {r0_14:Value} {r0_15:Value} {r0_16:Value} {r0_17:Value} {r0_18:Value} {r0_19:Value} {r0_20:Value} (b:br) (k:Int) (d:aP) (T:Own c0 G ((Eb a 286 [r0_0,r0_1,r0_2,r0_3,r0_4,r0_5,r0_6,r0_7,r0_8,r0_9,r0_10,r0_11,r0_12,r0_13,r0_14,r0_15,r0_16,r0_17,r0_18,r0_19,r0_20,B b.some,B b.pict,B b.wide]) :: F)) {r:br×Int} (H:cm b k d=some r): Calls prog 250 #[.pointer (some ⟨a,21,none⟩),J k,.agg #[I d.Break,B d.Pict,I d.Conj,I d.East]] c0.w (aO c0 fun c v=>Own c G ((Eb a 286 [r0_0,r0_1,r0_2,r0_3,r0_4,r0_5,r0_6,r0_7,r0_8,r0_9,r0_10,r0_11,r0_12,r0_13,r0_14,r0_15,r0_16,r0_17,r0_18,r0_19,r0_20,B r.1.some,B r.1.pict,B r.1.wide]) :: F)∧v=I r.2):=by
 unfold cm at H;refine en func250 rfl rfl (sr (me (bx 244 [I d.Break,B d.Pict,I d.Conj,I d.East] T) ?_));rintro v5 X l4 ⟨x,rfl,m,P⟩;refine va (I 0) (wln (W.seq (sr (va (Qo a 21) (va (B false) (wln (W.cond (t:=false) (by kernel_rfl) (fun n=>?_) (fun n=>?_))))))))
 ·cases n
 have H:=ie n H;refine W.skip (nrm (W.seq (bn H fun e N H=>W.join (Jn X fun c l=>Own c G ((Eb a 286 [r0_0,r0_1,r0_2,r0_3,r0_4,r0_5,r0_6,r0_7,r0_8,r0_9,r0_10,r0_11,r0_12,r0_13,r0_14,r0_15,r0_16,r0_17,r0_18,r0_19,r0_20,B b.some,B b.pict,B e]) :: F)∧l= [(0,.pointer (some ⟨a,21,none⟩)),(5,Q x)]) ?_ ?_)))
 ·clear H;refine W.region (vv (Qo a 21) (va (Qo a 21) (va (Qo a 23) (vx (le1 23 u_4 (m.on 0 rfl)) ?_))));rcases bo (b.wide) with j | j
  ·obtain rfl:=orT j N;refine vb j (pz (pz (va (B true) (va (Qo a 21) (va (Qo a 23) (md (sC 4 23 (B true) [r0_0,r0_1,r0_2,r0_3,r0_4,r0_5,r0_6,r0_7,r0_8,r0_9,r0_10,r0_11,r0_12,r0_13,r0_14,r0_15,r0_16,r0_17,r0_18,r0_19,r0_20,B b.some,B b.pict,B true] 0 m ⟨rfl,trivial⟩) ?_))))));rintro y e0 U;exact wln (jn y ⟨U,rfl⟩)
  have g:=orF j N;refine vb j (wa (Qo a 21) (wa (J k) (wn (vx (lN 244 P) (wn (bn g fun f E g=>cl (jU b k d m E) ?_))))));rintro v19 Z f0 ⟨o,rfl⟩;obtain rfl:=si g;refine va (B f) (va (Qo a 21) (va (Qo a 23) (md (sC 4 23 (B f) [r0_0,r0_1,r0_2,r0_3,r0_4,r0_5,r0_6,r0_7,r0_8,r0_9,r0_10,r0_11,r0_12,r0_13,r0_14,r0_15,r0_16,r0_17,r0_18,r0_19,r0_20,B b.some,B b.pict,B f] 0 o ⟨rfl,trivial⟩) ?_)));rintro z g0 p;exact wln (jn z ⟨p,rfl⟩)
 rintro e_ w_ ⟨a0,b0,_,rfl,h0,rfl,q,rfl⟩;refine nrm (W.seq (rD [] (Kp G0 []) q ?_));intro A i0 s;have l0:Kp G0 [] A:=Kp.nil0;refine ta 0 (.pointer (some ⟨a,21,none⟩)) (ta 1 (Qo a 21) (ta 2 (Qo x (0+1)) (tx 3 (fun c' d0=>l1 u_4 ((mm P) 1 _ rfl)) (ta 4 (Qo a 21) (ta 5 (Qo a 21) (o1 6 (gD 6 (sC 4 21 (B true) [r0_0,r0_1,r0_2,r0_3,r0_4,r0_5,r0_6,r0_7,r0_8,r0_9,r0_10,r0_11,r0_12,r0_13,r0_14,r0_15,r0_16,r0_17,r0_18,r0_19,r0_20,B true,B b.pict,B e] 0 s ⟨rfl,trivial⟩) ?_)))))));rintro D j0 u;have R:Kp G0 [] D:=Kp.nil0;refine ⟨.inr R,ta 7 (.pointer (some ⟨a,21,none⟩)) (ta 8 (Qo a 22) (o1 9 (gD 9 (sC 4 22 (B d.Pict) [r0_0,r0_1,r0_2,r0_3,r0_4,r0_5,r0_6,r0_7,r0_8,r0_9,r0_10,r0_11,r0_12,r0_13,r0_14,r0_15,r0_16,r0_17,r0_18,r0_19,r0_20,B true,B d.Pict,B e] 0 u ⟨rfl,trivial⟩) ?_)))⟩;rintro i k0 h;have S:Kp G0 [] i:=Kp.nil0;refine ⟨.inr S,dn (nrm (W.seq (sr (vv (Qo a 21) (va (Qo a 23) (vx (le1 23 u_4 (h.on 0 rfl)) (wln (cn H (fun M H=>?_) (fun M H=>?_)))))))))⟩
 ·refine sr (va (I 2) (wln (W.ret (thr ?_))));obtain rfl:=si H;exact r1 (qq i ⟨h,rfl⟩)
 refine W.skip (nrm (sr (va (I 1) (wln (W.ret ?_)))));obtain rfl:=si H;exact r1 (qq i ⟨h,rfl⟩)
def eM (sg:Sto) (p0:Option Nat) (p1:Int) (p2:aP):Option (Sto×Int):=
 ((dE p1).bind fun h=>
 if (!h)=true then
 some (65533)
 else
 some (p1)).bind fun g=>
 (p0).bind fun b=>
 (sg.widen_Cluster[b]?).bind fun a=>
 (ci a.text g).bind fun e=>
 (sg.set_widen_Cluster b (⟨a.at_,a.wide,e.1,a.gauge⟩:aX)).bind fun c=>
 (cm a.gauge g p2).bind fun f=>
 (c.set_widen_Cluster b (⟨a.at_,a.wide,e.1,f.1⟩:aX)).bind fun d=>
 some (d,f.2)
theorem ni (O0:Own c0 G F) (T:Rel c0 sg G) (p0:Option Nat) (m:Int) (f:aP) {r:Sto×Int} (h2:Pt 3 c0 v1 p0) (H:eM sg p0 m f=some r): Calls prog 223 #[v1,J m,.agg #[I f.Break,B f.Pict,I f.Conj,I f.East]] c0.w (aO c0 fun c v=>∃G_:Gm,Own c G_ (F)∧Rel c r.1 G_∧v=I r.2):=by
 unfold eM at H;refine en func223 rfl rfl (sr (me (bx 244 [I f.Break,B f.Pict,I f.Conj,I f.East] O0) ?_));rintro v7 c6 s ⟨b3,rfl,O4,m5⟩;refine va (I 0) (wln (bn H fun h i e=>W.seqJ (Jn c6 fun c l=>Own c G (F)∧l= [(0,v1),(1,J h),(5,Q b3)]) ?_ ?_))
 ·refine sr (va (J m) (bn i fun t0 a0 i=>cl (km O4 m a0) ?_));rintro v16 p j1 ⟨o,rfl⟩;refine va (B (!t0)) (wln (cn i (fun b0 i=>?_) (fun b0 i=>?_)))
  ·refine W.region (va (J 65533) (wln ?_));obtain rfl:=si i;exact jn p ⟨o,rfl⟩
  refine W.skip (nrm ?_);obtain rfl:=si i;exact jn p ⟨o,rfl⟩
 rintro e_ w_ ⟨e1,g1,_,rfl,k,rfl,y,rfl⟩;refine sr (va (v1) (bn e fun z0 d0 e=>?_));obtain ⟨d,rfl,j⟩:=((h2.mono (s.trans k))).get d0;refine va (Q d) (va (Qo d 4) (va (J h) (bn e fun b e0 e=>?_)));have f0:=Rel.open_widen_Cluster (T.mono (s.trans k)) e0 j;have z:=y.borrow 0 f0 rfl;refine bn e fun a g0 e=>cl (kp b.text h z g0) ?_;rintro v37 f1 l0 ⟨A,rfl⟩;have D:=A.giveB 0 rfl;refine bn e fun t i0 e=>?_;obtain ⟨b1,E,U,h0,c1⟩:=Rel.put_widen_Cluster D (T.mono (s.trans (k.trans l0))) (E':=[(Eb d 286 [I b.at_.Row,I b.at_.Col,B b.at_.Pending,I b.wide,J a.1.text.1,J a.1.text.2.1,J a.1.text.2.2.1,J a.1.text.2.2.2.1,J a.1.text.2.2.2.2.1,J a.1.text.2.2.2.2.2.1,J a.1.text.2.2.2.2.2.2.1,J a.1.text.2.2.2.2.2.2.2.1,J a.1.text.2.2.2.2.2.2.2.2.1,J a.1.text.2.2.2.2.2.2.2.2.2.1,J a.1.text.2.2.2.2.2.2.2.2.2.2.1,J a.1.text.2.2.2.2.2.2.2.2.2.2.2.1,J a.1.text.2.2.2.2.2.2.2.2.2.2.2.2.1,J a.1.text.2.2.2.2.2.2.2.2.2.2.2.2.2.1,J a.1.text.2.2.2.2.2.2.2.2.2.2.2.2.2.2.1,J a.1.text.2.2.2.2.2.2.2.2.2.2.2.2.2.2.2,I a.1.n,B b.gauge.some,B b.gauge.pict,B b.gauge.wide])]) i0 ⟨d,(tm j),rfl⟩;refine wln (W.seq (rD [] (Kp G0 []) E ?_));intro Z m0 M;have k1:Kp G0 [] Z:=Kp.nil0;refine ta 0 (Q d) (ta 1 (Q d) (ta 2 (Qo d 21) (ta 3 (J h) (tx 4 (fun c' i1=>lN 244 (mm m5)) ?_))));have N:=M.borrow 0 h0 rfl;refine bn e fun g j0 e=>o1 5 (gc 5 (kF b.gauge h f N j0) ?_);rintro v56 q o0 ⟨P,rfl⟩;have R:=P.giveB 0 rfl;refine bn e fun u k0 e=>?_;obtain ⟨x,S,X,h1,d1⟩:=Rel.put_widen_Cluster R (U.mono (m0.trans o0)) (E':=[(Eb d 286 [I b.at_.Row,I b.at_.Col,B b.at_.Pending,I b.wide,J a.1.text.1,J a.1.text.2.1,J a.1.text.2.2.1,J a.1.text.2.2.2.1,J a.1.text.2.2.2.2.1,J a.1.text.2.2.2.2.2.1,J a.1.text.2.2.2.2.2.2.1,J a.1.text.2.2.2.2.2.2.2.1,J a.1.text.2.2.2.2.2.2.2.2.1,J a.1.text.2.2.2.2.2.2.2.2.2.1,J a.1.text.2.2.2.2.2.2.2.2.2.2.1,J a.1.text.2.2.2.2.2.2.2.2.2.2.2.1,J a.1.text.2.2.2.2.2.2.2.2.2.2.2.2.1,J a.1.text.2.2.2.2.2.2.2.2.2.2.2.2.2.1,J a.1.text.2.2.2.2.2.2.2.2.2.2.2.2.2.2.1,J a.1.text.2.2.2.2.2.2.2.2.2.2.2.2.2.2.2,I a.1.n,B g.1.some,B g.1.pict,B g.1.wide])]) k0 ⟨d,(tm j),rfl⟩;have s0:Kp G0 [] q:=Kp.nil0;refine ⟨.inr s0,ta 6 (I g.2) (dn (nrm (W.ret ?_)))⟩;obtain rfl:=si e;exact r1 (qq q ⟨x,S,X,rfl⟩)
def bP (p0:bC):Option (List Int):=
 if false=true then
 some ([]:List Int)
 else
 (slc (a16 p0.text) 0 p0.n).bind fun a=>
 (fK a).bind fun b=>
 some b
theorem fu {b:Nat} {r0_0:Value} {r0_1:Value} {r0_2:Value} {r0_3:Value} {r0_21:Value} {r0_22:Value} {r0_23:Value} (a:bC) (p:Own c0 G ((Eb b 286 [r0_0,r0_1,r0_2,r0_3,J a.text.1,J a.text.2.1,J a.text.2.2.1,J a.text.2.2.2.1,J a.text.2.2.2.2.1,J a.text.2.2.2.2.2.1,J a.text.2.2.2.2.2.2.1,J a.text.2.2.2.2.2.2.2.1,J a.text.2.2.2.2.2.2.2.2.1,J a.text.2.2.2.2.2.2.2.2.2.1,J a.text.2.2.2.2.2.2.2.2.2.2.1,J a.text.2.2.2.2.2.2.2.2.2.2.2.1,J a.text.2.2.2.2.2.2.2.2.2.2.2.2.1,J a.text.2.2.2.2.2.2.2.2.2.2.2.2.2.1,J a.text.2.2.2.2.2.2.2.2.2.2.2.2.2.2.1,J a.text.2.2.2.2.2.2.2.2.2.2.2.2.2.2.2,I a.n,r0_21,r0_22,r0_23]) :: F)) {r:List Int} (H:bP a=some r): Calls prog 225 #[.pointer (some ⟨b,4,none⟩)] c0.w (aO c0 fun c v=>∃h o,Own c G (es true (RI .i32) h 21 o r :: (Eb b 286 [r0_0,r0_1,r0_2,r0_3,J a.text.1,J a.text.2.1,J a.text.2.2.1,J a.text.2.2.2.1,J a.text.2.2.2.2.1,J a.text.2.2.2.2.2.1,J a.text.2.2.2.2.2.2.1,J a.text.2.2.2.2.2.2.2.1,J a.text.2.2.2.2.2.2.2.2.1,J a.text.2.2.2.2.2.2.2.2.2.1,J a.text.2.2.2.2.2.2.2.2.2.2.1,J a.text.2.2.2.2.2.2.2.2.2.2.2.1,J a.text.2.2.2.2.2.2.2.2.2.2.2.2.1,J a.text.2.2.2.2.2.2.2.2.2.2.2.2.2.1,J a.text.2.2.2.2.2.2.2.2.2.2.2.2.2.2.1,J a.text.2.2.2.2.2.2.2.2.2.2.2.2.2.2.2,I a.n,r0_21,r0_22,r0_23]) :: F)∧v=h∧OA (RI .i32) c h o r):=by
 unfold bP at H;refine en func225 rfl rfl (sr (va (Y) (wln (W.seq (sr (va (Qo b 4) (va (B false) (wln (W.cond (t:=false) (by kernel_rfl) (fun g=>?_) (fun g=>?_))))))))))
 ·cases g
 have H:=ie g H;refine W.skip (nrm (W.seq (rD [] (Kp G0 [(Eb b 286 [r0_0,r0_1,r0_2,r0_3,J a.text.1,J a.text.2.1,J a.text.2.2.1,J a.text.2.2.2.1,J a.text.2.2.2.2.1,J a.text.2.2.2.2.2.1,J a.text.2.2.2.2.2.2.1,J a.text.2.2.2.2.2.2.2.1,J a.text.2.2.2.2.2.2.2.2.1,J a.text.2.2.2.2.2.2.2.2.2.1,J a.text.2.2.2.2.2.2.2.2.2.2.1,J a.text.2.2.2.2.2.2.2.2.2.2.2.1,J a.text.2.2.2.2.2.2.2.2.2.2.2.2.1,J a.text.2.2.2.2.2.2.2.2.2.2.2.2.2.1,J a.text.2.2.2.2.2.2.2.2.2.2.2.2.2.2.1,J a.text.2.2.2.2.2.2.2.2.2.2.2.2.2.2.2,I a.n,r0_21,r0_22,r0_23])]) p ?_)));intro s M i;have y:Kp G0 [(Eb b 286 [r0_0,r0_1,r0_2,r0_3,J a.text.1,J a.text.2.1,J a.text.2.2.1,J a.text.2.2.2.1,J a.text.2.2.2.2.1,J a.text.2.2.2.2.2.1,J a.text.2.2.2.2.2.2.1,J a.text.2.2.2.2.2.2.2.1,J a.text.2.2.2.2.2.2.2.2.1,J a.text.2.2.2.2.2.2.2.2.2.1,J a.text.2.2.2.2.2.2.2.2.2.2.1,J a.text.2.2.2.2.2.2.2.2.2.2.2.1,J a.text.2.2.2.2.2.2.2.2.2.2.2.2.1,J a.text.2.2.2.2.2.2.2.2.2.2.2.2.2.1,J a.text.2.2.2.2.2.2.2.2.2.2.2.2.2.2.1,J a.text.2.2.2.2.2.2.2.2.2.2.2.2.2.2.2,I a.n,r0_21,r0_22,r0_23])] s:=(Kp.cons (i.on 0 rfl) Kp.nil0);refine ta 0 (.pointer (some ⟨b,4,none⟩)) (ta 1 (Qo b 4) (ta 2 (Qo b 4) (ta 3 (Qo b 4) (ta 4 (Qo b 4) (ta 5 (Qo b 20) (tkx 6 y (fun q l x=>le1 20 u_3 (x.on 0 rfl)) (bn H fun A d H=>AC.take 7 (.slice (some ⟨b,4,none⟩) a.n.toNat 16) rfl (by kernel_rfl) (by kernel_rfl) (fun q l=>(rx (by kernel_rfl) (EY (k:= .i64) underlying280 (by kernel_rfl) (qg d).2.1 (qg d).2.2.1 _))) (bn H fun D u H=>o1 8 (gc 8 (vg i rfl (EL d) (I0 (k:= .i32) d [r0_0,r0_1,r0_2,r0_3] [I a.n,r0_21,r0_22,r0_23]) u) ?_)))))))));rintro v8 f E ⟨_,z,e,rfl,j⟩;have m:Kp G0 [(Eb b 286 [r0_0,r0_1,r0_2,r0_3,J a.text.1,J a.text.2.1,J a.text.2.2.1,J a.text.2.2.2.1,J a.text.2.2.2.2.1,J a.text.2.2.2.2.2.1,J a.text.2.2.2.2.2.2.1,J a.text.2.2.2.2.2.2.2.1,J a.text.2.2.2.2.2.2.2.2.1,J a.text.2.2.2.2.2.2.2.2.2.1,J a.text.2.2.2.2.2.2.2.2.2.2.1,J a.text.2.2.2.2.2.2.2.2.2.2.2.1,J a.text.2.2.2.2.2.2.2.2.2.2.2.2.1,J a.text.2.2.2.2.2.2.2.2.2.2.2.2.2.1,J a.text.2.2.2.2.2.2.2.2.2.2.2.2.2.2.1,J a.text.2.2.2.2.2.2.2.2.2.2.2.2.2.2.2,I a.n,r0_21,r0_22,r0_23])] f:=(Kp.cons (e.on 1 rfl) Kp.nil0);refine ⟨.inr m,ta 9 (v8) (dn (nrm (W.ret ?_)))⟩;obtain rfl:=si H;exact r1 (qq f ⟨v8,z,e,rfl,j⟩)
def kL (sg:Sto) (p0:Option Nat) (p1:Int) (p2:aP):Option (Sto×(Option Nat)):=
 (orE p0.isNone ((p0).bind fun k=>
 (sg.place_Pen[k]?).bind fun h=>
 some h.G.isNone)).bind fun j=>
 if j=true then
 some (sg,(none:Option Nat))
 else
 (some (sg.add_widen_Cluster (⟨(⟨0,0,false⟩:aj),0,(⟨(0,0,0,0,0,0,0,0,0,0,0,0,0,0,0,0),0⟩:bC),(⟨false,false,false⟩:br)⟩:aX))).bind fun e=>
 (eM e (some sg.widen_Cluster.length) p1 p2).bind fun b=>
 (b.1.widen_Cluster[sg.widen_Cluster.length]?).bind fun a=>
 (b.1.set_widen_Cluster sg.widen_Cluster.length (⟨a.at_,b.2,a.text,a.gauge⟩:aX)).bind fun f=>
 (bP a.text).bind fun i=>
 (ib f p0 b.2 i).bind fun d=>
 (d.1.widen_Cluster[sg.widen_Cluster.length]?).bind fun c=>
 (d.1.set_widen_Cluster sg.widen_Cluster.length (⟨d.2,c.wide,c.text,c.gauge⟩:aX)).bind fun g=>
 some (g,(some sg.widen_Cluster.length))
theorem xr (O0:Own c0 G F) (R0:Rel c0 sg G) (hG:Gl [3,5] c0) (y:Option Nat) (z:Int) (g:aP) {r:Sto×(Option Nat)} (h2:Pt 2 c0 v1 y) (H:kL sg y z g=some r): Calls prog 181 #[v1,J z,.agg #[I g.Break,B g.Pict,I g.Conj,I g.East]] c0.w (aO c0 fun c v=>∃y1,∃G_:Gm,Own c G_ (F)∧Rel c r.1 G_∧v=y1∧Pt 3 c y1 r.2):=by
 unfold kL at H;refine en func181 rfl rfl (sr (me (bx 244 [I g.Break,B g.Pict,I g.Conj,I g.East] O0) ?_));rintro v7 c6 l6 ⟨b3,rfl,O4,m5⟩;refine va (.pointer none) (wln (W.seq (W.seq (bn H fun m1 h8 H=>W.join (Jn c6 fun c l=>Own c G (F)∧l= [(0,v1),(1,J z),(5,Q b3),(16,B m1)]) ?_ ?_))))
 ·clear H;refine W.region (va (v1) (vr (B y.isNone) (by rcases h2.m.cs with ⟨j,k⟩ | ⟨b_,j,k⟩ <;> (subst j; rw [k]; kernel_rfl)) ?_));rcases bo (y.isNone) with s | s
  ·obtain rfl:=orT s h8;exact vb s (pz (pz (ps (va (B true) (wln (jn c6 ⟨O4,rfl⟩))))))
  have i:=orF s h8;refine vb s (wa (v1) (wn (bn i fun x3 q1 i=>?_)));obtain ⟨T,rfl,n1⟩:=((h2.mono l6)).get q1;refine va (Q T) (wa (Q T) (wn (bn i fun u s1 i=>?_)));obtain ⟨v15,u1,t1⟩:=Rel.open_place_Pen (R0.mono l6) s1 n1;refine vx (le1 0 iZ (O4.gon u1 0 rfl)) (wn (vr (B u.G.isNone) (by rcases (t1).cs with ⟨j,k⟩ | ⟨b_,j,k⟩ <;> (subst j; rw [k]; kernel_rfl)) ?_));obtain rfl:=si i;exact va (B u.G.isNone) (wln (jn c6 ⟨O4,rfl⟩))
 rintro e_ w_ ⟨f1,s3,_,rfl,q2,rfl,A,rfl⟩;refine nrm (cn H (fun w1 H=>?_) (fun w1 H=>?_))
 ·refine sr (va (.pointer none) (wln (W.ret (thr ?_))));obtain rfl:=si H;exact r1 (qq f1 ⟨(.pointer none),G,A,R0.m,rfl,rfl⟩)
 refine W.skip (nrm (sr (va (.agg #[I 0,I 0,B false,I 0,J 0,J 0,J 0,J 0,J 0,J 0,J 0,J 0,J 0,J 0,J 0,J 0,J 0,J 0,J 0,J 0,I 0,B false,B false,B false]) (me (al 286 [I 0,I 0,B false,I 0,J 0,J 0,J 0,J 0,J 0,J 0,J 0,J 0,J 0,J 0,J 0,J 0,J 0,J 0,J 0,J 0,I 0,B false,B false,B false] A) ?_))));rintro v28 n3 s2 ⟨e,rfl,o0⟩;have q0:=o0.sD 1 [0];refine bn H fun j0 x1 H=>?_;obtain ⟨g1,h3,z1,y3,o,s0,P,t3,u3,k3⟩:=Rel.new_widen_Cluster (E:=[(Eb e 286 [I 0,I 0,B false,I 0,J 0,J 0,J 0,J 0,J 0,J 0,J 0,J 0,J 0,J 0,J 0,J 0,J 0,J 0,J 0,J 0,I 0,B false,B false,B false])]) (F:=F) (x:=(⟨(⟨0,0,false⟩:aj),0,(⟨(0,0,0,0,0,0,0,0,0,0,0,0,0,0,0,0),0⟩:bC),(⟨false,false,false⟩:br)⟩:aX)) (b:=e) q0 (R0.mono (l6.trans (q2.trans s2))) (fun c_ hle_=>⟨e,rfl,rfl⟩);rw [aH x1] at P;refine WL.gh z1.1 ?_;have U:Pt 3 g1 (Q e) (some sg.widen_Cluster.length):=⟨e,rfl,o⟩;refine va (Q e) (wln (sr (vv (Q e) (va (J z) (vx (lN 244 (mm m5)) (bn H fun h b2 H=>cl (ni s0 P (some sg.widen_Cluster.length) z g U b2) ?_))))));rintro v48 o3 t2 ⟨i3,t0,R,rfl⟩;refine va (Q e) (va (Qo e 3) (bn H fun a c2 H=>?_));have d2:=Rel.open_widen_Cluster R c2 (tm o);refine md (gC 3 3 (I h.2) [I a.at_.Row,I a.at_.Col,B a.at_.Pending,I h.2,J a.text.text.1,J a.text.text.2.1,J a.text.text.2.2.1,J a.text.text.2.2.2.1,J a.text.text.2.2.2.2.1,J a.text.text.2.2.2.2.2.1,J a.text.text.2.2.2.2.2.2.1,J a.text.text.2.2.2.2.2.2.2.1,J a.text.text.2.2.2.2.2.2.2.2.1,J a.text.text.2.2.2.2.2.2.2.2.2.1,J a.text.text.2.2.2.2.2.2.2.2.2.2.1,J a.text.text.2.2.2.2.2.2.2.2.2.2.2.1,J a.text.text.2.2.2.2.2.2.2.2.2.2.2.2.1,J a.text.text.2.2.2.2.2.2.2.2.2.2.2.2.2.1,J a.text.text.2.2.2.2.2.2.2.2.2.2.2.2.2.2.1,J a.text.text.2.2.2.2.2.2.2.2.2.2.2.2.2.2.2,I a.text.n,B a.gauge.some,B a.gauge.pict,B a.gauge.wide] 0 t0 d2 ⟨rfl,trivial⟩) ?_;rintro p3 X u0;refine bn H fun k0 e2 H=>?_;obtain ⟨p,v0,d1,q,l3⟩:=Rel.put_widen_Cluster u0 (R.mono X) (E':=[(Eb e 286 [I a.at_.Row,I a.at_.Col,B a.at_.Pending,I h.2,J a.text.text.1,J a.text.text.2.1,J a.text.text.2.2.1,J a.text.text.2.2.2.1,J a.text.text.2.2.2.2.1,J a.text.text.2.2.2.2.2.1,J a.text.text.2.2.2.2.2.2.1,J a.text.text.2.2.2.2.2.2.2.1,J a.text.text.2.2.2.2.2.2.2.2.1,J a.text.text.2.2.2.2.2.2.2.2.2.1,J a.text.text.2.2.2.2.2.2.2.2.2.2.1,J a.text.text.2.2.2.2.2.2.2.2.2.2.2.1,J a.text.text.2.2.2.2.2.2.2.2.2.2.2.2.1,J a.text.text.2.2.2.2.2.2.2.2.2.2.2.2.2.1,J a.text.text.2.2.2.2.2.2.2.2.2.2.2.2.2.2.1,J a.text.text.2.2.2.2.2.2.2.2.2.2.2.2.2.2.2,I a.text.n,B a.gauge.some,B a.gauge.pict,B a.gauge.wide])]) e2 ⟨e,(tm o),rfl⟩;refine wln (W.seq (rD [10,13] (Kp p []) v0 ?_));intro h1 u2 D;have x2:Kp p [] h1:=(Kp.nil D);refine ta 0 (Q e) (ta 1 (v1) (ta 2 (Q e) (ta 3 (Q e) (ta 4 (Qo e 3) (tkx 5 x2 (fun c' w3 hk=>le1 3 u_3 (hk.gon q 0 rfl)) (ta 6 (Q e) (ta 7 (Q e) (ta 8 (Qo e 4) ?_))))))));have w0:=D.borrow 0 q rfl;refine bn H fun i0 f2 H=>o1 9 (gc 9 (fu a.text w0 f2) ?_);rintro a4 i1 v2 ⟨_,z3,x0,rfl,g2⟩;have z0:=x0.sD 2 [1,0];have y0:=z0.giveB 0 rfl;have M:=Own.back y0 q rfl;have y2:Kp p [] i1:=(Kp.nil M);refine ⟨.inr y2,?_⟩;obtain ⟨j1,k2,Z,N,i2⟩:=M.frz 0 rfl g2;have z2:Kp p [] j1:=(Kp.nil N);refine AC.gh k2 Z (fun _=>z2) (bn H fun f l2 H=>o1 10 (gc 10 (pR N d1.m (hG.m.le (by decide)) y h.2 i0 h2.m i2 l2) ?_));rintro b4 q3 w2 ⟨j3,a1,S,rfl⟩;refine ⟨.inl rfl,ta 11 (Q e) (ta 12 (Q e) (bn H fun d m2 H=>?_))⟩;have n2:=Rel.open_widen_Cluster S m2 (tm o);refine o1 13 (gD 13 (gB 55 0 [I f.2.Row,I f.2.Col,B f.2.Pending] [I f.2.Row,I f.2.Col,B f.2.Pending,I d.wide,J d.text.text.1,J d.text.text.2.1,J d.text.text.2.2.1,J d.text.text.2.2.2.1,J d.text.text.2.2.2.2.1,J d.text.text.2.2.2.2.2.1,J d.text.text.2.2.2.2.2.2.1,J d.text.text.2.2.2.2.2.2.2.1,J d.text.text.2.2.2.2.2.2.2.2.1,J d.text.text.2.2.2.2.2.2.2.2.2.1,J d.text.text.2.2.2.2.2.2.2.2.2.2.1,J d.text.text.2.2.2.2.2.2.2.2.2.2.2.1,J d.text.text.2.2.2.2.2.2.2.2.2.2.2.2.1,J d.text.text.2.2.2.2.2.2.2.2.2.2.2.2.2.1,J d.text.text.2.2.2.2.2.2.2.2.2.2.2.2.2.2.1,J d.text.text.2.2.2.2.2.2.2.2.2.2.2.2.2.2.2,I d.text.n,B d.gauge.some,B d.gauge.pict,B d.gauge.wide] 0 a1 n2 ⟨rfl,rfl,rfl,trivial⟩) ?_);rintro k1 a0 b1;refine bn H fun l0 o2 H=>?_;obtain ⟨m0,c1,e1,v3,m3⟩:=Rel.put_widen_Cluster b1 (S.mono a0) (E':=[(Eb e 286 [I f.2.Row,I f.2.Col,B f.2.Pending,I d.wide,J d.text.text.1,J d.text.text.2.1,J d.text.text.2.2.1,J d.text.text.2.2.2.1,J d.text.text.2.2.2.2.1,J d.text.text.2.2.2.2.2.1,J d.text.text.2.2.2.2.2.2.1,J d.text.text.2.2.2.2.2.2.2.1,J d.text.text.2.2.2.2.2.2.2.2.1,J d.text.text.2.2.2.2.2.2.2.2.2.1,J d.text.text.2.2.2.2.2.2.2.2.2.2.1,J d.text.text.2.2.2.2.2.2.2.2.2.2.2.1,J d.text.text.2.2.2.2.2.2.2.2.2.2.2.2.1,J d.text.text.2.2.2.2.2.2.2.2.2.2.2.2.2.1,J d.text.text.2.2.2.2.2.2.2.2.2.2.2.2.2.2.1,J d.text.text.2.2.2.2.2.2.2.2.2.2.2.2.2.2.2,I d.text.n,B d.gauge.some,B d.gauge.pict,B d.gauge.wide])]) o2 ⟨e,((t2.trans (X.trans (u2.trans (v2.trans (Z.trans (w2.trans a0)))))).t _ _ _ o),rfl⟩;refine ⟨.inl rfl,dn (nrm (sr (vv (Q e) (wln (W.ret ?_)))))⟩;obtain rfl:=si H;have b0:=c1.sD 1 [];exact r1 (qq k1 ⟨(Q e),m0,b0,e1,rfl,U.m⟩)
def dC (sg:Sto) (p0:Option Nat) (p1:Option Nat) (p2:Int) (p3:aP):Option (Sto×Bool):=
 (orE p0.isNone (some p1.isNone)).bind fun A=>
 (orE A ((p1).bind fun r=>
 (sg.place_Pen[r]?).bind fun u=>
 some u.G.isNone)).bind fun p=>
 (orE p ((p0).bind fun s=>
 (sg.widen_Cluster[s]?).bind fun h=>
 (bQ h.text).bind fun w=>
 some w)).bind fun q=>
 if q=true then
 some (sg,false)
 else
 (p0).bind fun b=>
 (sg.widen_Cluster[b]?).bind fun v=>
 (eM sg p0 p2 p3).bind fun d=>
 (d.1.widen_Cluster[b]?).bind fun c=>
 (d.1.set_widen_Cluster b (⟨c.at_,d.2,c.text,c.gauge⟩:aX)).bind fun a=>
 (if (d.2 != v.wide)=true then
 (p1).bind fun j=>
 (a.place_Pen[j]?).bind fun k=>
 (a.set_place_Pen j (⟨k.G,c.at_,k.Auto⟩:bf)).bind fun e=>
 (e.widen_Cluster[b]?).bind fun l=>
 (bP l.text).bind fun x=>
 (ib e p1 l.wide x).bind fun g=>
 (g.1.widen_Cluster[b]?).bind fun f=>
 (g.1.set_widen_Cluster b (⟨g.2,f.wide,f.text,f.gauge⟩:aX)).bind fun i=>
 some (i)
 else
 (p1).bind fun t=>
 (a.place_Pen[t]?).bind fun m=>
 (bV a m.G).bind fun y=>
 if (decide (d.2≤y))=true then
 (bB a m.G c.at_.Row).bind fun n=>
 (nC a n c.at_.Col p2).bind fun o=>
 some (o.1)
 else
 some (a)).bind fun z=>
 some (z,true)
theorem qC (O0:Own c0 G F) (R0:Rel c0 sg G) (hG:Gl [3,5] c0) (p0:Option Nat) (p1:Option Nat) (Z:Int) (s:aP) {r:Sto×Bool} (h2:Pt 3 c0 v1 p0) (h4:Pt 2 c0 v3 p1) (H:dC sg p0 p1 Z s=some r): Calls prog 180 #[v1,v3,J Z,.agg #[I s.Break,B s.Pict,I s.Conj,I s.East]] c0.w (aO c0 fun c v=>∃G_:Gm,Own c G_ (F)∧Rel c r.1 G_∧v=B r.2):=by
 unfold dC at H;refine en func180 rfl rfl (sr (me (bx 244 [I s.Break,B s.Pict,I s.Conj,I s.East] O0) ?_));rintro v9 c8 R ⟨b5,rfl,O6,m7⟩;refine va (B false) (wln (W.seq (W.seq (bn H fun l7 c2 H=>bn H fun j6 x0 H=>bn H fun i3 d0 H=>W.join (Jn c8 fun c l=>Own c G (F)∧l= [(0,v1),(1,v3),(2,J Z),(7,Q b5),(28,B i3)]) ?_ ?_))))
 ·clear H;refine W.region (va (v1) (vr (B p0.isNone) (by rcases h2.m.cs with ⟨h,i⟩ | ⟨b_,h,i⟩ <;> (subst h; rw [i]; kernel_rfl)) ?_));rcases bo (p0.isNone) with A | A
  ·obtain rfl:=orT A c2;refine vb A (pz (va (B true) ?_));have d2:true=true:=rfl;obtain rfl:=orT d2 x0;refine vb d2 (pz (pz (ps (va (B true) ?_))));have e2:true=true:=rfl;obtain rfl:=orT e2 d0;exact vb e2 (pz (pz (va (B true) (wln (jn c8 ⟨O6,rfl⟩)))))
  have m4:=orF A c2;refine vb A (wa (v3) (wn (vr (B p1.isNone) (by rcases h4.m.cs with ⟨h,i⟩ | ⟨b_,h,i⟩ <;> (subst h; rw [i]; kernel_rfl)) ?_)));obtain rfl:=si m4;refine va (B p1.isNone) ?_;rcases bo (p1.isNone) with D | D
  ·obtain rfl:=orT D x0;refine vb D (pz (pz (ps (va (B true) ?_))));have f2:true=true:=rfl;obtain rfl:=orT f2 d0;exact vb f2 (pz (pz (va (B true) (wln (jn c8 ⟨O6,rfl⟩)))))
  have y:=orF D x0;refine vb D (wa (v3) (wn (bn y fun n6 e5 y=>?_)));obtain ⟨z1,rfl,d5⟩:=((h4.mono R)).get e5;refine va (Q z1) (wa (Q z1) (wn (bn y fun U f5 y=>?_)));obtain ⟨v24,h5,g5⟩:=Rel.open_place_Pen (R0.mono R) f5 d5;refine vx (le1 0 iZ (O6.gon h5 0 rfl)) (wn (vr (B U.G.isNone) (by rcases (g5).cs with ⟨h,i⟩ | ⟨b_,h,i⟩ <;> (subst h; rw [i]; kernel_rfl)) ?_));obtain rfl:=si y;refine va (B U.G.isNone) ?_;rcases bo (U.G.isNone) with E | E
  ·obtain rfl:=orT E d0;exact vb E (pz (pz (va (B true) (wln (jn c8 ⟨O6,rfl⟩)))))
  have k:=orF E d0;refine vb E (wa (v1) (wn (bn k fun o6 j5 k=>?_)));obtain ⟨b2,rfl,i5⟩:=((h2.mono R)).get j5;refine va (Q b2) (wa (Qo b2 4) (wn (bn k fun h0 k5 k=>?_)));have g2:=Rel.open_widen_Cluster (R0.mono R) k5 i5;have o4:=O6.borrow 0 g2 rfl;refine bn k fun f4 l5 k=>cl (fv h0.text o4 l5) ?_;rintro v42 y4 p7 ⟨p4,rfl⟩;have q4:=p4.giveB 0 rfl;have r4:=Own.back q4 g2 rfl;obtain rfl:=si k;exact va (B f4) (wln (jn y4 ⟨r4,rfl⟩))
 rintro e_ w_ ⟨z4,n7,_,rfl,e0,rfl,q0,rfl⟩;refine nrm (cn H (fun m5 H=>?_) (fun m5 H=>?_))
 ·refine sr (va (B false) (wln (W.ret (thr ?_))));obtain rfl:=si H;exact r1 (qq z4 ⟨G,q0,R0.m,rfl⟩)
 refine W.skip (nrm (sr (va (v1) (bn H fun p6 n5 H=>?_))));obtain ⟨d,rfl,u⟩:=((h2.mono (R.trans e0))).get n5;refine va (Q d) (va (Qo d 3) (bn H fun x o5 H=>?_));have p5:=Rel.open_widen_Cluster (R0.mono (R.trans e0)) o5 u;refine vx (le1 3 u_3 (q0.gon p5 0 rfl)) (va (I x.wide) (wln (sr (vv (Q d) (va (J Z) (vx (lN 244 (mm m7)) (bn H fun g q5 H=>cl (ni q0 R0.m p0 Z s h2.m q5) ?_)))))));rintro q7 j7 f0 ⟨g7,s4,x1,rfl⟩;refine va (Q d) (va (Qo d 3) (bn H fun a r5 H=>?_));have s5:=Rel.open_widen_Cluster x1 r5 (tm u);refine md (gC 3 3 (I g.2) [I a.at_.Row,I a.at_.Col,B a.at_.Pending,I g.2,J a.text.text.1,J a.text.text.2.1,J a.text.text.2.2.1,J a.text.text.2.2.2.1,J a.text.text.2.2.2.2.1,J a.text.text.2.2.2.2.2.1,J a.text.text.2.2.2.2.2.2.1,J a.text.text.2.2.2.2.2.2.2.1,J a.text.text.2.2.2.2.2.2.2.2.1,J a.text.text.2.2.2.2.2.2.2.2.2.1,J a.text.text.2.2.2.2.2.2.2.2.2.2.1,J a.text.text.2.2.2.2.2.2.2.2.2.2.2.1,J a.text.text.2.2.2.2.2.2.2.2.2.2.2.2.1,J a.text.text.2.2.2.2.2.2.2.2.2.2.2.2.2.1,J a.text.text.2.2.2.2.2.2.2.2.2.2.2.2.2.2.1,J a.text.text.2.2.2.2.2.2.2.2.2.2.2.2.2.2.2,I a.text.n,B a.gauge.some,B a.gauge.pict,B a.gauge.wide] 0 s4 s5 ⟨rfl,trivial⟩) ?_;rintro a5 P t4;refine bn H fun j4 t5 H=>?_;obtain ⟨j,b0,o,M,h7⟩:=Rel.put_widen_Cluster t4 (x1.mono P) (E':=[(Eb d 286 [I a.at_.Row,I a.at_.Col,B a.at_.Pending,I g.2,J a.text.text.1,J a.text.text.2.1,J a.text.text.2.2.1,J a.text.text.2.2.2.1,J a.text.text.2.2.2.2.1,J a.text.text.2.2.2.2.2.1,J a.text.text.2.2.2.2.2.2.1,J a.text.text.2.2.2.2.2.2.2.1,J a.text.text.2.2.2.2.2.2.2.2.1,J a.text.text.2.2.2.2.2.2.2.2.2.1,J a.text.text.2.2.2.2.2.2.2.2.2.2.1,J a.text.text.2.2.2.2.2.2.2.2.2.2.2.1,J a.text.text.2.2.2.2.2.2.2.2.2.2.2.2.1,J a.text.text.2.2.2.2.2.2.2.2.2.2.2.2.2.1,J a.text.text.2.2.2.2.2.2.2.2.2.2.2.2.2.2.1,J a.text.text.2.2.2.2.2.2.2.2.2.2.2.2.2.2.2,I a.text.n,B a.gauge.some,B a.gauge.pict,B a.gauge.wide])]) t5 ⟨d,(tm u),rfl⟩;refine wln (bn H fun i4 e n4=>W.seqJ (Jn a5 fun c l=>∃G_,Own c G_ (F)∧l= []∧Rel c i4 G_) ?_ ?_)
 ·refine W.block (sr (vv (Q d) (va (Qo d 3) (vx (le1 3 u_3 (b0.gon M 0 rfl)) (va (I x.wide) (vv (B (g.2 != x.wide)) (wln (cn e (fun u5 e=>?_) (fun u5 e=>?_)))))))))
  ·refine sr (va (v3) (vv (Q d) (va (Q d) (vx (leN 55 0 [I a.at_.Row,I a.at_.Col,B a.at_.Pending] (b0.gon M 0 rfl)) (bn e fun q6 v5 e=>?_)))));obtain ⟨z,rfl,i2⟩:=((h4.mono (R.trans (e0.trans (f0.trans P))))).get v5;refine va (Q z) (va (Qo z 1) (bn e fun h1 w5 e=>?_));obtain ⟨n1,y5,x5⟩:=Rel.open_place_Pen o w5 i2;refine md (gB 55 1 [I a.at_.Row,I a.at_.Col,B a.at_.Pending] [n1,I a.at_.Row,I a.at_.Col,B a.at_.Pending,B h1.Auto] 0 b0 y5 ⟨rfl,rfl,rfl,trivial⟩) ?_;rintro k7 g0 u4;refine bn e fun k4 z5 e=>?_;obtain ⟨a0,v4,y1,o7,i7⟩:=Rel.put_place_Pen u4 (o.mono g0) (E':=[(Eb z 57 [n1,I a.at_.Row,I a.at_.Col,B a.at_.Pending,B h1.Auto])]) z5 ⟨z,n1,(tm i2),rfl,(x5.mono g0)⟩;refine wln (rD [10,13] (Kp a0 []) v4 ?_);intro c5 g1 w1;have c6:Kp a0 [] c5:=(Kp.nil w1);refine ta 0 (Q d) (ta 1 (Q z) (ta 2 (Q d) (ta 3 (Q d) (ta 4 (Qo d 3) (bn e fun i1 a6 e=>?_)))));have b1:=Rel.open_widen_Cluster (y1.mono g1) a6 (tm u);refine tkx 5 c6 (fun c' N q=>le1 3 u_3 (q.gon b1 0 rfl)) (ta 6 (Q d) (ta 7 (Q d) (ta 8 (Qo d 4) ?_)));have w4:=w1.borrow 0 b1 rfl;refine bn e fun g4 b6 e=>o1 9 (gc 9 (fu i1.text w4 b6) ?_);rintro z6 a3 c1 ⟨_,y6,m2,rfl,j3⟩;have o2:=m2.sD 2 [1,0];have n2:=o2.giveB 0 rfl;have j0:=Own.back n2 b1 rfl;have b4:Kp a0 [] a3:=(Kp.nil j0);refine ⟨.inr b4,?_⟩;obtain ⟨b3,l3,T,k0,k3⟩:=j0.frz 0 rfl j3;have c4:Kp a0 [] b3:=(Kp.nil k0);refine AC.gh l3 T (fun _=>c4) (bn e fun f m3 e=>o1 10 (gc 10 (pR k0 y1.m (hG.m.le (by decide)) p1 i1.wide g4 h4.m k3 m3) ?_));rintro a7 i6 d1 ⟨e6,q2,u0,rfl⟩;refine ⟨.inl rfl,ta 11 (Q d) (ta 12 (Q d) (bn e fun b n3 e=>?_))⟩;have o3:=Rel.open_widen_Cluster u0 n3 ((f0.trans (P.trans (g0.trans (g1.trans (c1.trans (T.trans d1)))))).t _ _ _ u);refine o1 13 (gD 13 (gB 55 0 [I f.2.Row,I f.2.Col,B f.2.Pending] [I f.2.Row,I f.2.Col,B f.2.Pending,I b.wide,J b.text.text.1,J b.text.text.2.1,J b.text.text.2.2.1,J b.text.text.2.2.2.1,J b.text.text.2.2.2.2.1,J b.text.text.2.2.2.2.2.1,J b.text.text.2.2.2.2.2.2.1,J b.text.text.2.2.2.2.2.2.2.1,J b.text.text.2.2.2.2.2.2.2.2.1,J b.text.text.2.2.2.2.2.2.2.2.2.1,J b.text.text.2.2.2.2.2.2.2.2.2.2.1,J b.text.text.2.2.2.2.2.2.2.2.2.2.2.1,J b.text.text.2.2.2.2.2.2.2.2.2.2.2.2.1,J b.text.text.2.2.2.2.2.2.2.2.2.2.2.2.2.1,J b.text.text.2.2.2.2.2.2.2.2.2.2.2.2.2.2.1,J b.text.text.2.2.2.2.2.2.2.2.2.2.2.2.2.2.2,I b.text.n,B b.gauge.some,B b.gauge.pict,B b.gauge.wide] 0 q2 o3 ⟨rfl,rfl,rfl,trivial⟩) ?_);rintro c3 e1 s2;refine bn e fun l4 q3 e=>?_;obtain ⟨j2,t2,x2,m6,g6⟩:=Rel.put_widen_Cluster s2 (u0.mono e1) (E':=[(Eb d 286 [I f.2.Row,I f.2.Col,B f.2.Pending,I b.wide,J b.text.text.1,J b.text.text.2.1,J b.text.text.2.2.1,J b.text.text.2.2.2.1,J b.text.text.2.2.2.2.1,J b.text.text.2.2.2.2.2.1,J b.text.text.2.2.2.2.2.2.1,J b.text.text.2.2.2.2.2.2.2.1,J b.text.text.2.2.2.2.2.2.2.2.1,J b.text.text.2.2.2.2.2.2.2.2.2.1,J b.text.text.2.2.2.2.2.2.2.2.2.2.1,J b.text.text.2.2.2.2.2.2.2.2.2.2.2.1,J b.text.text.2.2.2.2.2.2.2.2.2.2.2.2.1,J b.text.text.2.2.2.2.2.2.2.2.2.2.2.2.2.1,J b.text.text.2.2.2.2.2.2.2.2.2.2.2.2.2.2.1,J b.text.text.2.2.2.2.2.2.2.2.2.2.2.2.2.2.2,I b.text.n,B b.gauge.some,B b.gauge.pict,B b.gauge.wide])]) q3 ⟨d,((f0.trans (P.trans (g0.trans (g1.trans (c1.trans (T.trans (d1.trans e1))))))).t _ _ _ u),rfl⟩;refine ⟨.inl rfl,dn (bkn (nrm ?_))⟩;obtain rfl:=si e;have u2:=t2.sD 1 [];exact jn c3 ⟨j2,u2,rfl,x2⟩
  refine W.seq (rD [] (Kp j []) b0 ?_);intro d3 f1 l0;have m1:Kp j [] d3:=(Kp.nil l0);refine ta 0 (Q d) (ta 1 (Q d) (ta 2 (Qo d 3) (tkx 3 m1 (fun c' N q=>le1 3 u_3 (q.gon M 0 rfl)) (ta 4 (v3) (bn e fun r6 t3 e=>?_)))));obtain ⟨p,rfl,s3⟩:=((h4.mono (R.trans (e0.trans (f0.trans (P.trans f1)))))).get t3;refine ta 5 (Q p) (ta 6 (Q p) (bn e fun j1 u3 e=>?_));obtain ⟨b7,z0,y0⟩:=Rel.open_place_Pen (o.mono f1) u3 s3;refine tkx 7 m1 (fun c' N q=>le1 0 iZ (q.gon z0 0 rfl)) (bn e fun q1 w3 e=>o1 8 (gc 8 (cG l0 o.m j1.G y0 w3) ?_));rintro c7 w0 s6 ⟨S,rfl⟩;have d4:Kp j [] w0:=(Kp.nil S);refine ⟨.inr d4,ta 9 (B (decide (g.2≤q1))) (ta 10 (B (decide (g.2≤q1))) (dn (nrm (cn e (fun x3 e=>?_) (fun x3 e=>?_)))))⟩
  ·refine rD [16] (Kp j []) S ?_;intro e3 t6 m0;have X:Kp j [] e3:=(Kp.nil m0);refine ta 0 (Q p) (ta 1 (Q p) (ta 2 (Q p) (tkx 3 X (fun c' N q=>le1 0 iZ (q.gon z0 0 rfl)) (ta 4 (Q d) (ta 5 (Q d) (ta 6 (Q d) (ta 7 (Q d) (tkx 8 X (fun c' N q=>le1 0 u_3 (q.gon M 0 rfl)) (ta 10 (Q d) (ta 11 (Q d) (ta 12 (Q d) (ta 13 (Qo d 1) (tkx 14 X (fun c' N q=>le1 1 u_3 (q.gon M 0 rfl)) (ta 15 (J Z) (bn e fun u1 y3 e=>o1 9 (gc 9 (cL m0 o.m j1.G a.at_.Row y0.m y3) ?_))))))))))))))));rintro d7 f3 u6 ⟨_,o0,rfl,z3⟩;have e4:Kp j [] f3:=(Kp.nil o0);refine ⟨.inr e4,bn e fun d6 a4 e=>o1 16 (gc 16 (B2 o0 o.m (hG.m.le (by decide)) u1 a.at_.Col Z z3 a4) ?_)⟩;rintro e7 g3 v6 ⟨k2,v2,y2,rfl⟩;refine ⟨.inl rfl,dn (bkn (nrm ?_))⟩;obtain rfl:=si e;exact jn g3 ⟨k2,v2,rfl,y2⟩
  refine W.skip (bkn (nrm ?_));obtain rfl:=si e;exact jn w0 ⟨j,S,rfl,o.m⟩
 rintro e_ w_ ⟨h3,l6,_,rfl,w6,rfl,l2,w2,rfl,z2⟩;refine sr (va (B true) (wln (W.ret ?_)));obtain rfl:=si n4;exact r1 (qq h3 ⟨l2,w2,z2,rfl⟩)
end Go.Proofs.YtceciacilfhmjaaGreatDoor
