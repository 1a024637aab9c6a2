/- Parts of the proofs of RenderDraws, RenderAgain: the walk through the code, and plain Lean. No condition. -/
import Derived.Test.YtclmdpamofdoiaaGreatDoorRwA
import Derived.Test.YtclmdpamofdoiaaGreatDoorProg
import Derived.Shelf.Spec.SlicesInsertGrow
import Derived.Shelf.Slices.Delete
import Derived.WalkKit
import Derived.LaidEql
import Derived.Stop.Asserts
import Derived.RowKitTokens
import Derived.Elder7
set_option linter.unusedVariables false
set_option linter.unusedSimpArgs false
namespace Go.Proofs.YtclmdpamofdoiaaGreatDoor
open Go Go.Lt
set_option maxRecDepth 10000
set_option linter.unusedVariables false
attribute [local irreducible] W WL AC
open Tryz
variable {c0:Cx} {G:Gm} {F:List En} {sg:Sto} {v1 v2 v3 v4 v5 v6 v7 v8 v9 v10 v11 v12 v13 v14 v15 v16 v17 v18 v19 v20 v21 v22 v23 v24 v25 v26 v27 v28 v29 v30 v31 v32 v33 v34 v35 v36 v37 v38 v39 v40 v41 v42 v43 v44 v45 v46 v47 v48 v49 v50 v51 v52 v53 v54 v55 v56 v57 v58 v59 v60:Value}
def bK (sg:Sto) (p0:Option Nat):Option (Int):=
 if p0.isNone=true then
 some 0
 else
 (p0).bind fun b=>
 (sg.grid_Grid[b]?).bind fun a=>
 some (a.rows.length:Int)
theorem bG (d:Own c0 G F) (k:Rel c0 sg G) (f:Option Nat) {r:Int} (j:Pt 1 c0 v1 f) (H:bK sg f=some r): Calls prog 78 #[v1] c0.w (aP c0 fun c v=>Own c G (F)∧v=I r):=by
 unfold bK at H;refine en func78 rfl rfl (sr (va (I 0) (wln (W.seq (sr (va (v1) (vr (B f.isNone) (by rcases (j).cs with ⟨a,b⟩ | ⟨q,a,b⟩ <;> (subst a; rw [b]; kernel_rfl)) (wln (cn H (fun l H=>?_) (fun l H=>?_))))))))))
 ·refine sr (va (I 0) (wln (W.ret (thr ?_))));obtain rfl:=si H;exact r1 (qq c0 ⟨d,rfl⟩)
 refine W.skip (nrm (sr (va (v1) (bn H fun p n H=>?_))));obtain ⟨g,rfl,m⟩:=(j).get n;refine vv (Q g) (bn H fun e o H=>?_);obtain ⟨v8,s,i,h⟩:=Rel.open_grid_Grid k o m;refine vx (le1 0 ml (d.gon i 0 rfl)) (vx (lnO 3 ml h) (va (I (e.rows.length:Int)) (wln (W.ret ?_))));obtain rfl:=si H;exact r1 (qq c0 ⟨d,rfl⟩)
def lB (sg:Sto) (p0:Option Nat) (p1:Int) (p2:Int) (p3:Int):Option (gK×Bool):=
 (bK sg p0).bind fun b=>
 (bK sg p0).bind fun a=>
 (bD (decide ((bb 0 (aO p1 b)) < (bb 0 (aO p2 a)))) (some (decide (p3 > 0)))).bind fun c=>
 some ((⟨(bb 0 (aO p1 b)),(bb 0 (aO p2 a)),(aO p3 (w64 ((bb 0 (aO p2 a)) - (bb 0 (aO p1 b)))))⟩:gK),c)
theorem tZ (S:Own c0 G F) (z:Rel c0 sg G) (j:Option Nat) (d:Int) (e:Int) (f:Int) {r:gK×Bool} (R:Pt 1 c0 v1 j) (H:lB sg j d e f=some r): Calls prog 238 #[v1,I d,I e,I f] c0.w (aP c0 fun c v=>Own c G (F)∧v= .tuple #[.agg #[I r.1.from_,I r.1.to_,I r.1.n],B r.2]):=by
 unfold lB at H;refine en func238 rfl rfl (sr (me (al 300 [I 0,I 0,I 0] S) ?_));rintro v6 c5 l5 ⟨D,rfl,T⟩;refine va (B false) (wln (sr (va (I d) (va (v1) (bn H fun b X H=>cl (bG T z.m j R.m X) ?_)))));rintro v13 Z e0 ⟨U,rfl⟩;refine va (I (aO d b)) (va (I (bb 0 (aO d b))) (va (I e) (va (v1) (bn H fun a P H=>cl (bG U z.m j R.m P) ?_))));rintro v20 a0 f0 ⟨s,rfl⟩;refine va (I (aO e a)) (va (I (bb 0 (aO e a))) (va (I (bb 0 (aO d b))) (va (I (bb 0 (aO e a))) (wln (sr (va (I (bb 0 (aO d b))) (va (I (bb 0 (aO e a))) (va (I f) (va (I (bb 0 (aO e a))) (va (I (bb 0 (aO d b))) (va (I (w64 ((bb 0 (aO e a)) - (bb 0 (aO d b))))) (va (I (aO f (w64 ((bb 0 (aO e a)) - (bb 0 (aO d b)))))) (va (.agg #[I (bb 0 (aO d b)),I (bb 0 (aO e a)),I (aO f (w64 ((bb 0 (aO e a)) - (bb 0 (aO d b)))))]) (me (al 300 [I 0,I 0,I 0] s) ?_))))))))))))));rintro v24 b0 g0 ⟨A,rfl,t⟩;refine md (sA 300 [I (bb 0 (aO d b)),I (bb 0 (aO e a)),I (aO f (w64 ((bb 0 (aO e a)) - (bb 0 (aO d b)))))] 0 t ⟨rfl,rfl,rfl,trivial⟩) ?_;rintro E h0 h;refine wln (W.seq (bn H fun i p H=>W.join (Jn E fun c l=>Own c G ((Eb A 300 [I (bb 0 (aO d b)),I (bb 0 (aO e a)),I (aO f (w64 ((bb 0 (aO e a)) - (bb 0 (aO d b)))))]) :: (Eb D 300 [I (bb 0 (aO d b)),I (bb 0 (aO e a)),I (aO f (w64 ((bb 0 (aO e a)) - (bb 0 (aO d b)))))]) :: F)∧l= [(8,Q D),(9,B i)]) ?_ ?_))
 ·clear H;refine W.region (vx (leN 300 0 [I (bb 0 (aO d b)),I (bb 0 (aO e a)),I (aO f (w64 ((bb 0 (aO e a)) - (bb 0 (aO d b)))))] (h.on 0 rfl)) (va (I (bb 0 (aO d b))) (va (I (bb 0 (aO e a))) (va (B (decide ((bb 0 (aO d b)) < (bb 0 (aO e a))))) ?_))));rcases bo (decide ((bb 0 (aO d b)) < (bb 0 (aO e a)))) with g | g
  ·have q:=anT g p;refine vb g (wa (I f) (wa (B (decide (f > 0))) ?_));obtain rfl:=si q;refine va (B (decide (f > 0))) (md (sA 300 [I (bb 0 (aO d b)),I (bb 0 (aO e a)),I (aO f (w64 ((bb 0 (aO e a)) - (bb 0 (aO d b)))))] 1 h ⟨rfl,rfl,rfl,trivial⟩) ?_);rintro M i0 u;exact va (B (decide (f > 0))) (wln (jn M ⟨u,rfl⟩))
  obtain rfl:=anF g p;refine vb g (pz (va (B false) (md (sA 300 [I (bb 0 (aO d b)),I (bb 0 (aO e a)),I (aO f (w64 ((bb 0 (aO e a)) - (bb 0 (aO d b)))))] 1 h ⟨rfl,rfl,rfl,trivial⟩) ?_)));rintro N j0 x;exact va (B false) (wln (jn N ⟨x,rfl⟩))
 rintro e_ w_ ⟨o,d0,_,rfl,k0,rfl,k,rfl⟩;refine nrm (W.ret ?_);obtain rfl:=si H;have y:=k.sD 2 [];exact yh (c:=o) (vs:=[I (bb 0 (aO d b)),I (bb 0 (aO e a)),I (aO f (w64 ((bb 0 (aO e a)) - (bb 0 (aO d b)))))]) (v:=B i) rfl (by kernel_rfl) (by kernel_rfl) (by kernel_rfl) (by kernel_rfl) (k.on 1 rfl _ rfl).1 ⟨_,o,rfl,rfl,pt,y,rfl⟩
def bv (sg:Sto) (p0:Option Nat) (p1:Int):Option (Option Nat):=
 (orE (decide (p1 < 0)) ((bK sg p0).bind fun e=>
 some (decide (p1≥e)))).bind fun d=>
 if d=true then
 some (none:Option Nat)
 else
 (p0).bind fun a=>
 (sg.grid_Grid[a]?).bind fun b=>
 (idx b.rows p1).bind fun c=>
 some c
theorem cO (p:Own c0 G F) (q:Rel c0 sg G) (o:Option Nat) (a:Int) {r:Option Nat} (x:Pt 1 c0 v1 o) (H:bv sg o a=some r): Calls prog 118 #[v1,I a] c0.w (aP c0 fun c v=>∃P,Own c G (F)∧v=P∧Pt 0 c P r):=by
 unfold bv at H;refine en func118 rfl rfl (sr (va (.pointer none) (wln (W.seq (W.seq (bn H fun t D H=>W.join (Jn c0 fun c l=>Own c G (F)∧l= [(0,v1),(1,I a),(12,B t)]) ?_ ?_))))))
 ·clear H;refine W.region (va (I a) (va (B (decide (a < 0))) ?_));rcases bo (decide (a < 0)) with f | f
  ·obtain rfl:=orT f D;exact vb f (pz (pz (va (B true) (wln (jn c0 ⟨p,rfl⟩)))))
  have n:=orF f D;refine vb f (wa (I a) (wa (v1) (wn (bn n fun m S n=>cl (bG p q o x S) ?_))));rintro v12 s b0 ⟨R,rfl⟩;refine wa (B (decide (a≥m))) ?_;obtain rfl:=si n;exact va (B (decide (a≥m))) (wln (jn s ⟨R,rfl⟩))
 rintro e_ w_ ⟨h,a0,_,rfl,k,rfl,b,rfl⟩;refine nrm (cn H (fun u H=>?_) (fun u H=>?_))
 ·refine sr (va (.pointer none) (wln (W.ret (thr ?_))));obtain rfl:=si H;exact r1 (qq h ⟨(.pointer none),b,rfl,rfl⟩)
 refine W.skip (nrm (sr (va (v1) (bn H fun T z H=>?_))));obtain ⟨g,rfl,y⟩:=((x.mono k)).get z;refine vv (Q g) (bn H fun X A H=>?_);obtain ⟨v24,d0,i,d⟩:=Rel.open_grid_Grid (q.mono k) A y;refine vx (le1 0 ml (b.gon i 0 rfl)) (va (I a) (bn H fun Z e H=>vx (ixO ml d e) ?_));obtain ⟨U,E,N⟩:=OA.at d e;obtain ⟨v32,rfl,M⟩:=E;refine vr v32 (rx (by kernel_rfl) (mE Aj rfl (b.gon i 1 rfl) (d.blk e) (at1 (j:=0) N rfl))) (va (v32) (wln (W.ret ?_)));obtain rfl:=si H;exact r1 (qq h ⟨v32,b,rfl,M⟩)
def ez (sg:Sto) (p0:Option Nat) (p1:Int) (p2:Option Nat):Option (Sto×Bool):=
 (orE p2.isNone ((bv sg p0 p1).bind fun h=>
 (bM sg h).bind fun e=>
 (bM sg p2).bind fun f=>
 some (e != f))).bind fun g=>
 if g=true then
 some (sg,false)
 else
 (p0).bind fun b=>
 (sg.grid_Grid[b]?).bind fun c=>
 (idx c.rows p1).bind fun i=>
 (nT c.rows p1 p2).bind fun d=>
 (sg.set_grid_Grid b (⟨d⟩:bX)).bind fun a=>
 some (a,true)
theorem pB (M:Own c0 G F) (e:Rel c0 sg G) (z:Option Nat) (f:Int) (g:Option Nat) {r:Sto×Bool} (h2:Pt 1 c0 v1 z) (j:Pt 0 c0 v3 g) (H:ez sg z f g=some r): Calls prog 119 #[v1,I f,v3] c0.w (aP c0 fun c v=>∃G_:Gm,Own c G_ (F)∧Rel c r.1 G_∧v=B r.2):=by
 unfold ez at H;refine en func119 rfl rfl (sr (va (B false) (wln (W.seq (W.seq (bn H fun g0 h5 H=>W.join (Jn c0 fun c l=>Own c G (F)∧l= [(0,v1),(1,I f),(2,v3),(17,B g0)]) ?_ ?_))))))
 ·clear H;refine W.region (va (v3) (vr (B g.isNone) (by rcases (j).cs with ⟨p,q⟩ | ⟨b_,p,q⟩ <;> (subst p; rw [q]; kernel_rfl)) ?_));rcases bo (g.isNone) with k | k
  ·obtain rfl:=orT k h5;exact vb k (pz (pz (pz (ps (va (B true) (wln (jn c0 ⟨M,rfl⟩)))))))
  have a:=orF k h5;refine vb k (wa (v1) (wa (I f) (wn (bn a fun x0 h8 a=>cl (cO M e z f h2 h8) ?_))));rintro v9 d1 h1 ⟨_,N,rfl,h0⟩;refine wn (bn a fun n i0 a=>cl (cF N e.m x0 h0 i0) ?_);rintro v23 e1 i1 ⟨P,rfl⟩;refine wa (v3) (wn (bn a fun o k0 a=>cl (cF P e.m g j.m k0) ?_));rintro v30 d0 j1 ⟨S,rfl⟩;refine wa (B (n != o)) ?_;obtain rfl:=si a;exact va (B (n != o)) (wln (jn d0 ⟨S,rfl⟩))
 rintro e_ w_ ⟨e0,f1,_,rfl,d,rfl,h,rfl⟩;refine nrm (cn H (fun l0 H=>?_) (fun l0 H=>?_))
 ·refine sr (va (B false) (wln (W.ret (thr ?_))));obtain rfl:=si H;exact r1 (qq e0 ⟨G,h,e.m,rfl⟩)
 refine W.skip (nrm (sr (va (v1) (bn H fun z0 m0 H=>?_))));obtain ⟨b,rfl,s⟩:=((h2.mono d)).get m0;refine vv (Q b) (bn H fun a1 o0 H=>?_);obtain ⟨v42,k1,x,t⟩:=Rel.open_grid_Grid (e.mono d) o0 s;refine vx (le1 0 ml (h.gon x 0 rfl)) (va (I f) (va (v3) (bn H fun b1 q0 H=>vx (ixO ml t q0) ?_)));obtain ⟨i,rfl⟩:=((j.mono d)).form;have U:=h.borrow 1 x rfl;refine bn H fun A s0 H=>md (Own.stW (R:=(RP 0)) (T:=168) (us:=[.pointer i]) (x':=g) (u:= .pointer i) 0 U (by kernel_rfl) rfl t s0 rfl (by kernel_rfl) ⟨j.m.one,trivial⟩ rfl ⟨(.pointer i),rfl,j.m⟩) ?_;rintro f0 w0 ⟨y,X,u0⟩;have Z:=X.giveB 1 rfl;refine bn H fun D v0 H=>?_;obtain ⟨E,a0,b0,g1,c1⟩:=Rel.put_grid_Grid Z (e.mono (d.trans w0)) (E':=[(Eb b 176 [v42]),es true (RP 0) v42 168 y A]) v0 ⟨b,v42,y,(tm s),rfl,u0⟩;refine wln (sr (va (B true) (wln (W.ret ?_))));obtain rfl:=si H;exact r1 (qq f0 ⟨E,a0,b0,rfl⟩)
def eI (sg:Sto) (p0:gK) (p1:Option Nat) (p2:List (Option Nat)):Option (Sto):=
 (cv (σ:=Int×Sto) (τ:=Sto) (((p2.length:Int) - 0).toNat+1) (fun a=>
 if (decide (a.1 < (p2.length:Int)))=true then
 (idx p2 a.1).bind fun c=>
 (ez a.2 p1 (w64 (p0.from_+a.1)) c).bind fun d=>
 some (.inl ((w64 (a.1+1)),d.1))
 else
 some (.inr (a.2))) (0,sg)).bind fun b=>
 (bv b p1 (w64 (p0.from_ - 1))).bind fun e=>
 (eY b e false).bind fun f=>
 some f
theorem mQ (O0:Own c0 G F) (R0:Rel c0 sg G) (b:gK) (g:Option Nat) (h:List (Option Nat)) {r:Sto} (h2:Pt 1 c0 v1 g) (s:Sl (RP 0) c0 v3 h) (H:eI sg b g h=some r): Calls prog 239 #[.agg #[I b.from_,I b.to_,I b.n],v1,v3] c0.w (aP c0 fun c v=>∃G_:Gm,Own c G_ (F)∧Rel c r G_∧v= .tuple #[]):=by
 unfold eI at H;refine en func239 rfl rfl (sr (me (bx 300 [I b.from_,I b.to_,I b.n] O0) ?_));rintro v9 q l8 ⟨f,rfl,O6,m7⟩;refine wln (W.seq (sr (va (v3) (vx (ln 3 ml s.m) (va (I 0) (wln (W.block (bn H fun h1 o d=>lp o (fun a=>Jn q fun c l=>∃G_,Own c G_ (F)∧l= [(1,v1),(3,Q f),(8,v3),(9,I (h.length:Int)),(10,I a.1)]∧Rel c a.2 G_) (fun t ex e w=>ex= .exit 0∧(Jn q fun c l=>∃G_,Own c G_ (F)∧l= [(1,v1),(3,Q f)]∧Rel c t G_) e w) ?_ ?_ ?_))))))))
 ·clear d o;intro a i1 X l0 H;revert X l0;rintro e_ w_ ⟨S,b1,_,rfl,i0,rfl,y,i,rfl,j⟩;refine sr (va (B (decide (a.1 < (h.length:Int)))) (wln (W.seq (cn H (fun Z H=>?_) (fun Z H=>?_)))))
  ·refine W.skip (nrm (W.seq (W.block (sr (va (I a.1) (bn H fun u p H=>?_))))));obtain ⟨u0,b0,j0⟩:=Sl.at (s.mono (l8.trans i0)) (aR p);obtain ⟨v23,rfl,d0⟩:=b0;refine vx (ix ml s.m p) (vx (l1 Aj (j0 0 _ rfl)) (va (I a.1) (va (v23) (wln (W.region (va (v1) (va (Q f) (vx (l1 u_3 ((mm m7) 0 _ rfl)) (va (I a.1) (va (I (w64 (b.from_+a.1))) (va (v23) (bn H fun w0 e0 H=>cl (pB i j g (w64 (b.from_+a.1)) u h2.m d0 e0) ?_))))))))))));rintro v31 T d1 ⟨z,D,P,rfl⟩;refine WL.nil (bkn (nrm (W.region (vv (I (w64 (a.1+1))) (WL.nil ?_)))));obtain rfl:=si H;exact ⟨_,rfl,jn T ⟨z,D,rfl,P⟩⟩
  refine W.exit (thx ?_);obtain rfl:=si H;exact ⟨_,rfl,rfl,jn S ⟨y,i,rfl,j⟩⟩
 ·exact jn q ⟨G,O6,rfl,R0.m⟩
 rintro _ e_ w_ ⟨rfl,z0,c1,_,rfl,e1,rfl,y0,E,rfl,k⟩;refine bke (nrm (W.region (va (v1) (va (Q f) (vx (l1 u_3 ((mm m7) 0 _ rfl)) (va (I (w64 (b.from_ - 1))) (bn d fun x f0 d=>cl (cO E k g (w64 (b.from_ - 1)) h2.m f0) ?_)))))));rintro v39 a1 f1 ⟨_,M,rfl,g0⟩;refine bn d fun x0 h0 d=>cl (lY M k.m x false g0 h0) ?_;rintro v53 U g1 ⟨A,N,R,rfl⟩;refine WL.nil ?_;obtain rfl:=si d;exact n0 (qq U ⟨A,N,R,rfl⟩)
def jJ (sg:Sto) (p0:Option Nat) (p1:Int) (p2:Int):Option (List (Option Nat)):=
 (cv (σ:=(List (Option Nat))×Int) (τ:=(List (Option Nat))) ((p2 - p1).toNat+1) (fun a=>
 if (decide (a.2 < p2))=true then
 (bv sg p0 a.2).bind fun b=>
 (app a.1 ([b]:List (Option Nat))).bind fun c=>
 some (.inl (c,(w64 (a.2+1))))
 else
 some (.inr (a.1))) (([]:List (Option Nat)),p1)).bind fun d=>
 some d
theorem rf (O0:Own c0 G F) (R0:Rel c0 sg G) (o:Option Nat) (f:Int) (d:Int) {r:List (Option Nat)} (h2:Pt 1 c0 v1 o) (H:jJ sg o f d=some r): Calls prog 240 #[v1,I f,I d] c0.w (aP c0 fun c v=>∃q y2,Own c G (es true (RP 0) q 168 y2 r :: F)∧v=q∧OA (RP 0) c q y2 r):=by
 unfold jJ at H;refine en func240 rfl rfl (sr (va (Y) (wln (sr (va (Y) (wln (W.seq (sr (vv (I f) (wln (W.block (bn H fun b1 T s=>lp T (fun a=>Jn c0 fun c l=>∃v5 g,Own c G (es true (RP 0) v5 168 g a.1 :: F)∧l= [(0,v1),(2,I d),(7,v5),(8,I a.2)]∧OA (RP 0) c v5 g a.1) (fun b ex e w=>ex= .exit 0∧(Jn c0 fun c l=>∃v7 h,Own c G (es true (RP 0) v7 168 h b :: F)∧l= [(7,v7)]∧OA (RP 0) c v7 h b) e w) ?_ ?_ ?_))))))))))))
 ·clear s T;intro a d1 N f0 H;revert N f0;rintro e_ w_ ⟨c9,u0,_,rfl,l9,rfl,v5,g,i,rfl,k⟩;refine W.seq (sr (va (I a.2) (va (I d) (va (B (decide (a.2 < d))) (wln (cn H (fun P H=>?_) (fun P H=>?_)))))))
  ·refine W.skip (nrm (W.seq (W.block (W.region (va (v5) (va (v1) (va (I a.2) (bn H fun p R H=>cl (cO i R0.m o a.2 h2.m R) ?_))))))));rintro v18 q0 w0 ⟨_,t,rfl,n⟩;obtain ⟨j,rfl⟩:=(n).form;refine me (sl (RP 0) 168 [[.pointer j]] ([p]:List (Option Nat)) t ⟨⟨(.pointer j),rfl,n⟩,trivial⟩) ?_;rintro v31 s0 x0 ⟨c1,u,S⟩;obtain ⟨t0,X,y0,x,U⟩:=u.frz 0 rfl S;refine WL.gh X (bn H fun o0 Z H=>me (ap (RP 0) (.pointer none) 8 174 1 x k.m U Z ml) ?_);rintro v41 E z0 ⟨e0,y,a0⟩;refine va (v41) (WL.nil (bkn (nrm (W.region (va (I a.2) (vv (I (w64 (a.2+1))) (WL.nil ?_)))))));obtain rfl:=si H;refine ⟨_,rfl,?_⟩;have z:=y.sD 2 [1];exact jn E ⟨v41,e0,z,rfl,a0⟩
  refine W.exit (thx ?_);obtain rfl:=si H;exact ⟨_,rfl,rfl,jn c9 ⟨v5,g,i,rfl,k⟩⟩
 ·have b0:OA (RP 0) c0 (Y) [] []:=OA.nil (aZ _);have A:=O0.addHole (e:=es true (RP 0) (Y) 168 [] ([]:List (Option Nat))) rfl;exact jn c0 ⟨(Y),[],A,rfl,b0⟩
 rintro _ e_ w_ ⟨rfl,M,v0,_,rfl,a1,rfl,v7,h,D,rfl,d0⟩;refine bke (nrm (sr (vv (v7) (wln (W.ret ?_)))));obtain rfl:=si s;exact r1 (qq M ⟨v7,h,D,rfl,d0⟩)
def cf (sg:Sto) (p0:Option Nat):Option (Int):=
 (bv sg p0 0).bind fun a=>
 (bM sg a).bind fun b=>
 some b
theorem cL (i:Own c0 G F) (d:Rel c0 sg G) (a:Option Nat) {r:Int} (k:Pt 1 c0 v1 a) (H:cf sg a=some r): Calls prog 77 #[v1] c0.w (aP c0 fun c v=>Own c G (F)∧v=I r):=by
 unfold cf at H;refine en func77 rfl rfl (sr (va (I 0) (wln (sr (va (v1) (bn H fun g l H=>cl (cO i d a 0 k l) ?_))))));rintro v4 o p ⟨_,j,rfl,n⟩;refine bn H fun h f H=>cl (cF j d.m g n f) ?_;rintro v18 e q ⟨b,rfl⟩;refine va (I h) (wln (W.ret ?_));obtain rfl:=si H;exact r1 (qq e ⟨b,rfl⟩)
def iE (sg:Sto) (p0:Option Nat) (p1:Int):Option (Sto×(List (Option Nat))):=
 (cv (σ:=(List (Option Nat))×Int×Sto) (τ:=((List (Option Nat))×Sto)) ((p1 - 0).toNat+1) (fun a=>
 if (decide (a.2.1 < p1))=true then
 (cf a.2.2 p0).bind fun d=>
 (ky a.2.2 d).bind fun b=>
 (app a.1 ([b.2]:List (Option Nat))).bind fun e=>
 some (.inl (e,(w64 (a.2.1+1)),b.1))
 else
 some (.inr (a.1,a.2.2))) (([]:List (Option Nat)),0,sg)).bind fun c=>
 some (c.2,c.1)
theorem py (O0:Own c0 G F) (R0:Rel c0 sg G) (p:Option Nat) (f:Int) {r:Sto×(List (Option Nat))} (h2:Pt 1 c0 v1 p) (H:iE sg p f=some r): Calls prog 241 #[v1,I f] c0.w (aP c0 fun c v=>∃t y2,∃G_:Gm,Own c G_ (es true (RP 0) t 168 y2 r.2 :: F)∧Rel c r.1 G_∧eF G G_∧v=t∧OA (RP 0) c t y2 r.2):=by
 unfold iE at H;refine en func241 rfl rfl (sr (va (Y) (wln (sr (va (Y) (wln (W.seq (sr (va (I f) (va (I 0) (wln (W.block (bn H fun t1 h3 z=>lp h3 (fun a=>Jn c0 fun c l=>∃v5 g G_,Own c G_ (es true (RP 0) v5 168 g a.1 :: F)∧l= [(0,v1),(5,v5),(6,I f),(7,I a.2.1)]∧Rel c a.2.2 G_∧eF G G_∧OA (RP 0) c v5 g a.1) (fun b ex e w=>ex= .exit 0∧(Jn c0 fun c l=>∃v7 h G_,Own c G_ (es true (RP 0) v7 168 h b.1 :: F)∧l= [(5,v7)]∧Rel c b.2 G_∧eF G G_∧OA (RP 0) c v7 h b.1) e w) ?_ ?_ ?_)))))))))))))
 ·clear z h3;intro a w1 e0 u0 H;revert e0 u0;rintro e_ w_ ⟨c9,h1,_,rfl,l9,rfl,v5,g,u,i,rfl,d,j,n⟩;refine sr (va (B (decide (a.2.1 < f))) (wln (W.seq (cn H (fun f0 H=>?_) (fun f0 H=>?_)))))
  ·refine W.skip (nrm (W.seq (W.block (W.region (va (v5) (va (v1) (bn H fun q g0 H=>cl (cL i d p h2.m g0) ?_)))))));rintro v23 d1 j1 ⟨A,rfl⟩;refine bn H fun s h0 H=>cl (tK A d.m q h0) ?_;rintro v25 e1 k1 ⟨_,x,D,T,X,rfl,o⟩;have Z:=j.trans X;obtain ⟨k,rfl⟩:=(o).form;refine me (sl (RP 0) 168 [[.pointer k]] ([s.2]:List (Option Nat)) D ⟨⟨(.pointer k),rfl,o⟩,trivial⟩) ?_;rintro v39 f1 m1 ⟨u1,E,j0⟩;obtain ⟨g1,l0,n1,M,k0⟩:=E.frz 0 rfl j0;refine WL.gh l0 (bn H fun c1 m0 H=>me (ap (RP 0) (.pointer none) 8 174 1 M n.m k0 m0 ml) ?_);rintro v49 b0 q1 ⟨t0,N,o0⟩;refine va (v49) (WL.nil (bkn (nrm (W.region (vv (I (w64 (a.2.1+1))) (WL.nil ?_))))));obtain rfl:=si H;refine ⟨_,rfl,?_⟩;have P:=N.sD 2 [1];exact jn b0 ⟨v49,t0,x,P,rfl,T.m,Z,o0⟩
  refine W.exit (thx ?_);obtain rfl:=si H;exact ⟨_,rfl,rfl,jn c9 ⟨v5,g,u,i,rfl,d,j,n⟩⟩
 ·have q0:OA (RP 0) c0 (Y) [] []:=OA.nil (aZ _);have R:=O0.addHole (e:=es true (RP 0) (Y) 168 [] ([]:List (Option Nat))) rfl;exact jn c0 ⟨(Y),[],G,R,rfl,R0,(eF.refl _),q0⟩
 rintro _ e_ w_ ⟨rfl,d0,i1,_,rfl,s1,rfl,v7,h,y,S,rfl,U,a0,s0⟩;refine bke (nrm (sr (vv (v7) (wln (W.ret ?_)))));obtain rfl:=si z;exact r1 (qq d0 ⟨v7,h,y,S,U,a0,rfl,s0⟩)
def jZ (sg:Sto) (p0:Option Nat) (p1:Int) (p2:Int) (p3:Int):Option (Sto):=
 (lB sg p0 p1 p2 p3).bind fun a=>
 if a.2=true then
 (jJ sg p0 (w64 (a.1.from_+a.1.n)) a.1.to_).bind fun c=>
 (iE sg p0 a.1.n).bind fun b=>
 (app c b.2).bind fun d=>
 (eI b.1 a.1 p0 d).bind fun e=>
 some e
 else
 some sg
theorem qv (O0:Own c0 G F) (h:Rel c0 sg G) (g:Option Nat) (k:Int) (l:Int) (o:Int) {r:Sto} (j:Pt 1 c0 v1 g) (H:jZ sg g k l o=some r): Calls prog 188 #[v1,I k,I l,I o] c0.w (aP c0 fun c v=>∃G_:Gm,Own c G_ (F)∧Rel c r G_∧v= .tuple #[]):=by
 unfold jZ at H;refine en func188 rfl rfl (sr (va (v1) (va (I k) (va (I l) (va (I o) (bn H fun a h3 H=>cl (tZ O0 h g k l o j h3) ?_))))));rintro v9 c8 l8 ⟨O5,rfl⟩;refine va (.tuple #[.agg #[I a.1.from_,I a.1.to_,I a.1.n],B a.2]) (va (.agg #[I a.1.from_,I a.1.to_,I a.1.n]) (va (B a.2) (me (al 300 [I 0,I 0,I 0] O5) ?_)));rintro v13 j1 k1 ⟨b,rfl,M⟩;refine md (sA 300 [I a.1.from_,I a.1.to_,I a.1.n] 0 M ⟨rfl,rfl,rfl,trivial⟩) ?_;rintro T m1 p;refine va (B a.2) (wln (sr (va (B a.2) (wln (cn H (fun e0 H=>?_) (fun e0 H=>?_))))))
 ·refine rD [] (Kp G0 [(Eb b 300 [I a.1.from_,I a.1.to_,I a.1.n])]) p ?_;intro U n1 q;have e:Kp G0 [(Eb b 300 [I a.1.from_,I a.1.to_,I a.1.n])] U:=(Kp.cons (q.on 0 rfl) Kp.nil0);refine tkx 0 e (fun i f d=>leN 300 0 [I a.1.from_,I a.1.to_,I a.1.n] (d.on 0 rfl)) (ta 1 (v1) (ta 2 (v1) (ta 3 (Q b) (tkx 4 e (fun i f d=>le1 0 u_3 (d.on 0 rfl)) (ta 5 (Qo b 2) (tkx 6 e (fun i f d=>le1 2 u_3 (d.on 0 rfl)) (ta 7 (I (w64 (a.1.from_+a.1.n))) (ta 8 (Qo b 1) (tkx 9 e (fun i f d=>le1 1 u_3 (d.on 0 rfl)) (ta 11 (v1) (ta 12 (Qo b 2) (tkx 13 e (fun i f d=>le1 2 u_3 (d.on 0 rfl)) (bn H fun e1 f0 H=>o1 10 (gc 10 (rf q h.m g (w64 (a.1.from_+a.1.n)) a.1.to_ j.m f0) ?_))))))))))))));rintro v21 X q1 ⟨_,w1,s,rfl,g0⟩;have v0:Kp G0 [(Eb b 300 [I a.1.from_,I a.1.to_,I a.1.n])] X:=(Kp.cons (s.on 1 rfl) Kp.nil0);refine ⟨.inr v0,bn H fun f1 h0 H=>o1 14 (gc 14 (py s h.m g a.1.n j.m h0) ?_)⟩;rintro v32 Z s1 ⟨_,x1,h1,t,R,i1,rfl,i0⟩;have w0:Kp G0 [(Eb b 300 [I a.1.from_,I a.1.to_,I a.1.n])] Z:=(Kp.cons (t.on 2 rfl) Kp.nil0);refine ⟨.inr w0,?_⟩;obtain ⟨a0,k0,t0,u,j0⟩:=t.frz 0 rfl i0;have x0:Kp G0 [(Eb b 300 [I a.1.from_,I a.1.to_,I a.1.n])] a0:=(Kp.cons (u.on 2 rfl) Kp.nil0);refine AC.gh k0 t0 (fun _=>x0) (bn H fun D l0 H=>o1 15 (gm 15 (ap (RP 0) (.pointer none) 8 174 1 u g0.m j0 l0 ml) ?_));rintro v52 b0 t1 ⟨y1,x,m0⟩;have y0:Kp G0 [(Eb b 300 [I a.1.from_,I a.1.to_,I a.1.n])] b0:=(Kp.cons (x.on 2 rfl) Kp.nil0);refine ⟨.inr y0,?_⟩;obtain ⟨d0,q0,u0,y,o0⟩:=x.frz 1 rfl m0;have z0:Kp G0 [(Eb b 300 [I a.1.from_,I a.1.to_,I a.1.n])] d0:=(Kp.cons (y.on 2 rfl) Kp.nil0);refine AC.gh q0 u0 (fun _=>z0) (bn H fun g1 s0 H=>o1 16 (gc 16 (mQ y R.m a.1 g D j.m o0 s0) ?_));rintro z1 A u1 ⟨E,z,S,rfl⟩;have a1:Kp G0 [(Eb b 300 [I a.1.from_,I a.1.to_,I a.1.n])] A:=(Kp.cons (z.on 2 rfl) Kp.nil0);refine ⟨.inr a1,dn ?_⟩;obtain rfl:=si H;have N:=z.sD 3 [];exact n0 (qq A ⟨E,N,S,rfl⟩)
 refine W.skip ?_;obtain rfl:=si H;have P:=p.sD 1 [];exact n0 (qq T ⟨G,P,h.m,rfl⟩)
def jK (sg:Sto) (p0:Option Nat) (p1:Int) (p2:Int) (p3:Int):Option (Sto):=
 (lB sg p0 p1 p2 p3).bind fun a=>
 if a.2=true then
 (iE sg p0 a.1.n).bind fun b=>
 (jJ b.1 p0 a.1.from_ (w64 (a.1.to_ - a.1.n))).bind fun d=>
 (app b.2 d).bind fun e=>
 (eI b.1 a.1 p0 e).bind fun c=>
 (bv c p0 (w64 (a.1.to_ - 1))).bind fun f=>
 (eY c f false).bind fun g=>
 some g
 else
 some sg
theorem rh (O0:Own c0 G F) (D:Rel c0 sg G) (f:Option Nat) (k:Int) (l:Int) (o:Int) {r:Sto} (i:Pt 1 c0 v1 f) (H:jK sg f k l o=some r): Calls prog 189 #[v1,I k,I l,I o] c0.w (aP c0 fun c v=>∃G_:Gm,Own c G_ (F)∧Rel c r G_∧v= .tuple #[]):=by
 unfold jK at H;refine en func189 rfl rfl (sr (va (v1) (va (I k) (va (I l) (va (I o) (bn H fun a h3 H=>cl (tZ O0 D f k l o i h3) ?_))))));rintro v9 c8 l8 ⟨O5,rfl⟩;refine va (.tuple #[.agg #[I a.1.from_,I a.1.to_,I a.1.n],B a.2]) (va (.agg #[I a.1.from_,I a.1.to_,I a.1.n]) (va (B a.2) (me (al 300 [I 0,I 0,I 0] O5) ?_)));rintro v13 y1 b2 ⟨b,rfl,P⟩;refine md (sA 300 [I a.1.from_,I a.1.to_,I a.1.n] 0 P ⟨rfl,rfl,rfl,trivial⟩) ?_;rintro Z c2 p;refine va (B a.2) (wln (sr (va (B a.2) (wln (cn H (fun j0 H=>?_) (fun j0 H=>?_))))))
 ·refine W.seq (rD [] (Kp G0 [(Eb b 300 [I a.1.from_,I a.1.to_,I a.1.n])]) p ?_);intro a0 d2 q;have e:Kp G0 [(Eb b 300 [I a.1.from_,I a.1.to_,I a.1.n])] a0:=(Kp.cons (q.on 0 rfl) Kp.nil0);refine tkx 0 e (fun j g d=>leN 300 0 [I a.1.from_,I a.1.to_,I a.1.n] (d.on 0 rfl)) (ta 1 (v1) (ta 2 (v1) (ta 3 (Qo b 2) (tkx 4 e (fun j g d=>le1 2 u_3 (d.on 0 rfl)) (ta 6 (v1) (ta 7 (Q b) (tkx 8 e (fun j g d=>le1 0 u_3 (d.on 0 rfl)) (ta 9 (Qo b 1) (tkx 10 e (fun j g d=>le1 1 u_3 (d.on 0 rfl)) (ta 11 (Qo b 2) (tkx 12 e (fun j g d=>le1 2 u_3 (d.on 0 rfl)) (ta 13 (I (w64 (a.1.to_ - a.1.n))) (bn H fun n1 k0 H=>o1 5 (gc 5 (py q D.m f a.1.n i.m k0) ?_))))))))))))));rintro v21 b0 e2 ⟨_,l2,u1,s,z,x1,rfl,l0⟩;have d1:Kp G0 [(Eb b 300 [I a.1.from_,I a.1.to_,I a.1.n])] b0:=(Kp.cons (s.on 1 rfl) Kp.nil0);refine ⟨.inr d1,bn H fun q1 m0 H=>o1 14 (gc 14 (rf s z f a.1.from_ (w64 (a.1.to_ - a.1.n)) i.m m0) ?_)⟩;rintro v32 d0 f2 ⟨_,m2,t,rfl,o0⟩;have e1:Kp G0 [(Eb b 300 [I a.1.from_,I a.1.to_,I a.1.n])] d0:=(Kp.cons (t.on 2 rfl) Kp.nil0);refine ⟨.inr e1,?_⟩;obtain ⟨e0,s0,b1,u,q0⟩:=t.frz 0 rfl o0;have f1:Kp G0 [(Eb b 300 [I a.1.from_,I a.1.to_,I a.1.n])] e0:=(Kp.cons (u.on 2 rfl) Kp.nil0);refine AC.gh s0 b1 (fun _=>f1) (bn H fun E t0 H=>o1 15 (gm 15 (ap (RP 0) (.pointer none) 8 174 1 u l0.m q0 t0 ml) ?_));rintro v52 f0 g2 ⟨n2,x,u0⟩;have g1:Kp G0 [(Eb b 300 [I a.1.from_,I a.1.to_,I a.1.n])] f0:=(Kp.cons (x.on 2 rfl) Kp.nil0);refine ⟨.inr g1,?_⟩;obtain ⟨g0,w0,c1,y,v0⟩:=x.frz 1 rfl u0;have h1:Kp G0 [(Eb b 300 [I a.1.from_,I a.1.to_,I a.1.n])] g0:=(Kp.cons (y.on 2 rfl) Kp.nil0);refine AC.gh w0 c1 (fun _=>h1) (bn H fun s1 x0 H=>o1 16 (gc 16 (mQ y z.m a.1 f E i.m v0 x0) ?_));rintro o2 h0 i2 ⟨w1,h,A,rfl⟩;have i1:Kp G0 [(Eb b 300 [I a.1.from_,I a.1.to_,I a.1.n])] h0:=(Kp.cons (h.on 2 rfl) Kp.nil0);refine ⟨.inr i1,dn (nrm (W.region (va (v1) (va (Qo b 1) (vx (le1 1 u_3 (h.on 2 rfl)) (va (I (w64 (a.1.to_ - 1))) (bn H fun M y0 H=>cl (cO h A f (w64 (a.1.to_ - 1)) i.m y0) ?_)))))))⟩;rintro q2 z1 j2 ⟨_,R,rfl,z0⟩;refine bn H fun t1 a1 H=>cl (lY R A.m M false z0 a1) ?_;rintro s2 i0 k2 ⟨N,S,X,rfl⟩;refine WL.nil ?_;obtain rfl:=si H;have T:=S.sD 3 [];exact n0 (qq i0 ⟨N,T,X,rfl⟩)
 refine W.skip ?_;obtain rfl:=si H;have U:=p.sD 1 [];exact n0 (qq Z ⟨G,U,D.m,rfl⟩)
def iK (sg:Sto) (p0:Option Nat):Option (List ah):=
 (bK sg p0).bind fun c=>
 (cv (σ:=(List ah)×Int) (τ:=(List ah)) ((c - 0).toNat+1) (fun a=>
 if (decide (a.2 < c))=true then
 (p0).bind fun d=>
 (sg.grid_Grid[d]?).bind fun b=>
 (idx b.rows a.2).bind fun e=>
 (idx b.rows a.2).bind fun f=>
 (ey sg e).bind fun g=>
 (jg sg f).bind fun h=>
 (app a.1 ([(⟨g,h⟩:ah)]:List ah)).bind fun i=>
 some (.inl (i,(w64 (a.2+1))))
 else
 some (.inr (a.1))) (([]:List ah),0)).bind fun j=>
 some j
theorem sP (O0:Own c0 G F) (z:Rel c0 sg G) (p0:Option Nat) {r:List ah} (h2:Pt 1 c0 v1 p0) (H:iK sg p0=some r): Calls prog 79 #[v1] c0.w (aP c0 fun c v=>∃y1 y2,Own c G (es true aL y1 48 y2 r :: F)∧v=y1∧OA aL c y1 y2 r):=by
 unfold iK at H;refine en func79 rfl rfl (sr (va (Y) (wln (sr (va (Y) (wln (W.seq (sr (va (v1) (bn H fun g0 h3 H=>cl (bG O0 z p0 h2 h3) ?_))))))))));rintro v9 A l8 ⟨O5,rfl⟩;refine va (I 0) (wln (W.block (bn H fun j3 Z D=>lp Z (fun a=>Jn A fun c l=>∃v12 n,Own c G (es true aL v12 48 n a.1 :: F)∧l= [(0,v1),(3,v12),(6,I g0),(7,I a.2)]∧OA aL c v12 n a.1) (fun y ex e w=>ex= .exit 0∧(Jn A fun c l=>∃v14 o,Own c G (es true aL v14 48 o y :: F)∧l= [(3,v14)]∧OA aL c v14 o y) e w) ?_ ?_ ?_)))
 ·clear D Z;intro a p3 a1 o2 H;revert a1 o2;rintro e_ w_ ⟨s0,c3,_,rfl,l16,rfl,v12,n,E,rfl,a0⟩;refine sr (va (B (decide (a.2 < g0))) (wln (W.seq (cn H (fun c1 H=>?_) (fun c1 H=>?_)))))
  ·refine W.skip (nrm (W.seq (W.block (sr (vv (I a.2) (wln (rD [] (Kp G []) E ?_)))))));intro t0 d0 M;have k:Kp G [] t0:=(Kp.nil M);refine ta 0 (v12) (ta 1 (v1) (bn H fun v2 e1 H=>?_));obtain ⟨d,rfl,d1⟩:=((h2.mono (l8.trans (l16.trans d0)))).get e1;refine ta 2 (Q d) (ta 3 (Q d) (bn H fun z2 f1 H=>?_));obtain ⟨v31,k3,i,b⟩:=Rel.open_grid_Grid (z.mono (l8.trans (l16.trans d0))) f1 d1;refine tkx 4 k (fun t f g=>le1 0 ml (g.gon i 0 rfl)) (ta 5 (I a.2) (bn H fun i0 u H=>tx 6 (fun t f=>ixO ml b u) ?_));obtain ⟨w2,g1,e2⟩:=OA.at b u;obtain ⟨v39,rfl,h1⟩:=g1;refine AC.takeK 7 (v39) k rfl (by kernel_rfl) (by kernel_rfl) (by kernel_rfl) (fun t f g=>(rx (by kernel_rfl) (mE Aj rfl (g.gon i 1 rfl) (b.blk u) (at1 (j:=0) e2 rfl)))) (ta 9 (Q d) (ta 10 (Q d) (ta 11 (Q d) (tkx 12 k (fun t f g=>le1 0 ml (g.gon i 0 rfl)) (ta 13 (I a.2) (bn H fun j0 x H=>tx 14 (fun t f=>ixO ml b x) ?_))))));obtain ⟨x2,i1,f2⟩:=OA.at b x;obtain ⟨v45,rfl,j1⟩:=i1;refine AC.takeK 15 (v45) k rfl (by kernel_rfl) (by kernel_rfl) (by kernel_rfl) (fun t f g=>(rx (by kernel_rfl) (mE Aj rfl (g.gon i 1 rfl) (b.blk x) (at1 (j:=0) f2 rfl)))) (bn H fun k0 k1 H=>o1 8 (gc 8 (lm M z.m i0 h1 k1) ?_));rintro v48 u0 e3 ⟨_,l3,N,rfl,b0⟩;have g2:Kp G [] u0:=(Kp.nil N);refine ⟨.inr g2,bn H fun h m1 H=>o1 16 (gc 16 (vz N z.m j0 j1.m m1) ?_)⟩;rintro n3 v0 e0 ⟨P,rfl⟩;have i2:Kp G [] v0:=(Kp.nil P);refine ⟨.inr i2,?_⟩;obtain ⟨p,q,s,rfl⟩:=((b0.mono e0)).form;refine ta 17 (.agg #[.slice p q s,B h]) ?_;obtain ⟨w0,p1,b2,R,n1⟩:=P.frz 0 rfl (b0.mono e0);have j2:Kp G [] w0:=(Kp.nil R);refine AC.gh p1 b2 (fun _=>j2) (o1 18 (gm 18 (sl aL 48 [[.slice p q s,B h]] ([(⟨k0,h⟩:ah)]:List ah) R ⟨⟨(.slice p q s),rfl,n1⟩,trivial⟩) ?_));rintro o3 x0 f3 ⟨m3,S,q1⟩;have k2:Kp G [] x0:=(Kp.nil S);refine ⟨.inr k2,?_⟩;obtain ⟨y0,t1,d2,T,s1⟩:=S.frz 0 rfl q1;have l2:Kp G [] y0:=(Kp.nil T);refine AC.gh t1 d2 (fun _=>l2) (bn H fun b3 u1 H=>o1 19 (gm 19 (ap aL (.agg #[Y,B false]) 32 27 2 T a0.m s1 u1 fg) ?_));rintro f0 X g3 ⟨n2,U,w1⟩;have m2:Kp G [] X:=(Kp.nil U);refine ⟨.inr m2,ta 20 (f0) (dn (bkn (nrm (W.region (vv (I (w64 (a.2+1))) (WL.nil ?_))))))⟩;obtain rfl:=si H;refine ⟨_,rfl,?_⟩;have m0:=U.sD 3 [2];exact jn X ⟨f0,n2,m0,rfl,w1⟩
  refine W.exit (thx ?_);obtain rfl:=si H;exact ⟨_,rfl,rfl,jn s0 ⟨v12,n,E,rfl,a0⟩⟩
 ·have x1:OA aL A (Y) [] []:=OA.nil (aZ _);have o0:=O5.addHole (e:=es true aL (Y) 48 [] ([]:List ah)) rfl;exact jn A ⟨(Y),[],o0,rfl,x1⟩
 rintro _ e_ w_ ⟨rfl,z0,d3,_,rfl,i3,rfl,v14,o,q0,rfl,z1⟩;refine bke (nrm (sr (vv (v14) (wln (W.ret ?_)))));obtain rfl:=si D;exact r1 (qq z0 ⟨v14,o,q0,rfl,z1⟩)
def fR (p0:List ah) (p1:List ah):Option (Bool):=
 if ((p0.length:Int) != (p1.length:Int))=true then
 some false
 else
 (cv (σ:=Int) (τ:=Bool ⊕ Unit) (((p0.length:Int) - 0).toNat+1) (fun a=>
 if (decide (a < (p0.length:Int)))=true then
 (idx p0 a).bind fun d=>
 (idx p1 a).bind fun e=>
 (orE (!(d.Wrap==e.Wrap)) ((idx p0 a).bind fun f=>
 (idx p1 a).bind fun g=>
 (fU f.Cells g.Cells).bind fun h=>
 some (!h))).bind fun c=>
 if c=true then
 some (.inr (.inl false))
 else
 some (.inl ((w64 (a+1))))
 else
 some (.inr (.inr ()))) (0)).bind fun b=>
 match b with
 | .inl b=>
 some b
 | .inr b=>
 some true
theorem qz (O0:Own c0 G F) (s:List ah) (X:List ah) {r:Bool} (j:Sl aL c0 v1 s) (k:Sl aL c0 v3 X) (H:fR s X=some r): Calls prog 82 #[v1,v3] c0.w (aP c0 fun c v=>Own c G (F)∧v=B r):=by
 unfold fR at H;refine en func82 rfl rfl (sr (va (B false) (wln (W.seq (sr (va (v1) (vx (ln 3 fg j) (va (v3) (vx (ln 3 fg k) (va (B ((s.length:Int) != (X.length:Int))) (wln (cn H (fun h5 H=>?_) (fun h5 H=>?_)))))))))))))
 ·refine sr (va (B false) (wln (W.ret (thr ?_))));obtain rfl:=si H;exact r1 (qq c0 ⟨O0,rfl⟩)
 refine W.skip (nrm (W.seq (sr (va (I 0) (wln (W.block (bn H fun h h6 S=>lp h6 (fun a=>Jn c0 fun c l=>Own c G (F)∧l= [(0,v1),(1,v3),(5,I a)]) (fun t=>match t with | .inl x_=>(fun f1 ex e w=>ex= .ret∧(Jn c0 fun c l=>Own c G (F)∧l= [(4,B f1)]) e w) x_ | .inr x_=>(fun h1 ex e w=>ex= .exit 0∧(Jn c0 fun c l=>Own c G (F)∧l= []) e w) x_) ?_ ?_ ?_)))))))
 ·clear S h6;intro a d2 l0 g1 H;revert l0 g1;rintro U Z ⟨c8,g9,_,rfl,q,rfl,u,rfl⟩;refine W.seq (sr (va (I a) (va (v1) (vx (ln 3 fg j.m) (va (B (decide (a < (s.length:Int)))) (wln (cn H (fun o0 H=>?_) (fun o0 H=>?_))))))))
  ·refine W.skip (nrm (W.seq (W.block (W.seq (bn H fun n E H=>bn H fun o M H=>bn H fun T N H=>W.join (Jn c8 fun c l=>Own c G (F)∧l= [(0,v1),(1,v3),(5,I a),(41,B T)]) ?_ ?_)))))
   ·clear H;refine rD [] (Kp G0 []) u ?_;intro z i x;have c2:Kp G0 [] z:=Kp.nil0;refine ta 0 (v1) (ta 1 (I a) ?_);obtain ⟨j1,q0,a1⟩:=Sl.at (j.mono (q.trans i)) (aR E);obtain ⟨v24,rfl,u1⟩:=q0;refine tx 2 (fun f b=>ix fg j.m E) (ta 3 (Qo (sb v1) (so v1+a.toNat * 2+1)) (tx 4 (fun f b=>l1 u_4 ((mm a1) 1 _ rfl)) (ta 5 (v3) (ta 6 (I a) ?_))));obtain ⟨k1,s0,b1⟩:=Sl.at (k.mono (q.trans i)) (aR M);obtain ⟨v29,rfl,w1⟩:=s0;refine tx 7 (fun f b=>ix fg k.m M) (ta 8 (Qo (sb v3) (so v3+a.toNat * 2+1)) (tx 9 (fun f b=>l1 u_4 ((mm b1) 1 _ rfl)) (ta 10 (B (!(n.Wrap==o.Wrap))) ?_)));rcases bo (!(n.Wrap==o.Wrap)) with g | g
    ·obtain rfl:=orT g N;exact AC.takeb 11 g rfl (by kernel_rfl) (by kernel_rfl) (fun f b=>(by kernel_rfl)) (tp 12 (tp 13 (tp 14 (tp 15 (tp 16 (tp 17 (tp 18 (tp 19 (tp 20 (tp 21 (tp 22 (tp 23 (ta 24 (B true) (dn (nrm (jn z ⟨x,rfl⟩))))))))))))))))
    have d:=orF g N;refine bn d fun b0 P d=>bn d fun d0 R d=>bn d fun p t0 d=>AC.takeb 11 g rfl (by kernel_rfl) (by kernel_rfl) (fun f b=>(by kernel_rfl)) (ta 12 (v1) (ta 13 (I a) ?_));obtain ⟨m1,u0,c1⟩:=Sl.at (j.mono (q.trans i)) (aR P);obtain ⟨v39,rfl,v0⟩:=u0;refine tx 14 (fun f b=>ix fg j.m P) (ta 15 (Qo (sb v1) (so v1+a.toNat * 2)) (tx 16 (fun f b=>l1 cI ((mm c1) 0 _ rfl)) (ta 17 (v3) (ta 18 (I a) ?_))));obtain ⟨n1,w0,d1⟩:=Sl.at (k.mono (q.trans i)) (aR R);obtain ⟨v44,rfl,x0⟩:=w0;refine tx 19 (fun f b=>ix fg k.m R) (ta 20 (Qo (sb v3) (so v3+a.toNat * 2)) (tx 21 (fun f b=>l1 cI ((mm d1) 0 _ rfl)) (o1 22 (gc 22 (qA x b0.Cells d0.Cells v0 x0 t0) ?_))));rintro v51 A x1 ⟨f0,rfl⟩;have e1:Kp G0 [] A:=Kp.nil0;refine ⟨.inr e1,ta 23 (B (!p)) ?_⟩;obtain rfl:=si d;exact ta 24 (B (!p)) (dn (nrm (jn A ⟨f0,rfl⟩)))
   rintro U Z ⟨D,q1,_,rfl,y1,rfl,y,rfl⟩;refine nrm (cn H (fun y0 H=>?_) (fun y0 H=>?_))
   ·refine sr (va (B false) (wln (W.ret (bkr (thr ?_)))));obtain rfl:=si H;exact ⟨_,rfl,⟨rfl,jn D ⟨y,rfl⟩⟩⟩
   refine W.skip (bkn (nrm (W.region (va (I a) (vv (I (w64 (a+1))) (WL.nil ?_))))));obtain rfl:=si H;exact ⟨_,rfl,jn D ⟨y,rfl⟩⟩
  refine W.exit (thx ?_);obtain rfl:=si H;exact ⟨_,rfl,rfl,jn c8 ⟨u,rfl⟩⟩
 ·exact jn c0 ⟨O0,rfl⟩
 rcases h with h | h
 ·intro m0; revert m0;rintro _ U Z ⟨rfl,i0,s1,_,rfl,z1,rfl,g0,rfl⟩;refine bkr (thr ?_);obtain rfl:=si S;exact r1 (qq i0 ⟨g0,rfl⟩)
 rintro _ U Z ⟨rfl,j0,t1,_,rfl,b2,rfl,h0,rfl⟩;refine bke (nrm (sr (va (B true) (wln (W.ret ?_)))));obtain rfl:=si S;exact r1 (qq j0 ⟨h0,rfl⟩)
def fQ (p0:List ah) (p1:Int) (p2:Int) (p3:Int) (p4:Bool):Option (List ah):=
 (orE (decide ((bb 0 (aO p1 (p0.length:Int)))≥(bb 0 (aO p2 (p0.length:Int))))) (some (decide (p3 < 1)))).bind fun j=>
 if j=true then
 some p0
 else
 (cv (σ:=(List ah)×Int) (τ:=(List ah)) (((p0.length:Int) - 0).toNat+1) (fun a=>
 if (decide (a.2 < (p0.length:Int)))=true then
 (idx p0 a.2).bind fun c=>
 ((bD (decide (a.2≥(bb 0 (aO p1 (p0.length:Int))))) (some (decide (a.2 < (bb 0 (aO p2 (p0.length:Int))))))).bind fun k=>
 if k=true then
 (if (!p4)=true then
 some ((w64 (a.2 - (aO p3 (w64 ((bb 0 (aO p2 (p0.length:Int))) - (bb 0 (aO p1 (p0.length:Int)))))))))
 else
 some ((w64 (a.2+(aO p3 (w64 ((bb 0 (aO p2 (p0.length:Int))) - (bb 0 (aO p1 (p0.length:Int)))))))))).bind fun b=>
 (idx p0 a.2).bind fun n=>
 (rep (n.Cells.length:Int) (⟨0,([]:List Int)⟩:aa)).bind fun o=>
 (bD (decide (b≥(bb 0 (aO p1 (p0.length:Int))))) (some (decide (b < (bb 0 (aO p2 (p0.length:Int))))))).bind fun l=>
 if l=true then
 (idx p0 b).bind fun d=>
 some (d.Cells,d.Wrap)
 else
 some (o,false)
 else
 some (c.Cells,c.Wrap)).bind fun e=>
 ((orE ((w64 (a.2+1))==(bb 0 (aO p1 (p0.length:Int)))) ((bD (!p4) (some ((w64 (a.2+1))==(bb 0 (aO p2 (p0.length:Int)))))).bind fun g=>
 some g)).bind fun f=>
 if f=true then
 some (false)
 else
 some (e.2)).bind fun i=>
 (app a.1 ([(⟨e.1,i⟩:ah)]:List ah)).bind fun h=>
 some (.inl (h,(w64 (a.2+1))))
 else
 some (.inr (a.1))) (([]:List ah),0)).bind fun m=>
 some m
def jf (p0:List Int):Option (List Int):=
 (rep 0 0).bind fun g=>
 (rep (p0.length:Int) 0).bind fun h=>
 (cv (σ:=(List Int)×Int) (τ:=(List Int)) (((p0.length:Int) - 0).toNat+1) (fun a=>
 if (decide (a.2 < (p0.length:Int)))=true then
 (idx p0 a.2).bind fun b=>
 ((dJ b).bind fun d=>
 if (!d)=true then
 some (65533)
 else
 some (b)).bind fun f=>
 (app a.1 ([f]:List Int)).bind fun e=>
 some (.inl (e,(w64 (a.2+1))))
 else
 some (.inr (a.1))) (g,0)).bind fun c=>
 some c
theorem tJ (O0:Own c0 G F) (n:List Int) {r:List Int} (p:Sl (RI .i32) c0 v1 n) (H:jf n=some r): Calls prog 72 #[v1] c0.w (aP c0 fun c v=>∃P y2,Own c G (es true (RI .i32) P 21 y2 r :: F)∧v=P∧OA (RI .i32) c P y2 r):=by
 unfold jf at H;refine en func72 rfl rfl (sr (va (Y) (wln (sr (va (v1) (vx (ln 3 cy p) (bn H fun b2 h3 H=>bn H fun d2 h4 H=>me (Own.mkS (kl:= .i64) (kc:= .i64) (R:=(RI .i32)) (z:=J 0) (lz:=[J 0]) (x:=0) (by_:=4) (i:=0) (j:=(n.length:Int)) true O0 (aZ _) h3 (Gf h4) (zB h4) cy (by kernel_rfl) rfl rfl (fun _=>rfl) (by kernel_rfl) (by kernel_rfl)) ?_)))))));rintro v9 M l8 ⟨u6,O5,h7⟩;refine va (v9) (wln (W.seq (sr (va (v1) (vx (ln 3 cy p.m) (va (I 0) (wln (W.block (bn H fun f1 A q=>lp A (fun a=>Jn M fun c l=>∃v12 f,Own c G (es true (RI .i32) v12 21 f a.1 :: F)∧l= [(3,v12),(9,v1),(10,I (n.length:Int)),(11,I a.2)]∧OA (RI .i32) c v12 f a.1) (fun h ex e w=>ex= .exit 0∧(Jn M fun c l=>∃v14 k,Own c G (es true (RI .i32) v14 21 k h :: F)∧l= [(3,v14)]∧OA (RI .i32) c v14 k h) e w) ?_ ?_ ?_)))))))))
 ·clear q A;intro a c2 f0 x0 H;revert f0 x0;rintro e_ w_ ⟨u,m1,_,rfl,l16,rfl,v12,f,s,rfl,D⟩;refine sr (va (B (decide (a.2 < (n.length:Int)))) (wln (W.seq (cn H (fun g0 H=>?_) (fun g0 H=>?_)))))
  ·refine W.skip (nrm (W.seq (W.block (sr (bn H fun g E H=>?_)))));obtain ⟨e1,h0,u0⟩:=Sl.at (p.mono (l8.trans l16)) (aR E);obtain rfl:=h0;refine vx (ix cy p.m E) (vx (l1 mh (u0 0 _ rfl)) (va (J g) (wln (bn H fun d b o=>W.seqJ (Jn u fun c l=>Own c G (es true (RI .i32) v12 21 f a.1 :: F)∧l= [(3,v12),(5,J d),(9,v1),(10,I (n.length:Int)),(11,I a.2)]) ?_ ?_))))
   ·refine sr (va (J g) (bn b fun N i0 b=>cl (ki s g i0) ?_));rintro v36 y q1 ⟨t,rfl⟩;refine va (B (!N)) (wln (cn b (fun j0 b=>?_) (fun j0 b=>?_)))
    ·refine W.region (va (J 65533) (wln ?_));obtain rfl:=si b;exact jn y ⟨t,rfl⟩
    refine W.skip (nrm ?_);obtain rfl:=si b;exact jn y ⟨t,rfl⟩
   rintro e_ w_ ⟨i1,n1,_,rfl,s1,rfl,S,rfl⟩;refine W.region (va (v12) (va (J d) (me (sl (RI .i32) 21 [[J d]] ([d]:List Int) S ⟨rfl,trivial⟩) ?_)));rintro v48 j1 t1 ⟨z1,T,l0⟩;obtain ⟨k1,o0,u1,U,m0⟩:=T.frz 0 rfl l0;refine WL.gh o0 (bn o fun h1 q0 o=>me (ap (RI .i32) (J 0) 4 32 1 U D.m m0 q0 cy) ?_);rintro v58 b0 w1 ⟨v0,X,s0⟩;refine va (v58) (WL.nil (bkn (nrm (W.region (vv (I (w64 (a.2+1))) (WL.nil ?_))))));obtain rfl:=si o;refine ⟨_,rfl,?_⟩;have Z:=X.sD 2 [1];exact jn b0 ⟨v58,v0,Z,rfl,s0⟩
  refine W.exit (thx ?_);obtain rfl:=si H;exact ⟨_,rfl,rfl,jn u ⟨v12,f,s,rfl,D⟩⟩
 ·exact jn M ⟨v9,u6,O5,rfl,h7⟩
 rintro _ e_ w_ ⟨rfl,d0,p1,_,rfl,x1,rfl,v14,k,a0,rfl,t0⟩;refine bke (nrm (sr (vv (v14) (wln (W.ret ?_)))));obtain rfl:=si q;exact r1 (qq d0 ⟨v14,k,a0,rfl,t0⟩)
def oJ (p0:Int) (p1:List Int):Option (List aa):=
 (if (decide (p0≥2))=true then
 (app ([(⟨0,([]:List Int)⟩:aa)]:List aa) ([(⟨0,([]:List Int)⟩:aa)]:List aa)).bind fun e=>
 some (e)
 else
 some (([(⟨0,([]:List Int)⟩:aa)]:List aa))).bind fun c=>
 if ((p1.length:Int)==0)=true then
 some c
 else
 (slc p1 0 (aO (p1.length:Int) 16)).bind fun f=>
 (jf f).bind fun g=>
 (idx c 0).bind fun k=>
 (nT c 0 (⟨1,g⟩:aa)).bind fun a=>
 (if (decide (p0≥2))=true then
 (idx a 0).bind fun h=>
 (nT a 0 (⟨2,h.Text⟩:aa)).bind fun b=>
 (idx b 1).bind fun i=>
 (nT b 1 (⟨3,i.Text⟩:aa)).bind fun d=>
 some (d)
 else
 some (a)).bind fun j=>
 some j
theorem B7 (O0:Own c0 G F) (i:Int) (A:List Int) {r:List aa} (h2:Sl (RI .i32) c0 v1 A) (H:oJ i A=some r): Calls prog 235 #[I i,v1] c0.w (aP c0 fun c v=>∃y1 y2,Own c G (es true aw y1 114 y2 r :: F)∧v=y1∧OA aw c y1 y2 r):=by
 unfold oJ at H;refine en func235 rfl rfl (sr (va (Y) (wln (sr (va (.agg #[I 0,Y]) (me (sl aw 114 [[I 0,Y]] ([(⟨0,([]:List Int)⟩:aa)]:List aa) O0 ⟨⟨(Y),rfl,(Sl.nl _ _)⟩,trivial⟩) ?_))))));rintro v7 c6 l6 ⟨u4,O3,h5⟩;refine va (v7) (wln (bn H fun a0 h b=>W.seqJ (Jn c6 fun c l=>∃v10 n,Own c G (es true aw v10 114 n a0 :: F)∧l= [(0,I i),(1,v1),(5,v10)]∧OA aw c v10 n a0) ?_ ?_))
 ·refine sr (va (I i) (va (B (decide (i≥2))) (wln (cn h (fun b1 h=>?_) (fun b1 h=>?_)))))
  ·refine W.region (va (v7) (va (.agg #[I 0,Y]) (me (sl aw 114 [[I 0,Y]] ([(⟨0,([]:List Int)⟩:aa)]:List aa) O3 ⟨⟨(Y),rfl,(Sl.nl _ _)⟩,trivial⟩) ?_)));rintro v17 d3 l16 ⟨t3,h0,c1⟩;obtain ⟨e3,e1,k3,i0,d1⟩:=h0.frz 0 rfl c1;refine WL.gh e1 (bn h fun b3 f1 h=>me (ap aw (.agg #[I 0,Y]) 32 46 1 i0 h5.m d1 f1 cI) ?_);rintro v27 w0 l3 ⟨k2,j0,g1⟩;refine va (v27) (wln ?_);obtain rfl:=si h;have k0:=j0.sD 2 [1];exact jn w0 ⟨v27,k2,k0,rfl,g1⟩
  refine W.skip (nrm ?_);obtain rfl:=si h;exact jn c6 ⟨v7,u4,O3,rfl,h5⟩
 rintro e_ w_ ⟨x0,i3,_,rfl,g2,rfl,v10,n,D,rfl,p⟩;refine W.seq (sr (va (v1) (vx (ln 3 cy h2.m) (va (B ((A.length:Int)==0)) (wln (cn b (fun h1 b=>?_) (fun h1 b=>?_)))))))
 ·refine sr (vv (v10) (wln (W.ret (thr ?_))));obtain rfl:=si b;exact r1 (qq x0 ⟨v10,n,D,rfl,p⟩)
 refine W.skip (nrm (sr (va (v10) (vv (v1) (vx (ln 3 cy h2.m) (va (I (aO (A.length:Int) 16)) (bn b fun e0 i1 b=>?_)))))));obtain ⟨v38,j1,k1⟩:=CC (k':= .i64) cy (by kernel_rfl) (h2.mono (l6.trans g2)) i1;refine vr v38 (rx (by kernel_rfl) (j1 _)) (bn b fun s m1 b=>cl (tJ D e0 k1 m1) ?_);rintro v42 f3 m3 ⟨_,l2,m0,rfl,N⟩;obtain ⟨e,f,g,rfl⟩:=(N).form;refine va (.agg #[I 1,.slice e f g]) (bn b fun c3 q1 b=>vx (ixO cI p.m q1) ?_);obtain ⟨g3,s1,n3,o0,P⟩:=m0.frz 0 rfl N;refine WL.gh s1 (bn b fun x2 t1 b=>md (Own.stW (R:=aw) (T:=114) (us:=[I 1,.slice e f g]) (x':=(⟨1,s⟩:aa)) (u:= .agg #[I 1,.slice e f g]) 1 o0 (by kernel_rfl) rfl p.m t1 rfl (by kernel_rfl) ⟨rfl,P.one,trivial⟩ rfl ⟨(.slice e f g),rfl,P⟩) ?_);rintro M o3 ⟨m2,E,k⟩;refine wln (bn b fun z a g0=>W.seqJ (Jn M fun c l=>∃d o,Own c G (es true aw d 114 o z :: es false (RI .i32) (.slice e f g) 21 l2 s :: F)∧l= [(5,d)]∧OA aw c d o z) ?_ ?_)
 ·refine sr (va (I i) (va (B (decide (i≥2))) (wln (cn a (fun u1 a=>?_) (fun u1 a=>?_)))))
  ·refine W.region (vv (v10) (bn a fun t S a=>vx (ixO cI k S) (va (Qo (sb v10) ((0:Int).toNat * 2)) ?_)));obtain ⟨t2,w1,i2⟩:=OA.at k S;obtain ⟨X,rfl,x1⟩:=w1;refine bn a fun z2 z1 a=>md (Own.stO (R:=aw) (T:=3) (us:=[I 2]) (x':=(⟨2,t.Text⟩:aa)) (u:=I 2) (x:=(⟨2,t.Text⟩:aa)) (j:=0) (l':=[I 2,X]) 1 E (by kernel_rfl) rfl k z1 i2 rfl (by kernel_rfl) ⟨rfl,trivial⟩ (by kernel_rfl) rfl ⟨X,rfl,x1⟩) ?_;rintro h3 p3 ⟨u3,q0,q⟩;refine bn a fun y U a=>vx (ixO cI q U) (va (Qo (sb v10) ((1:Int).toNat * 2)) ?_);obtain ⟨u2,b2,j2⟩:=OA.at q U;obtain ⟨Z,rfl,c2⟩:=b2;refine bn a fun a3 d2 a=>md (Own.stO (R:=aw) (T:=3) (us:=[I 3]) (x':=(⟨3,y.Text⟩:aa)) (u:=I 3) (x:=(⟨3,y.Text⟩:aa)) (j:=0) (l':=[I 3,Z]) 1 q0 (by kernel_rfl) rfl q d2 j2 rfl (by kernel_rfl) ⟨rfl,trivial⟩ (by kernel_rfl) rfl ⟨Z,rfl,c2⟩) ?_;rintro z0 q3 ⟨n2,s0,e2⟩;refine wln ?_;obtain rfl:=si a;have t0:=s0.sD 2 [1,0];exact jn z0 ⟨v10,n2,t0,rfl,e2⟩
  refine W.skip (nrm ?_);obtain rfl:=si a;have u0:=E.sD 2 [1,0];exact jn M ⟨v10,m2,u0,rfl,k⟩
 rintro e_ w_ ⟨a1,j3,_,rfl,s3,rfl,d,o,v0,rfl,f2⟩;refine sr (vv (d) (wln (W.ret ?_)));obtain rfl:=si g0;have b0:=v0.sD 2 [0];exact r1 (qq a1 ⟨d,o,b0,rfl,f2⟩)
def lq (sg:Sto) (p0:Option Nat) (p1:Int) (p2:Int) (p3:List Int):Option (Sto×Er):=
 (oJ p2 p3).bind fun b=>
 (dN sg p0 p1 b).bind fun a=>
 some (a.1,a.2)
theorem vC (u:Own c0 G F) (x:Rel c0 sg G) (hG:Gl [2,4] c0) (d:Option Nat) (a:Int) (b:Int) (e:List Int) {r:Sto×Er} (y:Pt 0 c0 v1 d) (z:Sl (RI .i32) c0 v3 e) (H:lq sg d a b e=some r): Calls prog 178 #[v1,I a,I b,v3] c0.w (aP c0 fun c v=>∃t,∃G_:Gm,Own c G_ (F)∧Rel c r.1 G_∧v=t∧RE 350 144 c t r.2):=by
 unfold lq at H;refine en func178 rfl rfl (sr (va (.nilIface) (wln (sr (va (v1) (va (I a) (va (I b) (va (v3) (bn H fun s A H=>cl (B7 u b e z A) ?_)))))))));rintro v6 E N ⟨_,T,g,rfl,D⟩;obtain ⟨M,o,P,h,n⟩:=g.frz 0 rfl D;refine WL.gh o (bn H fun S p H=>cl (jD h x.m (hG.m.le (by decide)) d a s y.m n p) ?_);rintro v20 l R ⟨_,f,i,k,rfl,q⟩;refine va (v20) (wln (W.ret ?_));obtain rfl:=si H;have j:=i.sD 1 [];exact r1 (qq l ⟨v20,f,j,k,rfl,q⟩)
def oC (sg:Sto) (p0:Option Nat) (p1:Int):Option (Int×nJ×Bool):=
 (fP sg p0 p1).bind fun b=>
 ((bD b.2 (some (b.1.Kind==3))).bind fun d=>
 if d=true then
 (fP sg p0 (w64 (p1 - 1))).bind fun c=>
 some ((w64 (p1 - 1)),c.2,c.1.Kind,c.1.Text)
 else
 some (p1,b.2,b.1.Kind,b.1.Text)).bind fun a=>
 (bD a.2.1 (some (a.2.2.1==1))).bind fun e=>
 if e=true then
 some (a.1,(⟨1,a.2.2.2⟩:nJ),true)
 else
 (bD a.2.1 (some (a.2.2.1==2))).bind fun f=>
 if f=true then
 some (a.1,(⟨2,a.2.2.2⟩:nJ),true)
 else
 some (0,(⟨0,([]:List Int)⟩:nJ),false)
theorem B1 (O0:Own c0 G F) (R0:Rel c0 sg G) (p0:Option Nat) (j:Int) {r:Int×nJ×Bool} (h2:Pt 0 c0 v1 p0) (H:oC sg p0 j=some r): Calls prog 319 #[v1,I j] c0.w (aP c0 fun c v=>∃y1 y2,Own c G (es true (RI .i32) y1 21 y2 r.2.1.Text :: F)∧v= .tuple #[I r.1,.agg #[I r.2.1.Wide,y1],B r.2.2]∧OA (RI .i32) c y1 y2 r.2.1.Text):=by
 unfold oC at H;refine en func319 rfl rfl (sr (va (I 0) (me (al 165 [I 0,Y] O0) ?_)));rintro v6 c5 l5 ⟨u,rfl,O4⟩;refine va (B false) (wln (sr (va (v1) (va (I j) (bn H fun f h7 H=>cl (qx O4 R0.m p0 j h2.m h7) ?_)))));rintro v16 d3 l3 ⟨v8,u9,k1,rfl,e0⟩;refine va (.tuple #[.agg #[I f.1.Kind,v8],B f.2]) (va (.agg #[I f.1.Kind,v8]) (va (B f.2) (me (al 114 [I 0,Y] k1) ?_)));rintro v20 e3 k2 ⟨b,rfl,m1⟩;obtain ⟨N,P,R,rfl⟩:=((e0.mono k2)).form;refine md (sA 114 [I f.1.Kind,.slice N P R] 0 m1 ⟨rfl,e0.m.one,trivial⟩) ?_;rintro S m3 U;refine va (B f.2) (wln (bn H fun a g d=>W.seqJ (Jn S fun c l=>∃v28 i,Own c G (es true (RI .i32) v28 21 i a.2.2.2 :: (Eb b 114 [I a.2.2.1,v28]) :: (Eb u 165 [I 0,Y]) :: F)∧l= [(1,I a.1),(5,Q u),(6,B a.2.1),(7,Q b)]∧OA (RI .i32) c v28 i a.2.2.2) ?_ ?_))
 ·refine W.seq (bn g fun y0 q0 g=>W.join (Jn S fun c l=>Own c G ((Eb b 114 [I f.1.Kind,.slice N P R]) :: es true (RI .i32) (.slice N P R) 21 u9 f.1.Text :: (Eb u 165 [I 0,Y]) :: F)∧l= [(0,v1),(1,I j),(5,Q u),(6,B f.2),(7,Q b),(19,B y0)]) ?_ ?_)
  ·clear g;refine W.region (va (B f.2) ?_);rcases bo (f.2) with x | x
   ·have h1:=anT x q0;refine vb x (wa (Q b) (wn (vx (le1 0 u_3 (U.on 0 rfl)) (wa (B (f.1.Kind==3)) ?_))));obtain rfl:=si h1;exact va (B (f.1.Kind==3)) (wln (jn S ⟨U,rfl⟩))
   obtain rfl:=anF x q0;exact vb x (pz (ps (va (B false) (wln (jn S ⟨U,rfl⟩)))))
  rintro e_ w_ ⟨x1,h3,_,rfl,n3,rfl,h0,rfl⟩;refine nrm (cn g (fun e2 g=>?_) (fun e2 g=>?_))
  ·refine sr (va (I j) (vv (I (w64 (j - 1))) (wln (W.region (va (v1) (va (I (w64 (j - 1))) (bn g fun h f2 g=>cl (qx h0 R0.m p0 (w64 (j - 1)) h2.m f2) ?_)))))));rintro v49 f3 o3 ⟨v41,s2,n1,rfl,f0⟩;refine va (.tuple #[.agg #[I h.1.Kind,v41],B h.2]) (va (.agg #[I h.1.Kind,v41]) (va (B h.2) ?_));obtain ⟨l0,m0,o0,rfl⟩:=(f0).form;refine md (sA 114 [I h.1.Kind,.slice l0 m0 o0] 1 n1 ⟨rfl,(f0).one,trivial⟩) ?_;rintro z1 p3 q1;refine va (B h.2) (wln ?_);obtain rfl:=si g;have s1:=q1.sD 4 [0,1,3];exact jn z1 ⟨(.slice l0 m0 o0),s2,s1,rfl,f0.m⟩
  refine W.skip (nrm ?_);obtain rfl:=si g;have t1:=h0.sD 3 [1,0,2];exact jn x1 ⟨(.slice N P R),u9,t1,rfl,e0.m⟩
 rintro e_ w_ ⟨a0,i3,_,rfl,q3,rfl,v28,i,X,rfl,k⟩;refine W.seq (W.block (W.seq (bn d fun z0 s0 d=>W.join (Jn a0 fun c l=>Own c G (es true (RI .i32) v28 21 i a.2.2.2 :: (Eb b 114 [I a.2.2.1,v28]) :: (Eb u 165 [I 0,Y]) :: F)∧l= [(1,I a.1),(5,Q u),(6,B a.2.1),(7,Q b),(28,B z0)]) ?_ ?_)))
 ·clear d;refine W.region (va (B a.2.1) ?_);rcases bo (a.2.1) with y | y
  ·have i1:=anT y s0;refine vb y (wa (Q b) (wn (vx (le1 0 u_3 (X.on 1 rfl)) (wa (B (a.2.2.1==1)) ?_))));obtain rfl:=si i1;exact vv (B (a.2.2.1==1)) (wln (jn a0 ⟨X,rfl⟩))
  obtain rfl:=anF y s0;exact vb y (pz (ps (vv (B false) (wln (jn a0 ⟨X,rfl⟩)))))
 rintro e_ w_ ⟨b0,j3,_,rfl,u0,rfl,M,rfl⟩;refine nrm (cn d (fun g2 d=>?_) (fun g2 d=>?_))
 ·refine W.seq (rD [] (Kp G0 [(Eb b 114 [I a.2.2.1,v28])]) M ?_);intro b2 l2 i0;have o2:Kp G0 [(Eb b 114 [I a.2.2.1,v28])] b2:=(Kp.cons (i0.on 1 rfl) Kp.nil0);refine ta 0 (I a.1) (ta 1 (Qo b 1) (tkx 2 o2 (fun c' j2 hk=>le1 1 cy (hk.on 0 rfl)) ?_));obtain ⟨n,o,p,rfl⟩:=((k.mono (u0.trans l2))).form;refine ta 3 (.agg #[I 1,.slice n o p]) (ta 4 (I a.1) (o1 5 (gD 5 (sA 165 [I 1,.slice n o p] 2 i0 ⟨rfl,k.m.one,trivial⟩) ?_)));rintro d0 s3 Z;have p2:Kp G0 [(Eb b 114 [I a.2.2.1,(.slice n o p)])] d0:=(Kp.cons (Z.on 1 rfl) Kp.nil0);refine ⟨.inr p2,ta 6 (B true) (dn (nrm (W.ret (bkr (thr ?_)))))⟩;obtain rfl:=si d;have u1:=Z.sD 3 [0];exact zz (c:=d0) (vs:=[I 1,.slice n o p]) (v:=B true) (v':=I a.1) rfl (by kernel_rfl) (by kernel_rfl) (by kernel_rfl) (by kernel_rfl) (by kernel_rfl) (Z.on 2 rfl _ rfl).1 ⟨_,d0,rfl,rfl,pt,(.slice n o p),i,u1,rfl,k.m⟩
 refine W.seq (bn d fun a1 t0 d=>W.join (Jn b0 fun c l=>Own c G (es true (RI .i32) v28 21 i a.2.2.2 :: (Eb b 114 [I a.2.2.1,v28]) :: (Eb u 165 [I 0,Y]) :: F)∧l= [(1,I a.1),(5,Q u),(7,Q b),(39,B a1)]) ?_ ?_)
 ·clear d;refine W.region (va (B a.2.1) ?_);rcases bo (a.2.1) with z | z
  ·have j1:=anT z t0;refine vb z (wa (Q b) (wn (vx (le1 0 u_3 (M.on 1 rfl)) (wa (B (a.2.2.1==2)) ?_))));obtain rfl:=si j1;exact vv (B (a.2.2.1==2)) (wln (jn b0 ⟨M,rfl⟩))
  obtain rfl:=anF z t0;exact vb z (pz (ps (vv (B false) (wln (jn b0 ⟨M,rfl⟩)))))
 rintro e_ w_ ⟨g3,k3,_,rfl,m2,rfl,j0,rfl⟩;refine nrm (cn d (fun i2 d=>?_) (fun i2 d=>?_))
 ·refine W.seq (rD [] (Kp G0 [(Eb b 114 [I a.2.2.1,v28])]) j0 ?_);intro c2 n2 k0;have q2:Kp G0 [(Eb b 114 [I a.2.2.1,v28])] c2:=(Kp.cons (k0.on 1 rfl) Kp.nil0);refine ta 0 (I a.1) (ta 1 (Qo b 1) (tkx 2 q2 (fun c' j2 hk=>le1 1 cy (hk.on 0 rfl)) ?_));obtain ⟨q,s,t,rfl⟩:=((k.mono (u0.trans (m2.trans n2)))).form;refine ta 3 (.agg #[I 2,.slice q s t]) (ta 4 (I a.1) (o1 5 (gD 5 (sA 165 [I 2,.slice q s t] 2 k0 ⟨rfl,k.m.one,trivial⟩) ?_)));rintro D a3 A;have e1:Kp G0 [(Eb b 114 [I a.2.2.1,(.slice q s t)])] D:=(Kp.cons (A.on 1 rfl) Kp.nil0);refine ⟨.inr e1,ta 6 (B true) (dn (nrm (W.ret (bkr (thr ?_)))))⟩;obtain rfl:=si d;have v0:=A.sD 3 [0];exact zz (c:=D) (vs:=[I 2,.slice q s t]) (v:=B true) (v':=I a.1) rfl (by kernel_rfl) (by kernel_rfl) (by kernel_rfl) (by kernel_rfl) (by kernel_rfl) (A.on 2 rfl _ rfl).1 ⟨_,D,rfl,rfl,pt,(.slice q s t),i,v0,rfl,k.m⟩
 refine W.skip (bkn (nrm (sr (va (.agg #[I 0,Y]) (va (I 0) (md (sA 165 [I 0,Y] 2 j0 ⟨rfl,rfl,trivial⟩) ?_))))));rintro E c3 w0;refine va (B false) (wln (W.ret ?_));obtain rfl:=si d;have c1:OA (RI .i32) E (Y) [] []:=OA.nil (aZ _);have T:=w0.addHole (e:=es true (RI .i32) (Y) 21 [] ([]:List Int)) rfl;have x0:=T.sD 4 [0];exact zz (c:=E) (vs:=[I 0,Y]) (v:=B false) (v':=I 0) rfl (by kernel_rfl) (by kernel_rfl) (by kernel_rfl) (by kernel_rfl) (by kernel_rfl) (T.on 3 rfl _ rfl).1 ⟨_,E,rfl,rfl,pt,(Y),[],x0,rfl,c1⟩
def nv (sg:Sto) (p0:Option Nat) (p1:Int) (p2:Int):Option (Sto×Bool):=
 (oC sg p0 p1).bind fun a=>
 (orE (!a.2.2) (some (decide ((a.2.1.Text.length:Int)≥16)))).bind fun c=>
 if c=true then
 some (sg,false)
 else
 (app a.2.1.Text ([p2]:List Int)).bind fun d=>
 (lq sg p0 a.1 a.2.1.Wide d).bind fun b=>
 some (b.1,b.2.isNil)
theorem zW (O0:Own c0 G F) (R:Rel c0 sg G) (hG:Gl [2,4] c0) (q:Option Nat) (s:Int) (h:Int) {r:Sto×Bool} (h2:Pt 0 c0 v1 q) (H:nv sg q s h=some r): Calls prog 308 #[v1,I s,J h] c0.w (aP c0 fun c v=>∃G_:Gm,Own c G_ (F)∧Rel c r.1 G_∧v=B r.2):=by
 unfold nv at H;refine en func308 rfl rfl (sr (va (B false) (wln (sr (va (v1) (va (I s) (bn H fun a h3 H=>cl (B1 O0 R q s h2 h3) ?_)))))));rintro v12 q1 u1 ⟨v4,u5,O8,rfl,p⟩;refine va (.tuple #[I a.1,.agg #[I a.2.1.Wide,v4],B a.2.2]) (va (I a.1) (va (.agg #[I a.2.1.Wide,v4]) (va (B a.2.2) (me (al 165 [I 0,Y] O8) ?_))));rintro v16 s1 a1 ⟨b,rfl,a0⟩;refine va (I a.1) ?_;obtain ⟨d,e,f,rfl⟩:=((p.mono a1)).form;refine md (sA 165 [I a.2.1.Wide,.slice d e f] 0 a0 ⟨rfl,p.m.one,trivial⟩) ?_;rintro j w1 i;refine va (B a.2.2) (wln (W.seq (W.seq (bn H fun S M H=>W.join (Jn j fun c l=>Own c G ((Eb b 165 [I a.2.1.Wide,.slice d e f]) :: es true (RI .i32) (.slice d e f) 21 u5 a.2.1.Text :: F)∧l= [(0,v1),(2,J h),(7,I a.1),(8,Q b),(24,B S)]) ?_ ?_))))
 ·clear H;refine W.region (va (B a.2.2) (va (B (!a.2.2)) ?_));rcases bo (!a.2.2) with g | g
  ·obtain rfl:=orT g M;exact vb g (pz (pz (va (B true) (wln (jn j ⟨i,rfl⟩)))))
  have Z:=orF g M;refine vb g (wa (Qo b 1) (wn (vx (le1 1 cy (i.on 0 rfl)) (wn (vx (lnO 3 cy p.m) (wa (B (decide ((a.2.1.Text.length:Int)≥16))) ?_))))));obtain rfl:=si Z;exact va (B (decide ((a.2.1.Text.length:Int)≥16))) (wln (jn j ⟨i,rfl⟩))
 rintro e_ w_ ⟨g0,t1,_,rfl,x1,rfl,t,rfl⟩;refine nrm (cn H (fun o0 H=>?_) (fun o0 H=>?_))
 ·refine sr (va (B false) (wln (W.ret (thr ?_))));obtain rfl:=si H;have b0:=t.sD 2 [];exact r1 (qq g0 ⟨G,b0,R.m,rfl⟩)
 refine W.skip (nrm (W.seq (rD [] (Kp G0 [(Eb b 165 [I a.2.1.Wide,.slice d e f])]) t ?_)));intro h0 y1 u;have P:Kp G0 [(Eb b 165 [I a.2.1.Wide,.slice d e f])] h0:=(Kp.cons (u.on 0 rfl) Kp.nil0);refine ta 0 (v1) (ta 1 (I a.1) (ta 2 (Q b) (tkx 3 P (fun c' N T=>le1 0 u_3 (T.on 0 rfl)) (ta 4 (Qo b 1) (tkx 5 P (fun c' N T=>le1 1 cy (T.on 0 rfl)) (ta 6 (J h) (o1 7 (gm 7 (sl (RI .i32) 21 [[J h]] ([h]:List Int) u ⟨rfl,trivial⟩) ?_))))))));rintro v40 i0 z1 ⟨d2,x,q0⟩;have d1:Kp G0 [(Eb b 165 [I a.2.1.Wide,.slice d e f])] i0:=(Kp.cons (x.on 1 rfl) Kp.nil0);refine ⟨.inr d1,?_⟩;obtain ⟨j0,t0,b1,y,s0⟩:=x.frz 0 rfl q0;have e1:Kp G0 [(Eb b 165 [I a.2.1.Wide,.slice d e f])] j0:=(Kp.cons (y.on 1 rfl) Kp.nil0);refine AC.gh t0 b1 (fun _=>e1) (bn H fun U u0 H=>o1 8 (gm 8 (ap (RI .i32) (J 0) 4 32 2 y p.m s0 u0 cy) ?_));rintro v52 k0 b2 ⟨e2,z,v0⟩;have f1:Kp G0 [(Eb b 165 [I a.2.1.Wide,.slice d e f])] k0:=(Kp.cons (z.on 1 rfl) Kp.nil0);refine ⟨.inr f1,?_⟩;obtain ⟨l0,x0,c1,A,w0⟩:=z.frz 2 rfl v0;have g1:Kp G0 [(Eb b 165 [I a.2.1.Wide,.slice d e f])] l0:=(Kp.cons (A.on 1 rfl) Kp.nil0);refine AC.gh x0 c1 (fun _=>g1) (bn H fun o y0 H=>o1 9 (gc 9 (vC A R.m (hG.m.le (by decide)) q a.1 a.2.1.Wide U h2.m w0 y0) ?_));rintro v60 E c2 ⟨_,X,D,e0,rfl,z0⟩;have h1:Kp G0 [(Eb b 165 [I a.2.1.Wide,.slice d e f])] E:=(Kp.cons (D.on 1 rfl) Kp.nil0);refine ⟨.inr h1,AC.take 10 (B o.2.isNil) rfl (by kernel_rfl) (by kernel_rfl) (fun c' N=>(by rcases (z0).cs with ⟨k,n⟩ | ⟨b_,k,n⟩ | ⟨b_,k,n⟩ <;> (subst k; rw [n]; kernel_rfl))) (ta 11 (B o.2.isNil) (dn (nrm (W.ret ?_))))⟩;obtain rfl:=si H;have d0:=D.sD 3 [];exact r1 (qq E ⟨X,d0,e0,rfl⟩)
def mp (sg:Sto) (p0:Int) (p1:Int):Option (Sto×(Option Nat)):=
 (some (sg.add_grid_Grid (⟨([]:List (Option Nat))⟩:bX))).bind fun c=>
 (cv (σ:=Int×Sto) (τ:=Sto) (((bb 1 (aO p1 1024)) - 0).toNat+1) (fun a=>
 if (decide (a.1 < (bb 1 (aO p1 1024))))=true then
 (a.2.grid_Grid[sg.grid_Grid.length]?).bind fun f=>
 (ky a.2 p0).bind fun d=>
 (app f.rows ([d.2]:List (Option Nat))).bind fun g=>
 (d.1.set_grid_Grid sg.grid_Grid.length (⟨g⟩:bX)).bind fun b=>
 some (.inl ((w64 (a.1+1)),b))
 else
 some (.inr (a.2))) (0,c)).bind fun e=>
 some (e,(some sg.grid_Grid.length))
theorem vE (O0:Own c0 G F) (R0:Rel c0 sg G) (y:Int) (n:Int) {r:Sto×(Option Nat)} (H:mp sg y n=some r): Calls prog 112 #[I y,I n] c0.w (aP c0 fun c v=>∃y1,∃G_:Gm,Own c G_ (F)∧Rel c r.1 G_∧eF G G_∧v=y1∧Pt 1 c y1 r.2):=by
 unfold mp at H;refine en func112 rfl rfl (sr (va (.pointer none) (wln (sr (va (.agg #[Y]) ?_)))));have h2:OA (RP 0) c0 (Y) [] []:=OA.nil (aZ _);have O1:=O0.addHole (e:=es true (RP 0) (Y) 168 [] ([]:List (Option Nat))) rfl;refine me (al 176 [(Y)] O1) ?_;rintro v6 c5 l5 ⟨a,rfl,O4⟩;have O7:=O4.sD 2 [0,1];refine bn H fun q2 h8 H=>?_;obtain ⟨z,l0,t1,l9,p,q0,U,l3,u1,a16⟩:=Rel.new_grid_Grid (E:=[(Eb a 176 [(Y)]),es true (RP 0) (Y) 168 [] ([]:List (Option Nat))]) (F:=F) (x:=(⟨([]:List (Option Nat))⟩:bX)) (b:=a) O7 (R0.mono l5) (fun c_ hle_=>⟨a,(Y),[],rfl,rfl,((h2.mono l5).mono hle_)⟩);rw [bi h8] at U;refine WL.gh t1.1 ?_;have v1:=eF.nil (eF.refl _) u1;have c1:=(eF.refl _).trans a16;have w1:Pt 1 z (Q a) (some sg.grid_Grid.length):=⟨a,rfl,p⟩;refine va (Q a) (wln (W.seq (sr (va (I n) (va (I (aO n 1024)) (va (I (bb 1 (aO n 1024))) (va (I 0) (wln (W.block (bn H fun e3 a0 D=>lp a0 (fun d=>Jn z fun c l=>∃G_,Own c G_ (F)∧l= [(0,I y),(5,Q a),(10,I (bb 1 (aO n 1024))),(11,I d.1)]∧Rel c d.2 G_∧eF G G_) (fun A ex e w=>ex= .exit 0∧(Jn z fun c l=>∃G_,Own c G_ (F)∧l= [(5,Q a)]∧Rel c A G_∧eF G G_) e w) ?_ ?_ ?_))))))))))
 ·clear D a0;intro d t3 s1 s2 H;revert s1 s2;rintro e_ w_ ⟨h1,j3,_,rfl,j2,rfl,f,M,rfl,o,X⟩;refine sr (va (B (decide (d.1 < (bb 1 (aO n 1024))))) (wln (W.seq (cn H (fun x1 H=>?_) (fun x1 H=>?_)))))
  ·refine W.skip (nrm (W.seq (W.block (rD [8,11] (Kp f []) M ?_))));intro i1 e0 N;have m2:Kp f [] i1:=(Kp.nil N);refine ta 0 (Q a) (ta 1 (Q a) (ta 2 (Q a) (ta 3 (Q a) (bn H fun f3 z1 H=>?_))));obtain ⟨v35,p3,b0,b2⟩:=Rel.open_grid_Grid (o.mono e0) z1 (tm p);refine tkx 4 m2 (fun c' n3 hk=>le1 0 ml (hk.gon b0 0 rfl)) (ta 5 (I y) (bn H fun i0 c2 H=>o1 6 (gc 6 (tK N o.m y c2) ?_)));rintro v40 j1 k2 ⟨_,h3,P,z0,k,rfl,d0⟩;have d1:=X.trans k;have n2:Kp f [] j1:=(Kp.adds P k);refine ⟨.inr n2,?_⟩;obtain ⟨Z,rfl⟩:=(d0).form;refine o1 7 (gm 7 (sl (RP 0) 168 [[.pointer Z]] ([i0.2]:List (Option Nat)) P ⟨⟨(.pointer Z),rfl,d0⟩,trivial⟩) ?_);rintro v55 k1 f0 ⟨q3,R,d2⟩;have o2:Kp f [] k1:=(Kp.adds R k);refine ⟨.inr o2,?_⟩;obtain ⟨m1,f2,s,S,e2⟩:=R.frz 0 rfl d2;have p2:Kp f [] m1:=(Kp.adds S k);refine AC.gh f2 s (fun _=>p2) (bn H fun j0 g2 H=>?_);have s0:=S.borrow 1 (k.get b0) rfl;refine o1 8 (gm 8 (ap (RP 0) (.pointer none) 8 174 0 s0 b2.m e2 g2 ml) ?_);rintro s3 i3 g0 ⟨h0,t0,q⟩;have u0:=t0.giveB 1 rfl;refine ⟨.inl rfl,ta 9 (Q a) (ta 10 (Q a) ?_)⟩;obtain ⟨g,h,i,rfl⟩:=(q).form;refine o1 11 (gD 11 (Own.stGB (T:=174) (j:=0) (us:=[.slice g h i]) (nw:=[.slice g h i]) (v:= .slice g h i) 0 u0 (by kernel_rfl) rfl rfl rfl rfl (by kernel_rfl) ⟨(q).one,trivial⟩ (by kernel_rfl) rfl) ?_);rintro n1 u v0;refine bn H fun k0 i2 H=>?_;obtain ⟨m0,w0,a1,m3,e1⟩:=Rel.put_grid_Grid v0 (z0.mono (f0.trans (s.trans (g0.trans u)))) (E':=[(Eb a 176 [.slice g h i]),es true (RP 0) (.slice g h i) 168 h0 j0]) i2 ⟨a,(.slice g h i),h0,((j2.trans (e0.trans (k2.trans (f0.trans (s.trans (g0.trans u)))))).t _ _ _ p),rfl,(q.mono u)⟩;have f1:=e1 _ d1 v1;refine ⟨.inl rfl,dn (bkn (nrm (W.region (vv (I (w64 (d.1+1))) (WL.nil ?_)))))⟩;obtain rfl:=si H;refine ⟨_,rfl,?_⟩;have x0:=w0.sD 1 [];exact jn n1 ⟨m0,x0,rfl,a1,f1⟩
  refine W.exit (thx ?_);obtain rfl:=si H;exact ⟨_,rfl,rfl,jn h1 ⟨f,M,rfl,o,X⟩⟩
 ·exact jn z ⟨l0,q0,rfl,U,c1⟩
 rintro _ e_ w_ ⟨rfl,q1,k3,_,rfl,o3,rfl,o0,y0,rfl,b1,g1⟩;refine bke (nrm (sr (vv (Q a) (wln (W.ret ?_)))));obtain rfl:=si D;exact r1 (qq q1 ⟨(Q a),o0,y0,b1,g1,rfl,w1.m⟩)
def mG (sg:Sto) (p0:Int) (p1:Int):Option (Sto×(Option Nat)):=
 (mp sg p0 p1).bind fun b=>
 (some (b.1.add_place_Pen (⟨b.2,(⟨0,0,false⟩:ai),true⟩:bq))).bind fun a=>
 some (a,(some b.1.place_Pen.length))
theorem yT (N:Own c0 G F) (R:Rel c0 sg G) (e:Int) (f:Int) {r:Sto×(Option Nat)} (H:mG sg e f=some r): Calls prog 73 #[I e,I f] c0.w (aP c0 fun c v=>∃M,∃G_:Gm,Own c G_ (F)∧Rel c r.1 G_∧eF G G_∧v=M∧Pt 2 c M r.2):=by
 unfold mG at H;refine en func73 rfl rfl (sr (va (.pointer none) (wln (sr (va (I e) (va (I f) (bn H fun k U H=>cl (vE N R e f U) ?_)))))));rintro v2 c8 l8 ⟨_,G4,P,S,T,rfl,z⟩;have h:=(eF.refl _).trans T;obtain ⟨d,rfl⟩:=(z).form;refine va (.agg #[.pointer d,I 0,I 0,B false,B true]) (me (al 126 [.pointer d,I 0,I 0,B false,B true] P) ?_);rintro v15 X j ⟨a,rfl,m⟩;have n:=m.sD 1 [0];refine bn H fun D s H=>?_;obtain ⟨i,l,t,b0,u,o,g,Z,y,p⟩:=Rel.new_place_Pen (E:=[(Eb a 126 [.pointer d,I 0,I 0,B false,B true])]) (F:=F) (x:=(⟨k.2,(⟨0,0,false⟩:ai),true⟩:bq)) (b:=a) n (S.mono j) (fun c_ hle_=>⟨a,(.pointer d),rfl,rfl,(z.mono (j.trans hle_))⟩);rw [bi s] at g;refine WL.gh t.1 ?_;have a0:=eF.nil h y;have q:=h.trans p;have A:Pt 2 i (Q a) (some k.1.place_Pen.length):=⟨a,rfl,u⟩;refine va (Q a) (wln (W.ret ?_));obtain rfl:=si H;exact r1 (qq i ⟨(Q a),l,o,g,q,rfl,A⟩)
def eQ (p0:Int):Option (Int):=
 some (bb 1 (aO p0 1024))
theorem mB (b:Own c0 G F) (a:Int) {r:Int} (H:eQ a=some r): Calls prog 183 #[I a] c0.w (aP c0 fun c v=>Own c G (F)∧v=I r):=by
 unfold eQ at H;refine en func183 rfl rfl (sr (va (I 0) (wln (sr (va (I a) (va (I (aO a 1024)) (vv (I (bb 1 (aO a 1024))) (wln (W.ret ?_)))))))));obtain rfl:=si H;exact r1 (qq c0 ⟨b,rfl⟩)
def iQ (p0:Int) (p1:Int):Option (Int):=
 some (bb 0 (aO p0 (w64 (p1 - 1))))
theorem rm (d:Own c0 G F) (b:Int) (a:Int) {r:Int} (H:iQ b a=some r): Calls prog 184 #[I b,I a] c0.w (aP c0 fun c v=>Own c G (F)∧v=I r):=by
 unfold iQ at H;refine en func184 rfl rfl (sr (va (I 0) (wln (sr (va (I b) (va (I a) (va (I (w64 (a - 1))) (va (I (aO b (w64 (a - 1)))) (vv (I (bb 0 (aO b (w64 (a - 1))))) (wln (W.ret ?_)))))))))));obtain rfl:=si H;exact r1 (qq c0 ⟨d,rfl⟩)
def dO (p0:ai) (p1:Int) (p2:Int):Option (ai):=
 (eQ p1).bind fun a=>
 (eQ p2).bind fun e=>
 (iQ p0.Row e).bind fun c=>
 (iQ p0.Col a).bind fun d=>
 (bD p0.Pending (some (p0.Col==(w64 (a - 1))))).bind fun b=>
 some (⟨c,d,b⟩:ai)
theorem dP (O0:Own c0 G F) (a:ai) (n:Int) (o:Int) {r:ai} (H:dO a n o=some r): Calls prog 117 #[.agg #[I a.Row,I a.Col,B a.Pending],I n,I o] c0.w (aP c0 fun c v=>Own c G (F)∧v= .agg #[I r.Row,I r.Col,B r.Pending]):=by
 unfold dO at H;refine en func117 rfl rfl (sr (me (bx 29 [I a.Row,I a.Col,B a.Pending] O0) ?_));rintro v5 c4 l4 ⟨k,rfl,O2,m⟩;refine me (al 29 [I 0,I 0,B false] O2) ?_;rintro v9 c8 l8 ⟨R,rfl,O7⟩;refine wln (sr (va (I n) (bn H fun b Z H=>cl (mB O7 n Z) ?_)));rintro v16 l0 o0 ⟨z,rfl⟩;refine va (I o) (bn H fun j a0 H=>cl (mB z o a0) ?_);rintro v23 S q0 ⟨A,rfl⟩;refine va (I b) (va (I j) (wln (W.seq (bn H fun d b0 H=>bn H fun e d0 H=>bn H fun i x H=>W.join (Jn S fun c l=>Own c G ((Eb R 29 [I d,I e,B i]) :: F)∧l= [(6,Q R)]) ?_ ?_))))
 ·clear H;refine rD [] (Kp G0 []) A ?_;intro T s0 D;have y0:Kp G0 [] T:=Kp.nil0;refine ta 0 (Q k) (tx 1 (fun h g=>l1 u_3 ((mm m) 0 _ rfl)) (ta 2 (I j) (ta 4 (Qo k (0+1)) (tx 5 (fun h g=>l1 u_3 ((mm m) 1 _ rfl)) (ta 6 (I b) (ta 8 (Qo k (0+2)) (tx 9 (fun h g=>l1 u_4 ((mm m) 2 _ rfl)) (o1 3 (gc 3 (rm D a.Row j b0) ?_)))))))));rintro v35 U t0 ⟨E,rfl⟩;have e0:Kp G0 [] U:=Kp.nil0;refine ⟨.inr e0,o1 7 (gc 7 (rm E a.Col b d0) ?_)⟩;rintro v42 X u0 ⟨p,rfl⟩;have f0:Kp G0 [] X:=Kp.nil0;refine ⟨.inr f0,?_⟩;rcases bo (a.Pending) with f | f
  ·have y:=anT f x;refine AC.takeb 10 f rfl (by kernel_rfl) (by kernel_rfl) (fun h g=>(by kernel_rfl)) (ta 11 (Qo k (0+1)) (tx 12 (fun h g=>l1 u_3 ((mm m) 1 _ rfl)) (ta 13 (I b) (ta 14 (I (w64 (b - 1))) (ta 15 (B (a.Col==(w64 (b - 1)))) ?_)))));obtain rfl:=si y;refine ta 16 (B (a.Col==(w64 (b - 1)))) (ta 17 (.agg #[I d,I e,B (a.Col==(w64 (b - 1)))]) (o1 18 (gD 18 (sA 29 [I d,I e,B (a.Col==(w64 (b - 1)))] 0 p ⟨rfl,rfl,rfl,trivial⟩) ?_)));rintro s v0 M;have g0:Kp G0 [] s:=Kp.nil0;exact ⟨.inr g0,dn (nrm (jn s ⟨M,rfl⟩))⟩
  obtain rfl:=anF f x;refine AC.takeb 10 f rfl (by kernel_rfl) (by kernel_rfl) (fun h g=>(by kernel_rfl)) (tp 11 (tp 12 (tp 13 (tp 14 (tp 15 (ta 16 (B false) (ta 17 (.agg #[I d,I e,B false]) (o1 18 (gD 18 (sA 29 [I d,I e,B false] 0 p ⟨rfl,rfl,rfl,trivial⟩) ?_)))))))));rintro t w0 N;have h0:Kp G0 [] t:=Kp.nil0;exact ⟨.inr h0,dn (nrm (jn t ⟨N,rfl⟩))⟩
 rintro e_ w_ ⟨u,m0,_,rfl,x0,rfl,q,rfl⟩;refine nrm (W.ret ?_);obtain rfl:=si H;have P:=q.sD 1 [];exact rF (c:=u) (vs:=[I d,I e,B i]) rfl (by kernel_rfl) (by kernel_rfl) (by kernel_rfl) (q.on 0 rfl _ rfl).1 ⟨_,u,rfl,rfl,pt,P,rfl⟩
def ge (sg:Sto) (p0:Option Nat):Option (Sto×Bool):=
 (orE p0.isNone ((p0).bind fun i=>
 (sg.place_Pen[i]?).bind fun d=>
 some d.G.isNone)).bind fun h=>
 if h=true then
 some (sg,false)
 else
 (p0).bind fun c=>
 (sg.place_Pen[c]?).bind fun a=>
 (cf sg a.G).bind fun e=>
 (bK sg a.G).bind fun f=>
 (dO a.At e f).bind fun g=>
 (sg.set_place_Pen c (⟨a.G,g,a.Auto⟩:bq)).bind fun b=>
 some (b,true)
theorem nM (S:Own c0 G F) (h:Rel c0 sg G) (t:Option Nat) {r:Sto×Bool} (T:Pt 2 c0 v1 t) (H:ge sg t=some r): Calls prog 176 #[v1] c0.w (aP c0 fun c v=>∃G_:Gm,Own c G_ (F)∧Rel c r.1 G_∧v=B r.2):=by
 unfold ge at H;refine en func176 rfl rfl (sr (va (B false) (wln (W.seq (W.seq (bn H fun o0 h3 H=>W.join (Jn c0 fun c l=>Own c G (F)∧l= [(0,v1),(11,B o0)]) ?_ ?_))))))
 ·clear H;refine W.region (va (v1) (vr (B t.isNone) (by rcases (T).cs with ⟨e,f⟩ | ⟨b_,e,f⟩ <;> (subst e; rw [f]; kernel_rfl)) ?_));rcases bo (t.isNone) with k | k
  ·obtain rfl:=orT k h3;exact vb k (pz (pz (ps (va (B true) (wln (jn c0 ⟨S,rfl⟩))))))
  have i:=orF k h3;refine vb k (wa (v1) (wn (bn i fun n1 h8 i=>?_)));obtain ⟨b6,rfl,h7⟩:=(T).get h8;refine va (Q b6) (wa (Q b6) (wn (bn i fun q h9 i=>?_)));obtain ⟨v10,s0,q0⟩:=Rel.open_place_Pen h h9 h7;refine vx (le1 0 eU (S.gon s0 0 rfl)) (wn (vr (B q.G.isNone) (by rcases (q0).cs with ⟨e,f⟩ | ⟨b_,e,f⟩ <;> (subst e; rw [f]; kernel_rfl)) ?_));obtain rfl:=si i;exact va (B q.G.isNone) (wln (jn c0 ⟨S,rfl⟩))
 rintro e_ w_ ⟨h0,k1,_,rfl,o,rfl,u,rfl⟩;refine nrm (cn H (fun t0 H=>?_) (fun t0 H=>?_))
 ·refine sr (va (B false) (wln (W.ret (thr ?_))));obtain rfl:=si H;exact r1 (qq h0 ⟨G,u,h.m,rfl⟩)
 refine W.skip (nrm (W.seq (rD [18] (Kp G []) u ?_)));intro i0 p x;have s:Kp G [] i0:=(Kp.nil x);refine ta 0 (v1) (ta 1 (v1) (bn H fun i1 u0 H=>?_));obtain ⟨b,rfl,D⟩:=((T.mono (o.trans p))).get u0;refine ta 2 (Q b) (ta 3 (Qo b 1) (bn H fun d v0 H=>?_));obtain ⟨v27,g,j⟩:=Rel.open_place_Pen (h.mono (o.trans p)) v0 D;refine tkx 4 s (fun c' E n=>leN 29 1 [I d.At.Row,I d.At.Col,B d.At.Pending] (n.gon g 0 rfl)) (ta 5 (Q b) (ta 6 (Q b) (ta 7 (Q b) (tkx 8 s (fun c' E n=>le1 0 eU (n.gon g 0 rfl)) (ta 10 (Q b) (ta 11 (Q b) (ta 12 (Q b) (tkx 13 s (fun c' E n=>le1 0 eU (n.gon g 0 rfl)) (bn H fun U x0 H=>o1 9 (gc 9 (cL x h.m d.G j x0) ?_))))))))));rintro v36 j0 M ⟨y,rfl⟩;have b1:Kp G [] j0:=(Kp.nil y);refine ⟨.inr b1,bn H fun X y0 H=>o1 14 (gc 14 (bG y h.m d.G j.m y0) ?_)⟩;rintro v44 k0 N ⟨z,rfl⟩;have c1:Kp G [] k0:=(Kp.nil z);refine ⟨.inr c1,bn H fun a z0 H=>o1 15 (gc 15 (dP z d.At U X z0) ?_)⟩;rintro v52 l0 P ⟨A,rfl⟩;have d1:Kp G [] l0:=(Kp.nil A);refine ⟨.inr d1,ta 16 (Q b) (ta 17 (Qo b 1) (o1 18 (gD 18 (gB 29 1 [I a.Row,I a.Col,B a.Pending] [v27,I a.Row,I a.Col,B a.Pending,B d.Auto] 0 A g ⟨rfl,rfl,rfl,trivial⟩) ?_)))⟩;rintro m0 R b0;refine bn H fun Z a1 H=>?_;obtain ⟨a0,d0,e0,m1,j1⟩:=Rel.put_place_Pen b0 (h.mono (o.trans (p.trans (M.trans (N.trans (P.trans R)))))) (E':=[(Eb b 126 [v27,I a.Row,I a.Col,B a.Pending,B d.Auto])]) a1 ⟨b,v27,(tm D),rfl,(j.mono (M.trans (N.trans (P.trans R))))⟩;refine ⟨.inl rfl,dn (nrm (sr (va (B true) (wln (W.ret ?_)))))⟩;obtain rfl:=si H;exact r1 (qq m0 ⟨a0,d0,e0,rfl⟩)
def dt (p0:ai):Option (ai):=
 some (⟨p0.Row,0,false⟩:ai)
theorem jE (f:Own c0 G F) (a:ai) {r:ai} (H:dt a=some r): Calls prog 180 #[.agg #[I a.Row,I a.Col,B a.Pending]] c0.w (aP c0 fun c v=>Own c G (F)∧v= .agg #[I r.Row,I r.Col,B r.Pending]):=by
 unfold dt at H;refine en func180 rfl rfl (sr (me (bx 29 [I a.Row,I a.Col,B a.Pending] f) ?_));rintro v5 m o ⟨i,rfl,g,j⟩;refine me (al 29 [I 0,I 0,B false] g) ?_;rintro v9 n p ⟨l,rfl,h⟩;refine wln (sr (va (Q i) (vx (l1 u_3 ((mm j) 0 _ rfl)) (va (.agg #[I a.Row,I 0,B false]) (md (sA 29 [I a.Row,I 0,B false] 0 h ⟨rfl,rfl,rfl,trivial⟩) ?_)))));rintro d k b;refine wln (W.ret ?_);obtain rfl:=si H;have e:=b.sD 1 [];exact rF (c:=d) (vs:=[I a.Row,I 0,B false]) rfl (by kernel_rfl) (by kernel_rfl) (by kernel_rfl) (b.on 0 rfl _ rfl).1 ⟨_,d,rfl,rfl,pt,e,rfl⟩
def my (p0:ai) (p1:Int):Option (ai×Bool):=
 (eQ p1).bind fun a=>
 if (decide (p0.Row≥(w64 (a - 1))))=true then
 some ((⟨p0.Row,p0.Col,false⟩:ai),true)
 else
 some ((⟨(w64 (p0.Row+1)),p0.Col,false⟩:ai),false)
theorem oh (x:Own c0 G F) (a:ai) (f:Int) {r:ai×Bool} (H:my a f=some r): Calls prog 236 #[.agg #[I a.Row,I a.Col,B a.Pending],I f] c0.w (aP c0 fun c v=>Own c G (F)∧v= .tuple #[.agg #[I r.1.Row,I r.1.Col,B r.1.Pending],B r.2]):=by
 unfold my at H;refine en func236 rfl rfl (sr (me (al 29 [I a.Row,I a.Col,B a.Pending] x) ?_));rintro v4 c3 l3 ⟨d,rfl,y⟩;refine me (al 29 [I 0,I 0,B false] y) ?_;rintro v8 c7 l7 ⟨Z,rfl,z⟩;refine va (B false) (wln (sr (va (Qo d 2) (md (sC 4 2 (B false) [I a.Row,I a.Col,B false] 1 z ⟨rfl,trivial⟩) ?_))));rintro E P A;refine wln (W.seq (W.seq (rD [] (Kp G0 [(Eb d 29 [I a.Row,I a.Col,B false])]) A ?_)));intro o R g;have t:Kp G0 [(Eb d 29 [I a.Row,I a.Col,B false])] o:=(Kp.cons (g.on 1 rfl) Kp.nil0);refine ta 0 (Q d) (tkx 1 t (fun c' N D=>le1 0 u_3 (D.on 0 rfl)) (ta 2 (I f) (bn H fun e q H=>o1 3 (gc 3 (mB g f q) ?_))));rintro v20 p S ⟨b,rfl⟩;have u:Kp G0 [(Eb d 29 [I a.Row,I a.Col,B false])] p:=(Kp.cons (b.on 1 rfl) Kp.nil0);refine ⟨.inr u,ta 4 (I (w64 (e - 1))) (ta 5 (B (decide (a.Row≥(w64 (e - 1))))) (dn (nrm (cn H (fun s H=>?_) (fun s H=>?_)))))⟩
 ·refine sr (vx (leN 29 0 [I a.Row,I a.Col,B false] (b.on 1 rfl)) (md (sA 29 [I a.Row,I a.Col,B false] 0 b ⟨rfl,rfl,rfl,trivial⟩) ?_));rintro k T h;refine va (B true) (wln (W.ret (thr ?_)));obtain rfl:=si H;have m:=h.sD 2 [];exact yh (c:=k) (vs:=[I a.Row,I a.Col,B false]) (v:=B true) rfl (by kernel_rfl) (by kernel_rfl) (by kernel_rfl) (by kernel_rfl) (h.on 0 rfl _ rfl).1 ⟨_,k,rfl,rfl,pt,m,rfl⟩
 refine W.skip (nrm (sr (va (Q d) (vx (le1 0 u_3 (b.on 1 rfl)) (va (I (w64 (a.Row+1))) (va (Q d) (md (sC 3 0 (I (w64 (a.Row+1))) [I (w64 (a.Row+1)),I a.Col,B false] 1 b ⟨rfl,trivial⟩) ?_)))))));rintro M U i;refine wln (sr (vx (leN 29 0 [I (w64 (a.Row+1)),I a.Col,B false] (i.on 1 rfl)) (md (sA 29 [I (w64 (a.Row+1)),I a.Col,B false] 0 i ⟨rfl,rfl,rfl,trivial⟩) ?_)));rintro l X j;refine va (B false) (wln (W.ret ?_));obtain rfl:=si H;have n:=j.sD 2 [];exact yh (c:=l) (vs:=[I (w64 (a.Row+1)),I a.Col,B false]) (v:=B false) rfl (by kernel_rfl) (by kernel_rfl) (by kernel_rfl) (by kernel_rfl) (j.on 0 rfl _ rfl).1 ⟨_,l,rfl,rfl,pt,n,rfl⟩
def fe (sg:Sto) (p0:Option Nat):Option (Sto):=
 (ge sg p0).bind fun b=>
 if (!b.2)=true then
 some b.1
 else
 (p0).bind fun j=>
 (b.1.place_Pen[j]?).bind fun f=>
 (bK b.1 f.G).bind fun g=>
 (my f.At g).bind fun e=>
 (p0).bind fun d=>
 (b.1.place_Pen[d]?).bind fun c=>
 (b.1.set_place_Pen d (⟨c.G,e.1,c.Auto⟩:bq)).bind fun a=>
 if e.2=true then
 (bK a c.G).bind fun h=>
 (jZ a c.G 0 h 1).bind fun i=>
 some i
 else
 some a
theorem na (O0:Own c0 G F) (R0:Rel c0 sg G) (p0:Option Nat) {r:Sto} (h2:Pt 2 c0 v1 p0) (H:fe sg p0=some r): Calls prog 181 #[v1] c0.w (aP c0 fun c v=>∃G_:Gm,Own c G_ (F)∧Rel c r G_∧v= .tuple #[]):=by
 unfold fe at H;refine en func181 rfl rfl (W.seq (sr (va (v1) (bn H fun y2 h3 H=>cl (nM O0 R0 p0 h2 h3) ?_))));rintro v9 c8 l8 ⟨d,O5,n,rfl⟩;refine va (B (!y2.2)) (wln (cn H (fun d2 H=>?_) (fun d2 H=>?_)))
 ·refine W.ret (thr ?_);obtain rfl:=si H;exact r0 (qq c8 ⟨d,O5,n,rfl⟩)
 refine W.skip (nrm (W.seq (bn H fun n3 e2 H=>bn H fun e f2 H=>bn H fun j h0 H=>bn H fun a x H=>W.join (Jn c8 fun c l=>∃t,Own c d ((Eb t 29 [I a.1.Row,I a.1.Col,B a.1.Pending]) :: F)∧l= [(0,v1),(2,Q t),(3,B a.2)]) ?_ ?_)))
 ·clear H;refine rD [] (Kp d []) O5 ?_;intro p1 l16 q;have m0:Kp d [] p1:=(Kp.nil q);refine ta 0 (v1) ?_;obtain ⟨g,rfl,g2⟩:=((h2.mono (l8.trans l16))).get e2;refine ta 1 (Q g) (ta 2 (Qo g 1) ?_);obtain ⟨v21,j0,i0⟩:=Rel.open_place_Pen (n.mono l16) f2 g2;refine tkx 3 m0 (fun c' z i=>leN 29 1 [I e.At.Row,I e.At.Col,B e.At.Pending] (i.gon j0 0 rfl)) (ta 4 (Q g) (ta 5 (Q g) (ta 6 (Q g) (tkx 7 m0 (fun c' z i=>le1 0 eU (i.gon j0 0 rfl)) (mn2 8 13 ?_ ?_)))))
  ·refine gc 8 (bG q n.m e.G i0 h0) ?_;rintro v29 q1 o3 ⟨s,rfl⟩;have m2:Kp d [] q1:=(Kp.nil s);refine ⟨.inr m2,mn2 9 13 ?_ ?_⟩
   ·refine gc 9 (oh s e.At j x) ?_;rintro v36 s1 p3 ⟨M,rfl⟩;have n2:Kp d [] s1:=(Kp.nil M);refine ⟨.inr n2,ta 10 (.tuple #[.agg #[I a.1.Row,I a.1.Col,B a.1.Pending],B a.2]) (ta 11 (.agg #[I a.1.Row,I a.1.Col,B a.1.Pending]) (ta 12 (B a.2) (o1 13 (gm 13 (al 29 [I 0,I 0,B false] M) ?_))))⟩;rintro v41 t1 q3 ⟨k1,rfl,N⟩;have o2:Kp d [] t1:=(Kp.nil N);refine ⟨.inr o2,o1 14 (gD 14 (sA 29 [I a.1.Row,I a.1.Col,B a.1.Pending] 0 N ⟨rfl,rfl,rfl,trivial⟩) ?_)⟩;rintro e0 s3 P;have p2:Kp d [] e0:=(Kp.nil P);exact ⟨.inr p2,ta 15 (B a.2) (dn (nrm (jn e0 ⟨k1,P,rfl⟩)))⟩
   refine gm 13 (al 29 [I 0,I 0,B false] s) ?_;rintro v49 u1 t3 ⟨m1,rfl,R⟩;have q2:Kp d [] u1:=(Kp.nil R);refine ⟨.inr q2,o1 9 (gc 9 (oh R e.At j x) ?_)⟩;rintro v56 w1 u3 ⟨S,rfl⟩;have s2:Kp d [] w1:=(Kp.nil S);refine ⟨.inr s2,ta 10 (.tuple #[.agg #[I a.1.Row,I a.1.Col,B a.1.Pending],B a.2]) (ta 11 (.agg #[I a.1.Row,I a.1.Col,B a.1.Pending]) (ta 12 (B a.2) (o1 14 (gD 14 (sA 29 [I a.1.Row,I a.1.Col,B a.1.Pending] 0 S ⟨rfl,rfl,rfl,trivial⟩) ?_))))⟩;rintro f0 v3 T;have t2:Kp d [] f0:=(Kp.nil T);exact ⟨.inr t2,ta 15 (B a.2) (dn (nrm (jn f0 ⟨m1,T,rfl⟩)))⟩
  refine gm 13 (al 29 [I 0,I 0,B false] q) ?_;rintro a4 x1 w3 ⟨n1,rfl,U⟩;have u2:Kp d [] x1:=(Kp.nil U);refine ⟨.inr u2,o1 8 (gc 8 (bG U n.m e.G i0.m h0) ?_)⟩;rintro b4 y1 x3 ⟨X,rfl⟩;have v2:Kp d [] y1:=(Kp.nil X);refine ⟨.inr v2,o1 9 (gc 9 (oh X e.At j x) ?_)⟩;rintro c4 z1 y3 ⟨Z,rfl⟩;have w2:Kp d [] z1:=(Kp.nil Z);refine ⟨.inr w2,ta 10 (.tuple #[.agg #[I a.1.Row,I a.1.Col,B a.1.Pending],B a.2]) (ta 11 (.agg #[I a.1.Row,I a.1.Col,B a.1.Pending]) (ta 12 (B a.2) (o1 14 (gD 14 (sA 29 [I a.1.Row,I a.1.Col,B a.1.Pending] 0 Z ⟨rfl,rfl,rfl,trivial⟩) ?_))))⟩;rintro g0 z3 a0;have x2:Kp d [] g0:=(Kp.nil a0);exact ⟨.inr x2,ta 15 (B a.2) (dn (nrm (jn g0 ⟨n1,a0,rfl⟩)))⟩
 rintro e_ w_ ⟨l3,m3,_,rfl,A,rfl,t,b0,rfl⟩;refine nrm (sr (va (v1) (vx (leN 29 0 [I a.1.Row,I a.1.Col,B a.1.Pending] (b0.on 0 rfl)) (bn H fun d3 i2 H=>?_))));obtain ⟨b,rfl,k0⟩:=((h2.mono (l8.trans A))).get i2;refine va (Q b) (va (Qo b 1) (bn H fun f j2 H=>?_));obtain ⟨E,k2,y⟩:=Rel.open_place_Pen (n.mono A) j2 k0;refine md (gB 29 1 [I a.1.Row,I a.1.Col,B a.1.Pending] [E,I a.1.Row,I a.1.Col,B a.1.Pending,B f.Auto] 0 b0 k2 ⟨rfl,rfl,rfl,trivial⟩) ?_;rintro c2 l0 j1;refine bn H fun h1 z0 H=>?_;obtain ⟨k,d0,h,u,b3⟩:=Rel.put_place_Pen j1 (n.mono (A.trans l0)) (E':=[(Eb b 126 [E,I a.1.Row,I a.1.Col,B a.1.Pending,B f.Auto])]) z0 ⟨b,E,(tm k0),rfl,(y.mono l0)⟩;refine wln (sr (va (B a.2) (wln (cn H (fun a1 H=>?_) (fun a1 H=>?_)))))
 ·refine rD [9] (Kp k []) d0 ?_;intro w0 e3 o;have D:Kp k [] w0:=(Kp.nil o);refine ta 0 (Q b) (ta 1 (Q b) (ta 2 (Q b) (tkx 3 D (fun c' z i=>le1 0 eU (i.gon u 0 rfl)) (ta 4 (Q b) (ta 5 (Q b) (ta 6 (Q b) (tkx 7 D (fun c' z i=>le1 0 eU (i.gon u 0 rfl)) (bn H fun g1 b1 H=>o1 8 (gc 8 (bG o h.m f.G y.m b1) ?_)))))))));rintro i3 x0 f3 ⟨p,rfl⟩;have f1:Kp k [] x0:=(Kp.nil p);refine ⟨.inr f1,bn H fun k3 c1 H=>o1 9 (gc 9 (qv p h.m f.G 0 g1 1 y.m c1) ?_)⟩;rintro j3 y0 g3 ⟨o0,q0,u0,rfl⟩;refine ⟨.inl rfl,dn ?_⟩;obtain rfl:=si H;have s0:=q0.sD 1 [];exact n0 (qq y0 ⟨o0,s0,u0,rfl⟩)
 refine W.skip ?_;obtain rfl:=si H;have t0:=d0.sD 1 [];exact n0 (qq c2 ⟨k,t0,h,rfl⟩)
def fv (sg:Sto) (p0:Option Nat):Option (Sto):=
 (p0).bind fun c=>
 (sg.place_Pen[c]?).bind fun e=>
 (bv sg e.G e.At.Row).bind fun f=>
 (eY sg f true).bind fun d=>
 (d.place_Pen[c]?).bind fun a=>
 (dt a.At).bind fun g=>
 (d.set_place_Pen c (⟨a.G,g,a.Auto⟩:bq)).bind fun b=>
 (fe b p0).bind fun h=>
 some h
theorem oP (O0:Own c0 G F) (n:Rel c0 sg G) (q:Option Nat) {r:Sto} (U:Pt 2 c0 v1 q) (H:fv sg q=some r): Calls prog 233 #[v1] c0.w (aP c0 fun c v=>∃G_:Gm,Own c G_ (F)∧Rel c r G_∧v= .tuple #[]):=by
 unfold fv at H;refine en func233 rfl rfl (W.seq (rD [10] (Kp G []) O0 ?_));intro c3 l3 y;have p5:Kp G [] c3:=(Kp.nil y);refine ta 0 (v1) (bn H fun a1 h8 H=>?_);obtain ⟨b,rfl,o⟩:=((U.mono l3)).get h8;refine ta 1 (Q b) (ta 2 (Q b) (bn H fun l h9 H=>?_));obtain ⟨v10,h,R⟩:=Rel.open_place_Pen (n.mono l3) h9 o;refine tkx 3 p5 (fun c' f0 p=>le1 0 eU (p.gon h 0 rfl)) (ta 4 (Q b) (ta 5 (Q b) (ta 6 (Qo b 1) (ta 7 (Qo b 1) (tkx 8 p5 (fun c' f0 p=>le1 1 u_3 (p.gon h 0 rfl)) (bn H fun s S H=>o1 9 (gc 9 (cO y n.m l.G l.At.Row R S) ?_)))))));rintro v14 N b1 ⟨_,e,rfl,T⟩;have h0:Kp G [] N:=(Kp.nil e);refine ⟨.inr h0,bn H fun q0 X H=>o1 10 (gc 10 (lY e n.m s true T X) ?_)⟩;rintro v29 w0 c1 ⟨t0,f,g,rfl⟩;refine ⟨.inl rfl,dn (nrm (sr (vv (Q b) (va (Q b) (va (Qo b 1) (bn H fun d Z H=>?_))))))⟩;obtain ⟨v31,i,a0⟩:=Rel.open_place_Pen g Z (tm o);refine vx (leN 29 1 [I d.At.Row,I d.At.Col,B d.At.Pending] (f.gon i 0 rfl)) (bn H fun a b0 H=>cl (jE f d.At b0) ?_);rintro v40 x0 j ⟨x,rfl⟩;refine va (Q b) (va (Qo b 1) (md (gB 29 1 [I a.Row,I a.Col,B a.Pending] [v31,I a.Row,I a.Col,B a.Pending,B d.Auto] 0 x i ⟨rfl,rfl,rfl,trivial⟩) ?_));rintro y0 k z;refine bn H fun t d0 H=>?_;obtain ⟨u0,A,E,z0,v0⟩:=Rel.put_place_Pen z (g.mono (j.trans k)) (E':=[(Eb b 126 [v31,I a.Row,I a.Col,B a.Pending,B d.Auto])]) d0 ⟨b,v31,(tm o),rfl,(a0.mono (j.trans k))⟩;refine wln (W.region (va (Q b) (bn H fun s0 e0 H=>cl (na A E q U.m e0) ?_)));rintro v55 P d1 ⟨u,D,M,rfl⟩;refine WL.nil ?_;obtain rfl:=si H;exact n0 (qq P ⟨u,D,M,rfl⟩)
def ji (sg:Sto) (p0:Option Nat) (p1:Int):Option (Sto):=
 ((p0).bind fun k=>
 (sg.place_Pen[k]?).bind fun l=>
 if l.At.Pending=true then
 (fv sg p0).bind fun m=>
 some (m)
 else
 some (sg)).bind fun b=>
 (p0).bind fun d=>
 (b.place_Pen[d]?).bind fun a=>
 (cf b a.G).bind fun e=>
 (orE (p1==1) (some (decide (a.At.Col < (w64 (e - 1)))))).bind fun f=>
 if f=true then
 some b
 else
 if a.Auto=true then
 (bv b a.G a.At.Row).bind fun g=>
 (er 1).bind fun h=>
 (dN b g (w64 (e - 1)) h).bind fun i=>
 (fv i.1 p0).bind fun j=>
 some j
 else
 (b.set_place_Pen d (⟨a.G,(⟨a.At.Row,(w64 (a.At.Col - 1)),a.At.Pending⟩:ai),a.Auto⟩:bq)).bind fun c=>
 some c
theorem tL (T:Own c0 G F) (X:Rel c0 sg G) (hG:Gl [2,4] c0) (u:Option Nat) (n:Int) {r:Sto} (t:Pt 2 c0 v1 u) (H:ji sg u n=some r): Calls prog 177 #[v1,I n] c0.w (aP c0 fun c v=>∃G_:Gm,Own c G_ (F)∧Rel c r G_∧v= .tuple #[]):=by
 unfold ji at H;refine en func177 rfl rfl (bn H fun g2 g d=>W.seqJ (Jn c0 fun c l=>∃G_,Own c G_ (F)∧l= [(0,v1),(1,I n)]∧Rel c g2 G_) ?_ ?_)
 ·refine sr (va (v1) (bn g fun b3 h7 g=>?_));obtain ⟨s,rfl,h6⟩:=(t).get h7;refine va (Q s) (va (Qo s 1) (va (Qo s 3) (bn g fun i3 h8 g=>?_)));obtain ⟨v9,e1,z2⟩:=Rel.open_place_Pen X h8 h6;refine vx (le1 3 u_4 (T.gon e1 0 rfl)) (wln (cn g (fun f1 g=>?_) (fun f1 g=>?_)))
  ·refine W.region (va (Q s) (bn g fun n3 g1 g=>cl (oP T X u t g1) ?_));rintro v19 w0 c3 ⟨h0,l0,t0,rfl⟩;refine wln ?_;obtain rfl:=si g;exact jn w0 ⟨h0,l0,rfl,t0⟩
  refine W.skip (nrm ?_);obtain rfl:=si g;exact jn c0 ⟨G,T,rfl,X⟩
 rintro e_ w_ ⟨v2,x2,_,rfl,b2,rfl,f,x,rfl,i⟩;refine sr (va (v1) (bn d fun p2 h1 d=>?_));obtain ⟨a,rfl,E⟩:=((t.mono b2)).get h1;refine vv (Q a) (bn d fun b i1 d=>?_);obtain ⟨v30,h,q⟩:=Rel.open_place_Pen i i1 E;refine vx (le1 0 eU (x.gon h 0 rfl)) (bn d fun e j1 d=>cl (cL x i b.G q j1) ?_);rintro v39 p N ⟨o,rfl⟩;refine vv (I (w64 (e - 1))) (wln (W.block (W.seq (bn d fun a0 M d=>W.join (Jn p fun c l=>Own c f (F)∧l= [(0,Q a),(4,I (w64 (e - 1))),(27,B a0)]) ?_ ?_))))
 ·clear d;refine W.region (va (I n) (va (B (n==1)) ?_));rcases bo (n==1) with k | k
  ·obtain rfl:=orT k M;exact vb k (pz (pz (pz (ps (vv (B true) (wln (jn p ⟨o,rfl⟩)))))))
  have k0:=orF k M;refine vb k (wa (Q a) (wa (Q a) (wa (Qo a 1) (wa (Qo a 2) (wn (vx (le1 2 u_3 (o.gon h 0 rfl)) (wa (I (w64 (e - 1))) (wa (B (decide (b.At.Col < (w64 (e - 1))))) ?_))))))));obtain rfl:=si k0;exact vv (B (decide (b.At.Col < (w64 (e - 1))))) (wln (jn p ⟨o,rfl⟩))
 rintro e_ w_ ⟨x0,y2,_,rfl,P,rfl,j,rfl⟩;refine nrm (cn d (fun k1 d=>?_) (fun k1 d=>?_))
 ·refine W.ret (bkr ?_);obtain rfl:=si d;exact r0 (qq x0 ⟨f,j,i.m,rfl⟩)
 refine sr (vv (Q a) (va (Qo a 4) (vx (le1 4 u_4 (j.gon h 0 rfl)) (va (B b.Auto) (wln (cn d (fun m1 d=>?_) (fun m1 d=>?_)))))))
 ·refine W.seq (rD [12] (Kp f []) j ?_);intro y0 d3 y;have S:Kp f [] y0:=(Kp.nil y);refine ta 0 (Q a) (ta 1 (Q a) (ta 2 (Q a) (tkx 3 S (fun c' z1 hk=>le1 0 eU (hk.gon h 0 rfl)) (ta 4 (Q a) (ta 5 (Q a) (ta 6 (Qo a 1) (ta 7 (Qo a 1) (tkx 8 S (fun c' z1 hk=>le1 1 u_3 (hk.gon h 0 rfl)) (ta 10 (I (w64 (e - 1))) (bn d fun e0 n1 d=>o1 9 (gc 9 (cO y i.m b.G b.At.Row q.m n1) ?_)))))))))));rintro v55 z0 e3 ⟨_,z,rfl,q1⟩;have d2:Kp f [] z0:=(Kp.nil z);refine ⟨.inr d2,bn d fun f0 s1 d=>o1 11 (gc 11 (jM z 1 s1) ?_)⟩;rintro k3 a1 f3 ⟨_,j3,A,rfl,t1⟩;have e2:Kp f [] a1:=(Kp.nil A);refine ⟨.inr e2,?_⟩;obtain ⟨b1,w1,c2,D,u1⟩:=A.frz 0 rfl t1;have f2:Kp f [] b1:=(Kp.nil D);refine AC.gh w1 c2 (fun _=>f2) (bn d fun s2 x1 d=>o1 12 (gc 12 (jD D i.m (hG.m.le (by decide)) e0 (w64 (e - 1)) f0 q1.m u1 x1) ?_));rintro l3 w2 g3 ⟨_,u2,m0,u0,rfl,a3⟩;refine ⟨.inl rfl,dn (nrm (W.region (va (Q a) (bn d fun t2 y1 d=>cl (oP m0 u0 u t.m y1) ?_))))⟩;rintro m3 c1 h3 ⟨i0,o0,v0,rfl⟩;refine WL.nil (bkn ?_);obtain rfl:=si d;have q0:=o0.sD 1 [];exact n0 (qq c1 ⟨i0,q0,v0,rfl⟩)
 refine W.region (vv (Q a) (va (Qo a 1) (va (Qo a 2) (vx (le1 2 u_3 (j.gon h 0 rfl)) (va (I (w64 (b.At.Col - 1))) (va (Q a) (va (Qo a 1) (va (Qo a 2) (md (gC 3 2 (I (w64 (b.At.Col - 1))) [v30,I b.At.Row,I (w64 (b.At.Col - 1)),B b.At.Pending,B b.Auto] 0 j h ⟨rfl,trivial⟩) ?_)))))))));rintro d1 R s0;refine bn d fun g0 b0 d=>?_;obtain ⟨j0,U,Z,l2,i2⟩:=Rel.put_place_Pen s0 (i.mono (N.trans (P.trans R))) (E':=[(Eb a 126 [v30,I b.At.Row,I (w64 (b.At.Col - 1)),B b.At.Pending,B b.Auto])]) b0 ⟨a,v30,(tm E),rfl,(q.mono (N.trans (P.trans R)))⟩;refine WL.nil (bkn ?_);obtain rfl:=si d;exact n0 (qq d1 ⟨j0,U,Z,rfl⟩)
def kh (p0:ai) (p1:Int) (p2:Int) (p3:Bool):Option (ai):=
 (eQ p2).bind fun a=>
 if (decide (p0.Col < (w64 (a - (bb 1 (aO p1 2))))))=true then
 some (⟨p0.Row,(w64 (p0.Col+(bb 1 (aO p1 2)))),false⟩:ai)
 else
 some (⟨p0.Row,(w64 (a - 1)),p3⟩:ai)
theorem vH (s:Own c0 G F) (a:ai) (b:Int) (h:Int) (e:Bool) {r:ai} (H:kh a b h e=some r): Calls prog 179 #[.agg #[I a.Row,I a.Col,B a.Pending],I b,I h,B e] c0.w (aP c0 fun c v=>Own c G (F)∧v= .agg #[I r.Row,I r.Col,B r.Pending]):=by
 unfold kh at H;refine en func179 rfl rfl (sr (me (bx 29 [I a.Row,I a.Col,B a.Pending] s) ?_));rintro v5 E N ⟨f,rfl,t,g⟩;refine me (al 29 [I 0,I 0,B false] t) ?_;rintro v9 M P ⟨D,rfl,u⟩;refine wln (sr (va (I b) (va (I (aO b 2)) (va (I (bb 1 (aO b 2))) (va (I h) (bn H fun d p H=>cl (mB u h p) ?_))))));rintro v16 x y ⟨i,rfl⟩;refine va (I (bb 1 (aO b 2))) (va (I d) (wln (W.seq (sr (va (Qo f (0+1)) (vx (l1 u_3 ((mm g) 1 _ rfl)) (va (I d) (va (I (bb 1 (aO b 2))) (va (I (w64 (d - (bb 1 (aO b 2))))) (va (B (decide (a.Col < (w64 (d - (bb 1 (aO b 2))))))) (wln (cn H (fun q H=>?_) (fun q H=>?_)))))))))))))
 ·refine sr (va (Q f) (vx (l1 u_3 ((mm g) 0 _ rfl)) (va (Qo f (0+1)) (vx (l1 u_3 ((mm g) 1 _ rfl)) (va (I (bb 1 (aO b 2))) (va (I (w64 (a.Col+(bb 1 (aO b 2))))) (va (.agg #[I a.Row,I (w64 (a.Col+(bb 1 (aO b 2)))),B false]) (md (sA 29 [I a.Row,I (w64 (a.Col+(bb 1 (aO b 2)))),B false] 0 i ⟨rfl,rfl,rfl,trivial⟩) ?_))))))));rintro l z j;refine wln (W.ret (thr ?_));obtain rfl:=si H;have n:=j.sD 1 [];exact rF (c:=l) (vs:=[I a.Row,I (w64 (a.Col+(bb 1 (aO b 2)))),B false]) rfl (by kernel_rfl) (by kernel_rfl) (by kernel_rfl) (j.on 0 rfl _ rfl).1 ⟨_,l,rfl,rfl,pt,n,rfl⟩
 refine W.skip (nrm (sr (va (Q f) (vx (l1 u_3 ((mm g) 0 _ rfl)) (va (I d) (va (I (w64 (d - 1))) (va (B e) (va (.agg #[I a.Row,I (w64 (d - 1)),B e]) (md (sA 29 [I a.Row,I (w64 (d - 1)),B e] 0 i ⟨rfl,rfl,rfl,trivial⟩) ?_)))))))));rintro m A k;refine wln (W.ret ?_);obtain rfl:=si H;have o:=k.sD 1 [];exact rF (c:=m) (vs:=[I a.Row,I (w64 (d - 1)),B e]) rfl (by kernel_rfl) (by kernel_rfl) (by kernel_rfl) (k.on 0 rfl _ rfl).1 ⟨_,m,rfl,rfl,pt,o,rfl⟩
def iF (sg:Sto) (p0:Option Nat) (p1:Int) (p2:List Int):Option (Sto×ai):=
 (ge sg p0).bind fun d=>
 if (!d.2)=true then
 some (d.1,(⟨0,0,false⟩:ai))
 else
 ((p0).bind fun i=>
 (d.1.place_Pen[i]?).bind fun j=>
 (cf d.1 j.G).bind fun k=>
 if (decide ((bb 1 (aO p1 2)) > k))=true then
 some (1,([65533]:List Int))
 else
 some ((bb 1 (aO p1 2)),p2)).bind fun c=>
 (ji d.1 p0 c.1).bind fun f=>
 (p0).bind fun e=>
 (f.place_Pen[e]?).bind fun a=>
 (bv f a.G a.At.Row).bind fun l=>
 (lq f l a.At.Col c.1 c.2).bind fun g=>
 (g.1.place_Pen[e]?).bind fun b=>
 (cf g.1 b.G).bind fun m=>
 (kh (⟨a.At.Row,a.At.Col,false⟩:ai) c.1 m b.Auto).bind fun n=>
 (g.1.set_place_Pen e (⟨b.G,n,b.Auto⟩:bq)).bind fun h=>
 some (h,(⟨a.At.Row,a.At.Col,false⟩:ai))
theorem pA (O0:Own c0 G F) (R0:Rel c0 sg G) (hG:Gl [2,4] c0) (p0:Option Nat) (o:Int) (p2:List Int) {r:Sto×ai} (h2:Pt 2 c0 v1 p0) (h4:Sl (RI .i32) c0 v3 p2) (H:iF sg p0 o p2=some r): Calls prog 115 #[v1,I o,v3] c0.w (aP c0 fun c v=>∃G_:Gm,Own c G_ (F)∧Rel c r.1 G_∧v= .agg #[I r.2.Row,I r.2.Col,B r.2.Pending]):=by
 unfold iF at H;refine en func115 rfl rfl (sr (me (al 29 [I 0,I 0,B false] O0) ?_));rintro v8 c7 l7 ⟨b5,rfl,O6⟩;refine wln (W.seq (sr (va (v1) (bn H fun u3 h9 H=>cl (nM O6 R0.m p0 h2.m h9) ?_))));rintro v15 e2 u0 ⟨j0,R,P,rfl⟩;refine va (B (!u3.2)) (wln (cn H (fun n2 H=>?_) (fun n2 H=>?_)))
 ·refine sr (va (.agg #[I 0,I 0,B false]) (md (sA 29 [I 0,I 0,B false] 0 R ⟨rfl,rfl,rfl,trivial⟩) ?_));rintro t0 s4 k0;refine wln (W.ret (thr ?_));obtain rfl:=si H;have u1:=k0.sD 1 [];exact rF (c:=t0) (vs:=[I 0,I 0,B false]) rfl (by kernel_rfl) (by kernel_rfl) (by kernel_rfl) (k0.on 0 rfl _ rfl).1 ⟨_,t0,rfl,rfl,pt,j0,u1,P.m,rfl⟩
 refine W.skip (nrm (sr (va (I o) (va (I (aO o 2)) (vv (I (bb 1 (aO o 2))) (wln (bn H fun f g d=>W.seqJ (Jn e2 fun c l=>∃v22,Own c j0 ((Eb b5 29 [I 0,I 0,B false]) :: F)∧l= [(0,v1),(1,I f.1),(2,v22),(6,Q b5)]∧Sl (RI .i32) c v22 f.2) ?_ ?_)))))))
 ·refine sr (va (I (bb 1 (aO o 2))) (va (v1) (bn g fun f4 q2 g=>?_)));obtain ⟨s0,rfl,o2⟩:=((h2.mono (l7.trans u0))).get q2;refine vv (Q s0) (bn g fun j1 s2 g=>?_);obtain ⟨v27,u2,t2⟩:=Rel.open_place_Pen P s2 o2;refine vx (le1 0 eU (R.gon u2 0 rfl)) (bn g fun n1 v2 g=>cl (cL R P j1.G t2 v2) ?_);rintro v36 f2 t4 ⟨l0,rfl⟩;refine va (B (decide ((bb 1 (aO o 2)) > n1))) (wln (cn g (fun w2 g=>?_) (fun w2 g=>?_)))
  ·refine W.region (me (sl (RI .i32) 21 [[J 65533]] ([65533]:List Int) l0 ⟨rfl,trivial⟩) ?_);rintro v42 n4 u4 ⟨w4,w1,x2⟩;refine va (I 1) (va (v42) (wln ?_));obtain rfl:=si g;obtain ⟨g2,z2,v4,x1,y2⟩:=w1.frz 0 rfl x2;have y1:=x1.sD 2 [1];exact ⟨g2,_,_,z2.symm,pt,us,v42,y1,rfl,y2⟩
  refine W.skip (nrm ?_);obtain rfl:=si g;exact jn f2 ⟨v3,l0,rfl,h4.m⟩
 rintro e_ w_ ⟨o4,q4,_,rfl,i3,rfl,v22,z1,rfl,a3⟩;refine sr (va (v1) (va (I f.1) (bn d fun l4 b3 d=>cl (tL z1 P.m (hG.m.le (by decide)) p0 f.1 h2.m b3) ?_)));rintro x4 p4 j3 ⟨j,b2,Z,rfl⟩;refine wln (W.seq (rD [] (Kp j []) b2 ?_));intro i2 v0 m0;have w0:Kp j [] i2:=(Kp.nil m0);refine ta 0 (v1) (bn d fun g4 c3 d=>?_);obtain ⟨b,rfl,e0⟩:=((h2.mono (l7.trans (u0.trans (i3.trans (j3.trans v0)))))).get c3;refine ta 1 (Q b) (ta 2 (Qo b 1) (ta 3 (Qo b 1) (bn d fun a d3 d=>?_)));obtain ⟨y4,f0,e3⟩:=Rel.open_place_Pen (Z.mono v0) d3 e0;refine tkx 4 w0 (fun u k h=>le1 1 u_3 (h.gon f0 0 rfl)) (ta 5 (Q b) (ta 6 (Q b) (ta 7 (Qo b 1) (ta 8 (Qo b 2) (tkx 9 w0 (fun u k h=>le1 2 u_3 (h.gon f0 0 rfl)) (ta 10 (.agg #[I a.At.Row,I a.At.Col,B false]) (o1 11 (gm 11 (al 29 [I 0,I 0,B false] m0) ?_))))))));rintro z4 j2 l3 ⟨i,rfl,o0⟩;have q3:Kp j [] j2:=(Kp.nil o0);refine ⟨.inr q3,o1 12 (gD 12 (sA 29 [I a.At.Row,I a.At.Col,B false] 0 o0 ⟨rfl,rfl,rfl,trivial⟩) ?_)⟩;rintro k2 m3 q0;have s3:Kp j [] k2:=(Kp.nil q0);refine ⟨.inr s3,dn (nrm (W.seq (rD [11] (Kp j [(Eb i 29 [I a.At.Row,I a.At.Col,B false])]) q0 ?_)))⟩;intro l2 n3 U;have g0:Kp j [(Eb i 29 [I a.At.Row,I a.At.Col,B false])] l2:=(Kp.cons (U.on 0 rfl) (Kp.nil U));refine ta 0 (Q b) (ta 1 (Q b) (ta 2 (Q b) (tkx 3 g0 (fun u k h=>le1 0 eU (h.gon f0 0 rfl)) (ta 4 (Q i) (tkx 5 g0 (fun u k h=>le1 0 u_3 (h.on 0 rfl)) (ta 7 (Qo i 1) (tkx 8 g0 (fun u k h=>le1 1 u_3 (h.on 0 rfl)) (ta 9 (I f.1) (ta 10 (v22) (bn d fun q1 f3 d=>o1 6 (gc 6 (cO U Z.m a.G a.At.Row e3.m f3) ?_)))))))))));rintro a5 m2 o3 ⟨_,X,rfl,g3⟩;have t3:Kp j [(Eb i 29 [I a.At.Row,I a.At.Col,B false])] m2:=(Kp.cons (X.on 0 rfl) (Kp.nil X));refine ⟨.inr t3,bn d fun m4 h3 d=>o1 11 (gc 11 (vC X Z.m (hG.m.le (by decide)) q1 a.At.Col f.1 f.2 g3 a3.m h3) ?_)⟩;rintro c5 a4 i1 ⟨_,N,c2,a0,rfl,r4⟩;refine ⟨.inl rfl,dn (nrm (W.seq (rD [15] (Kp N [(Eb i 29 [I a.At.Row,I a.At.Col,B false])]) c2 ?_)))⟩;intro b1 y p;have E:Kp N [(Eb i 29 [I a.At.Row,I a.At.Col,B false])] b1:=(Kp.cons (p.on 0 rfl) (Kp.nil p));refine ta 0 (Q b) (tkx 1 E (fun u k h=>leN 29 0 [I a.At.Row,I a.At.Col,B false] (h.on 0 rfl)) (ta 2 (I f.1) (ta 3 (Q b) (ta 4 (Q b) (ta 5 (Q b) (bn d fun n e1 d=>?_))))));obtain ⟨M,x,d0⟩:=Rel.open_place_Pen (a0.mono y) e1 (tm e0);refine tkx 6 E (fun u k h=>le1 0 eU (h.gon x 0 rfl)) (ta 8 (Q b) (ta 9 (Q b) (ta 10 (Qo b 4) (tkx 11 E (fun u k h=>le1 4 u_4 (h.gon x 0 rfl)) (bn d fun s1 f1 d=>o1 7 (gc 7 (cL p a0.m n.G d0 f1) ?_))))));rintro j4 c1 z ⟨q,rfl⟩;have k1:Kp N [(Eb i 29 [I a.At.Row,I a.At.Col,B false])] c1:=(Kp.cons (q.on 0 rfl) (Kp.nil q));refine ⟨.inr k1,bn d fun e g1 d=>o1 12 (gc 12 (vH q (⟨a.At.Row,a.At.Col,false⟩:ai) f.1 s1 n.Auto g1) ?_)⟩;rintro k4 d1 A ⟨s,rfl⟩;have m1:Kp N [(Eb i 29 [I a.At.Row,I a.At.Col,B false])] d1:=(Kp.cons (s.on 0 rfl) (Kp.nil s));refine ⟨.inr m1,ta 13 (Q b) (ta 14 (Qo b 1) (o1 15 (gD 15 (gB 29 1 [I e.Row,I e.Col,B e.Pending] [M,I e.Row,I e.Col,B e.Pending,B n.Auto] 0 s x ⟨rfl,rfl,rfl,trivial⟩) ?_)))⟩;rintro b4 D y0;refine bn d fun t1 h1 d=>?_;obtain ⟨x0,S,a1,c4,z3⟩:=Rel.put_place_Pen y0 (a0.mono (y.trans (z.trans (A.trans D)))) (E':=[(Eb b 126 [M,I e.Row,I e.Col,B e.Pending,B n.Auto])]) h1 ⟨b,M,((l3.trans (m3.trans (n3.trans (o3.trans (i1.trans (y.trans (z.trans (A.trans D)))))))).t _ _ _ e0),rfl,(d0.mono (z.trans (A.trans D)))⟩;refine ⟨.inl rfl,dn (nrm (sr (vx (leN 29 0 [I a.At.Row,I a.At.Col,B false] (S.on 0 rfl)) (md (sA 29 [I a.At.Row,I a.At.Col,B false] 1 S ⟨rfl,rfl,rfl,trivial⟩) ?_))))⟩;rintro b0 i4 T;refine wln (W.ret ?_);obtain rfl:=si d;have z0:=T.sD 2 [];exact rF (c:=b0) (vs:=[I a.At.Row,I a.At.Col,B false]) rfl (by kernel_rfl) (by kernel_rfl) (by kernel_rfl) (T.on 1 rfl _ rfl).1 ⟨_,b0,rfl,rfl,pt,x0,z0,a1.m,rfl⟩
def gt (p0:Int) (p1:Int):Option (Int):=
 if (decide (p0 < 0))=true then
 some 0
 else
 if (decide (p0≥p1))=true then
 some (w64 (p1 - 1))
 else
 some p0
def bf (p0:Int):Option (Int):=
 if (decide (p0 < 1))=true then
 some 1
 else
 if (decide (p0 > 1024))=true then
 some 1024
 else
 some p0
theorem kj (b:Own c0 G F) (a:Int) {r:Int} (H:bf a=some r): Calls prog 137 #[I a] c0.w (aP c0 fun c v=>Own c G (F)∧v=I r):=by
 unfold bf at H;refine en func137 rfl rfl (sr (va (I 0) (wln (W.seq (sr (va (I a) (va (B (decide (a < 1))) (wln (cn H (fun d H=>?_) (fun d H=>?_))))))))))
 ·refine sr (va (I 1) (wln (W.ret (thr ?_))));obtain rfl:=si H;exact r1 (qq c0 ⟨b,rfl⟩)
 refine W.skip (nrm (W.seq (sr (va (I a) (va (B (decide (a > 1024))) (wln (cn H (fun e H=>?_) (fun e H=>?_))))))))
 ·refine sr (va (I 1024) (wln (W.ret (thr ?_))));obtain rfl:=si H;exact r1 (qq c0 ⟨b,rfl⟩)
 refine W.skip (nrm (sr (vv (I a) (wln (W.ret ?_)))));obtain rfl:=si H;exact r1 (qq c0 ⟨b,rfl⟩)
def fS (p0:ai) (p1:Int) (p2:Int):Option (ai):=
 (bf p2).bind fun b=>
 (gt p0.Row b).bind fun c=>
 (bf p1).bind fun d=>
 (gt p0.Col d).bind fun e=>
 (bD p0.Pending ((bf p1).bind fun f=>
 some (p0.Col==(w64 (f - 1))))).bind fun a=>
 some (⟨c,e,a⟩:ai)
def cU (p0:ag):Option (Int):=
 (idx p0.L 0).bind fun a=>
 some (a.Cells.length:Int)
def bZ (p0:ag):Option (ag):=
 (cU p0).bind fun a=>
 (fS p0.At a (p0.L.length:Int)).bind fun b=>
 some (⟨p0.L,b,p0.Auto⟩:ag)
def eM (p0:ag):Option (ag):=
 (bZ p0).bind fun a=>
 if (decide ((w64 (a.At.Row+1)) < (a.L.length:Int)))=true then
 some (⟨a.L,(⟨(w64 (a.At.Row+1)),a.At.Col,false⟩:ai),a.Auto⟩:ag)
 else
 (fQ a.L 0 (a.L.length:Int) 1 true).bind fun b=>
 some (⟨b,(⟨a.At.Row,a.At.Col,false⟩:ai),a.Auto⟩:ag)
def cq (p0:ag) (p1:Int) (p2:ah):Option (ag):=
 (app ([]:List ah) p0.L).bind fun a=>
 (idx a p1).bind fun c=>
 (nT a p1 p2).bind fun b=>
 some (⟨b,p0.At,p0.Auto⟩:ag)
def cV (p0:ag):Option (ag):=
 (idx p0.L p0.At.Row).bind fun b=>
 (cq p0 p0.At.Row (⟨b.Cells,true⟩:ah)).bind fun a=>
 (eM (⟨a.L,(⟨a.At.Row,0,false⟩:ai),a.Auto⟩:ag)).bind fun c=>
 some c
def bW (p0:ag) (p1:Int) (p2:Int) (p3:List aa):Option (ag):=
 (idx p0.L p1).bind fun d=>
 (idx p0.L p1).bind fun b=>
 (hU d.Cells b.Wrap p2 p3).bind fun a=>
 (cq p0 p1 (⟨a.1,a.2⟩:ah)).bind fun c=>
 some c
def jP (p0:ai) (p1:Int) (p2:Int) (p3:Bool):Option (ai):=
 (if (decide (p1 > 1))=true then
 some (2)
 else
 some (1)).bind fun a=>
 (bf p2).bind fun b=>
 if (decide (p0.Col≥(w64 (b - a))))=true then
 (bf p2).bind fun c=>
 some (⟨p0.Row,(w64 (c - 1)),p3⟩:ai)
 else
 some (⟨p0.Row,(w64 (p0.Col+a)),false⟩:ai)
def aT (p0:ag) (p1:Int) (p2:List Int):Option (ag×ai):=
 (bZ p0).bind fun c=>
 (cU c).bind fun d=>
 (if (decide ((bb 1 (aO p1 2)) > d))=true then
 some (1,([65533]:List Int))
 else
 some ((bb 1 (aO p1 2)),p2)).bind fun g=>
 (if c.At.Pending=true then
 (cV c).bind fun e=>
 some (e.L,e.At.Row,e.At.Col,e.At.Pending,e.Auto)
 else
 some (c.L,c.At.Row,c.At.Col,c.At.Pending,c.Auto)).bind fun a=>
 ((bD (g.1==2) (some (a.2.2.1==(w64 (d - 1))))).bind fun i=>
 if i=true then
 if a.2.2.2.2=true then
 (rep 1 (⟨0,([]:List Int)⟩:aa)).bind fun j=>
 (bW (⟨a.1,(⟨a.2.1,a.2.2.1,a.2.2.2.1⟩:ai),a.2.2.2.2⟩:ag) a.2.1 (w64 (d - 1)) j).bind fun k=>
 (cV k).bind fun f=>
 some (f.L,f.At.Row,f.At.Col,f.At.Pending,f.Auto)
 else
 some (a.1,a.2.1,(w64 (d - 2)),a.2.2.2.1,a.2.2.2.2)
 else
 some (a.1,a.2.1,a.2.2.1,a.2.2.2.1,a.2.2.2.2)).bind fun b=>
 (lu g.1 g.2).bind fun l=>
 (bW (⟨b.1,(⟨b.2.1,b.2.2.1,b.2.2.2.1⟩:ai),b.2.2.2.2⟩:ag) b.2.1 b.2.2.1 l).bind fun h=>
 (jP (⟨b.2.1,b.2.2.1,false⟩:ai) g.1 d h.Auto).bind fun m=>
 some ((⟨h.L,m,h.Auto⟩:ag),(⟨b.2.1,b.2.2.1,false⟩:ai))
def fK (p0:Int) (p1:Int) (p2:Int):Option (Int):=
 some (bb p1 (aO p0 p2))
theorem lZ (e:Own c0 G F) (a:Int) (d:Int) (b:Int) {r:Int} (H:fK a d b=some r): Calls prog 246 #[I a,I d,I b] c0.w (aP c0 fun c v=>Own c G (F)∧v=I r):=by
 unfold fK at H;refine en func246 rfl rfl (sr (va (I 0) (wln (sr (va (I d) (va (I a) (va (I b) (va (I (aO a b)) (vv (I (bb d (aO a b))) (wln (W.ret ?_)))))))))));obtain rfl:=si H;exact r1 (qq c0 ⟨e,rfl⟩)
def gx (sg:Sto) (p0:Option Nat) (p1:Int) (p2:Int):Option (Sto):=
 (bM sg p0).bind fun e=>
 (fK p1 0 e).bind fun a=>
 (bM sg p0).bind fun f=>
 (fK p2 0 f).bind fun b=>
 if (decide (a < b))=true then
 (er (w64 (b - a))).bind fun c=>
 (dN sg p0 a c).bind fun d=>
 some d.1
 else
 some sg
theorem mA (U:Own c0 G F) (e:Rel c0 sg G) (hG:Gl [2,4] c0) (d:Option Nat) (f:Int) (g:Int) {r:Sto} (i:Pt 0 c0 v1 d) (H:gx sg d f g=some r): Calls prog 247 #[v1,I f,I g] c0.w (aP c0 fun c v=>∃G_:Gm,Own c G_ (F)∧Rel c r G_∧v= .tuple #[]):=by
 unfold gx at H;refine en func247 rfl rfl (sr (va (I f) (va (v1) (bn H fun S Z H=>cl (cF U e d i Z) ?_))));rintro v9 c8 l8 ⟨X,rfl⟩;refine bn H fun a y H=>cl (lZ X f 0 S y) ?_;rintro v16 b0 h0 ⟨l,rfl⟩;refine va (I g) (va (v1) (bn H fun T z H=>cl (cF l e.m d i.m z) ?_));rintro v23 d0 i0 ⟨n,rfl⟩;refine bn H fun b A H=>cl (lZ n g 0 T A) ?_;rintro v30 u j0 ⟨h,rfl⟩;refine va (I a) (va (I b) (wln (sr (va (I a) (va (I b) (va (B (decide (a < b))) (wln (cn H (fun D H=>?_) (fun D H=>?_)))))))))
 ·refine W.region (va (v1) (va (I a) (va (I b) (va (I a) (va (I (w64 (b - a))) (bn H fun j E H=>cl (jM h (w64 (b - a)) E) ?_))))));rintro v33 e0 k0 ⟨_,o0,o,rfl,M⟩;obtain ⟨f0,P,l0,p,N⟩:=o.frz 0 rfl M;refine WL.gh P (bn H fun a0 R H=>cl (jD p e.m (hG.m.le (by decide)) d a j i.m N R) ?_);rintro v47 x m0 ⟨_,k,q,t,rfl,g0⟩;refine WL.nil ?_;obtain rfl:=si H;have s:=q.sD 1 [];exact n0 (qq x ⟨k,s,t,rfl⟩)
 refine W.skip ?_;obtain rfl:=si H;exact n0 (qq u ⟨G,h,e.m,rfl⟩)
def jL (sg:Sto) (p0:Option Nat) (p1:Int) (p2:Int):Option (Sto):=
 (bD (decide (p1≥0)) (some (decide (p2 > 0)))).bind fun f=>
 if f=true then
 (bM sg p0).bind fun b=>
 (fK p1 0 b).bind fun a=>
 (bM sg p0).bind fun c=>
 (fK p2 0 c).bind fun d=>
 (gx sg p0 a (w64 (a+d))).bind fun e=>
 some e
 else
 some sg
theorem wb (o:Own c0 G F) (h:Rel c0 sg G) (hG:Gl [2,4] c0) (f:Option Nat) (b:Int) (d:Int) {r:Sto} (i:Pt 0 c0 v1 f) (H:jL sg f b d=some r): Calls prog 192 #[v1,I b,I d] c0.w (aP c0 fun c v=>∃G_:Gm,Own c G_ (F)∧Rel c r G_∧v= .tuple #[]):=by
 unfold jL at H;refine en func192 rfl rfl (W.seq (bn H fun A P H=>W.join (Jn c0 fun c l=>Own c G (F)∧l= [(0,v1),(1,I b),(2,I d),(11,B A)]) ?_ ?_))
 ·clear H;refine W.region (va (I b) (va (B (decide (b≥0))) ?_));rcases bo (decide (b≥0)) with e | e
  ·have T:=anT e P;refine vb e (wa (I d) (wa (B (decide (d > 0))) ?_));obtain rfl:=si T;exact va (B (decide (d > 0))) (wln (jn c0 ⟨o,rfl⟩))
  obtain rfl:=anF e P;exact vb e (pz (va (B false) (wln (jn c0 ⟨o,rfl⟩))))
 rintro e_ w_ ⟨U,g7,_,rfl,l6,rfl,x,rfl⟩;refine nrm (cn H (fun D H=>?_) (fun D H=>?_))
 ·refine sr (va (I b) (va (v1) (bn H fun j E H=>cl (cF x h.m f i.m E) ?_)));rintro v19 Z e0 ⟨p,rfl⟩;refine bn H fun a M H=>cl (lZ p b 0 j M) ?_;rintro v26 a0 f0 ⟨q,rfl⟩;refine va (I a) (wln (W.region (va (v1) (vv (I a) (va (I d) (va (v1) (bn H fun k N H=>cl (cF q h.m f i.m N) ?_)))))));rintro v33 b0 g0 ⟨s,rfl⟩;refine bn H fun g R H=>cl (lZ s d 0 k R) ?_;rintro v40 d0 h0 ⟨t,rfl⟩;refine va (I (w64 (a+g))) (bn H fun X S H=>cl (mA t h.m (hG.m.le (by decide)) f a (w64 (a+g)) i.m S) ?_);rintro v47 z i0 ⟨n,u,y,rfl⟩;refine WL.nil ?_;obtain rfl:=si H;exact n0 (qq z ⟨n,u,y,rfl⟩)
 refine W.skip ?_;obtain rfl:=si H;exact n0 (qq U ⟨G,x,h.m,rfl⟩)
def kV (sg:Sto) (p0:Option Nat) (p1:Int):Option (Sto):=
 (bM sg p0).bind fun a=>
 (gx sg p0 p1 a).bind fun b=>
 some b
theorem vZ (l:Own c0 G F) (f:Rel c0 sg G) (hG:Gl [2,4] c0) (a:Option Nat) (b:Int) {r:Sto} (j:Pt 0 c0 v1 a) (H:kV sg a b=some r): Calls prog 243 #[v1,I b] c0.w (aP c0 fun c v=>∃G_:Gm,Own c G_ (F)∧Rel c r G_∧v= .tuple #[]):=by
 unfold kV at H;refine en func243 rfl rfl (W.region (va (v1) (va (I b) (va (v1) (bn H fun k o H=>cl (cF l f a j o) ?_)))));rintro v9 s t ⟨n,rfl⟩;refine bn H fun q i H=>cl (mA n f.m (hG.m.le (by decide)) a b k j.m i) ?_;rintro v16 h p ⟨d,e,g,rfl⟩;refine WL.nil ?_;obtain rfl:=si H;exact n0 (qq h ⟨d,e,g,rfl⟩)
def lO (sg:Sto) (p0:Option Nat) (p1:Int):Option (Sto):=
 (bM sg p0).bind fun a=>
 (fK p1 (-1) a).bind fun b=>
 (gx sg p0 0 (w64 (b+1))).bind fun c=>
 some c
theorem xC (p:Own c0 G F) (h:Rel c0 sg G) (hG:Gl [2,4] c0) (a:Option Nat) (b:Int) {r:Sto} (n:Pt 0 c0 v1 a) (H:lO sg a b=some r): Calls prog 244 #[v1,I b] c0.w (aP c0 fun c v=>∃G_:Gm,Own c G_ (F)∧Rel c r G_∧v= .tuple #[]):=by
 unfold lO at H;refine en func244 rfl rfl (W.region (va (v1) (va (I b) (va (v1) (bn H fun o s H=>cl (cF p h a n s) ?_)))));rintro v9 z A ⟨q,rfl⟩;refine bn H fun d k H=>cl (lZ q b (-1) o k) ?_;rintro v16 t u ⟨f,rfl⟩;refine va (I (w64 (d+1))) (bn H fun y l H=>cl (mA f h.m (hG.m.le (by decide)) a 0 (w64 (d+1)) n.m l) ?_);rintro v23 j x ⟨e,g,i,rfl⟩;refine WL.nil ?_;obtain rfl:=si H;exact n0 (qq j ⟨e,g,i,rfl⟩)
def kg (sg:Sto) (p0:Option Nat):Option (Sto):=
 (bM sg p0).bind fun a=>
 (gx sg p0 0 a).bind fun b=>
 (eY b p0 false).bind fun c=>
 some c
theorem uc (o:Own c0 G F) (g:Rel c0 sg G) (hG:Gl [2,4] c0) (a:Option Nat) {r:Sto} (b:Pt 0 c0 v1 a) (H:kg sg a=some r): Calls prog 245 #[v1] c0.w (aP c0 fun c v=>∃G_:Gm,Own c G_ (F)∧Rel c r G_∧v= .tuple #[]):=by
 unfold kg at H;refine en func245 rfl rfl (sr (vv (v1) (bn H fun n q H=>cl (cF o g a b q) ?_)));rintro v9 A D ⟨p,rfl⟩;refine bn H fun y k H=>cl (mA p g.m (hG.m.le (by decide)) a 0 n b.m k) ?_;rintro v16 t u ⟨s,e,h,rfl⟩;refine wln (W.region (va (v1) (bn H fun z l H=>cl (lY e h a false b.m l) ?_)));rintro v23 j x ⟨d,f,i,rfl⟩;refine WL.nil ?_;obtain rfl:=si H;exact n0 (qq j ⟨d,f,i,rfl⟩)
def dy (p0:List aa) (p1:Bool) (p2:Int) (p3:Int):Option ((List aa)×Bool):=
 if (decide ((bb 0 (aO p2 (p0.length:Int)))≥(bb 0 (aO p3 (p0.length:Int)))))=true then
 some (p0,p1)
 else
 (rep (w64 ((bb 0 (aO p3 (p0.length:Int))) - (bb 0 (aO p2 (p0.length:Int))))) (⟨0,([]:List Int)⟩:aa)).bind fun b=>
 (hU p0 p1 (bb 0 (aO p2 (p0.length:Int))) b).bind fun a=>
 some (a.1,a.2)
def kL (p0:List aa) (p1:Bool) (p2:Int) (p3:Int) (p4:Int):Option ((List aa)×Bool):=
 if (p2==0)=true then
 (dy p0 p1 p3 p4).bind fun b=>
 some (b.1,b.2)
 else
 if (p2==1)=true then
 if (decide (p3 < 0))=true then
 some (p0,p1)
 else
 (dy p0 p1 0 (w64 ((aO p3 (p0.length:Int))+1))).bind fun c=>
 some (c.1,c.2)
 else
 if (p2==2)=true then
 (dy p0 p1 p3 (p0.length:Int)).bind fun d=>
 some (d.1,d.2)
 else
 if (p2==3)=true then
 (dy p0 p1 0 (p0.length:Int)).bind fun g=>
 some (g.1,false)
 else
 (orE (decide (p3 < 0)) (some (decide (p4 < 1)))).bind fun e=>
 (orE e (some (decide (p3≥(p0.length:Int))))).bind fun f=>
 if f=true then
 some (p0,p1)
 else
 (dy p0 p1 p3 (w64 (p3+(aO p4 (p0.length:Int))))).bind fun a=>
 some (a.1,a.2)
end Go.Proofs.YtclmdpamofdoiaaGreatDoor
namespace Go.Proofs.YtclmdpamofdoiaaGreatDoor
open Go Go.Lt
set_option maxRecDepth 10000
set_option linter.unusedVariables false
attribute [local irreducible] W WL AC
theorem sJ {Q:Program} (w:World) (dT sT ty E:TypeId) (g o dLen dCap:Nat) (a:Addr) (sLen sCap n size:Nat) (us vs:List Value) (T:TypeId)
  (hu:Q.underlying dT=some (.slice E)) (hs:(Q.info? E).map (·.size)=some size) (hn:Nat.min sLen dLen=n) (hul:us.length=n * size)
  (hsrc:∀j v,us[j]? = some v→w.cell? (a.add j)=some v) (hrow:w.heap[g]? = some (.cells vs.toArray T (0,0))) (hl:o+us.length≤vs.length) (h1:∀v∈us,v.oneCell'=true):
  (Builtin.copy_ #[dT,sT] ty #[.slice (some ⟨g,o,none⟩) dLen dCap,.slice (some a) sLen sCap]).run Q w= .ok (goInt n) (w.setRow g (vs.take o++us++vs.drop (o+us.length)).toArray):=by
 obtain ⟨i,hi,hsz⟩:=Option.map_eq_some_iff.1 hs;have hf:=Ix (P:=Q) (w:=w) size n a sLen sCap us hul hsrc;have hst:=yc Q g o T us 0 vs.toArray w hrow (by simpa using hl) h1;simp only [qe] at hst;simp [Builtin.copy_,bL hu,Builtin.lenOf,sizeOf,typeInfo,hi,hsz,hn,hf,hst]
set_option maxHeartbeats 4000000 in
set_option maxRecDepth 100000 in
theorem BO {w:World} {g n cap i vb m vc:Nat} {vs us vs2:List Value} {T T2:TypeId} (hrow:w.heap[g]? = some (.cells vs.toArray T (0,0))) (hrow2:w.heap[vb]? = some (.cells vs2.toArray T2 (0,0)))
  (hi:i < n) (hm:0 < m) (hroom:n+m≤cap) (hcap:cap * 2≤vs.length) (hc63:cap≤9223372036854775807) (hvb:vb≠g) (hul:us.length=m * 2) (hus:∀(j:Nat) (v:Value),us[j]? = some v→vs2[j]? = some v)
  (h1:∀v∈vs.take (n * 2),v.oneCell'=true) (h2:∀v∈us,v.oneCell'=true):
  Calls Tryz.prog 250 #[.slice (some ⟨g,0,none⟩) n cap,.int .i64 i,.slice (some ⟨vb,0,none⟩) m vc] w fun e w'=>
   e= .returned (.slice (some ⟨g,0,none⟩) (n+m) cap)∧w'=(w.drew.setRow g (vs.take ((i+m) * 2)++(vs.drop (i * 2)).take ((n - i) * 2)++vs.drop ((n+m) * 2)).toArray).setRow g (vs.take (i * 2)++us++(vs.drop (i * 2)).take ((n - i) * 2)++vs.drop ((n+m) * 2)).toArray:=by
 have hsz:(Tryz.prog.info? 114).map (·.size)=some 2:=by kernel_rfl
 have hov:∀lb cb,(callFunc 284 #[.slice (some ⟨vb,0,none⟩) m vc,.slice (some ⟨g,(i+m) * 2,none⟩) lb cb]).run Tryz.prog w= .ok (.value (.bool false)) w:=fun lb cb=>by
  rw [run_callFunc_extern Tryz.func284 (by kernel_rfl) (by kernel_rfl) (by kernel_rfl) (e:=Extern.SlicesOverlaps.overlaps #[46,46] #[4]) (by kernel_rfl)];rw [Lib.run_overlaps_apart w 46 4 114 Tryz.underlying46 2 (fun w=>by kernel_rfl) ⟨vb,0,none⟩ ⟨g,(i+m) * 2,none⟩ m vc lb cb hvb T2 T vs2.length vs.length (by simp [World.shape?,hrow2]) (by simp [World.shape?,hrow]) (by omega) (by simp [World.frozen?,hrow2]) (by simp [World.frozen?,hrow2])];rfl
 have hdl:((vs.drop (i * 2)).take ((n - i) * 2)).length=(n - i) * 2:=by rw [az,bm]; omega
 have hcp1:∀ty dc sc,(Builtin.copy_ #[46,46] ty #[.slice (some ⟨g,(i+m) * 2,none⟩) (n+m - (i+m)) dc,.slice (some ⟨g,i * 2,none⟩) (n+m - i) sc]).run Tryz.prog w.drew= .ok (goInt ((n - i:Nat):Int)) (w.drew.setRow g (vs.take ((i+m) * 2)++(vs.drop (i * 2)).take ((n - i) * 2)++vs.drop ((n+m) * 2)).toArray):=fun ty dc sc=>by
  have:=sJ (Q:=Tryz.prog) w.drew 46 46 ty 114 g ((i+m) * 2) (n+m - (i+m)) dc ⟨g,i * 2,none⟩ (n+m - i) sc (n - i) 2 ((vs.drop (i * 2)).take ((n - i) * 2)) vs T Tryz.underlying46 hsz (by simp only [A8]; split <;> omega) hdl
   (fun j v hj=>by
    rw [dG];rw [aN] at hj;split at hj
    ·rw [bP] at hj;rw [iV w.drew g (i * 2+j) vs.toArray T (0,0) hrow,bV];exact hj
    ·cases hj) hrow (by rw [hdl]; omega) (fun v hv=>h1 v (by rw [show (n - i) * 2=n * 2 - i * 2 by omega,←fX] at hv; exact jG hv))
  rw [hdl,show (i+m) * 2+(n - i) * 2=(n+m) * 2 by omega] at this;exact this
 obtain ⟨W1,hW1⟩:∃W1,W1=w.drew.setRow g (vs.take ((i+m) * 2)++(vs.drop (i * 2)).take ((n - i) * 2)++vs.drop ((n+m) * 2)).toArray:=⟨_,rfl⟩;have hr1:W1.heap[g]? = some (.cells (vs.take ((i+m) * 2)++(vs.drop (i * 2)).take ((n - i) * 2)++vs.drop ((n+m) * 2)).toArray T (0,0)):=by
  rw [hW1];exact Am w.drew g vs.toArray _ T (0,0) hrow
 have hr2:W1.heap[vb]? = some (.cells vs2.toArray T2 (0,0)):=by
  rw [hW1,Ga w.drew g vb _ hvb];exact hrow2
 have hA2:(vs.take ((i+m) * 2)++(vs.drop (i * 2)).take ((n - i) * 2)++vs.drop ((n+m) * 2)).take (i * 2)=vs.take (i * 2):=by
  rw [aF,dF (by rw [az]; omega),ku,cC (by omega)]
 have hA3:(vs.take ((i+m) * 2)++(vs.drop (i * 2)).take ((n - i) * 2)++vs.drop ((n+m) * 2)).drop (i * 2+m * 2)=(vs.drop (i * 2)).take ((n - i) * 2)++vs.drop ((n+m) * 2):=by
  have hl:(vs.take ((i+m) * 2)).length=i * 2+m * 2:=by rw [az]; omega
  rw [aF,←hl,jl]
 have hcp2:∀ty dc,(Builtin.copy_ #[46,46] ty #[.slice (some ⟨g,i * 2,none⟩) (n+m - i) dc,.slice (some ⟨vb,0,none⟩) m vc]).run Tryz.prog W1= .ok (goInt m) (W1.setRow g (vs.take (i * 2)++us++(vs.drop (i * 2)).take ((n - i) * 2)++vs.drop ((n+m) * 2)).toArray):=fun ty dc=>by
  have:=sJ (Q:=Tryz.prog) W1 46 46 ty 114 g (i * 2) (n+m - i) dc ⟨vb,0,none⟩ m vc m 2 us _ T Tryz.underlying46 hsz (by simp only [A8]; split <;> omega) hul
   (fun j v hj=>by
    rw [dG,iV W1 vb (0+j) vs2.toArray T2 (0,0) hr2,bV,gI];exact hus j v hj) hr1 (by simp only [av,az,bm]; omega) h2
  rw [hul,hA2,hA3,←aF] at this;exact this
 rw [←hW1] at hcp1⊢;have hw1:IntKind.i64.wrap ((i:Int)+(m:Int))=(i:Int)+(m:Int):=by rw [Ag]; omega
 have hb1:(0:Int)≤(i:Int)+(m:Int):=by omega
 have hin:i≤n:=by omega
 have hz1:¬((m:Int)=0):=by omega
 have hz2:¬((i:Int)=(n:Int)):=by omega
 have htn:((i:Int)+(m:Int)).toNat=i+m:=by omega
 have hb2:¬(cap=i+m):=by omega
 have hb3:(i:Int)≤(n:Int)+(m:Int):=by omega
 have hb4:¬(cap=i):=by omega
 have mixed:Tryz.prog.follows Departure.mixedOrders=true:=by kernel_rfl
 clear hA2 hA3 hr1 hr2 hW1 hdl h1 h2 hus hul
 go_enter Tryz.func250,Tryz.ntmps250
 go_wp2_with (simp only [hov])
 go_region_law_o (refine step_copy_runI rfl _ _ 46 46 rfl _ _ (by simp [Act.eval,Act.put]) (by simp [Act.eval,Act.put]) (hcp1 _ _ _) ?_)
 go_wp2_with (at_builtin; refine wpList_copy_runI _ rfl _ _ 46 46 rfl _ _ rfl rfl (hcp2 _ _) ?_)
 go_ret
 exact ⟨rfl,by simp only [aF]⟩
def nL (k:Nat):List Value:=(Builtin.zeroCells (Value.agg #[.int .i64 0,.slice none 0 0]).cells k).toList
theorem oA (k:Nat):(nL k).length=k * 2:=by
 unfold nL;rw [wm,mV];rfl
set_option maxHeartbeats 4000000 in
set_option maxRecDepth 100000 in
theorem Da {w:World} {g n cap i vb m vc:Nat} {vs us vs2:List Value} {T T2:TypeId} (hrow:w.heap[g]? = some (.cells vs.toArray T (0,0))) (hrow2:w.heap[vb]? = some (.cells vs2.toArray T2 (0,0)))
  (hi:i < n) (hm:0 < m) (hnc:n≤cap) (hroom:cap < n+m) (hcap:cap * 2≤vs.length) (hbig:(n+m) * 128≤140737488355328) (hul:us.length=m * 2) (hus:∀(j:Nat) (v:Value),us[j]? = some v→vs2[j]? = some v)
  (h1:∀v∈vs.take (n * 2),v.oneCell'=true) (h2:∀v∈us,v.oneCell'=true):
  Calls Tryz.prog 250 #[.slice (some ⟨g,0,none⟩) n cap,.int .i64 i,.slice (some ⟨vb,0,none⟩) m vc] w fun e w'=>
   e= .returned (.slice (some ⟨w.heap.size,0,none⟩) (n+m) (grownCap w (n+m) cap 114))∧
   w'=(((w.drew.alloc (.cells (vs.take (i * 2)++nL (n+m - i)++nL (grownCap w (n+m) cap 114 - (n+m))).toArray 114)).setRow w.heap.size (vs.take (i * 2)++us++(nL (n+m - i)++nL (grownCap w (n+m) cap 114 - (n+m))).drop (m * 2)).toArray).drew).setRow w.heap.size
    (vs.take (i * 2)++us++(vs.drop (i * 2)).take ((n - i) * 2)++(nL (n+m - i)++nL (grownCap w (n+m) cap 114 - (n+m))).drop ((n+m - i) * 2)).toArray:=by
 have hsz:(Tryz.prog.info? 114).map (·.size)=some 2:=by kernel_rfl
 obtain ⟨ti,hti,hzz⟩:=Option.map_eq_some_iff.1 (show (Tryz.prog.info? 114).map (fun i=>(i.zero,i.size,i.bytes))=some (some (Value.agg #[.int .i64 0,.slice none 0 0]),2,32) by kernel_rfl);simp only [fM] at hzz;obtain ⟨hz0,hz3,hz4⟩:=hzz;have hold:(Builtin.firstCells ti.size i (.slice (some ⟨g,0,none⟩) i cap)).run Tryz.prog w.drew= .ok (vs.take (i * 2)).toArray w.drew:=by
  rw [hz3];exact Ix w.drew 2 i ⟨g,0,none⟩ i cap (vs.take (i * 2)) (by rw [az]; omega) (fun j v hj=>by
   rw [dG,gI,iV w.drew g j vs.toArray T (0,0) hrow,bV];rw [aN] at hj;split at hj
   ·exact hj
   ·cases hj)
 obtain ⟨N,hN⟩:∃N,N=w.heap.size:=⟨_,rfl⟩;obtain ⟨Gc,hGc⟩:∃Gc,Gc=grownCap w (n+m) cap 114:=⟨_,rfl⟩;obtain ⟨Zs,hZs⟩:∃Zs,Zs=nL (n+m - i)++nL (Gc - (n+m)):=⟨_,rfl⟩;have hZl:Zs.length=(n+m - i) * 2+(Gc - (n+m)) * 2:=by rw [hZs,av,oA,oA]
 obtain ⟨W2,hW2⟩:∃W2,W2=w.drew.alloc (.cells (vs.take (i * 2)++Zs).toArray 114):=⟨_,rfl⟩;have hkk:(n:Int)+(m:Int) - (i:Int)=((n+m - i:Nat):Int):=by omega
 have hrz:∀ty,(Builtin.append_ #[46,3] ty #[.slice (some ⟨g,0,none⟩) i cap,.int .i64 ((n:Int)+(m:Int) - (i:Int))]).run Tryz.prog w= .ok (.slice (some ⟨N,0,none⟩) (n+m) Gc) W2:=fun ty=>by
  have h:=Lib.run_append_grow_zeros (P:=Tryz.prog) w 46 3 ty 114 ti _ .i64 .i64 Tryz.underlying46 Tryz.underlying3 hti hz0 (some ⟨g,0,none⟩) i cap (vs.take (i * 2)) hold (n+m - i) (by omega) (by omega) (by omega) (by omega) (by rw [hz4]; omega) (by rw [hz4,show i+(n+m - i)=n+m by omega]; exact Dc hroom (by omega));rw [show i+(n+m - i)=n+m by omega] at h;rw [hkk,hN,hGc,hW2,h,hZs,←hGc]
  congr 3
  rw [←aF];apply D7;simp [nL]
 have hNg:g < N:=by rw [hN]; exact (Array.getElem?_eq_some_iff.1 hrow).1
 have hNv:vb < N:=by rw [hN]; exact (Array.getElem?_eq_some_iff.1 hrow2).1
 have r2N:W2.heap[N]? = some (.cells (vs.take (i * 2)++Zs).toArray 114 (0,0)):=by
  rw [hW2,hN];exact heap_alloc_new w.drew _
 have r2g:W2.heap[g]? = some (.cells vs.toArray T (0,0)):=by
  rw [hW2,dZ w.drew _ g (by rw [hN] at hNg; exact hNg)];exact hrow
 have r2v:W2.heap[vb]? = some (.cells vs2.toArray T2 (0,0)):=by
  rw [hW2,dZ w.drew _ vb (by rw [hN] at hNv; exact hNv)];exact hrow2
 have ht:(vs.take (i * 2)).length=i * 2:=by rw [az]; omega
 have hGe:n+m≤Gc:=by rw [hGc]; exact AM w _ _ _
 obtain ⟨W3,hW3⟩:∃W3,W3=W2.setRow N (vs.take (i * 2)++us++Zs.drop (m * 2)).toArray:=⟨_,rfl⟩;have hcpA:∀ty dc,(Builtin.copy_ #[46,46] ty #[.slice (some ⟨N,i * 2,none⟩) (n+m - i) dc,.slice (some ⟨vb,0,none⟩) m vc]).run Tryz.prog W2= .ok (goInt m) W3:=fun ty dc=>by
  have:=sJ (Q:=Tryz.prog) W2 46 46 ty 114 N (i * 2) (n+m - i) dc ⟨vb,0,none⟩ m vc m 2 us _ 114 Tryz.underlying46 hsz (by simp only [A8]; split <;> omega) hul
   (fun j v hj=>by
    rw [dG,iV W2 vb (0+j) vs2.toArray T2 (0,0) r2v,bV,gI];exact hus j v hj) r2N (by simp only [av,ht,hZl]; omega) h2
  rw [hul,dF (by omega),aH (by omega),←de,List.drop_left' ht] at this;rw [hW3];exact this
 have r3N:W3.heap[N]? = some (.cells (vs.take (i * 2)++us++Zs.drop (m * 2)).toArray 114 (0,0)):=by
  rw [hW3];exact Am W2 N _ _ _ (0,0) r2N
 have r3g:W3.heap[g]? = some (.cells vs.toArray T (0,0)):=by
  rw [hW3,Ga W2 N g _ (by omega)];exact r2g
 have hcpB:∀ty dc sc,(Builtin.copy_ #[46,46] ty #[.slice (some ⟨N,(i+m) * 2,none⟩) (n+m - (i+m)) dc,.slice (some ⟨g,i * 2,none⟩) (n - i) sc]).run Tryz.prog W3.drew= .ok (goInt ((n - i:Nat):Int)) (W3.drew.setRow N (vs.take (i * 2)++us++(vs.drop (i * 2)).take ((n - i) * 2)++Zs.drop ((n+m - i) * 2)).toArray):=fun ty dc sc=>by
  have hdl:((vs.drop (i * 2)).take ((n - i) * 2)).length=(n - i) * 2:=by rw [az,bm]; omega
  have hau:(vs.take (i * 2)++us).length=(i+m) * 2:=by rw [av,ht,hul]; omega
  have:=sJ (Q:=Tryz.prog) W3.drew 46 46 ty 114 N ((i+m) * 2) (n+m - (i+m)) dc ⟨g,i * 2,none⟩ (n - i) sc (n - i) 2 ((vs.drop (i * 2)).take ((n - i) * 2)) _ 114 Tryz.underlying46 hsz (by simp only [A8]; split <;> omega) hdl
   (fun j v hj=>by
    rw [dG];rw [aN] at hj;split at hj
    ·rw [bP] at hj;rw [iV W3.drew g (i * 2+j) vs.toArray T (0,0) r3g,bV];exact hj
    ·cases hj) r3N (by rw [hdl,av,hau,bm,hZl]; omega) (fun v hv=>h1 v (by rw [show (n - i) * 2=n * 2 - i * 2 by omega,←fX] at hv; exact jG hv))
  rw [hdl] at this;rw [this]
  congr 3
  rw [←hau,DX,←de,jl,de,show m * 2+(n - i) * 2=(n+m - i) * 2 by omega]
 have hN2:w.heap.size=N:=hN.symm;have hG2:grownCap w (n+m) cap 114=Gc:=hGc.symm;rw [hG2,←hZs,show vs.take (i * 2)++nL (n+m - i)++nL (Gc - (n+m))=vs.take (i * 2)++Zs by rw [hZs,aF],hN2,←hW2,←hW3];have hG63:Gc≤9223372036854775807:=by
  have:=qp w (n+m) cap 114 (by unfold maxLen; omega);rw [←hGc] at this;unfold maxLen at this;omega
 have hGi:¬(Gc=i):=by omega
 have hGim:¬(Gc=i+m):=by omega
 have hci:¬(cap=i):=by omega
 have hw1:IntKind.i64.wrap ((i:Int)+(m:Int))=(i:Int)+(m:Int):=by rw [Ag]; omega
 have hb1:(0:Int)≤(i:Int)+(m:Int):=by omega
 have hin:i≤n:=by omega
 have htn:((i:Int)+(m:Int)).toNat=i+m:=by omega
 have hb3:(i:Int)≤(n:Int):=by omega
 have hz1:¬((m:Int)=0):=by omega
 have hz2:¬((i:Int)=(n:Int)):=by omega
 have hz5:(cap:Int) < (n:Int)+(m:Int):=by omega
 have mixed:Tryz.prog.follows Departure.mixedOrders=true:=by kernel_rfl
 clear hkk hold hZs hZl hW2 hW3 r2N r2g r2v r3N r3g hN hN2 hG2 hGc ht hti hz0 hz3 hz4 h1 h2 hus hul hNg hNv hrow hrow2
 go_enter Tryz.func250,Tryz.ntmps250
 go_wp2_with (first
  | (at_builtin; refine Lib.wpList_append_run _ rfl _ _ _ _ rfl _ _ rfl rfl _ _ (hrz _) ?_)
  | (at_builtin; refine wpList_copy_runI _ rfl _ _ 46 46 rfl _ _ rfl rfl (hcpA _ _) ?_))
 go_region_law_o (refine step_copy_runI rfl _ _ 46 46 rfl (.slice (some ⟨N,(i+m) * 2,none⟩) (n+m - (i+m)) (Gc - (i+m))) (.slice (some ⟨g,i * 2,none⟩) (n - i) (cap - i)) (by simp [Act.eval,Act.put]) (by simp [Act.eval,Act.put]) (hcpB _ _ _) ?_)
 go_wp2
 go_ret
 exact ⟨rfl,by simp only [aF]⟩
section
variable {c c':Cx} {α:Type} {R:Rp α}
theorem _root_.Go.Lt.AR.take {vs:List Value} {xs:List α} (h:AR R c vs xs) (k:Nat):AR R c (vs.take (k * R.size)) (xs.take k):=fun i x hx=>by
 rw [aN] at hx;split at hx
 ·rename_i hik
  have hm:=iI (s:=R.size) hik;rw [fX,ku,cC (by omega)];exact h i x hx
 ·cases hx
theorem _root_.Go.Lt.AR.drop {vs:List Value} {xs:List α} (h:AR R c vs xs) (k:Nat):AR R c (vs.drop (k * R.size)) (xs.drop k):=fun i x hx=>by
 rw [bP] at hx;rw [de,←eu];exact h _ x hx
theorem _root_.Go.Lt.AR.more {vs ts:List Value} {xs:List α} (h:AR R c vs xs) (hl:xs.length * R.size≤vs.length):AR R c (vs++ts) xs:=fun i x hx=>by
 have hi:=(List.getElem?_eq_some_iff.1 hx).1;have hm:=iI (s:=R.size) hi;rw [fN (by omega)];exact h i x hx
theorem _root_.Go.Lt.AR.app {vs us:List Value} {xs ys:List α} (h:AR R c vs xs) (hl:vs.length=xs.length * R.size) (k:AR R c us ys):AR R c (vs++us) (xs++ys):=fun i x hx=>by
 rw [ft] at hx;split at hx
 ·rename_i hi
  have hm:=iI (s:=R.size) hi;rw [fN (by omega)];exact h i x hx
 ·rename_i hi
  rw [show i * R.size=vs.length+(i - xs.length) * R.size by rw [hl,←eu]; congr 1; omega,←de,jl];exact k _ x hx
theorem _root_.Go.Lt.AR.ones {vs:List Value} {xs:List α} (h:AR R c vs xs) (hp:0 < R.size):∀v∈vs.take (xs.length * R.size),v.oneCell'=true:=fun v hv=>by
 obtain ⟨j,hj⟩:=List.mem_iff_getElem?.1 hv;rw [aN] at hj;split at hj
 ·rename_i hlt
  have hq:j / R.size < xs.length:=by rw [Nat.div_lt_iff_lt_mul hp]; exact hlt
  have hc:=h _ _ (af hq);refine R.one hc v (List.mem_iff_getElem?.2 ⟨j % R.size,?_⟩);rw [aN,ae (DW _ hp),bP,Nat.mul_comm,Nat.div_add_mod];exact hj
 ·cases hj
end
def jA (p0:List aa) (p1:Int) (p2:List aa):Option (List aa):=if 0≤p1∧p1 < p0.length∧1≤p2.length∧p0.length+p2.length≤far then some (p0.take p1.toNat++p2++p0.drop p1.toNat) else none
theorem _root_.Go.Lt.OA.some {c:Cx} {α:Type} {R:Rp α} {v:Value} {vs:List Value} {xs:List α} (h:OA R c v vs xs) (hn:1≤xs.length):∃g cap,v= .slice (some ⟨g,0,none⟩) xs.length cap∧xs.length≤cap∧cap≤maxLen∧cap * R.size≤vs.length∧AR R c vs xs:=by
 rcases h.2.1 with ⟨_,rfl⟩ | ⟨g,cap,h1,h2,h3,h4⟩
 ·simp at hn
 ·exact ⟨g,cap,h1,h2,h3,h4,h.2.2⟩
theorem ui {c0:Cx} {G:Gm} {F:List En} {v0 v2:Value} {u0 u2:List Value} (p0:List aa) (p1:Int) (p2:List aa) (O0:Own c0 G (es true aw v0 114 u0 p0 :: es true aw v2 114 u2 p2 :: F)) (h0:OA aw c0 v0 u0 p0) (h2:OA aw c0 v2 u2 p2) {r:List aa} (H:jA p0 p1 p2=some r): Calls Tryz.prog 250 #[v0,.int .i64 p1,v2] c0.w (aP c0 fun c v=>∃y1:Value,∃y2:List Value,Own c G (es true aw y1 114 y2 r :: F)∧v=y1∧OA aw c y1 y2 r):=by
 unfold jA at H;split at H
 ·rename_i hc;obtain ⟨hc1,hc2,hc3,hc4⟩:=hc;obtain ⟨i,rfl⟩:∃i:Nat,p1=(i:Int):=⟨p1.toNat,by omega⟩;rw [bT] at H;obtain rfl:=bi H;obtain ⟨g,cap,rfl,a1,a2,a3,a4⟩:=h0.some (by omega);obtain ⟨vb,vc,rfl,b1,b2,b3,b4⟩:=h2.some hc3;have hsz:aw.size=2:=rfl;have hon0:=O0.on 0 rfl g rfl;have hon2:=O0.on 1 rfl vb rfl;have hne:vb≠g:=fun e=>O0.m.2 (.inl 0) (.inl 1) _ _ rfl rfl (by simp) g rfl (by rw [←e]; rfl);have o0:=a4.ones (by decide);have o2:=b4.ones (by decide);rw [hsz] at o0 o2 a3 b3;unfold maxLen at a2 b2;unfold far at hc4;have ht0:(u0.take (i * 2)).length=i * 2:=by rw [az]; omega
  have ht2:(u2.take (p2.length * 2)).length=p2.length * 2:=by rw [az]; omega
  have htl:((u0.drop (i * 2)).take ((p0.length - i) * 2)).length=(p0.length - i) * 2:=by rw [az,bm]; omega
  have hus:∀(j:Nat) (v:Value),(u2.take (p2.length * 2))[j]? = some v→u2[j]? = some v:=fun j v hj=>by
   rw [aN] at hj;split at hj
   ·exact hj
   ·cases hj
  have hAR:∀(c:Cx) (ts:List Value),c0.le c→AR aw c (u0.take (i * 2)++u2.take (p2.length * 2)++(u0.drop (i * 2)).take ((p0.length - i) * 2)++ts) (p0.take i++p2++p0.drop i):=fun c ts hle=>by
   have k0:AR aw c (u0.take (i * 2)) (p0.take i):=(a4.take i).mono hle;have k2:AR aw c (u2.take (p2.length * 2)) p2:=by
    have:=(b4.take p2.length).mono hle;rwa [aH (ay p2.length)] at this
   have k1:AR aw c ((u0.drop (i * 2)).take ((p0.length - i) * 2)) (p0.drop i):=by
    have:=((a4.drop i).take (p0.length - i)).mono hle;rwa [aH (l:=p0.drop i) (by rw [bm]; exact ay _)] at this
   refine AR.more (AR.app (AR.app k0 ?_ k2) ?_ k1) ?_
   ·rw [ht0,az,cC (by omega),hsz]
   ·rw [av,ht0,ht2,av,az,cC (by omega),hsz,eu]
   ·simp only [av];rw [ht0,ht2,htl,az,bm,cC (by omega),hsz];omega
  have hrl:(p0.take i++p2++p0.drop i).length=p0.length+p2.length:=by
   rw [av,av,az,bm];omega
  rcases aG cap (p0.length+p2.length) with hg | hg
  ·refine (Da (vs:=u0) (us:=u2.take (p2.length * 2)) (vs2:=u2) hon0.1 hon2.1 (by omega) (by omega) a1 hg a3 (by omega) ht2 hus o0 o2).mono ?_;rintro e w' ⟨rfl,rfl⟩;obtain ⟨Gc,hGc⟩:∃Gc,Gc=grownCap c0.w (p0.length+p2.length) cap 114:=⟨_,rfl⟩;have hGe:p0.length+p2.length≤Gc:=by rw [hGc]; exact AM _ _ _ _
   have hGm:Gc≤maxLen:=by rw [hGc]; exact qp _ _ _ _ (by unfold maxLen; omega)
   rw [←hGc];obtain ⟨Zs,hZs⟩:∃Zs,Zs=nL (p0.length+p2.length - i)++nL (Gc - (p0.length+p2.length)):=⟨_,rfl⟩;have hZl:Zs.length=(p0.length+p2.length - i) * 2+(Gc - (p0.length+p2.length)) * 2:=by rw [hZs,av,oA,oA]
   rw [aF (u0.take (i * 2)),←hZs];have hd:=Cx.drew_le c0;obtain ⟨c1,e1,e2,e3,e4,e5⟩:=Cx.new ⟨c0.w.drew,c0.A,c0.t⟩ (u0.take (i * 2)++Zs) 114 0;have O1:=Own.cons (O0.keep hd) e2 (fun _=>id) (e:=⟨.slice (some ⟨c0.w.heap.size,0,none⟩) (p0.length+p2.length) Gc,114,u0.take (i * 2)++Zs,0⟩) (fun b hb=>by
    simp only [blk,aK] at hb;subst hb;exact ⟨e3,e5⟩) (fun b hb=>by
    simp only [blk,aK] at hb;subst hb;exact ay _)
   obtain ⟨c2,f1,f2,f3,f4⟩:=Cx.row (m:=u0.take (i * 2)++u2.take (p2.length * 2)++Zs.drop (p2.length * 2)) e3 0 e5 (fun o ho=>by omega) 0 (ay _);have O2:=Own.set O1 0 rfl f2 (fun b hb=>by rw [hb]; rfl) (e':=⟨.slice (some ⟨c0.w.heap.size,0,none⟩) (p0.length+p2.length) Gc,114,u0.take (i * 2)++u2.take (p2.length * 2)++Zs.drop (p2.length * 2),0⟩) (fun b hb=>by
    simp only [blk,aK] at hb;subst hb;exact ⟨f3,f4⟩) (fun b hb=> .inl hb)
   have hd2:=Cx.drew_le c2;obtain ⟨c3,g1,g2,g3,g4⟩:=Cx.row (c:=⟨c2.w.drew,c2.A,c2.t⟩) (m:=u0.take (i * 2)++u2.take (p2.length * 2)++(u0.drop (i * 2)).take ((p0.length - i) * 2)++Zs.drop ((p0.length+p2.length - i) * 2)) (T:=114) (b:=c0.w.heap.size) f3 0 f4 (fun o ho=>by omega) 0 (ay _);have O3:=Own.set (O2.keep hd2) 0 rfl g2 (fun b hb=>by rw [hb]; rfl) (e':=es true aw (.slice (some ⟨c0.w.heap.size,0,none⟩) (p0.length+p2.length) Gc) 114 (u0.take (i * 2)++u2.take (p2.length * 2)++(u0.drop (i * 2)).take ((p0.length - i) * 2)++Zs.drop ((p0.length+p2.length - i) * 2)) (p0.take i++p2++p0.drop i)) (fun b hb=>by
    simp only [es,blk,aK] at hb;subst hb;exact ⟨g3,g4⟩) (fun b hb=> .inl hb)
   have hle:=hd.le.trans (e2.le.trans (f2.le.trans (hd2.le.trans g2.le)));have O4:=O3.selD 3 [0] (by kernel_rfl) (by kernel_rfl);refine ⟨_,c3,rfl,by rw [g1]; show _=(c2.w.drew).setRow _ _; rw [f1,e1]; rfl,hle,_,_,O4,rfl,by decide,.inr ⟨_,Gc,by rw [hrl],by rw [hrl]; exact hGe,hGm,?_⟩,hAR c3 _ hle⟩;rw [hsz,av,av,av,ht0,ht2,htl,bm,hZl];omega
  ·refine (BO (vs:=u0) (us:=u2.take (p2.length * 2)) (vs2:=u2) hon0.1 hon2.1 (by omega) (by omega) hg a3 a2 hne ht2 hus o0 o2).mono ?_;rintro e w' ⟨rfl,rfl⟩;have hd:=Cx.drew_le c0;obtain ⟨c2,f1,f2,f3,f4⟩:=Cx.row (c:=⟨c0.w.drew,c0.A,c0.t⟩) (l:=u0) (T:=114) (b:=g) (m:=u0.take ((i+p2.length) * 2)++(u0.drop (i * 2)).take ((p0.length - i) * 2)++u0.drop ((p0.length+p2.length) * 2)) hon0.1 0 hon0.2 (fun o ho=>by omega) 0 (ay _);have O2:=Own.set (O0.keep hd) 0 rfl f2 (fun b hb=>by rw [hb]; rfl) (e':=⟨.slice (some ⟨g,0,none⟩) p0.length cap,114,u0.take ((i+p2.length) * 2)++(u0.drop (i * 2)).take ((p0.length - i) * 2)++u0.drop ((p0.length+p2.length) * 2),0⟩) (fun b hb=>by
    simp only [blk,aK] at hb;subst hb;exact ⟨f3,f4⟩) (fun b hb=> .inl hb)
   obtain ⟨c3,g1,g2,g3,g4⟩:=Cx.row (c:=c2) (m:=u0.take (i * 2)++u2.take (p2.length * 2)++(u0.drop (i * 2)).take ((p0.length - i) * 2)++u0.drop ((p0.length+p2.length) * 2)) (T:=114) (b:=g) f3 0 f4 (fun o ho=>by omega) 0 (ay _);have O3:=Own.set O2 0 rfl g2 (fun b hb=>by rw [hb]; rfl) (e':=es true aw (.slice (some ⟨g,0,none⟩) (p0.length+p2.length) cap) 114 (u0.take (i * 2)++u2.take (p2.length * 2)++(u0.drop (i * 2)).take ((p0.length - i) * 2)++u0.drop ((p0.length+p2.length) * 2)) (p0.take i++p2++p0.drop i)) (fun b hb=>by
    simp only [es,blk,aK] at hb;subst hb;exact ⟨g3,g4⟩) (fun b hb=> .inl hb)
   have hle:=hd.le.trans (f2.le.trans g2.le);have O4:=O3.selD 2 [0] (by kernel_rfl) (by kernel_rfl);refine ⟨_,c3,rfl,by rw [g1,f1],hle,_,_,O4,rfl,by decide,.inr ⟨g,cap,by rw [hrl],by rw [hrl]; exact hg,by unfold maxLen; exact a2,?_⟩,hAR c3 _ hle⟩;rw [hsz,av,av,av,ht0,ht2,htl,bm];omega
 ·cases H
theorem Db (k:Nat):∀v∈nL k,v.oneCell'=true:=fun v hv=>by
 unfold nL Builtin.zeroCells at hv;simp only [Jj,List.mem_map] at hv;obtain ⟨a,_,rfl⟩:=hv;have h2:(Value.agg #[.int .i64 0,.slice none 0 0]).cells= #[.int .i64 0,.slice none 0 0]:=rfl;rw [h2];show (#[Value.int .i64 0,Value.slice none 0 0][a % 2]!).oneCell'=true;rcases Nat.mod_two_eq_zero_or_one a with h | h <;> rw [h] <;> rfl
theorem rU {P:Program} {ops:Array Oper} {o:Oper} {a:Act} {w:World} {K:Act→World→Prop} {Q:Exit→Act→World→Prop} {E:Prop}
  (hg:o.guard=none) (d x:Operand) (dT sT:TypeId) (hop:o.op=Op.call { callee:=Callee.builtin Builtin.append,args:= #[d,x],argTypes:= #[dT,sT]})
  (v u:Value) (hd:a.eval d=v) (hx:a.eval x=u) {v':Value} {w':World} (hr:(Builtin.append_ #[dT,sT] o.type #[v,u]).run P w= .ok v' w') (hK:K (a.put o.dst v') w'):
  if Region.wanted o (yielded ops a.tmps)=true then Oper.wp P o a w K Q else E:=by
 have hw:Region.wanted o (yielded ops a.tmps)=true:=by simp [Region.wanted,hg]
 rw [ae hw];unfold Oper.wp;simp [execOp,hop,resolve,invoke,builtin,hd,hx,hr,Result.andThen];exact hK
theorem rR {P:Program} (w:World) {ops:Array Oper} {rest:List Oper} {o:Oper} {a:Act} {Q:Exit→Act→World→Prop} (hgd:o.guard=none) (d:Operand) (t:TypeId)
  (ho:o.op= .call { callee:= .builtin .clear,args:= #[d],argTypes:= #[t]}) (v:Value) (hd:a.eval d=v) {v':Value} {w':World}
  (hr:(Builtin.clear_ #[t] o.type #[v]).run P w= .ok v' w') (h:wpList P ops Q rest (a.put o.dst v') w'):wpList P ops Q (o :: rest) a w:=
 wpList_plain hgd fun _ hK=>by
  unfold Oper.wp execOp;simp only [ho,resolve,invoke,builtin,kN,zi,nF,List.map_toArray,rP,List.map_nil,hd,hr];exact hK _ _ h
theorem BZ {Q:Program} (w:World) (t ty E:TypeId) (g o k c:Nat) (z:Value) (vs:List Value) (T:TypeId) (hk:k≠0)
  (hu:Q.underlying t=some (.slice E)) (hz:∀w,(zeroValue E).run Q w= .ok z w) (hrow:w.heap[g]? = some (.cells vs.toArray T (0,0))) (hl:o+(Builtin.zeroCells z.cells k).toList.length≤vs.length) (h1:∀v∈(Builtin.zeroCells z.cells k).toList,v.oneCell'=true):
  (Builtin.clear_ #[t] ty #[.slice (some ⟨g,o,none⟩) k c]).run Q w= .ok (.tuple #[]) (w.setRow g (vs.take o++(Builtin.zeroCells z.cells k).toList++vs.drop (o+(Builtin.zeroCells z.cells k).toList.length)).toArray):=by
 have hst:=yc Q g o T (Builtin.zeroCells z.cells k).toList 0 vs.toArray w hrow (by simpa using hl) h1;simp only [qe] at hst
 cases k with
 | zero=>exact absurd rfl hk
 | succ k=>
  simp [Builtin.clear_,bL hu,hz,hst]
set_option maxHeartbeats 4000000 in
set_option maxRecDepth 100000 in
theorem Fa {w:World} {g n cap i j:Nat} {vs:List Value} (hrow:w.heap[g]? = some (.cells vs.toArray 114 (0,0)))
  (hij:i < j) (hjn:j≤n) (hnc:n≤cap) (hcap:cap * 2≤vs.length) (hc63:cap≤9223372036854775807) (h1:∀v∈vs.take (n * 2),v.oneCell'=true):
  Calls Tryz.prog 253 #[.slice (some ⟨g,0,none⟩) n cap,.int .i64 i,.int .i64 j] w fun e w'=>
   e= .returned (.slice (some ⟨g,0,none⟩) (i+(n - j)) cap)∧w'=(w.drew.setRow g (vs.take (i * 2)++(vs.drop (j * 2)).take ((n - j) * 2)++vs.drop ((i+(n - j)) * 2)).toArray).setRow g
    (vs.take (i * 2)++(vs.drop (j * 2)).take ((n - j) * 2)++nL (j - i)++vs.drop (n * 2)).toArray:=by
 obtain ⟨ti,hti,hzz⟩:=Option.map_eq_some_iff.1 (show (Tryz.prog.info? 114).map (fun i=>i.size)=some 2 by kernel_rfl);have hul:((vs.drop (j * 2)).take ((n - j) * 2)).length=(n - j) * 2:=by rw [az,bm]; omega
 have ht:(vs.take (i * 2)).length=i * 2:=by rw [az]; omega
 obtain ⟨W1,hW1⟩:∃W1,W1=w.drew.setRow g (vs.take (i * 2)++(vs.drop (j * 2)).take ((n - j) * 2)++vs.drop ((i+(n - j)) * 2)).toArray:=⟨_,rfl⟩;have hap:∀ty a k,(∀x v,((vs.drop (j * 2)).take ((n - j) * 2))[x]? = some v→w.drew.cell? (a.add x)=some v)→
   (Builtin.append_ #[46,46] ty #[.slice (some ⟨g,0,none⟩) i cap,.slice (some a) (n - j) k]).run Tryz.prog w.drew= .ok (.slice (some ⟨g,0,none⟩) (i+(n - j)) cap) W1:=fun ty a k hx=>by
  have:=Bp (P:=Tryz.prog) w.drew 46 ty 114 ti Tryz.underlying46 hti g i cap vs.toArray hrow a (n - j) k ((vs.drop (j * 2)).take ((n - j) * 2)) (by rw [hul,hzz]) hx (fun v hv=>h1 v (by rw [show (n - j) * 2=n * 2 - j * 2 by omega,←fX] at hv; exact jG hv)) (by omega) (by rw [hzz,hul]; simp; omega);rw [this,hW1,hzz,hul];simp only [List.toList_toArray,rq];rw [show i * 2+(n - j) * 2=(i+(n - j)) * 2 by omega]
 have hr1:W1.heap[g]? = some (.cells (vs.take (i * 2)++(vs.drop (j * 2)).take ((n - j) * 2)++vs.drop ((i+(n - j)) * 2)).toArray 114 (0,0)):=by
  rw [hW1];exact Am w.drew g vs.toArray _ 114 (0,0) hrow
 have hau:(vs.take (i * 2)++(vs.drop (j * 2)).take ((n - j) * 2)).length=(i+(n - j)) * 2:=by rw [av,ht,hul]; omega
 have hcl:∀ty c,(Builtin.clear_ #[46] ty #[.slice (some ⟨g,(i+(n - j)) * 2,none⟩) (n - (i+(n - j))) c]).run Tryz.prog W1= .ok (.tuple #[]) (W1.setRow g (vs.take (i * 2)++(vs.drop (j * 2)).take ((n - j) * 2)++nL (j - i)++vs.drop (n * 2)).toArray):=fun ty c=>by
  have hzl:=oA (j - i);unfold nL at hzl;have:=BZ (Q:=Tryz.prog) W1 46 ty 114 g ((i+(n - j)) * 2) (j - i) c (Value.agg #[.int .i64 0,.slice none 0 0]) _ 114 (by omega) Tryz.underlying46 (fun w=>by kernel_rfl) hr1 (by rw [hzl,av,hau,bm]; omega) (fun v hv=>by
   exact Db _ v hv)
  rw [hzl] at this;rw [show n - (i+(n - j))=j - i by omega,this]
  congr 3
  rw [←hau,DX,←de,jl,de,hau,show (i+(n - j)) * 2+(j - i) * 2=n * 2 by omega];rfl
 have hcell:∀(x:Nat) (v:Value),((vs.drop (j * 2)).take ((n - j) * 2))[x]? = some v→w.drew.cell? ((⟨g,j * 2,none⟩:Addr).add x)=some v:=fun x v hx=>by
  rw [dG];rw [aN] at hx;split at hx
  ·rw [bP] at hx;rw [iV w.drew g (j * 2+x) vs.toArray 114 (0,0) hrow,bV];exact hx
  ·cases hx
 have hnil:cap=j→∀(x:Nat) (v:Value),((vs.drop (j * 2)).take ((n - j) * 2))[x]? = some v→w.drew.cell? ((⟨g,0,none⟩:Addr).add x)=some v:=fun e x v hx=>by
  rw [show (n - j) * 2=0 by omega,fW] at hx;cases hx
 have hWW:cap=j→W1=w.drew:=fun e=>by
  rw [hW1,show n - j=0 by omega,qd,fW,da,qe,Hb];exact setRow_self w.drew g vs.toArray _ (0,0) hrow
 have hap1:=fun ty k=>hap ty ⟨g,j * 2,none⟩ k hcell;have hap2:=fun (e:cap=j) ty k=>hap ty ⟨g,0,none⟩ k (hnil e);rw [←hW1];have hmixed:Tryz.prog.follows Departure.mixedOrders=true:=by kernel_rfl
 have z1:¬((i:Int)=(j:Int)):=by omega
 have z2:(0:Int)≤(i:Int):=by omega
 have z3:(i:Int)≤(j:Int):=by omega
 have z4:(j:Int)≤(n:Int):=by omega
 have z5:¬(cap=i+(n - j)):=by omega
 have z6:i≤cap:=by omega
 have z7:j≤cap:=by omega
 have z8:i+(n - j)≤n:=by omega
 have z9:n≤cap:=hnc;have z10:¬(n=i):=by omega
 clear hW1 hul ht hr1 hau hap hcell hnil h1 hti hzz hcap hrow
 by_cases hcj:cap=j
 ·have hap3:=hap2 hcj
  clear hap1 hap2 hWW
  subst hcj;obtain rfl:n=cap:=by omega
  simp only [mj,qe,qd,fW,da] at hap3 hcl z5⊢
  go_enter Tryz.func253,Tryz.ntmps253
  go_wp2_with fail
  go_region_law_o (refine rU rfl (.tmp 22) (.tmp 25) 46 46 rfl (.slice (some ⟨g,0,none⟩) i n) (.slice (some ⟨g,0,none⟩) 0 0) (by simp [Act.eval,Act.put]) (by simp [Act.eval,Act.put]) (hap3 _ _) ?_)
  go_wp2_with (at_builtin; refine rR _ rfl _ 46 rfl _ rfl (hcl _ _) ?_)
  go_ret
  exact ⟨rfl,by simp only [aF]⟩
 ·clear hap2 hWW
  go_enter Tryz.func253,Tryz.ntmps253
  go_wp2_with fail
  go_region_law_o (refine rU rfl (.tmp 22) (.tmp 25) 46 46 rfl (.slice (some ⟨g,0,none⟩) i cap) (.slice (some ⟨g,j * 2,none⟩) (n - j) (cap - j)) (by simp [Act.eval,Act.put]) (by simp [Act.eval,Act.put]) (hap1 _ _) ?_)
  go_wp2_with (at_builtin; refine rR _ rfl _ 46 rfl _ rfl (hcl _ _) ?_)
  go_ret
  exact ⟨rfl,by simp only [aF]⟩
def jB (p0:List aa) (p1 p2:Int):Option (List aa):=if 0≤p1∧p1 < p2∧p2≤p0.length then some (p0.take p1.toNat++p0.drop p2.toNat) else none
theorem uj {c0:Cx} {G:Gm} {F:List En} {v0:Value} {u0:List Value} (p0:List aa) (p1 p2:Int) (O0:Own c0 G (es true aw v0 114 u0 p0 :: F)) (h0:OA aw c0 v0 u0 p0) {r:List aa} (H:jB p0 p1 p2=some r): Calls Tryz.prog 253 #[v0,.int .i64 p1,.int .i64 p2] c0.w (aP c0 fun c v=>∃y1:Value,∃y2:List Value,Own c G (es true aw y1 114 y2 r :: F)∧v=y1∧OA aw c y1 y2 r):=by
 unfold jB at H;split at H
 ·rename_i hc;obtain ⟨hc1,hc2,hc3⟩:=hc;obtain ⟨i,rfl⟩:∃i:Nat,p1=(i:Int):=⟨p1.toNat,by omega⟩;obtain ⟨j,rfl⟩:∃j:Nat,p2=(j:Int):=⟨p2.toNat,by omega⟩;rw [bT,bT] at H;obtain rfl:=bi H;obtain ⟨g,cap,rfl,a1,a2,a3,a4⟩:=h0.some (by omega);have hsz:aw.size=2:=rfl;have hon0:=O0.on 0 rfl g rfl;have o0:=a4.ones (by decide);rw [hsz] at o0 a3;unfold maxLen at a2;have ht0:(u0.take (i * 2)).length=i * 2:=by rw [az]; omega
  have htl:((u0.drop (j * 2)).take ((p0.length - j) * 2)).length=(p0.length - j) * 2:=by rw [az,bm]; omega
  have hrl:(p0.take i++p0.drop j).length=i+(p0.length - j):=by
   rw [av,az,bm];omega
  have hAR:∀(c:Cx) (ts:List Value),c0.le c→AR aw c (u0.take (i * 2)++(u0.drop (j * 2)).take ((p0.length - j) * 2)++ts) (p0.take i++p0.drop j):=fun c ts hle=>by
   have k0:AR aw c (u0.take (i * 2)) (p0.take i):=(a4.take i).mono hle;have k1:AR aw c ((u0.drop (j * 2)).take ((p0.length - j) * 2)) (p0.drop j):=by
    have:=((a4.drop j).take (p0.length - j)).mono hle;rwa [aH (l:=p0.drop j) (by rw [bm]; exact ay _)] at this
   refine AR.more (AR.app k0 ?_ k1) ?_
   ·rw [ht0,az,cC (by omega),hsz]
   ·rw [hrl,hsz,av,ht0,htl];omega
  refine (Fa (vs:=u0) hon0.1 (by omega) (by omega) a1 a3 (by omega) o0).mono ?_;rintro e w' ⟨rfl,rfl⟩;have hd:=Cx.drew_le c0;obtain ⟨c2,f1,f2,f3,f4⟩:=Cx.row (c:=⟨c0.w.drew,c0.A,c0.t⟩) (l:=u0) (T:=114) (b:=g) (m:=u0.take (i * 2)++(u0.drop (j * 2)).take ((p0.length - j) * 2)++u0.drop ((i+(p0.length - j)) * 2)) hon0.1 0 hon0.2 (fun o ho=>by omega) 0 (ay _);have O2:=Own.set (O0.keep hd) 0 rfl f2 (fun b hb=>by rw [hb]; rfl) (e':=⟨.slice (some ⟨g,0,none⟩) p0.length cap,114,u0.take (i * 2)++(u0.drop (j * 2)).take ((p0.length - j) * 2)++u0.drop ((i+(p0.length - j)) * 2),0⟩) (fun b hb=>by
   simp only [blk,aK] at hb;subst hb;exact ⟨f3,f4⟩) (fun b hb=> .inl hb)
  obtain ⟨c3,g1,g2,g3,g4⟩:=Cx.row (c:=c2) (m:=u0.take (i * 2)++(u0.drop (j * 2)).take ((p0.length - j) * 2)++nL (j - i)++u0.drop (p0.length * 2)) (T:=114) (b:=g) f3 0 f4 (fun o ho=>by omega) 0 (ay _);have O3:=Own.set O2 0 rfl g2 (fun b hb=>by rw [hb]; rfl) (e':=es true aw (.slice (some ⟨g,0,none⟩) (i+(p0.length - j)) cap) 114 (u0.take (i * 2)++(u0.drop (j * 2)).take ((p0.length - j) * 2)++nL (j - i)++u0.drop (p0.length * 2)) (p0.take i++p0.drop j)) (fun b hb=>by
   simp only [es,blk,aK] at hb;subst hb;exact ⟨g3,g4⟩) (fun b hb=> .inl hb)
  have hle:=hd.le.trans (f2.le.trans g2.le);refine ⟨_,c3,rfl,by rw [g1,f1],hle,_,_,O3,rfl,by decide,.inr ⟨g,cap,by rw [hrl],by rw [hrl]; omega,by unfold maxLen; exact a2,?_⟩,?_⟩
  ·rw [hsz,av,av,av,ht0,htl,oA,bm];omega
  ·rw [aF];exact hAR c3 _ hle
 ·cases H
end Go.Proofs.YtclmdpamofdoiaaGreatDoor
namespace Go.Proofs.YtclmdpamofdoiaaGreatDoor
open Go Go.Lt
set_option maxRecDepth 10000
set_option linter.unusedVariables false
attribute [local irreducible] W WL AC
open Tryz
variable {c0:Cx} {G:Gm} {F:List En} {sg:Sto} {v1 v2 v3 v4 v5 v6 v7 v8 v9 v10 v11 v12 v13 v14 v15 v16 v17 v18 v19 v20 v21 v22 v23 v24 v25 v26 v27 v28 v29 v30 v31 v32 v33 v34 v35 v36 v37 v38 v39 v40 v41 v42 v43 v44 v45 v46 v47 v48 v49 v50 v51 v52 v53 v54 v55 v56 v57 v58 v59 v60:Value}
def jd (p0:List aa) (p1:Int) (q0_0:Int):Option (List aa):=
 (er p1).bind fun c=>
 (jA p0 q0_0 c).bind fun d=>
 (slc d 0 (p0.length:Int)).bind fun a=>
 ((idx a (w64 ((p0.length:Int) - 1))).bind fun e=>
 if (e.Kind==2)=true then
 (idx a (w64 ((p0.length:Int) - 1))).bind fun g=>
 (nT a (w64 ((p0.length:Int) - 1)) (⟨0,([]:List Int)⟩:aa)).bind fun b=>
 some (b)
 else
 some (a)).bind fun f=>
 some f
theorem tH {e:Value} {q:List Value} {p:Nat} (b:List aa) (o:Int) (q0_0:Int) (O0:Own c0 G (es true aw e 114 q b :: F)) {r:List aa} (S:OA aw c0 e q b) (m2:∀j u,([I q0_0]:List Value)[j]? = some u→Im c0 p (0+j) u) (H:jd b o q0_0=some r): Calls prog 249 #[e,I o,Q p] c0.w (aP c0 fun c v=>∃t y2,Own c G (es true aw t 114 y2 r :: F)∧v=t∧OA aw c t y2 r):=by
 unfold jd at H;refine en func249 rfl rfl (sr (va (Y) (wln (sr (va (e) (vx (lnO 3 cI S) (va (I (b.length:Int)) (wln (W.seq (rD [] (Kp G0 []) O0 ?_))))))))));intro c3 l3 O4;have p5:Kp G0 [] c3:=Kp.nil0;refine ta 0 (e) (tx 1 (fun c' i0=>l1 u_3 ((mm m2) 0 _ rfl)) (ta 2 (I o) (ta 5 (I (b.length:Int)) (bn H fun s h6 H=>o1 3 (gc 3 (jM O4 o h6) ?_)))));rintro v7 M g1 ⟨_,u8,y,rfl,h9⟩;have k0:Kp G0 [] M:=Kp.nil0;refine ⟨.inr k0,?_⟩;have z:=y.sD 2 [1,0];refine bn H fun b1 U H=>o1 4 (gc 4 (ui b q0_0 s z S.m h9 U) ?_);rintro v19 h i1 ⟨_,m0,A,rfl,X⟩;have l0:Kp G0 [] h:=Kp.nil0;refine ⟨.inr l0,bn H fun c1 Z H=>?_⟩;obtain ⟨v30,a0,g,d⟩:=Own.cutH (k':= .i64) 0 A rfl cI X (by kernel_rfl) Z;refine AC.take 6 (v30) rfl (by kernel_rfl) (by kernel_rfl) (fun c' i0=>(rx (by kernel_rfl) (a0 _))) (ta 7 (v30) (dn (nrm (bn H fun n a x=>W.seqJ (Jn h fun c l=>∃v36 f,Own c G (es true aw v36 114 f n :: F)∧l= [(0,v36)]∧OA aw c v36 f n) ?_ ?_))))
 ·refine sr (va (v30) (va (I (b.length:Int)) (va (I (w64 ((b.length:Int) - 1))) (bn a fun k i a=>vx (ixO cI d i) (va (Qo (sb v30) ((w64 ((b.length:Int) - 1)).toNat * 2)) ?_)))));obtain ⟨y0,b0,j0⟩:=OA.at d i;obtain ⟨v42,rfl,f1⟩:=b0;refine vr (I k.Kind) (rx (by kernel_rfl) (mE u_3 rfl (g.on 0 rfl) (d.blk i) (at1 (j:=0) j0 rfl))) (va (B (k.Kind==2)) (wln (cn a (fun d0 a=>?_) (fun d0 a=>?_))))
  ·refine W.region (va (v30) (va (I (b.length:Int)) (va (I (w64 ((b.length:Int) - 1))) (va (.agg #[I 0,Y]) (bn a fun d1 e0 a=>vx (ixO cI d e0) (bn a fun a1 f0 a=>md (Own.stW (R:=aw) (T:=114) (us:=[I 0,Y]) (x':=(⟨0,([]:List Int)⟩:aa)) (u:= .agg #[I 0,Y]) 0 g (by kernel_rfl) rfl d f0 rfl (by kernel_rfl) ⟨rfl,rfl,trivial⟩ rfl ⟨(Y),rfl,(Sl.nl _ _)⟩) ?_))))));rintro N j1 ⟨o0,D,g0⟩;refine wln ?_;obtain rfl:=si a;exact jn N ⟨v30,o0,D,rfl,g0⟩
  refine W.skip (nrm ?_);obtain rfl:=si a;exact jn h ⟨v30,m0,g,rfl,d⟩
 rintro e_ w_ ⟨P,e1,_,rfl,k1,rfl,v36,f,E,rfl,h0⟩;refine sr (vv (v36) (wln (W.ret ?_)));obtain rfl:=si x;exact r1 (qq P ⟨v36,f,E,rfl,h0⟩)
def jo (p0:List aa) (p1:Int):Option (List aa):=
 (bD (decide (p1 < (p0.length:Int))) ((idx p0 p1).bind fun d=>
 some (d.Kind==3))).bind fun c=>
 if c=true then
 (idx p0 (w64 (p1 - 1))).bind fun e=>
 (nT p0 (w64 (p1 - 1)) (⟨0,([]:List Int)⟩:aa)).bind fun a=>
 (idx a p1).bind fun f=>
 (nT a p1 (⟨0,([]:List Int)⟩:aa)).bind fun b=>
 some b
 else
 some p0
theorem pi {a:Value} {e:List Value} (f:List aa) (b:Int) (o:Own c0 G (es true aw a 114 e f :: F)) {r:List aa} (d:OA aw c0 a e f) (H:jo f b=some r): Calls prog 252 #[a,I b] c0.w (aP c0 fun c v=>∃U,Own c G (es true aw a 114 U r :: F)∧v= .tuple #[]∧OA aw c a U r):=by
 unfold jo at H;refine en func252 rfl rfl (W.seq (bn H fun y E H=>W.join (Jn c0 fun c l=>Own c G (es true aw a 114 e f :: F)∧l= [(0,a),(1,I b),(15,B y)]) ?_ ?_))
 ·clear H;refine W.region (va (I b) (va (a) (vx (lnO 3 cI d) (va (B (decide (b < (f.length:Int)))) ?_))));rcases bo (decide (b < (f.length:Int))) with g | g
  ·have n:=anT g E;refine vb g (wa (a) (wa (I b) (wn (bn n fun h p n=>vx (ixO cI d p) (wa (Qo (sb a) (b.toNat * 2)) (wn ?_))))));obtain ⟨l0,X,Z⟩:=OA.at d p;obtain ⟨v9,rfl,h0⟩:=X;refine vr (I h.Kind) (rx (by kernel_rfl) (mE u_3 rfl (o.on 0 rfl) (d.blk p) (at1 (j:=0) Z rfl))) (wa (B (h.Kind==3)) ?_);obtain rfl:=si n;exact va (B (h.Kind==3)) (wln (jn c0 ⟨o,rfl⟩))
  obtain rfl:=anF g E;exact vb g (pz (pz (pz (va (B false) (wln (jn c0 ⟨o,rfl⟩))))))
 rintro e_ w_ ⟨t,g0,_,rfl,i0,rfl,i,rfl⟩;refine nrm (cn H (fun z H=>?_) (fun z H=>?_))
 ·refine W.region (va (a) (va (I b) (va (I (w64 (b - 1))) (va (a) (va (I b) (vv (.agg #[I 0,Y]) (bn H fun d0 A H=>vx (ixO cI d.m A) (bn H fun a0 D H=>md (Own.stW (R:=aw) (T:=114) (us:=[I 0,Y]) (x':=(⟨0,([]:List Int)⟩:aa)) (u:= .agg #[I 0,Y]) 0 i (by kernel_rfl) rfl d.m D rfl (by kernel_rfl) ⟨rfl,rfl,trivial⟩ rfl ⟨(Y),rfl,(Sl.nl _ _)⟩) ?_))))))));rintro f0 j0 ⟨m0,q,k⟩;refine bn H fun e0 M H=>vx (ixO cI k M) (bn H fun b0 N H=>md (Own.stW (R:=aw) (T:=114) (us:=[I 0,Y]) (x':=(⟨0,([]:List Int)⟩:aa)) (u:= .agg #[I 0,Y]) 0 q (by kernel_rfl) rfl k N rfl (by kernel_rfl) ⟨rfl,rfl,trivial⟩ rfl ⟨(Y),rfl,(Sl.nl _ _)⟩) ?_);rintro x k0 ⟨S,s,P⟩;refine WL.nil ?_;obtain rfl:=si H;exact n0 (qq x ⟨S,s,rfl,P⟩)
 refine W.skip ?_;obtain rfl:=si H;exact n0 (qq t ⟨e,i,rfl,d.m⟩)
def dX (sg:Sto) (p0:Option Nat) (p1:Int) (p2:Int) (p3_0_0:Int):Option (Sto):=
 (bM sg p0).bind fun a=>
 (orE (decide (p1 < 0)) (some (decide (p1≥a)))).bind fun g=>
 (orE g (some (decide (p2 < 1)))).bind fun b=>
 if b=true then
 some sg
 else
 (ey sg p0).bind fun c=>
 (jo c p1).bind fun d=>
 (jd d (aO p2 (w64 (a - p1))) p3_0_0).bind fun e=>
 (dN sg p0 0 e).bind fun f=>
 some f.1
theorem mN {b3_0:Nat} (O0:Own c0 G F) (i:Rel c0 sg G) (hG:Gl [2,4] c0) (h:Option Nat) (a:Int) (d:Int) (p3_0_0:Int) {r:Sto} (t:Pt 0 c0 v1 h) (m3:∀j u,([I p3_0_0]:List Value)[j]? = some u→Im c0 b3_0 (0+j) u) (H:dX sg h a d p3_0_0=some r): Calls prog 248 #[v1,I a,I d,.func (.func 249) #[] #[Q b3_0]] c0.w (aP c0 fun c v=>∃G_:Gm,Own c G_ (F)∧Rel c r G_∧v= .tuple #[]):=by
 unfold dX at H;refine en func248 rfl rfl (sr (va (v1) (bn H fun b h4 H=>cl (cF O0 i h t h4) ?_)));rintro v10 k l9 ⟨q,rfl⟩;refine va (I b) (wln (W.seq (W.seq (bn H fun w0 o H=>bn H fun s g H=>W.join (Jn k fun c l=>Own c G (F)∧l= [(0,v1),(1,I a),(2,I d),(3,.func (.func 249) #[] #[Q b3_0]),(8,I b),(22,B s)]) ?_ ?_))))
 ·clear H;refine W.region (va (I a) (va (B (decide (a < 0))) ?_));rcases bo (decide (a < 0)) with e | e
  ·obtain rfl:=orT e o;refine vb e (pz (ps (va (B true) ?_)));have p:true=true:=rfl;obtain rfl:=orT p g;exact vb p (pz (va (B true) (wln (jn k ⟨q,rfl⟩))))
  have D:=orF e o;refine vb e (wa (I a) (wa (I b) (wa (B (decide (a≥b))) ?_)));obtain rfl:=si D;refine va (B (decide (a≥b))) ?_;rcases bo (decide (a≥b)) with f | f
  ·obtain rfl:=orT f g;exact vb f (pz (va (B true) (wln (jn k ⟨q,rfl⟩))))
  have E:=orF f g;refine vb f (wa (I d) (wa (B (decide (d < 1))) ?_));obtain rfl:=si E;exact va (B (decide (d < 1))) (wln (jn k ⟨q,rfl⟩))
 rintro e_ w_ ⟨X,x0,_,rfl,z0,rfl,n,rfl⟩;refine nrm (cn H (fun a0 H=>?_) (fun a0 H=>?_))
 ·refine W.ret (thr ?_);obtain rfl:=si H;exact r0 (qq X ⟨G,n,i.m,rfl⟩)
 refine W.skip (nrm (sr (va (v1) (bn H fun x b0 H=>cl (lm n i.m h t.m b0) ?_))));rintro v26 s0 a1 ⟨_,f1,M,rfl,d0⟩;refine va (v26) (wln (sr (va (v26) (va (I a) (bn H fun y e0 H=>cl (pi x a M d0 e0) ?_)))));rintro v44 t0 b1 ⟨g1,N,rfl,f0⟩;refine wln (W.region (va (v1) (va (.func (.func 249) #[] #[Q b3_0]) (va (v26) (va (I d) (va (I b) (va (I a) (va (I (w64 (b - a))) (va (I (aO d (w64 (b - a)))) (bn H fun z g0 H=>cl (tH y (aO d (w64 (b - a))) p3_0_0 N f0 (mm m3) g0) ?_))))))))));rintro v47 u0 c1 ⟨_,h1,P,rfl,h0⟩;obtain ⟨v0,j0,d1,R,i0⟩:=P.frz 0 rfl h0;refine WL.gh j0 (bn H fun q0 k0 H=>cl (jD R i.m (hG.m.le (by decide)) h 0 z t.m i0 k0) ?_);rintro i1 Z e1 ⟨_,A,S,U,rfl,y0⟩;refine WL.nil ?_;obtain rfl:=si H;have T:=S.sD 1 [];exact n0 (qq Z ⟨A,T,U,rfl⟩)
def jX (sg:Sto) (p0:Option Nat) (p1:Int) (p2:Int):Option (Sto):=
 (dX sg p0 p1 p2 p1).bind fun a=>
 some a
theorem vu (j:Own c0 G F) (l:Rel c0 sg G) (hG:Gl [2,4] c0) (d:Option Nat) (a:Int) (b:Int) {r:Sto} (o:Pt 0 c0 v1 d) (H:jX sg d a b=some r): Calls prog 193 #[v1,I a,I b] c0.w (aP c0 fun c v=>∃G_:Gm,Own c G_ (F)∧Rel c r G_∧v= .tuple #[]):=by
 unfold jX at H;refine en func193 rfl rfl (sr (me (bx 3 [I a] j) ?_));rintro v7 t u ⟨n,rfl,k,h⟩;refine wln (W.region (va (v1) (vx (l1 u_3 (h 0 _ rfl)) (va (I b) (va (.func (.func 249) #[] #[Q n]) (bn H fun s p H=>cl (mN k l.m (hG.m.le (by decide)) d a b a o.m h p) ?_))))));rintro v14 g q ⟨i,e,f,rfl⟩;refine WL.nil ?_;obtain rfl:=si H;exact n0 (qq g ⟨i,e,f,rfl⟩)
def je (p0:List aa) (p1:Int) (q0_0:Int):Option (List aa):=
 (jo p0 (w64 (q0_0+p1))).bind fun d=>
 (jB d q0_0 (w64 (q0_0+p1))).bind fun a=>
 (er p1).bind fun b=>
 (app a b).bind fun c=>
 some c
theorem tI {b:Value} {f:List Value} {e:Nat} (d:List aa) (a:Int) (q0_0:Int) (P:Own c0 G (es true aw b 114 f d :: F)) {r:List aa} (S:OA aw c0 b f d) (g:∀j u,([I q0_0]:List Value)[j]? = some u→Im c0 e (0+j) u) (H:je d a q0_0=some r): Calls prog 251 #[b,I a,Q e] c0.w (aP c0 fun c v=>∃h N,Own c G (es true aw h 114 N r :: F)∧v=h∧OA aw c h N r):=by
 unfold je at H;refine en func251 rfl rfl (sr (va (Y) (wln (sr (va (b) (vx (l1 u_3 (g 0 _ rfl)) (va (I a) (va (I (w64 (q0_0+a))) (bn H fun M T H=>cl (pi d (w64 (q0_0+a)) P S T) ?_)))))))));rintro v12 b0 g0 ⟨u5,R,rfl,U⟩;refine wln (sr (va (b) (vx (l1 u_3 ((mm g) 0 _ rfl)) (vx (l1 u_3 ((mm g) 0 _ rfl)) (va (I a) (va (I (w64 (q0_0+a))) (bn H fun X q H=>cl (uj M q0_0 (w64 (q0_0+a)) R U q) ?_)))))));rintro v15 d0 h0 ⟨_,l0,i,rfl,s⟩;refine va (I a) (bn H fun Z t H=>cl (jM i a t) ?_);rintro v25 e0 i0 ⟨_,m0,k,rfl,x⟩;obtain ⟨f0,z,j0,l,y⟩:=k.frz 0 rfl x;refine WL.gh z (bn H fun a0 A H=>me (ap aw (.agg #[I 0,Y]) 32 46 1 l s.m y A cI) ?_);rintro v43 p k0 ⟨E,n,D⟩;refine va (v43) (wln (W.ret ?_));obtain rfl:=si H;have o:=n.sD 2 [1];exact r1 (qq p ⟨v43,E,o,rfl,D⟩)
def dY (sg:Sto) (p0:Option Nat) (p1:Int) (p2:Int) (p3_0_0:Int):Option (Sto):=
 (bM sg p0).bind fun a=>
 (orE (decide (p1 < 0)) (some (decide (p1≥a)))).bind fun g=>
 (orE g (some (decide (p2 < 1)))).bind fun b=>
 if b=true then
 some sg
 else
 (ey sg p0).bind fun c=>
 (jo c p1).bind fun d=>
 (je d (aO p2 (w64 (a - p1))) p3_0_0).bind fun e=>
 (dN sg p0 0 e).bind fun f=>
 some f.1
theorem mO {b3_0:Nat} (O0:Own c0 G F) (i:Rel c0 sg G) (hG:Gl [2,4] c0) (h:Option Nat) (a:Int) (d:Int) (p3_0_0:Int) {r:Sto} (t:Pt 0 c0 v1 h) (m3:∀j u,([I p3_0_0]:List Value)[j]? = some u→Im c0 b3_0 (0+j) u) (H:dY sg h a d p3_0_0=some r): Calls prog 248 #[v1,I a,I d,.func (.func 251) #[] #[Q b3_0]] c0.w (aP c0 fun c v=>∃G_:Gm,Own c G_ (F)∧Rel c r G_∧v= .tuple #[]):=by
 unfold dY at H;refine en func248 rfl rfl (sr (va (v1) (bn H fun b h4 H=>cl (cF O0 i h t h4) ?_)));rintro v10 k l9 ⟨q,rfl⟩;refine va (I b) (wln (W.seq (W.seq (bn H fun w0 o H=>bn H fun s g H=>W.join (Jn k fun c l=>Own c G (F)∧l= [(0,v1),(1,I a),(2,I d),(3,.func (.func 251) #[] #[Q b3_0]),(8,I b),(22,B s)]) ?_ ?_))))
 ·clear H;refine W.region (va (I a) (va (B (decide (a < 0))) ?_));rcases bo (decide (a < 0)) with e | e
  ·obtain rfl:=orT e o;refine vb e (pz (ps (va (B true) ?_)));have p:true=true:=rfl;obtain rfl:=orT p g;exact vb p (pz (va (B true) (wln (jn k ⟨q,rfl⟩))))
  have D:=orF e o;refine vb e (wa (I a) (wa (I b) (wa (B (decide (a≥b))) ?_)));obtain rfl:=si D;refine va (B (decide (a≥b))) ?_;rcases bo (decide (a≥b)) with f | f
  ·obtain rfl:=orT f g;exact vb f (pz (va (B true) (wln (jn k ⟨q,rfl⟩))))
  have E:=orF f g;refine vb f (wa (I d) (wa (B (decide (d < 1))) ?_));obtain rfl:=si E;exact va (B (decide (d < 1))) (wln (jn k ⟨q,rfl⟩))
 rintro e_ w_ ⟨X,x0,_,rfl,z0,rfl,n,rfl⟩;refine nrm (cn H (fun a0 H=>?_) (fun a0 H=>?_))
 ·refine W.ret (thr ?_);obtain rfl:=si H;exact r0 (qq X ⟨G,n,i.m,rfl⟩)
 refine W.skip (nrm (sr (va (v1) (bn H fun x b0 H=>cl (lm n i.m h t.m b0) ?_))));rintro v26 s0 a1 ⟨_,f1,M,rfl,d0⟩;refine va (v26) (wln (sr (va (v26) (va (I a) (bn H fun y e0 H=>cl (pi x a M d0 e0) ?_)))));rintro v44 t0 b1 ⟨g1,N,rfl,f0⟩;refine wln (W.region (va (v1) (va (.func (.func 251) #[] #[Q b3_0]) (va (v26) (va (I d) (va (I b) (va (I a) (va (I (w64 (b - a))) (va (I (aO d (w64 (b - a)))) (bn H fun z g0 H=>cl (tI y (aO d (w64 (b - a))) p3_0_0 N f0 (mm m3) g0) ?_))))))))));rintro v47 u0 c1 ⟨_,h1,P,rfl,h0⟩;obtain ⟨v0,j0,d1,R,i0⟩:=P.frz 0 rfl h0;refine WL.gh j0 (bn H fun q0 k0 H=>cl (jD R i.m (hG.m.le (by decide)) h 0 z t.m i0 k0) ?_);rintro i1 Z e1 ⟨_,A,S,U,rfl,y0⟩;refine WL.nil ?_;obtain rfl:=si H;have T:=S.sD 1 [];exact n0 (qq Z ⟨A,T,U,rfl⟩)
def jY (sg:Sto) (p0:Option Nat) (p1:Int) (p2:Int):Option (Sto):=
 (dY sg p0 p1 p2 p1).bind fun a=>
 some a
theorem vy (j:Own c0 G F) (l:Rel c0 sg G) (hG:Gl [2,4] c0) (d:Option Nat) (a:Int) (b:Int) {r:Sto} (o:Pt 0 c0 v1 d) (H:jY sg d a b=some r): Calls prog 194 #[v1,I a,I b] c0.w (aP c0 fun c v=>∃G_:Gm,Own c G_ (F)∧Rel c r G_∧v= .tuple #[]):=by
 unfold jY at H;refine en func194 rfl rfl (sr (me (bx 3 [I a] j) ?_));rintro v7 t u ⟨n,rfl,k,h⟩;refine wln (W.region (va (v1) (vx (l1 u_3 (h 0 _ rfl)) (va (I b) (va (.func (.func 251) #[] #[Q n]) (bn H fun s p H=>cl (mO k l.m (hG.m.le (by decide)) d a b a o.m h p) ?_))))));rintro v14 g q ⟨i,e,f,rfl⟩;refine WL.nil ?_;obtain rfl:=si H;exact n0 (qq g ⟨i,e,f,rfl⟩)
def fT (p0:List aa) (p1:Int):Option (List aa):=
 (cv (σ:=(List aa)×Int) (τ:=(List aa)) (((p0.length:Int) - 0).toNat+1) (fun a=>
 if (decide (a.2 < (p0.length:Int)))=true then
 (idx p0 a.2).bind fun b=>
 ((bD (decide (p1 < (p0.length:Int))) ((idx p0 p1).bind fun g=>
 some (g.Kind==3))).bind fun d=>
 (bD d ((orE (a.2==p1) (some ((w64 (a.2+1))==p1))).bind fun f=>
 some f)).bind fun e=>
 if e=true then
 some (0,([]:List Int))
 else
 some (b.Kind,b.Text)).bind fun c=>
 (app a.1 ([(⟨c.1,c.2⟩:aa)]:List aa)).bind fun h=>
 some (.inl (h,(w64 (a.2+1))))
 else
 some (.inr (a.1))) (([]:List aa),0)).bind fun i=>
 some i
def jr (p0:List aa) (p1:Int) (p2:Int):Option ((List aa)×Bool):=
 (orE (decide (p1 < 0)) (some (decide (p1≥(p0.length:Int))))).bind fun l=>
 (orE l (some (decide (p2 < 1)))).bind fun h=>
 if h=true then
 some (p0,false)
 else
 (fT p0 p1).bind fun c=>
 (cv (σ:=(List aa)×Int) (τ:=(List aa)) (((p0.length:Int) - 0).toNat+1) (fun a=>
 if (decide (a.2 < (p0.length:Int)))=true then
 (if (decide (a.2 < p1))=true then
 (idx c a.2).bind fun d=>
 some (d.Kind,d.Text)
 else
 some (0,([]:List Int))).bind fun f=>
 (if (decide (a.2≥(w64 (p1+(aO p2 (w64 ((p0.length:Int) - p1)))))))=true then
 (idx c (w64 (a.2 - (aO p2 (w64 ((p0.length:Int) - p1)))))).bind fun e=>
 some (e.Kind,e.Text)
 else
 some (f.1,f.2)).bind fun b=>
 ((bD ((w64 (a.2+1))==(p0.length:Int)) (some (b.1==2))).bind fun i=>
 if i=true then
 some (0,([]:List Int))
 else
 some (b.1,b.2)).bind fun g=>
 (app a.1 ([(⟨g.1,g.2⟩:aa)]:List aa)).bind fun k=>
 some (.inl (k,(w64 (a.2+1))))
 else
 some (.inr (a.1))) (([]:List aa),0)).bind fun j=>
 some (j,true)
def js (p0:List aa) (p1:Int) (p2:Int):Option ((List aa)×Bool):=
 (orE (decide (p1 < 0)) (some (decide (p1≥(p0.length:Int))))).bind fun j=>
 (orE j (some (decide (p2 < 1)))).bind fun f=>
 if f=true then
 some (p0,false)
 else
 (fT p0 p1).bind fun h=>
 (fT h (w64 (p1+(aO p2 (w64 ((p0.length:Int) - p1)))))).bind fun b=>
 (cv (σ:=(List aa)×Int) (τ:=(List aa)) (((p0.length:Int) - 0).toNat+1) (fun a=>
 if (decide (a.2 < (p0.length:Int)))=true then
 (if (decide (a.2 < p1))=true then
 (idx b a.2).bind fun c=>
 some (c.Kind,c.Text)
 else
 if (decide ((w64 (a.2+(aO p2 (w64 ((p0.length:Int) - p1))))) < (p0.length:Int)))=true then
 (idx b (w64 (a.2+(aO p2 (w64 ((p0.length:Int) - p1)))))).bind fun d=>
 some (d.Kind,d.Text)
 else
 some (0,([]:List Int))).bind fun e=>
 (app a.1 ([(⟨e.1,e.2⟩:aa)]:List aa)).bind fun i=>
 some (.inl (i,(w64 (a.2+1))))
 else
 some (.inr (a.1))) (([]:List aa),0)).bind fun g=>
 some (g,true)
def iR (p0:Int) (p1:Int) (p2:Int) (p3:Int):Option (ai):=
 (dO (⟨p0,p1,false⟩:ai) p2 p3).bind fun a=>
 some a
theorem rn (j:Own c0 G F) (b:Int) (d:Int) (e:Int) (f:Int) {r:ai} (H:iR b d e f=some r): Calls prog 121 #[I b,I d,I e,I f] c0.w (aP c0 fun c v=>Own c G (F)∧v= .agg #[I r.Row,I r.Col,B r.Pending]):=by
 unfold iR at H;refine en func121 rfl rfl (sr (me (al 29 [I 0,I 0,B false] j) ?_));rintro v4 s t ⟨q,rfl,k⟩;refine wln (sr (va (I b) (va (I d) (va (.agg #[I b,I d,B false]) (va (I e) (va (I f) (bn H fun a m H=>cl (dP k (⟨b,d,false⟩:ai) e f m) ?_)))))));rintro v11 n o ⟨l,rfl⟩;refine md (sA 29 [I a.Row,I a.Col,B a.Pending] 0 l ⟨rfl,rfl,rfl,trivial⟩) ?_;rintro h p g;refine wln (W.ret ?_);obtain rfl:=si H;have i:=g.sD 1 [];exact rF (c:=h) (vs:=[I a.Row,I a.Col,B a.Pending]) rfl (by kernel_rfl) (by kernel_rfl) (by kernel_rfl) (g.on 0 rfl _ rfl).1 ⟨_,h,rfl,rfl,pt,i,rfl⟩
def oD (p0:List aa) (p1:Int):Option (List aa):=
 (slc p0 0 p1).bind fun a=>
 ((bD (decide (p1 > 0)) ((idx a (w64 (p1 - 1))).bind fun d=>
 some (d.Kind==2))).bind fun b=>
 if b=true then
 (idx a (w64 (p1 - 1))).bind fun f=>
 (nT a (w64 (p1 - 1)) (⟨0,([]:List Int)⟩:aa)).bind fun c=>
 some (c)
 else
 some (a)).bind fun e=>
 some e
theorem B2 {h:Value} {f:List Value} (x:List aa) (a:Int) (O0:Own c0 G (es true aw h 114 f x :: F)) {r:List aa} (h1:OA aw c0 h f x) (H:oD x a=some r): Calls prog 185 #[h,I a] c0.w (aP c0 fun c v=>∃y y2,Own c G (es true aw y 114 y2 r :: F)∧v=y∧OA aw c y y2 r):=by
 unfold oD at H;refine en func185 rfl rfl (sr (va (Y) (wln (sr (va (h) (vv (I a) (bn H fun d0 h2 H=>?_)))))));obtain ⟨v3,h4,s,i⟩:=Own.cutHM (k2:= .i64) (k':= .i64) 0 O0 rfl cI h1 (by kernel_rfl) h2;refine vr v3 (rx (by kernel_rfl) (h4 _)) (va (v3) (wln (bn H fun q b H8=>W.seqJ (Jn c0 fun c l=>∃v9 g,Own c G (es true aw v9 114 g q :: F)∧l= [(0,v9)]∧OA aw c v9 g q) ?_ ?_)))
 ·refine W.seq (bn b fun t p b=>W.join (Jn c0 fun c l=>Own c G (es true aw v3 114 f d0 :: F)∧l= [(0,v3),(1,I a),(19,B t)]) ?_ ?_)
  ·clear b;refine W.region (va (I a) (va (B (decide (a > 0))) ?_));rcases bo (decide (a > 0)) with d | d
   ·have k:=anT d p;refine vb d (wa (v3) (wa (I a) (wa (I (w64 (a - 1))) (wn (bn k fun e n k=>vx (ixO cI i n) (wa (Qo (sb v3) ((w64 (a - 1)).toNat * 2)) (wn ?_)))))));obtain ⟨l0,N,a0⟩:=OA.at i n;obtain ⟨v18,rfl,u0⟩:=N;refine vr (I e.Kind) (rx (by kernel_rfl) (mE u_3 rfl (s.on 0 rfl) (i.blk n) (at1 (j:=0) a0 rfl))) (wa (B (e.Kind==2)) ?_);obtain rfl:=si k;exact va (B (e.Kind==2)) (wln (jn c0 ⟨s,rfl⟩))
   obtain rfl:=anF d p;exact vb d (pz (pz (pz (ps (va (B false) (wln (jn c0 ⟨s,rfl⟩)))))))
  rintro e_ w_ ⟨D,s0,_,rfl,v0,rfl,o,rfl⟩;refine nrm (cn b (fun P b=>?_) (fun P b=>?_))
  ·refine W.region (va (v3) (va (I a) (va (I (w64 (a - 1))) (va (.agg #[I 0,Y]) (bn b fun q0 S b=>vx (ixO cI i.m S) (bn b fun o0 U b=>md (Own.stW (R:=aw) (T:=114) (us:=[I 0,Y]) (x':=(⟨0,([]:List Int)⟩:aa)) (u:= .agg #[I 0,Y]) 0 o (by kernel_rfl) rfl i.m U rfl (by kernel_rfl) ⟨rfl,rfl,trivial⟩ rfl ⟨(Y),rfl,(Sl.nl _ _)⟩) ?_))))));rintro E w0 ⟨b0,z,X⟩;refine wln ?_;obtain rfl:=si b;exact jn E ⟨v3,b0,z,rfl,X⟩
  refine W.skip (nrm ?_);obtain rfl:=si b;exact jn D ⟨v3,f,o,rfl,i.m⟩
 rintro e_ w_ ⟨M,t0,_,rfl,x0,rfl,v9,g,A,rfl,Z⟩;refine sr (vv (v9) (wln (W.ret ?_)));obtain rfl:=si H8;exact r1 (qq M ⟨v9,g,A,rfl,Z⟩)
def sF (sg:Sto) (p0:List aa):Option (Sto×(Option Nat)):=
 (qs sg p0).bind fun a=>
 if (!a.2.2.isNil)=true then
 some (a.1,(none:Option Nat))
 else
 some (a.1,a.2.1)
theorem DG (l:Own c0 G F) (m:Rel c0 sg G) (hG:Gl [2,4] c0) (f:List aa) {r:Sto×(Option Nat)} (o:Sl aw c0 v1 f) (H:sF sg f=some r): Calls prog 186 #[v1] c0.w (aP c0 fun c v=>∃k,∃G_:Gm,Own c G_ (F)∧Rel c r.1 G_∧v=k∧Pt 0 c k r.2):=by
 unfold sF at H;refine en func186 rfl rfl (sr (va (.pointer none) (wln (sr (va (v1) (bn H fun j p H=>cl (DE l m (hG.le (by decide)) f o p) ?_))))));rintro v13 e t ⟨v4,v6,g,h,d,rfl,q,s⟩;refine va (.tuple #[v4,v6]) (va (v4) (va (v6) (va (v4) (va (v6) (wln (W.seq (sr (va (v6) (vr (B (!j.2.2.isNil)) (by rcases (s).cs with ⟨a,b⟩ | ⟨n,a,b⟩ | ⟨n,a,b⟩ <;> (subst a; rw [b]; kernel_rfl)) (wln (cn H (fun i H=>?_) (fun i H=>?_))))))))))))
 ·refine sr (va (.pointer none) (wln (W.ret (thr ?_))));obtain rfl:=si H;exact r1 (qq e ⟨(.pointer none),g,h,d,rfl,rfl⟩)
 refine W.skip (nrm (sr (vv (v4) (wln (W.ret ?_)))));obtain rfl:=si H;exact r1 (qq e ⟨v4,g,h,d,rfl,q⟩)
def jt (sg:Sto) (p0:Option Nat) (p1:Int):Option (Sto×(Option Nat)):=
 if p0.isNone=true then
 some (sg,(none:Option Nat))
 else
 (ey sg p0).bind fun c=>
 (bM sg p0).bind fun d=>
 (oD c (aO (bb 1 (aO p1 1024)) d)).bind fun a=>
 (er (w64 ((bb 1 (aO p1 1024)) - (a.length:Int)))).bind fun e=>
 (app a e).bind fun f=>
 (sF sg f).bind fun b=>
 some (b.1,b.2)
theorem xB (o:Own c0 G F) (f:Rel c0 sg G) (hG:Gl [2,4] c0) (b:Option Nat) (a:Int) {r:Sto×(Option Nat)} (j:Pt 0 c0 v1 b) (H:jt sg b a=some r): Calls prog 120 #[v1,I a] c0.w (aP c0 fun c v=>∃y1,∃G_:Gm,Own c G_ (F)∧Rel c r.1 G_∧v=y1∧Pt 0 c y1 r.2):=by
 unfold jt at H;refine en func120 rfl rfl (sr (va (.pointer none) (wln (W.seq (sr (va (v1) (vr (B b.isNone) (by rcases (j).cs with ⟨g,i⟩ | ⟨b_,g,i⟩ <;> (subst g; rw [i]; kernel_rfl)) (wln (cn H (fun h3 H=>?_) (fun h3 H=>?_))))))))))
 ·refine sr (va (.pointer none) (wln (W.ret (thr ?_))));obtain rfl:=si H;exact r1 (qq c0 ⟨(.pointer none),G,o,f,rfl,rfl⟩)
 refine W.skip (nrm (sr (va (I a) (va (I (aO a 1024)) (vv (I (bb 1 (aO a 1024))) (wln (sr (va (v1) (bn H fun k h4 H=>cl (lm o f b j h4) ?_)))))))));rintro v5 k0 u0 ⟨_,u6,O9,rfl,h7⟩;refine va (I (bb 1 (aO a 1024))) (va (v1) (bn H fun d E H=>cl (cF O9 f.m b j.m E) ?_));rintro v20 l0 v0 ⟨p,rfl⟩;refine va (I (aO (bb 1 (aO a 1024)) d)) (bn H fun e M H=>cl (B2 k (aO (bb 1 (aO a 1024)) d) p h7.m M) ?_);rintro v23 m0 w0 ⟨_,c1,q,rfl,h⟩;refine va (v23) (wln (sr (va (v23) (va (I (bb 1 (aO a 1024))) (va (v23) (vx (lnO 3 cI h) (va (I (w64 ((bb 1 (aO a 1024)) - (e.length:Int)))) (bn H fun i0 N H=>cl (jM q (w64 ((bb 1 (aO a 1024)) - (e.length:Int))) N) ?_))))))));rintro v33 o0 x0 ⟨_,d1,s,rfl,P⟩;obtain ⟨q0,S,y0,t,R⟩:=s.frz 0 rfl P;refine WL.gh S (bn H fun l T H=>me (ap aw (.agg #[I 0,Y]) 32 46 1 t h.m R T cI) ?_);rintro v51 s0 z0 ⟨e1,u,U⟩;obtain ⟨t0,Z,a1,x,X⟩:=u.frz 1 rfl U;refine WL.gh Z (bn H fun j0 a0 H=>cl (DG x f.m (hG.m.le (by decide)) l X a0) ?_);rintro v57 D b1 ⟨_,n,y,A,rfl,b0⟩;refine va (v57) (wln (W.ret ?_));obtain rfl:=si H;have z:=y.sD 2 [];exact r1 (qq D ⟨v57,n,z,A,rfl,b0⟩)
def kQ (sg:Sto) (p0:Option Nat) (p1:Int) (p2:Int):Option (Sto):=
 (orE p0.isNone ((p0).bind fun u=>
 (sg.place_Pen[u]?).bind fun v=>
 some v.G.isNone)).bind fun t=>
 if t=true then
 some sg
 else
 (p0).bind fun l=>
 (sg.place_Pen[l]?).bind fun e=>
 (cf sg e.G).bind fun o=>
 (bK sg e.G).bind fun p=>
 (dO e.At o p).bind fun b=>
 (mp sg (bb 1 (aO p1 1024)) (bb 1 (aO p2 1024))).bind fun c=>
 (cv (σ:=Int×Sto) (τ:=Sto) (((bb 1 (aO p2 1024)) - 0).toNat+1) (fun a=>
 if (decide (a.1 < (bb 1 (aO p2 1024))))=true then
 ((p0).bind fun m=>
 (a.2.place_Pen[m]?).bind fun n=>
 (bv a.2 n.G (w64 ((bb 0 (w64 ((w64 (b.Row - (bb 1 (aO p2 1024))))+1)))+a.1))).bind fun j=>
 if (!j.isNone)=true then
 (jt a.2 j (bb 1 (aO p1 1024))).bind fun k=>
 (ez k.1 c.2 a.1 k.2).bind fun q=>
 some (q.1)
 else
 some (a.2)).bind fun s=>
 some (.inl ((w64 (a.1+1)),s))
 else
 some (.inr (a.2))) (0,c.1)).bind fun i=>
 (p0).bind fun d=>
 (i.place_Pen[d]?).bind fun f=>
 (i.set_place_Pen d (⟨c.2,f.At,f.Auto⟩:bq)).bind fun h=>
 (iR (w64 (b.Row - (bb 0 (w64 ((w64 (b.Row - (bb 1 (aO p2 1024))))+1))))) b.Col (bb 1 (aO p1 1024)) (bb 1 (aO p2 1024))).bind fun r=>
 (h.set_place_Pen d (⟨c.2,r,f.Auto⟩:bq)).bind fun g=>
 some g
theorem vT (O0:Own c0 G F) (z:Rel c0 sg G) (hG:Gl [2,4] c0) (p0:Option Nat) (o:Int) (b:Int) {r:Sto} (h2:Pt 2 c0 v1 p0) (H:kQ sg p0 o b=some r): Calls prog 75 #[v1,I o,I b] c0.w (aP c0 fun c v=>∃G_:Gm,Own c G_ (F)∧Rel c r G_∧v= .tuple #[]):=by
 unfold kQ at H;refine en func75 rfl rfl (W.seq (W.seq (bn H fun q5 h3 H=>W.join (Jn c0 fun c l=>Own c G (F)∧l= [(0,v1),(1,I o),(2,I b),(19,B q5)]) ?_ ?_)))
 ·clear H;refine W.region (va (v1) (vr (B p0.isNone) (by rcases (h2).cs with ⟨t,u⟩ | ⟨b_,t,u⟩ <;> (subst t; rw [u]; kernel_rfl)) ?_));rcases bo (p0.isNone) with h4 | h4
  ·obtain rfl:=orT h4 h3;exact vb h4 (pz (pz (ps (va (B true) (wln (jn c0 ⟨O0,rfl⟩))))))
  have H5:=orF h4 h3;refine vb h4 (wa (v1) (wn (bn H5 fun g8 h8 H5=>?_)));obtain ⟨b6,rfl,h7⟩:=(h2).get h8;refine va (Q b6) (wa (Q b6) (wn (bn H5 fun k2 h9 H5=>?_)));obtain ⟨v10,t5,s5⟩:=Rel.open_place_Pen z h9 h7;refine vx (le1 0 eU (O0.gon t5 0 rfl)) (wn (vr (B k2.G.isNone) (by rcases (s5).cs with ⟨t,u⟩ | ⟨b_,t,u⟩ <;> (subst t; rw [u]; kernel_rfl)) ?_));obtain rfl:=si H5;exact va (B k2.G.isNone) (wln (jn c0 ⟨O0,rfl⟩))
 rintro e_ w_ ⟨c2,f8,_,rfl,Z,rfl,m1,rfl⟩;refine nrm (cn H (fun u5 H=>?_) (fun u5 H=>?_))
 ·refine W.ret (thr ?_);obtain rfl:=si H;exact r0 (qq c2 ⟨G,m1,z.m,rfl⟩)
 refine W.skip (nrm (sr (va (I o) (va (I (aO o 1024)) (va (I (bb 1 (aO o 1024))) (va (I b) (va (I (aO b 1024)) (va (I (bb 1 (aO b 1024))) (va (I (bb 1 (aO o 1024))) (va (I (bb 1 (aO b 1024))) (wln (W.seq (bn H fun i7 v5 H=>bn H fun h w5 H=>bn H fun D g2 H=>bn H fun E x0 H=>bn H fun a X H=>W.join (Jn c2 fun c l=>∃n,Own c G ((Eb n 29 [I a.Row,I a.Col,B a.Pending]) :: F)∧l= [(0,v1),(1,I (bb 1 (aO o 1024))),(2,I (bb 1 (aO b 1024))),(6,Q n)]) ?_ ?_)))))))))))))
 ·clear H;refine rD [] (Kp G []) m1 ?_;intro g5 j2 k0;have f1:Kp G [] g5:=(Kp.nil k0);refine ta 0 (v1) ?_;obtain ⟨s,rfl,y5⟩:=((h2.mono (Z.trans j2))).get v5;refine ta 1 (Q s) (ta 2 (Qo s 1) ?_);obtain ⟨v31,y0,M⟩:=Rel.open_place_Pen (z.mono (Z.trans j2)) w5 y5;refine tkx 3 f1 (fun c' i2 hk=>leN 29 1 [I h.At.Row,I h.At.Col,B h.At.Pending] (hk.gon y0 0 rfl)) (ta 4 (Q s) (ta 5 (Q s) (ta 6 (Q s) (tkx 7 f1 (fun c' i2 hk=>le1 0 eU (hk.gon y0 0 rfl)) (ta 9 (Q s) (ta 10 (Q s) (ta 11 (Q s) (tkx 12 f1 (fun c' i2 hk=>le1 0 eU (hk.gon y0 0 rfl)) (mn2 8 15 ?_ ?_)))))))))
  ·refine gc 8 (cL k0 z.m h.G M g2) ?_;rintro v39 h5 i8 ⟨l0,rfl⟩;have z5:Kp G [] h5:=(Kp.nil l0);refine ⟨.inr z5,mn2 13 15 ?_ ?_⟩
   ·refine gc 13 (bG l0 z.m h.G M.m x0) ?_;rintro v46 i5 j8 ⟨m0,rfl⟩;have a6:Kp G [] i5:=(Kp.nil m0);refine ⟨.inr a6,mn2 14 15 ?_ ?_⟩
    ·refine gc 14 (dP m0 h.At D E X) ?_;rintro v53 j5 k8 ⟨n1,rfl⟩;have c6:Kp G [] j5:=(Kp.nil n1);refine ⟨.inr c6,o1 15 (gm 15 (al 29 [I 0,I 0,B false] n1) ?_)⟩;rintro v58 k5 l8 ⟨a5,rfl,q1⟩;have d6:Kp G [] k5:=(Kp.nil q1);refine ⟨.inr d6,o1 16 (gD 16 (sA 29 [I a.Row,I a.Col,B a.Pending] 0 q1 ⟨rfl,rfl,rfl,trivial⟩) ?_)⟩;rintro d2 m8 s1;have e6:Kp G [] d2:=(Kp.nil s1);exact ⟨.inr e6,dn (nrm (jn d2 ⟨a5,s1,rfl⟩))⟩
    refine gm 15 (al 29 [I 0,I 0,B false] m0) ?_;rintro u8 l5 n8 ⟨c5,rfl,t1⟩;have f6:Kp G [] l5:=(Kp.nil t1);refine ⟨.inr f6,o1 14 (gc 14 (dP t1 h.At D E X) ?_)⟩;rintro v8 m5 o8 ⟨u1,rfl⟩;have g6:Kp G [] m5:=(Kp.nil u1);refine ⟨.inr g6,o1 16 (gD 16 (sA 29 [I a.Row,I a.Col,B a.Pending] 0 u1 ⟨rfl,rfl,rfl,trivial⟩) ?_)⟩;rintro e2 p8 w1;have h6:Kp G [] e2:=(Kp.nil w1);exact ⟨.inr h6,dn (nrm (jn e2 ⟨c5,w1,rfl⟩))⟩
   refine gm 15 (al 29 [I 0,I 0,B false] l0) ?_;rintro w8 n5 q8 ⟨d5,rfl,x1⟩;have i6:Kp G [] n5:=(Kp.nil x1);refine ⟨.inr i6,o1 13 (gc 13 (bG x1 z.m h.G M.m x0) ?_)⟩;rintro x8 o5 r8 ⟨y1,rfl⟩;have j6:Kp G [] o5:=(Kp.nil y1);refine ⟨.inr j6,o1 14 (gc 14 (dP y1 h.At D E X) ?_)⟩;rintro y8 p5 s8 ⟨z1,rfl⟩;have k6:Kp G [] p5:=(Kp.nil z1);refine ⟨.inr k6,o1 16 (gD 16 (sA 29 [I a.Row,I a.Col,B a.Pending] 0 z1 ⟨rfl,rfl,rfl,trivial⟩) ?_)⟩;rintro f2 t8 b2;have l6:Kp G [] f2:=(Kp.nil b2);exact ⟨.inr l6,dn (nrm (jn f2 ⟨d5,b2,rfl⟩))⟩
  refine gm 15 (al 29 [I 0,I 0,B false] k0) ?_;rintro v7 l3 l7 ⟨k3,rfl,d0⟩;have q4:Kp G [] l3:=(Kp.nil d0);refine ⟨.inr q4,o1 8 (gc 8 (cL d0 z.m h.G M.m g2) ?_)⟩;rintro w7 m3 m7 ⟨e0,rfl⟩;have r4:Kp G [] m3:=(Kp.nil e0);refine ⟨.inr r4,o1 13 (gc 13 (bG e0 z.m h.G M.m x0) ?_)⟩;rintro x7 n3 n7 ⟨f0,rfl⟩;have s4:Kp G [] n3:=(Kp.nil f0);refine ⟨.inr s4,o1 14 (gc 14 (dP f0 h.At D E X) ?_)⟩;rintro y7 o3 o7 ⟨g0,rfl⟩;have t4:Kp G [] o3:=(Kp.nil g0);refine ⟨.inr t4,o1 16 (gD 16 (sA 29 [I a.Row,I a.Col,B a.Pending] 0 g0 ⟨rfl,rfl,rfl,trivial⟩) ?_)⟩;rintro s0 p7 h0;have u4:Kp G [] s0:=(Kp.nil h0);exact ⟨.inr u4,dn (nrm (jn s0 ⟨k3,h0,rfl⟩))⟩
 rintro e_ w_ ⟨t6,y6,_,rfl,b1,rfl,n,i0,rfl⟩;refine nrm (sr (va (Q n) (vx (le1 0 u_3 (i0.on 0 rfl)) (va (I (bb 1 (aO b 1024))) (va (I (w64 (a.Row - (bb 1 (aO b 1024))))) (va (I (w64 ((w64 (a.Row - (bb 1 (aO b 1024))))+1))) (vv (I (bb 0 (w64 ((w64 (a.Row - (bb 1 (aO b 1024))))+1)))) (wln (sr (va (I (bb 1 (aO o 1024))) (va (I (bb 1 (aO b 1024))) (bn H fun w4 u3 H=>cl (vE i0 z.m (bb 1 (aO o 1024)) (bb 1 (aO b 1024)) u3) ?_))))))))))));rintro q R c1 ⟨_,l2,t2,d3,q6,rfl,y⟩;refine va (q) (wln (W.seq (sr (va (I (bb 1 (aO b 1024))) (va (I 0) (wln (W.block (bn H fun u7 u0 g=>lp u0 (fun f=>Jn R fun c l=>∃G_,Own c G_ ((Eb n 29 [I a.Row,I a.Col,B a.Pending]) :: F)∧l= [(0,v1),(1,I (bb 1 (aO o 1024))),(2,I (bb 1 (aO b 1024))),(6,Q n),(7,I (bb 0 (w64 ((w64 (a.Row - (bb 1 (aO b 1024))))+1)))),(8,q),(50,I (bb 1 (aO b 1024))),(51,I f.1)]∧Rel c f.2 G_) (fun i1 ex e w=>ex= .exit 0∧(Jn R fun c l=>∃G_,Own c G_ ((Eb n 29 [I a.Row,I a.Col,B a.Pending]) :: F)∧l= [(0,v1),(1,I (bb 1 (aO o 1024))),(2,I (bb 1 (aO b 1024))),(6,Q n),(7,I (bb 0 (w64 ((w64 (a.Row - (bb 1 (aO b 1024))))+1)))),(8,q)]∧Rel c i1 G_) e w) ?_ ?_ ?_))))))))
 ·clear g u0;intro f z8 r5 m6 H;revert r5 m6;rintro e_ w_ ⟨t0,z6,_,rfl,o4,rfl,a0,N,rfl,x⟩;refine sr (va (B (decide (f.1 < (bb 1 (aO b 1024))))) (wln (W.seq (cn H (fun v3 H=>?_) (fun v3 H=>?_)))))
  ·refine W.skip (nrm (bn H fun y4 d q2=>W.seqJ (Jn t0 fun c l=>∃G_,Own c G_ ((Eb n 29 [I a.Row,I a.Col,B a.Pending]) :: F)∧l= [(0,v1),(1,I (bb 1 (aO o 1024))),(2,I (bb 1 (aO b 1024))),(6,Q n),(7,I (bb 0 (w64 ((w64 (a.Row - (bb 1 (aO b 1024))))+1)))),(8,q),(50,I (bb 1 (aO b 1024))),(51,I f.1)]∧Rel c y4 G_) ?_ ?_))
   ·refine W.block (sr (vv (I f.1) (wln (sr (va (v1) (bn d fun j7 x3 d=>?_))))));obtain ⟨q0,rfl,w3⟩:=((h2.mono (Z.trans (b1.trans (c1.trans o4))))).get x3;refine vv (Q q0) (bn d fun p4 y3 d=>?_);obtain ⟨z7,a4,z3⟩:=Rel.open_place_Pen x y3 w3;refine vx (le1 0 eU (N.gon a4 0 rfl)) (va (I (bb 0 (w64 ((w64 (a.Row - (bb 1 (aO b 1024))))+1)))) (va (I f.1) (va (I (w64 ((bb 0 (w64 ((w64 (a.Row - (bb 1 (aO b 1024))))+1)))+f.1))) (bn d fun g1 b4 d=>cl (cO N x p4.G (w64 ((bb 0 (w64 ((w64 (a.Row - (bb 1 (aO b 1024))))+1)))+f.1)) z3 b4) ?_))));rintro U p3 q7 ⟨_,j0,rfl,v0⟩;refine va (U) (wln (sr (va (U) (vr (B (!g1.isNone)) (by rcases (v0).cs with ⟨t,u⟩ | ⟨b_,t,u⟩ <;> (subst t; rw [u]; kernel_rfl)) (wln (cn d (fun c4 d=>?_) (fun c4 d=>?_)))))))
    ·refine W.region (va (q) (va (I f.1) (va (U) (va (I (bb 1 (aO o 1024))) (bn d fun x4 d4 d=>cl (xB j0 x.m (hG.m.le (by decide)) g1 (bb 1 (aO o 1024)) v0 d4) ?_)))));rintro a8 u6 r7 ⟨_,n6,u2,e3,rfl,e4⟩;refine bn d fun e8 f4 d=>cl (pB u2 e3 w4.2 f.1 x4.2 y.m e4 f4) ?_;rintro b8 q3 s7 ⟨m2,v2,f3,rfl⟩;refine WL.nil (bkn (nrm ?_));obtain rfl:=si d;exact jn q3 ⟨m2,v2,rfl,f3⟩
    refine W.skip (bkn (nrm ?_));obtain rfl:=si d;exact jn p3 ⟨a0,j0,rfl,x.m⟩
   rintro e_ w_ ⟨s3,a7,_,rfl,t7,rfl,n2,w2,rfl,g3⟩;refine W.region (vv (I (w64 (f.1+1))) (WL.nil ?_));obtain rfl:=si q2;exact ⟨_,rfl,jn s3 ⟨n2,w2,rfl,g3⟩⟩
  refine W.exit (thx ?_);obtain rfl:=si H;exact ⟨_,rfl,rfl,jn t0 ⟨a0,N,rfl,x⟩⟩
 ·exact jn R ⟨l2,t2,rfl,d3⟩
 rintro _ e_ w_ ⟨rfl,v6,b7,_,rfl,A,rfl,o6,x2,rfl,o0⟩;refine bke (nrm (sr (va (v1) (va (q) (bn g fun k7 g4 g=>?_)))));obtain ⟨j,rfl,S⟩:=((h2.mono (Z.trans (b1.trans (c1.trans A))))).get g4;refine vv (Q j) ?_;obtain ⟨p,rfl⟩:=((y.mono A)).form;refine bn g fun i i4 g=>?_;obtain ⟨c8,j4,c7⟩:=Rel.open_place_Pen o0 i4 S;refine md (gC 124 0 (.pointer p) [.pointer p,I i.At.Row,I i.At.Col,B i.At.Pending,B i.Auto] 0 x2 j4 ⟨y.m.one,trivial⟩) ?_;rintro w6 T y2;refine bn g fun z4 l4 g=>?_;obtain ⟨p6,P,i3,k4,r6⟩:=Rel.put_place_Pen y2 (o0.mono T) (E':=[(Eb j 126 [.pointer p,I i.At.Row,I i.At.Col,B i.At.Pending,B i.Auto])]) l4 ⟨j,(.pointer p),(tm S),rfl,(y.mono (A.trans T))⟩;refine wln (W.region (va (Q j) (va (Q n) (vx (le1 0 u_3 (P.on 0 rfl)) (va (I (bb 0 (w64 ((w64 (a.Row - (bb 1 (aO b 1024))))+1)))) (va (I (w64 (a.Row - (bb 0 (w64 ((w64 (a.Row - (bb 1 (aO b 1024))))+1)))))) (va (Qo n 1) (vx (le1 1 u_3 (P.on 0 rfl)) (va (I (bb 1 (aO o 1024))) (va (I (bb 1 (aO b 1024))) (bn g fun k m4 g=>cl (rn P (w64 (a.Row - (bb 0 (w64 ((w64 (a.Row - (bb 1 (aO b 1024))))+1))))) a.Col (bb 1 (aO o 1024)) (bb 1 (aO b 1024)) m4) ?_)))))))))));rintro d8 x6 d1 ⟨z2,rfl⟩;refine va (Q j) (va (Qo j 1) (md (gB 29 1 [I k.Row,I k.Col,B k.Pending] [.pointer p,I k.Row,I k.Col,B k.Pending,B i.Auto] 0 z2 k4 ⟨rfl,rfl,rfl,trivial⟩) ?_));rintro t3 e1 a3;refine bn g fun v4 n4 g=>?_;obtain ⟨o2,b3,j3,d7,s6⟩:=Rel.put_place_Pen a3 (i3.mono (d1.trans e1)) (E':=[(Eb j 126 [.pointer p,I k.Row,I k.Col,B k.Pending,B i.Auto])]) n4 ⟨j,(.pointer p),(tm S),rfl,(y.mono (A.trans (T.trans (d1.trans e1))))⟩;refine WL.nil ?_;obtain rfl:=si g;have c3:=b3.sD 1 [];exact n0 (qq t3 ⟨o2,c3,j3,rfl⟩)
def gu (p0:List aa) (p1:Int):Option (List aa):=
 (rep (bb 1 (aO p1 1024)) (⟨0,([]:List Int)⟩:aa)).bind fun i=>
 (cv (σ:=(List aa)×Int) (τ:=(List aa)) (((bb 1 (aO p1 1024)) - 0).toNat+1) (fun a=>
 (bD (decide (a.2 < (bb 1 (aO p1 1024)))) (some (decide (a.2 < (p0.length:Int))))).bind fun b=>
 if b=true then
 ((orE (decide ((w64 (a.2+1)) < (bb 1 (aO p1 1024)))) ((idx p0 a.2).bind fun f=>
 some (f.Kind != 2))).bind fun c=>
 if c=true then
 (idx p0 a.2).bind fun g=>
 (idx a.1 a.2).bind fun j=>
 (nT a.1 a.2 g).bind fun e=>
 some (e)
 else
 some (a.1)).bind fun h=>
 some (.inl (h,(w64 (a.2+1))))
 else
 some (.inr (a.1))) (i,0)).bind fun d=>
 some d
def gq (p0:ag) (p1:Int) (p2:Int):Option (ag):=
 (bZ p0).bind fun d=>
 (bf p1).bind fun f=>
 (bf p2).bind fun c=>
 (cv (σ:=(List ah)×Int) (τ:=((List ah)×Int)) ((d.At.Row - c).toNat+2) (fun a=>
 if (decide (a.2≥c))=true then
 (slc a.1 1 a.1.length).bind fun h=>
 some (.inl (h,(w64 (a.2 - 1))))
 else
 some (.inr (a.1,a.2))) (d.L,d.At.Row)).bind fun e=>
 (cv (σ:=(List ah)×Int) (τ:=(List ah)) ((c - 0).toNat+1) (fun b=>
 if (decide (b.2 < c))=true then
 (if (decide (b.2 < (e.1.length:Int)))=true then
 (idx e.1 b.2).bind fun i=>
 some (i.Cells)
 else
 some (([]:List aa))).bind fun l=>
 (gu l f).bind fun j=>
 (app b.1 ([(⟨j,false⟩:ah)]:List ah)).bind fun k=>
 some (.inl (k,(w64 (b.2+1))))
 else
 some (.inr (b.1))) (([]:List ah),0)).bind fun g=>
 some (⟨g,(⟨e.2,(aO d.At.Col (w64 (f - 1))),false⟩:ai),d.Auto⟩:ag)
def mJ (p0:Int):Option (Bool):=
 (bD (decide (p0≥2)) (some (decide (p0≤12)))).bind fun a=>
 some a
theorem yW (d:Own c0 G F) (a:Int) {r:Bool} (H:mJ a=some r): Calls prog 162 #[I a] c0.w (aP c0 fun c v=>Own c G (F)∧v=B r):=by
 unfold mJ at H;refine en func162 rfl rfl (sr (va (B false) (wln (W.seq (bn H fun e f H=>W.join (Jn c0 fun c l=>Own c G (F)∧l= [(2,B e)]) ?_ ?_)))))
 ·clear H;refine W.region (va (I a) (va (B (decide (a≥2))) ?_));rcases bo (decide (a≥2)) with b | b
  ·have g:=anT b f;refine vb b (wa (I a) (wa (B (decide (a≤12))) ?_));obtain rfl:=si g;exact vv (B (decide (a≤12))) (wln (jn c0 ⟨d,rfl⟩))
  obtain rfl:=anF b f;exact vb b (pz (vv (B false) (wln (jn c0 ⟨d,rfl⟩))))
 rintro j n ⟨i,k,_,rfl,m,rfl,h,rfl⟩;refine nrm (W.ret ?_);obtain rfl:=si H;exact r1 (qq i ⟨h,rfl⟩)
def kC (p0:aM):Option (Er):=
 (mJ p0.Kind).bind fun d=>
 if (!d)=true then
 some (Er.sent 4)
 else
 (bD (decide (p0.Kind≤4)) (some (p0.Kind != 2))).bind fun a=>
 (bD a ((orE (decide (p0.A < 0)) (some (decide (p0.A > 2)))).bind fun c=>
 some c)).bind fun b=>
 if b=true then
 some (Er.sent 2)
 else
 some Er.nil
theorem sR (S:Own c0 G F) (hG:Gl [2,4] c0) (a:aM) {r:Er} (h2:Sl (RI .u8) c0 v1 a.Bytes) (H:kC a=some r): Calls prog 103 #[.agg #[I a.Kind,I a.A,I a.B,v1]] c0.w (aP c0 fun c v=>∃R,Own c G (F)∧v=R∧RE 350 144 c R r):=by
 unfold kC at H;refine en func103 rfl rfl (sr ?_);obtain ⟨U,X,Z,rfl⟩:=(h2).form;refine me (bx 38 [I a.Kind,I a.A,I a.B,.slice U X Z] S) ?_;rintro v10 c9 P ⟨i,rfl,T,k⟩;refine va (.nilIface) (wln (W.seq (W.block (sr (va (Q i) (vx (l1 u_3 (k 0 _ rfl)) (bn H fun u D H=>cl (yW T a.Kind D) ?_)))))));rintro v17 b l16 ⟨d,rfl⟩;refine vv (B (!u)) (wln (cn H (fun E H=>?_) (fun E H=>?_)))
 ·refine sr ?_;obtain ⟨v19,o⟩:=(hG.mono (P.trans l16)).get 4 (by decide);refine vx (l1 rS o.im) (va (v19) (wln (W.ret (bkr (thr ?_)))));obtain rfl:=si H;exact r1 (qq b ⟨v19,d,rfl,o⟩)
 refine W.seq (bn H fun a0 p H=>bn H fun x j H=>W.join (Jn b fun c l=>Own c G (F)∧l= [(9,B x)]) ?_ ?_)
 ·clear H;refine W.region (va (Q i) (vx (l1 u_3 ((mm k) 0 _ rfl)) (va (B (decide (a.Kind≤4))) ?_)));rcases bo (decide (a.Kind≤4)) with e | e
  ·have y:=anT e p;refine vb e (wa (Q i) (wn (vx (l1 u_3 ((mm k) 0 _ rfl)) (wa (B (a.Kind != 2)) ?_))));obtain rfl:=si y;refine va (B (a.Kind != 2)) ?_;rcases bo (a.Kind != 2) with f | f
   ·have h:=anT f j;refine vb f (wa (Qo i (0+1)) (wn (vx (l1 u_3 ((mm k) 1 _ rfl)) (wa (B (decide (a.A < 0))) (wn (bn h fun b0 q h=>?_))))));rcases bo (decide (a.A < 0)) with g | g
    ·obtain rfl:=orT g q;refine vb g (pz (ps (wa (B true) ?_)));obtain rfl:=si h;exact vv (B true) (wln (jn b ⟨d,rfl⟩))
    have z:=orF g q;refine vb g (wa (Qo i (0+1)) (wn (vx (l1 u_3 ((mm k) 1 _ rfl)) (wa (B (decide (a.A > 2))) (wn ?_)))));obtain rfl:=si z;refine va (B (decide (a.A > 2))) ?_;obtain rfl:=si h;exact vv (B (decide (a.A > 2))) (wln (jn b ⟨d,rfl⟩))
   obtain rfl:=anF f j;exact vb f (pz (pz (pz (pz (vv (B false) (wln (jn b ⟨d,rfl⟩)))))))
  obtain rfl:=anF e p;refine vb e (pz (ps (va (B false) ?_)));have s:false=false:=rfl;obtain rfl:=anF s j;exact vb s (pz (pz (pz (pz (vv (B false) (wln (jn b ⟨d,rfl⟩)))))))
 rintro e_ w_ ⟨n,e0,_,rfl,N,rfl,m,rfl⟩;refine nrm (cn H (fun M H=>?_) (fun M H=>?_))
 ·refine sr ?_;obtain ⟨v38,t⟩:=(hG.mono (P.trans (l16.trans N))).get 2 (by decide);refine vx (l1 rS t.im) (va (v38) (wln (W.ret (bkr (thr ?_)))));obtain rfl:=si H;exact r1 (qq n ⟨v38,m,rfl,t⟩)
 refine W.skip (bkn (nrm (sr (va (.nilIface) (wln (W.ret ?_))))));obtain rfl:=si H;exact r1 (qq n ⟨.nilIface,m,rfl,rfl⟩)
def iL (sg:Sto) (p0:Option Nat) (p1:aM):Option (Sto):=
 (p0).bind fun e=>
 (sg.place_Pen[e]?).bind fun b=>
 (bK sg b.G).bind fun f=>
 if (p1.Kind==10)=true then
 (jZ sg b.G 0 f p1.A).bind fun i=>
 some i
 else
 if (p1.Kind==11)=true then
 (jK sg b.G 0 f p1.A).bind fun j=>
 some j
 else
 if (p1.Kind==8)=true then
 (jK sg b.G b.At.Row f p1.A).bind fun g=>
 (g.place_Pen[e]?).bind fun c=>
 (dt c.At).bind fun d=>
 (g.set_place_Pen e (⟨c.G,d,c.Auto⟩:bq)).bind fun a=>
 some a
 else
 if (p1.Kind==9)=true then
 (jZ sg b.G b.At.Row f p1.A).bind fun h=>
 (h.place_Pen[e]?).bind fun c=>
 (dt c.At).bind fun d=>
 (h.set_place_Pen e (⟨c.G,d,c.Auto⟩:bq)).bind fun a=>
 some a
 else
 (dt b.At).bind fun d=>
 (sg.set_place_Pen e (⟨b.G,d,b.Auto⟩:bq)).bind fun a=>
 some a
theorem qF (O0:Own c0 G F) (s:Rel c0 sg G) (p0:Option Nat) (f:aM) {r:Sto} (h2:Pt 2 c0 v1 p0) (h4:Sl (RI .u8) c0 v3 f.Bytes) (H:iL sg p0 f=some r): Calls prog 122 #[v1,.agg #[I f.Kind,I f.A,I f.B,v3]] c0.w (aP c0 fun c v=>∃G_:Gm,Own c G_ (F)∧Rel c r G_∧v= .tuple #[]):=by
 unfold iL at H;refine en func122 rfl rfl (sr ?_);obtain ⟨a5,a6,a7,rfl⟩:=(h4).form;refine me (bx 38 [I f.Kind,I f.A,I f.B,.slice a5 a6 a7] O0) ?_;rintro v12 q3 x ⟨t,rfl,O9,q⟩;refine wln (sr (va (v1) (bn H fun z3 y1 H=>?_)));obtain ⟨a,rfl,l⟩:=((h2.mono x)).get y1;refine vv (Q a) (bn H fun e z1 H=>?_);obtain ⟨v17,g,n⟩:=Rel.open_place_Pen (s.mono x) z1 l;refine vx (le1 0 eU (O9.gon g 0 rfl)) (bn H fun i b2 H=>cl (bG O9 s.m e.G n b2) ?_);rintro v26 s3 b0 ⟨k,rfl⟩;refine va (I i) (wln (W.seq (sr (va (Q t) (vx (l1 u_3 ((mm q) 0 _ rfl)) (wln (W.block (sr (vv (B (f.Kind==10)) (wln (cn H (fun c2 H=>?_) (fun c2 H=>?_))))))))))))
 ·refine W.seq (rD [7] (Kp G []) k ?_);intro n1 a4 M;have u2:Kp G [] n1:=(Kp.nil M);refine ta 0 (Q a) (ta 1 (Q a) (ta 2 (Q a) (tkx 3 u2 (fun p h j=>le1 0 eU (j.gon g 0 rfl)) (ta 4 (I i) (ta 5 (Qo t (0+1)) (tx 6 (fun p h=>l1 u_3 ((mm q) 1 _ rfl)) (bn H fun j3 d2 H=>o1 7 (gc 7 (qv M s.m e.G 0 i f.A n.m d2) ?_))))))));rintro v37 q1 b4 ⟨z0,c1,j1,rfl⟩;refine ⟨.inl rfl,dn (nrm (W.ret (bkr (thr ?_))))⟩;obtain rfl:=si H;exact r0 (qq q1 ⟨z0,c1,j1,rfl⟩)
 refine sr (vv (B (f.Kind==11)) (wln (cn H (fun e2 H=>?_) (fun e2 H=>?_))))
 ·refine W.seq (rD [7] (Kp G []) k ?_);intro s1 c4 N;have v2:Kp G [] s1:=(Kp.nil N);refine ta 0 (Q a) (ta 1 (Q a) (ta 2 (Q a) (tkx 3 v2 (fun p h j=>le1 0 eU (j.gon g 0 rfl)) (ta 4 (I i) (ta 5 (Qo t (0+1)) (tx 6 (fun p h=>l1 u_3 ((mm q) 1 _ rfl)) (bn H fun k3 f2 H=>o1 7 (gc 7 (rh N s.m e.G 0 i f.A n.m f2) ?_))))))));rintro v48 t1 d4 ⟨a1,d1,k1,rfl⟩;refine ⟨.inl rfl,dn (nrm (W.ret (bkr (thr ?_))))⟩;obtain rfl:=si H;exact r0 (qq t1 ⟨a1,d1,k1,rfl⟩)
 refine sr (vv (B (f.Kind==8)) (wln (cn H (fun g2 H=>?_) (fun g2 H=>?_))))
 ·refine rD [12] (Kp G []) k ?_;intro u1 e4 P;have g0:Kp G [] u1:=(Kp.nil P);refine ta 0 (Q a) (ta 1 (Q a) (ta 2 (Q a) (tkx 3 g0 (fun p h j=>le1 0 eU (j.gon g 0 rfl)) (ta 4 (Q a) (ta 5 (Q a) (ta 6 (Qo a 1) (ta 7 (Qo a 1) (tkx 8 g0 (fun p h j=>le1 1 u_3 (j.gon g 0 rfl)) (ta 9 (I i) (ta 10 (Qo t (0+1)) (tx 11 (fun p h=>l1 u_3 ((mm q) 1 _ rfl)) (bn H fun l3 i2 H=>o1 12 (gc 12 (rh P s.m e.G e.At.Row i f.A n.m i2) ?_)))))))))))));rintro v59 t3 f4 ⟨n3,R,U,rfl⟩;refine ⟨.inl rfl,dn (bkn (nrm (W.region (vv (Q a) (va (Q a) (va (Qo a 1) (bn H fun d j2 H=>?_)))))))⟩;obtain ⟨D,Z,k2⟩:=Rel.open_place_Pen U j2 (tm l);refine vx (leN 29 1 [I d.At.Row,I d.At.Col,B d.At.Pending] (R.gon Z 0 rfl)) (bn H fun b l2 H=>cl (jE R d.At l2) ?_);rintro j4 u3 d0 ⟨e1,rfl⟩;refine va (Q a) (va (Qo a 1) (md (gB 29 1 [I b.Row,I b.Col,B b.Pending] [D,I b.Row,I b.Col,B b.Pending,B d.Auto] 0 e1 Z ⟨rfl,rfl,rfl,trivial⟩) ?_));rintro w1 e0 f1;refine bn H fun o m2 H=>?_;obtain ⟨b1,g1,m1,y3,p3⟩:=Rel.put_place_Pen f1 (U.mono (d0.trans e0)) (E':=[(Eb a 126 [D,I b.Row,I b.Col,B b.Pending,B d.Auto])]) m2 ⟨a,D,(tm l),rfl,(k2.mono (d0.trans e0))⟩;refine WL.nil ?_;obtain rfl:=si H;exact n0 (qq w1 ⟨b1,g1,m1,rfl⟩)
 refine sr (vv (B (f.Kind==9)) (wln (cn H (fun n2 H=>?_) (fun n2 H=>?_))))
 ·refine rD [12] (Kp G []) k ?_;intro x1 g4 S;have h0:Kp G [] x1:=(Kp.nil S);refine ta 0 (Q a) (ta 1 (Q a) (ta 2 (Q a) (tkx 3 h0 (fun p h j=>le1 0 eU (j.gon g 0 rfl)) (ta 4 (Q a) (ta 5 (Q a) (ta 6 (Qo a 1) (ta 7 (Qo a 1) (tkx 8 h0 (fun p h j=>le1 1 u_3 (j.gon g 0 rfl)) (ta 9 (I i) (ta 10 (Qo t (0+1)) (tx 11 (fun p h=>l1 u_3 ((mm q) 1 _ rfl)) (bn H fun m3 o2 H=>o1 12 (gc 12 (qv S s.m e.G e.At.Row i f.A n.m o2) ?_)))))))))))));rintro k4 w3 i4 ⟨o3,T,X,rfl⟩;refine ⟨.inl rfl,dn (bkn (nrm (W.region (vv (Q a) (va (Q a) (va (Qo a 1) (bn H fun d p2 H=>?_)))))))⟩;obtain ⟨E,a0,q2⟩:=Rel.open_place_Pen X p2 (tm l);refine vx (leN 29 1 [I d.At.Row,I d.At.Col,B d.At.Pending] (T.gon a0 0 rfl)) (bn H fun b s2 H=>cl (jE T d.At s2) ?_);rintro h3 x3 f0 ⟨i1,rfl⟩;refine va (Q a) (va (Qo a 1) (md (gB 29 1 [I b.Row,I b.Col,B b.Pending] [E,I b.Row,I b.Col,B b.Pending,B d.Auto] 0 i1 a0 ⟨rfl,rfl,rfl,trivial⟩) ?_));rintro u0 u k0;refine bn H fun o w0 H=>?_;obtain ⟨i0,l0,s0,d3,x2⟩:=Rel.put_place_Pen k0 (X.mono (f0.trans u)) (E':=[(Eb a 126 [E,I b.Row,I b.Col,B b.Pending,B d.Auto])]) w0 ⟨a,E,(tm l),rfl,(q2.mono (f0.trans u))⟩;refine WL.nil ?_;obtain rfl:=si H;exact n0 (qq u0 ⟨i0,l0,s0,rfl⟩)
 refine W.skip (bkn (nrm (W.region (vv (Q a) (va (Q a) (va (Qo a 1) (vx (leN 29 1 [I e.At.Row,I e.At.Col,B e.At.Pending] (k.gon g 0 rfl)) (bn H fun b x0 H=>cl (jE k e.At x0) ?_))))))));rintro i3 c3 y ⟨m0,rfl⟩;refine va (Q a) (va (Qo a 1) (md (gB 29 1 [I b.Row,I b.Col,B b.Pending] [v17,I b.Row,I b.Col,B b.Pending,B e.Auto] 0 m0 g ⟨rfl,rfl,rfl,trivial⟩) ?_));rintro v0 z o0;refine bn H fun o y0 H=>?_;obtain ⟨j0,q0,t0,e3,y2⟩:=Rel.put_place_Pen o0 (s.mono (x.trans (b0.trans (y.trans z)))) (E':=[(Eb a 126 [v17,I b.Row,I b.Col,B b.Pending,B e.Auto])]) y0 ⟨a,v17,(tm l),rfl,(n.mono (b0.trans (y.trans z)))⟩;refine WL.nil ?_;obtain rfl:=si H;exact n0 (qq v0 ⟨j0,q0,t0,rfl⟩)
def lD (sg:Sto) (p0:Option Nat) (p1:Int):Option (Sto):=
 (p0).bind fun f=>
 (sg.place_Pen[f]?).bind fun b=>
 (bv sg b.G b.At.Row).bind fun a=>
 if (p1==0)=true then
 (kV sg a b.At.Col).bind fun c=>
 some c
 else
 if (p1==1)=true then
 (lO sg a b.At.Col).bind fun d=>
 some d
 else
 (kg sg a).bind fun e=>
 some e
theorem ud (O0:Own c0 G F) (h:Rel c0 sg G) (hG:Gl [2,4] c0) (Z:Option Nat) (d:Int) {r:Sto} (h2:Pt 2 c0 v1 Z) (H:lD sg Z d=some r): Calls prog 190 #[v1,I d] c0.w (aP c0 fun c v=>∃G_:Gm,Own c G_ (F)∧Rel c r G_∧v= .tuple #[]):=by
 unfold lD at H;refine en func190 rfl rfl (W.seq (rD [] (Kp G []) O0 ?_));intro c3 X q;have p5:Kp G [] c3:=(Kp.nil q);refine ta 0 (v1) (bn H fun o0 h8 H=>?_);obtain ⟨a,rfl,h7⟩:=((h2.mono X)).get h8;refine ta 1 (Q a) (ta 2 (Q a) (bn H fun g h9 H=>?_));obtain ⟨v10,f,E⟩:=Rel.open_place_Pen (h.mono X) h9 h7;refine tkx 3 p5 (fun c' U j=>le1 0 eU (j.gon f 0 rfl)) (ta 4 (Q a) (ta 5 (Q a) (ta 6 (Qo a 1) (ta 7 (Qo a 1) (tkx 8 p5 (fun c' U j=>le1 1 u_3 (j.gon f 0 rfl)) (bn H fun e M H=>o1 9 (gc 9 (cO q h.m g.G g.At.Row E M) ?_)))))));rintro v14 y q0 ⟨_,b,rfl,i⟩;have a0:Kp G [] y:=(Kp.nil b);refine ⟨.inr a0,ta 10 (v14) (dn (nrm (sr (va (I d) (wln (W.block (sr (vv (B (d==0)) (wln (cn H (fun N H=>?_) (fun N H=>?_)))))))))))⟩
 ·refine W.region (va (v14) (vv (Q a) (va (Qo a 1) (va (Qo a 2) (vx (le1 2 u_3 (b.gon f 0 rfl)) (bn H fun k0 P H=>cl (vZ b h.m (hG.m.le (by decide)) e g.At.Col i P) ?_))))));rintro v30 z s0 ⟨k,o,t,rfl⟩;refine WL.nil (bkn ?_);obtain rfl:=si H;exact n0 (qq z ⟨k,o,t,rfl⟩)
 refine sr (vv (B (d==1)) (wln (cn H (fun R H=>?_) (fun R H=>?_))))
 ·refine W.region (va (v14) (vv (Q a) (va (Qo a 1) (va (Qo a 2) (vx (le1 2 u_3 (b.gon f 0 rfl)) (bn H fun l0 S H=>cl (xC b h.m (hG.m.le (by decide)) e g.At.Col i S) ?_))))));rintro v38 A t0 ⟨l,p,u,rfl⟩;refine WL.nil (bkn ?_);obtain rfl:=si H;exact n0 (qq A ⟨l,p,u,rfl⟩)
 refine W.region (va (v14) (bn H fun m0 T H=>cl (uc b h.m (hG.m.le (by decide)) e i T) ?_));rintro v45 D u0 ⟨n,s,x,rfl⟩;refine WL.nil (bkn ?_);obtain rfl:=si H;exact n0 (qq D ⟨n,s,x,rfl⟩)
def mx (sg:Sto) (p0:Option Nat) (p1:Int):Option (Sto):=
 (lD sg p0 p1).bind fun c=>
 (p0).bind fun b=>
 (c.place_Pen[b]?).bind fun p=>
 (bK c p.G).bind fun d=>
 (cv (σ:=Int×Sto) (τ:=Sto) ((d - 0).toNat+1) (fun a=>
 if (decide (a.1 < d))=true then
 ((orE (p1==2) ((bD (p1==0) ((a.2.place_Pen[b]?).bind fun j=>
 some (decide (a.1 > j.At.Row)))).bind fun f=>
 some f)).bind fun e=>
 (orE e ((bD (p1==1) ((a.2.place_Pen[b]?).bind fun k=>
 some (decide (a.1 < k.At.Row)))).bind fun h=>
 some h)).bind fun g=>
 if g=true then
 (a.2.place_Pen[b]?).bind fun l=>
 (bv a.2 l.G a.1).bind fun m=>
 (kg a.2 m).bind fun n=>
 some (n)
 else
 some (a.2)).bind fun o=>
 some (.inl ((w64 (a.1+1)),o))
 else
 some (.inr (a.2))) (0,c)).bind fun i=>
 some i
theorem we (O0:Own c0 G F) (R0:Rel c0 sg G) (hG:Gl [2,4] c0) (p0:Option Nat) (f:Int) {r:Sto} (h2:Pt 2 c0 v1 p0) (H:mx sg p0 f=some r): Calls prog 191 #[v1,I f] c0.w (aP c0 fun c v=>∃G_:Gm,Own c G_ (F)∧Rel c r G_∧v= .tuple #[]):=by
 unfold mx at H;refine en func191 rfl rfl (sr (va (v1) (va (I f) (bn H fun s3 h3 H=>cl (ud O0 R0 (hG.le (by decide)) p0 f h2 h3) ?_))));rintro v9 c8 l8 ⟨G4,O5,R6,rfl⟩;refine wln (sr (va (v1) (bn H fun f3 j1 H=>?_)));obtain ⟨b,rfl,n⟩:=((h2.mono l8)).get j1;refine vv (Q b) (bn H fun l2 k1 H=>?_);obtain ⟨v14,n1,m1⟩:=Rel.open_place_Pen R6 k1 n;refine vx (le1 0 eU (O5.gon n1 0 rfl)) (bn H fun A q1 H=>cl (bG O5 R6 l2.G m1 q1) ?_);rintro v23 R g3 ⟨x0,rfl⟩;refine va (I 0) (wln (W.block (bn H fun v2 U T=>lp U (fun a=>Jn R fun c l=>∃G_,Own c G_ (F)∧l= [(0,Q b),(1,I f),(12,I A),(13,I a.1)]∧Rel c a.2 G_) (fun S ex e w=>ex= .exit 0∧(Jn R fun c l=>∃G_,Own c G_ (F)∧l= []∧Rel c S G_) e w) ?_ ?_ ?_)))
 ·clear T U;intro a t3 i1 m2 H;revert i1 m2;rintro e_ w_ ⟨i,y2,_,rfl,i3,rfl,D,g,rfl,j⟩;refine sr (va (B (decide (a.1 < A))) (wln (W.seq (cn H (fun t1 H=>?_) (fun t1 H=>?_)))))
  ·refine W.skip (nrm (bn H fun t0 d w0=>W.seqJ (Jn i fun c l=>∃G_,Own c G_ (F)∧l= [(0,Q b),(1,I f),(12,I A),(13,I a.1)]∧Rel c t0 G_) ?_ ?_))
   ·refine W.block (sr (vv (I a.1) (wln (W.seq (bn d fun q2 X d=>bn d fun j0 z d=>W.join (Jn i fun c l=>Own c D (F)∧l= [(0,Q b),(1,I f),(4,I a.1),(12,I A),(13,I a.1),(43,B j0)]) ?_ ?_)))))
    ·clear d;refine W.region (va (I f) (va (B (f==2)) ?_));rcases bo (f==2) with o | o
     ·obtain rfl:=orT o X;refine vb o (pz (pz (pz (pz (pz (ps (va (B true) ?_)))))));have Z:true=true:=rfl;obtain rfl:=orT Z z;exact vb Z (pz (pz (pz (pz (pz (ps (va (B true) (wln (jn i ⟨g,rfl⟩)))))))))
     have u:=orF o X;refine vb o (wa (I f) (wa (B (f==0)) (wn (bn u fun s2 a0 u=>?_))));rcases bo (f==0) with p | p
     ·have E:=anT p a0;refine vb p (wa (I a.1) (wa (Q b) (wa (Q b) (wa (Qo b 1) (wa (Qo b 1) (wn (bn E fun k u1 E=>?_)))))));obtain ⟨v44,w1,c3⟩:=Rel.open_place_Pen j u1 (tm n);refine vx (le1 1 u_3 (g.gon w1 0 rfl)) (wa (B (decide (a.1 > k.At.Row))) (wn ?_));obtain rfl:=si E;refine va (B (decide (a.1 > k.At.Row))) ?_;obtain rfl:=si u;refine va (B (decide (a.1 > k.At.Row))) ?_;rcases bo (decide (a.1 > k.At.Row)) with q | q
      ·obtain rfl:=orT q z;exact vb q (pz (pz (pz (pz (pz (ps (va (B true) (wln (jn i ⟨g,rfl⟩)))))))))
      have x:=orF q z;refine vb q (wa (I f) (wa (B (f==1)) (wn (bn x fun k0 b0 x=>?_))));rcases bo (f==1) with s | s
      ·have M:=anT s b0;refine vb s (wa (I a.1) (wa (Q b) (wa (Q b) (wa (Qo b 1) (wa (Qo b 1) (wn (bn M fun h x1 M=>?_)))))));obtain ⟨v53,y1,d3⟩:=Rel.open_place_Pen j x1 (tm n);refine vx (le1 1 u_3 (g.gon y1 0 rfl)) (wa (B (decide (a.1 < h.At.Row))) (wn ?_));obtain rfl:=si M;refine va (B (decide (a.1 < h.At.Row))) ?_;obtain rfl:=si x;exact va (B (decide (a.1 < h.At.Row))) (wln (jn i ⟨g,rfl⟩))
      obtain rfl:=anF s b0;refine vb s (pz (pz (pz (ps (wa (B false) ?_)))));obtain rfl:=si x;exact va (B false) (wln (jn i ⟨g,rfl⟩))
     obtain rfl:=anF p a0;refine vb p (pz (pz (pz (ps (wa (B false) ?_)))));obtain rfl:=si u;refine va (B false) ?_;have d0:false=false:=rfl;have y:=orF d0 z;refine vb d0 (wa (I f) (wa (B (f==1)) (wn (bn y fun k0 e0 y=>?_))));rcases bo (f==1) with t | t
     ·have N:=anT t e0;refine vb t (wa (I a.1) (wa (Q b) (wa (Q b) (wa (Qo b 1) (wa (Qo b 1) (wn (bn N fun h z1 N=>?_)))))));obtain ⟨n3,b2,e3⟩:=Rel.open_place_Pen j z1 (tm n);refine vx (le1 1 u_3 (g.gon b2 0 rfl)) (wa (B (decide (a.1 < h.At.Row))) (wn ?_));obtain rfl:=si N;refine va (B (decide (a.1 < h.At.Row))) ?_;obtain rfl:=si y;exact va (B (decide (a.1 < h.At.Row))) (wln (jn i ⟨g,rfl⟩))
     obtain rfl:=anF t e0;refine vb t (pz (pz (pz (ps (wa (B false) ?_)))));obtain rfl:=si y;exact va (B false) (wln (jn i ⟨g,rfl⟩))
    rintro e_ w_ ⟨e1,z2,_,rfl,k2,rfl,P,rfl⟩;refine nrm (cn d (fun c2 d=>?_) (fun c2 d=>?_))
    ·refine W.region (vv (Q b) (va (Q b) (bn d fun m0 d2 d=>?_)));obtain ⟨o3,f2,e2⟩:=Rel.open_place_Pen (j.mono k2) d2 (tm n);refine vx (le1 0 eU (P.gon f2 0 rfl)) (va (I a.1) (bn d fun s0 g2 d=>cl (cO P j.m m0.G a.1 e2 g2) ?_));rintro p3 x2 j3 ⟨_,z0,rfl,i2⟩;refine bn d fun w2 j2 d=>cl (uc z0 j.m (hG.m.le (by decide)) s0 i2 j2) ?_;rintro q3 f1 k3 ⟨u0,a1,c1,rfl⟩;refine WL.nil (bkn (nrm ?_));obtain rfl:=si d;exact jn f1 ⟨u0,a1,rfl,c1⟩
    refine W.skip (bkn (nrm ?_));obtain rfl:=si d;exact jn e1 ⟨D,P,rfl,j.m⟩
   rintro e_ w_ ⟨g1,a3,_,rfl,l3,rfl,v0,b1,rfl,d1⟩;refine W.region (vv (I (w64 (a.1+1))) (WL.nil ?_));obtain rfl:=si w0;exact ⟨_,rfl,jn g1 ⟨v0,b1,rfl,d1⟩⟩
  refine W.exit (thx ?_);obtain rfl:=si H;exact ⟨_,rfl,rfl,jn i ⟨D,g,rfl,j⟩⟩
 ·exact jn R ⟨G4,x0,rfl,R6.m⟩
 rintro _ e_ w_ ⟨rfl,h1,b3,_,rfl,m3,rfl,f0,g0,rfl,h0⟩;refine bke ?_;obtain rfl:=si T;exact n0 (qq h1 ⟨f0,g0,h0,rfl⟩)
def fL (sg:Sto) (p0:Option Nat) (p1:aM):Option (Sto):=
 (p0).bind fun e=>
 (sg.place_Pen[e]?).bind fun a=>
 (bv sg a.G a.At.Row).bind fun c=>
 if (p1.Kind==2)=true then
 (cf sg a.G).bind fun f=>
 (bK sg a.G).bind fun g=>
 (iR p1.A p1.B f g).bind fun h=>
 (sg.set_place_Pen e (⟨a.G,h,a.Auto⟩:bq)).bind fun d=>
 some d
 else
 if (p1.Kind==3)=true then
 (lD sg p0 p1.A).bind fun i=>
 some i
 else
 if (p1.Kind==4)=true then
 (mx sg p0 p1.A).bind fun j=>
 some j
 else
 if (p1.Kind==5)=true then
 (jL sg c a.At.Col p1.A).bind fun k=>
 some k
 else
 if (p1.Kind==6)=true then
 (jX sg c a.At.Col p1.A).bind fun l=>
 some l
 else
 if (p1.Kind==7)=true then
 (jY sg c a.At.Col p1.A).bind fun m=>
 some m
 else
 if (p1.Kind==12)=true then
 (sg.set_place_Pen e (⟨a.G,a.At,p1.A != 0⟩:bq)).bind fun b=>
 some b
 else
 some sg
theorem xD (O0:Own c0 G F) (k:Rel c0 sg G) (hG:Gl [2,4] c0) (D:Option Nat) (b:aM) {r:Sto} (h2:Pt 2 c0 v1 D) (h4:Sl (RI .u8) c0 v3 b.Bytes) (H:fL sg D b=some r): Calls prog 123 #[v1,.agg #[I b.Kind,I b.A,I b.B,v3]] c0.w (aP c0 fun c v=>∃G_:Gm,Own c G_ (F)∧Rel c r G_∧v= .tuple #[]):=by
 unfold fL at H;refine en func123 rfl rfl (sr ?_);obtain ⟨a5,a6,a7,rfl⟩:=(h4).form;refine me (bx 38 [I b.Kind,I b.A,I b.B,.slice a5 a6 a7] O0) ?_;rintro v12 e4 q ⟨n,rfl,O9,i⟩;refine wln (W.seq (rD [] (Kp G []) O9 ?_));intro b2 s E;have e0:Kp G [] b2:=(Kp.nil E);refine ta 0 (v1) (bn H fun g4 n2 H=>?_);obtain ⟨a,rfl,x⟩:=((h2.mono (q.trans s))).get n2;refine ta 1 (Q a) (ta 2 (Q a) (bn H fun d o2 H=>?_));obtain ⟨v20,h,o⟩:=Rel.open_place_Pen (k.mono (q.trans s)) o2 x;refine tkx 3 e0 (fun l f j=>le1 0 eU (j.gon h 0 rfl)) (ta 4 (Q a) (ta 5 (Q a) (ta 6 (Qo a 1) (ta 7 (Qo a 1) (tkx 8 e0 (fun l f j=>le1 1 u_3 (j.gon h 0 rfl)) (bn H fun p p2 H=>o1 9 (gc 9 (cO E k.m d.G d.At.Row o p2) ?_)))))));rintro v24 U t ⟨_,g,rfl,y⟩;have d3:Kp G [] U:=(Kp.nil g);refine ⟨.inr d3,ta 10 (v24) (dn (nrm (sr (va (Q n) (vx (l1 u_3 ((mm i) 0 _ rfl)) (wln (W.block (sr (vv (B (b.Kind==2)) (wln (cn H (fun q2 H=>?_) (fun q2 H=>?_))))))))))))⟩
 ·refine rD [18] (Kp G []) g ?_;intro c2 X M;have f0:Kp G [] c2:=(Kp.nil M);refine ta 0 (Q a) (ta 1 (Qo n (0+1)) (tx 2 (fun l f=>l1 u_3 ((mm i) 1 _ rfl)) (ta 3 (Qo n (0+2)) (tx 4 (fun l f=>l1 u_3 ((mm i) 2 _ rfl)) (ta 5 (Q a) (ta 6 (Q a) (ta 7 (Q a) (tkx 8 f0 (fun l f j=>le1 0 eU (j.gon h 0 rfl)) (ta 10 (Q a) (ta 11 (Q a) (ta 12 (Q a) (tkx 13 f0 (fun l f j=>le1 0 eU (j.gon h 0 rfl)) (bn H fun f1 s2 H=>o1 9 (gc 9 (cL M k.m d.G o.m s2) ?_))))))))))))));rintro v43 d2 Z ⟨N,rfl⟩;have e3:Kp G [] d2:=(Kp.nil N);refine ⟨.inr e3,bn H fun g1 t2 H=>o1 14 (gc 14 (bG N k.m d.G o.m t2) ?_)⟩;rintro v51 e2 a0 ⟨P,rfl⟩;have f3:Kp G [] e2:=(Kp.nil P);refine ⟨.inr f3,bn H fun e u2 H=>o1 15 (gc 15 (rn P b.A b.B f1 g1 u2) ?_)⟩;rintro v59 f2 b0 ⟨R,rfl⟩;have g3:Kp G [] f2:=(Kp.nil R);refine ⟨.inr g3,ta 16 (Q a) (ta 17 (Qo a 1) (o1 18 (gD 18 (gB 29 1 [I e.Row,I e.Col,B e.Pending] [v20,I e.Row,I e.Col,B e.Pending,B d.Auto] 0 R h ⟨rfl,rfl,rfl,trivial⟩) ?_)))⟩;rintro g2 d0 n1;refine bn H fun h1 v2 H=>?_;obtain ⟨i1,q1,w1,f4,d4⟩:=Rel.put_place_Pen n1 (k.mono (q.trans (s.trans (t.trans (X.trans (Z.trans (a0.trans (b0.trans d0)))))))) (E':=[(Eb a 126 [v20,I e.Row,I e.Col,B e.Pending,B d.Auto])]) v2 ⟨a,v20,(tm x),rfl,(o.mono (t.trans (X.trans (Z.trans (a0.trans (b0.trans d0))))))⟩;refine ⟨.inl rfl,dn (bkn ?_)⟩;obtain rfl:=si H;exact n0 (qq g2 ⟨i1,q1,w1,rfl⟩)
 refine sr (vv (B (b.Kind==3)) (wln (cn H (fun w2 H=>?_) (fun w2 H=>?_))))
 ·refine W.region (va (Q a) (va (Qo n (0+1)) (vx (l1 u_3 ((mm i) 1 _ rfl)) (bn H fun y3 x2 H=>cl (ud g k.m (hG.m.le (by decide)) D b.A h2.m x2) ?_))));rintro n4 i2 i4 ⟨j1,s1,x1,rfl⟩;refine WL.nil (bkn ?_);obtain rfl:=si H;exact n0 (qq i2 ⟨j1,s1,x1,rfl⟩)
 refine sr (vv (B (b.Kind==4)) (wln (cn H (fun y2 H=>?_) (fun y2 H=>?_))))
 ·refine W.region (va (Q a) (va (Qo n (0+1)) (vx (l1 u_3 ((mm i) 1 _ rfl)) (bn H fun z3 z2 H=>cl (we g k.m (hG.m.le (by decide)) D b.A h2.m z2) ?_))));rintro o4 j2 j4 ⟨k1,t1,y1,rfl⟩;refine WL.nil (bkn ?_);obtain rfl:=si H;exact n0 (qq j2 ⟨k1,t1,y1,rfl⟩)
 refine sr (vv (B (b.Kind==5)) (wln (cn H (fun a3 H=>?_) (fun a3 H=>?_))))
 ·refine rD [8] (Kp G []) g ?_;intro k2 k4 S;have h3:Kp G [] k2:=(Kp.nil S);refine ta 0 (v24) (ta 1 (Q a) (ta 2 (Q a) (ta 3 (Qo a 1) (ta 4 (Qo a 2) (tkx 5 h3 (fun l f j=>le1 2 u_3 (j.gon h 0 rfl)) (ta 6 (Qo n (0+1)) (tx 7 (fun l f=>l1 u_3 ((mm i) 1 _ rfl)) (bn H fun a4 b3 H=>o1 8 (gc 8 (wb S k.m (hG.m.le (by decide)) p d.At.Col b.A y.m b3) ?_)))))))));rintro p4 l2 l4 ⟨m1,u1,z1,rfl⟩;refine ⟨.inl rfl,dn (bkn ?_)⟩;obtain rfl:=si H;exact n0 (qq l2 ⟨m1,u1,z1,rfl⟩)
 refine sr (vv (B (b.Kind==6)) (wln (cn H (fun c3 H=>?_) (fun c3 H=>?_))))
 ·refine rD [8] (Kp G []) g ?_;intro m2 m4 T;have i3:Kp G [] m2:=(Kp.nil T);refine ta 0 (v24) (ta 1 (Q a) (ta 2 (Q a) (ta 3 (Qo a 1) (ta 4 (Qo a 2) (tkx 5 i3 (fun l f j=>le1 2 u_3 (j.gon h 0 rfl)) (ta 6 (Qo n (0+1)) (tx 7 (fun l f=>l1 u_3 ((mm i) 1 _ rfl)) (bn H fun b4 x0 H=>o1 8 (gc 8 (vu T k.m (hG.m.le (by decide)) p d.At.Col b.A y.m x0) ?_)))))))));rintro w3 t0 s3 ⟨g0,j0,o0,rfl⟩;refine ⟨.inl rfl,dn (bkn ?_)⟩;obtain rfl:=si H;exact n0 (qq t0 ⟨g0,j0,o0,rfl⟩)
 refine sr (vv (B (b.Kind==7)) (wln (cn H (fun y0 H=>?_) (fun y0 H=>?_))))
 ·refine rD [8] (Kp G []) g ?_;intro u0 t3 u;have d1:Kp G [] u0:=(Kp.nil u);refine ta 0 (v24) (ta 1 (Q a) (ta 2 (Q a) (ta 3 (Qo a 1) (ta 4 (Qo a 2) (tkx 5 d1 (fun l f j=>le1 2 u_3 (j.gon h 0 rfl)) (ta 6 (Qo n (0+1)) (tx 7 (fun l f=>l1 u_3 ((mm i) 1 _ rfl)) (bn H fun c4 z0 H=>o1 8 (gc 8 (vy u k.m (hG.m.le (by decide)) p d.At.Col b.A y.m z0) ?_)))))))));rintro x3 v0 u3 ⟨h0,k0,q0,rfl⟩;refine ⟨.inl rfl,dn (bkn ?_)⟩;obtain rfl:=si H;exact n0 (qq v0 ⟨h0,k0,q0,rfl⟩)
 refine sr (vv (B (b.Kind==12)) (wln (cn H (fun a1 H=>?_) (fun a1 H=>?_))))
 ·refine W.region (va (Q a) (va (Qo n (0+1)) (vx (l1 u_3 ((mm i) 1 _ rfl)) (va (B (b.A != 0)) (va (Q a) (va (Qo a 4) (md (gC 4 4 (B (b.A != 0)) [v20,I d.At.Row,I d.At.Col,B d.At.Pending,B (b.A != 0)] 0 g h ⟨rfl,trivial⟩) ?_)))))));rintro w0 z l0;refine bn H fun e1 b1 H=>?_;obtain ⟨i0,m0,s0,p3,l3⟩:=Rel.put_place_Pen l0 (k.mono (q.trans (s.trans (t.trans z)))) (E':=[(Eb a 126 [v20,I d.At.Row,I d.At.Col,B d.At.Pending,B (b.A != 0)])]) b1 ⟨a,v20,(tm x),rfl,(o.mono (t.trans z))⟩;refine WL.nil (bkn ?_);obtain rfl:=si H;exact n0 (qq w0 ⟨i0,m0,s0,rfl⟩)
 refine W.skip (bkn ?_);obtain rfl:=si H;exact n0 (qq U ⟨G,g,k.m,rfl⟩)
def oE (sg:Sto) (p0:Option Nat) (p1:aM):Option (Sto×Er):=
 (kC p1).bind fun g=>
 if (!g.isNil)=true then
 some (sg,g)
 else
 (orE p0.isNone ((p0).bind fun i=>
 (sg.place_Pen[i]?).bind fun j=>
 some j.G.isNone)).bind fun h=>
 if h=true then
 some (sg,Er.nil)
 else
 (p0).bind fun d=>
 (sg.place_Pen[d]?).bind fun b=>
 (cf sg b.G).bind fun k=>
 (bK sg b.G).bind fun l=>
 (dO b.At k l).bind fun e=>
 (sg.set_place_Pen d (⟨b.G,e,b.Auto⟩:bq)).bind fun f=>
 (f.set_place_Pen d (⟨b.G,(⟨e.Row,e.Col,false⟩:ai),b.Auto⟩:bq)).bind fun a=>
 (if (p1.Kind==8)=true then
 (iL a p0 p1).bind fun c=>
 some (c)
 else
 if (p1.Kind==9)=true then
 (iL a p0 p1).bind fun c=>
 some (c)
 else
 (if (p1.Kind==10)=true then
 some (p1.Kind==10)
 else
 some (p1.Kind==11)).bind fun o=>
 if o=true then
 (iL a p0 p1).bind fun c=>
 some (c)
 else
 (fL a p0 p1).bind fun m=>
 some (m)).bind fun n=>
 some (n,Er.nil)
theorem B3 (O0:Own c0 G F) (t:Rel c0 sg G) (hG:Gl [2,4] c0) (s:Option Nat) (e:aM) {r:Sto×Er} (u:Pt 2 c0 v1 s) (P:Sl (RI .u8) c0 v3 e.Bytes) (H:oE sg s e=some r): Calls prog 76 #[v1,.agg #[I e.Kind,I e.A,I e.B,v3]] c0.w (aP c0 fun c v=>∃y1,∃G_:Gm,Own c G_ (F)∧Rel c r.1 G_∧v=y1∧RE 350 144 c y1 r.2):=by
 unfold oE at H;refine en func76 rfl rfl (sr ?_);obtain ⟨a5,a6,a7,rfl⟩:=(P).form;refine me (bx 38 [I e.Kind,I e.A,I e.B,.slice a5 a6 a7] O0) ?_;rintro v12 w4 p ⟨b8,rfl,O9,k⟩;refine va (.nilIface) (wln (W.seq (sr (vx (lN 38 k) (bn H fun x3 z2 H=>cl (sR O9 (hG.m.le (by decide)) e P.m z2) ?_)))));rintro v14 D q ⟨_,x,rfl,o0⟩;refine va (v14) (wln (sr (va (v14) (vr (B (!x3.isNil)) (by rcases (o0).cs with ⟨h,i⟩ | ⟨b_,h,i⟩ | ⟨b_,h,i⟩ <;> (subst h; rw [i]; kernel_rfl)) (wln (cn H (fun a3 H=>?_) (fun a3 H=>?_)))))))
 ·refine sr (vv (v14) (wln (W.ret (thr ?_))));obtain rfl:=si H;exact r1 (qq D ⟨v14,G,x,t.m,rfl,o0⟩)
 refine W.skip (nrm (W.seq (W.seq (bn H fun n1 q0 H=>W.join (Jn D fun c l=>Own c G (F)∧l= [(0,v1),(3,Q b8),(19,B n1)]) ?_ ?_))))
 ·clear H;refine W.region (va (v1) (vr (B s.isNone) (by rcases u.m.cs with ⟨h,i⟩ | ⟨b_,h,i⟩ <;> (subst h; rw [i]; kernel_rfl)) ?_));rcases bo (s.isNone) with o | o
  ·obtain rfl:=orT o q0;exact vb o (pz (pz (ps (va (B true) (wln (jn D ⟨x,rfl⟩))))))
  have n:=orF o q0;refine vb o (wa (v1) (wn (bn n fun i4 c3 n=>?_)));obtain ⟨m0,rfl,b3⟩:=((u.mono (p.trans q))).get c3;refine va (Q m0) (wa (Q m0) (wn (bn n fun e0 d3 n=>?_)));obtain ⟨v30,f3,e3⟩:=Rel.open_place_Pen (t.mono (p.trans q)) d3 b3;refine vx (le1 0 eU (x.gon f3 0 rfl)) (wn (vr (B e0.G.isNone) (by rcases (e3).cs with ⟨h,i⟩ | ⟨b_,h,i⟩ <;> (subst h; rw [i]; kernel_rfl)) ?_));obtain rfl:=si n;exact va (B e0.G.isNone) (wln (jn D ⟨x,rfl⟩))
 rintro e_ w_ ⟨s2,y4,_,rfl,U,rfl,h0,rfl⟩;refine nrm (cn H (fun g3 H=>?_) (fun g3 H=>?_))
 ·refine sr (va (.nilIface) (wln (W.ret (thr ?_))));obtain rfl:=si H;exact r1 (qq s2 ⟨.nilIface,G,h0,t.m,rfl,rfl⟩)
 refine W.skip (nrm (W.seq (rD [18] (Kp G []) h0 ?_)));intro t2 X i0;have f0:Kp G [] t2:=(Kp.nil i0);refine ta 0 (v1) (ta 1 (v1) (bn H fun j4 h3 H=>?_));obtain ⟨a,rfl,S⟩:=((u.mono (p.trans (q.trans (U.trans X))))).get h3;refine ta 2 (Q a) (ta 3 (Qo a 1) (bn H fun d i3 H=>?_));obtain ⟨v47,N,M⟩:=Rel.open_place_Pen (t.mono (p.trans (q.trans (U.trans X)))) i3 S;refine tkx 4 f0 (fun c' s0 T=>leN 29 1 [I d.At.Row,I d.At.Col,B d.At.Pending] (T.gon N 0 rfl)) (ta 5 (Q a) (ta 6 (Q a) (ta 7 (Q a) (tkx 8 f0 (fun c' s0 T=>le1 0 eU (T.gon N 0 rfl)) (ta 10 (Q a) (ta 11 (Q a) (ta 12 (Q a) (tkx 13 f0 (fun c' s0 T=>le1 0 eU (T.gon N 0 rfl)) (bn H fun z1 j3 H=>o1 9 (gc 9 (cL i0 t.m d.G M j3) ?_))))))))));rintro v56 u2 Z ⟨j0,rfl⟩;have s3:Kp G [] u2:=(Kp.nil j0);refine ⟨.inr s3,bn H fun b2 k3 H=>o1 14 (gc 14 (bG j0 t.m d.G M.m k3) ?_)⟩;rintro c5 v2 a0 ⟨k0,rfl⟩;have t3:Kp G [] v2:=(Kp.nil k0);refine ⟨.inr t3,bn H fun b l3 H=>o1 15 (gc 15 (dP k0 d.At z1 b2 l3) ?_)⟩;rintro d5 w2 b0 ⟨l0,rfl⟩;have u3:Kp G [] w2:=(Kp.nil l0);refine ⟨.inr u3,ta 16 (Q a) (ta 17 (Qo a 1) (o1 18 (gD 18 (gB 29 1 [I b.Row,I b.Col,B b.Pending] [v47,I b.Row,I b.Col,B b.Pending,B d.Auto] 0 l0 N ⟨rfl,rfl,rfl,trivial⟩) ?_)))⟩;rintro x4 d0 k2;refine bn H fun e2 n3 H=>?_;obtain ⟨t4,l2,o2,m3,u4⟩:=Rel.put_place_Pen k2 (t.mono (p.trans (q.trans (U.trans (X.trans (Z.trans (a0.trans (b0.trans d0)))))))) (E':=[(Eb a 126 [v47,I b.Row,I b.Col,B b.Pending,B d.Auto])]) n3 ⟨a,v47,(tm S),rfl,(M.mono (Z.trans (a0.trans (b0.trans d0))))⟩;refine ⟨.inl rfl,dn (nrm (sr (vv (Q a) (va (Qo a 1) (va (Qo a 3) (md (gC 4 3 (B false) [v47,I b.Row,I b.Col,B false,B d.Auto] 0 l2 m3 ⟨rfl,trivial⟩) ?_))))))⟩;rintro E t0 m2;refine bn H fun f2 o3 H=>?_;obtain ⟨g2,y,z,z4,v4⟩:=Rel.put_place_Pen m2 (o2.mono t0) (E':=[(Eb a 126 [v47,I b.Row,I b.Col,B false,B d.Auto])]) o3 ⟨a,v47,(tm S),rfl,(M.mono (Z.trans (a0.trans (b0.trans (d0.trans t0)))))⟩;refine wln (bn H fun c2 f j2=>W.seqJ (Jn E fun c l=>∃G_,Own c G_ (F)∧l= []∧Rel c c2 G_) ?_ ?_)
 ·refine sr (va (Q b8) (vx (l1 u_3 ((mm k) 0 _ rfl)) (wln (W.block (W.seq (W.block (W.seq (W.block (W.block (W.block (W.seq (W.seq (sr (vv (B (e.Kind==8)) (wln (cn f (fun p3 f=>?_) (fun p3 f=>?_)))))))))))))))))
  ·refine W.exit (thx (thx (bke (bkn (bkn (nrm (sr (va (Q a) (vx (lN 38 (mm k)) (bn f fun g0 q3 f=>cl (qF y z s e u.m P.m q3) ?_))))))))));rintro e5 x2 b5 ⟨i2,n2,p2,rfl⟩;refine wln (W.exit (bko rfl (thx (bke (nrm ?_)))));obtain rfl:=si f;exact jn x2 ⟨i2,n2,rfl,p2⟩
  refine W.skip (nrm (W.seq (sr (vv (B (e.Kind==9)) (wln (cn f (fun q1 f=>?_) (fun q1 f=>?_)))))))
  ·refine W.exit (thx (thx (bko rfl (bke (bkn (nrm (sr (va (Q a) (vx (lN 38 (mm k)) (bn f fun g0 s1 f=>cl (qF y z s e u.m P.m s1) ?_))))))))));rintro p4 i1 k4 ⟨u0,y0,c1,rfl⟩;refine wln (W.exit (bko rfl (thx (bke (nrm ?_)))));obtain rfl:=si f;exact jn i1 ⟨u0,y0,rfl,c1⟩
  refine W.skip (nrm (bn f fun d2 j g=>W.seqJ (Jn E fun c l=>Own c g2 (F)∧l= [(0,Q a),(3,Q b8),(48,B d2)]) ?_ ?_))
  ·refine sr (vv (B (e.Kind==10)) (wln (cn j (fun t1 j=>?_) (fun t1 j=>?_))))
   ·refine W.skip (nrm ?_);obtain rfl:=si j;exact jn E ⟨y,rfl⟩
   refine W.region (vv (B (e.Kind==11)) (wln ?_));obtain rfl:=si j;exact jn E ⟨y,rfl⟩
  rintro e_ w_ ⟨e4,f4,_,rfl,l4,rfl,R,rfl⟩;refine cn g (fun u1 g=>?_) (fun u1 g=>?_)
  ·refine W.exit (thx (bko rfl (bko rfl (bke (nrm (sr (va (Q a) (vx (lN 38 (mm k)) (bn g fun g0 w1 g=>cl (qF R z.m s e u.m P.m w1) ?_)))))))));rintro q4 j1 m4 ⟨v0,z0,d1,rfl⟩;refine wln (W.exit (bko rfl (thx (bke (nrm ?_)))));obtain rfl:=si g;exact jn j1 ⟨v0,z0,rfl,d1⟩
  refine W.skip (nrm (W.exit (bko rfl (bko rfl (bko rfl (thx (bke (nrm (sr (va (Q a) (vx (lN 38 (mm k)) (bn g fun s4 x1 g=>cl (xD R z.m (hG.m.le (by decide)) s e u.m P.m x1) ?_))))))))))));rintro r4 k1 n4 ⟨w0,a1,e1,rfl⟩;refine wln (W.exit (bke (nrm ?_)));obtain rfl:=si g;exact jn k1 ⟨w0,a1,rfl,e1⟩
 rintro e_ w_ ⟨m1,g4,_,rfl,o4,rfl,x0,b1,rfl,f1⟩;refine sr (va (.nilIface) (wln (W.ret ?_)));obtain rfl:=si j2;exact r1 (qq m1 ⟨.nilIface,x0,b1,f1,rfl,rfl⟩)
def dx (p0:ag) (p1:Int) (p2:Int) (p3:Int) (p4:Int):Option (ag):=
 (idx p0.L p1).bind fun d=>
 (idx p0.L p1).bind fun b=>
 (kL d.Cells b.Wrap p2 p3 p4).bind fun a=>
 (cq p0 p1 (⟨a.1,a.2⟩:ah)).bind fun c=>
 some c
def jO (p0:ag) (p1:Int) (p2:Int):Option (ag):=
 (idx ([2,1,3]:List Int) p2).bind fun k=>
 (dx p0 p0.At.Row k p0.At.Col 0).bind fun b=>
 (cv (σ:=Int×(List ah)×Int×Int×Bool×Bool) (τ:=((List ah)×Int×Int×Bool×Bool)) (((b.L.length:Int) - 0).toNat+1) (fun a=>
 (bD (decide (a.1 < (a.2.1.length:Int))) (some (p1==4))).bind fun f=>
 if f=true then
 ((orE (p2==2) ((bD (p2==0) (some (decide (a.1 > a.2.2.1)))).bind fun h=>
 some h)).bind fun g=>
 (orE g ((bD (p2==1) (some (decide (a.1 < a.2.2.1)))).bind fun j=>
 some j)).bind fun i=>
 if i=true then
 (dx (⟨a.2.1,(⟨a.2.2.1,a.2.2.2.1,a.2.2.2.2.1⟩:ai),a.2.2.2.2.2⟩:ag) a.1 3 0 0).bind fun d=>
 some (d.L,d.At.Row,d.At.Col,d.At.Pending,d.Auto)
 else
 some (a.2.1,a.2.2.1,a.2.2.2.1,a.2.2.2.2.1,a.2.2.2.2.2)).bind fun e=>
 some (.inl ((w64 (a.1+1)),e.1,e.2.1,e.2.2.1,e.2.2.2.1,e.2.2.2.2))
 else
 some (.inr (a.2.1,a.2.2.1,a.2.2.2.1,a.2.2.2.2.1,a.2.2.2.2.2))) (0,b.L,b.At.Row,b.At.Col,b.At.Pending,b.Auto)).bind fun c=>
 some (⟨c.1,(⟨c.2.1,c.2.2.1,c.2.2.2.1⟩:ai),c.2.2.2.2⟩:ag)
def eD (p0:ag) (p1:aM):Option (ag):=
 (bZ p0).bind fun a=>
 (idx a.L a.At.Row).bind fun c=>
 (if (p1.Kind==2)=true then
 (cU (⟨a.L,(⟨a.At.Row,a.At.Col,false⟩:ai),a.Auto⟩:ag)).bind fun o=>
 (fS (⟨p1.A,p1.B,false⟩:ai) o (a.L.length:Int)).bind fun h=>
 some (c.Cells,false,a.L,h.Row,h.Col,h.Pending,a.Auto)
 else
 (if (p1.Kind==3)=true then
 some (p1.Kind==3)
 else
 some (p1.Kind==4)).bind fun p=>
 if p=true then
 (jO (⟨a.L,(⟨a.At.Row,a.At.Col,false⟩:ai),a.Auto⟩:ag) p1.Kind p1.A).bind fun f=>
 some (c.Cells,false,f.L,f.At.Row,f.At.Col,f.At.Pending,f.Auto)
 else
 if (p1.Kind==5)=true then
 (dx (⟨a.L,(⟨a.At.Row,a.At.Col,false⟩:ai),a.Auto⟩:ag) a.At.Row 4 a.At.Col p1.A).bind fun g=>
 some (c.Cells,false,g.L,g.At.Row,g.At.Col,g.At.Pending,g.Auto)
 else
 if (p1.Kind==6)=true then
 (jr c.Cells a.At.Col p1.A).bind fun j=>
 some (j.1,j.2,a.L,a.At.Row,a.At.Col,false,a.Auto)
 else
 if (p1.Kind==7)=true then
 (js c.Cells a.At.Col p1.A).bind fun i=>
 some (i.1,i.2,a.L,a.At.Row,a.At.Col,false,a.Auto)
 else
 (if (p1.Kind==8)=true then
 some (p1.Kind==8)
 else
 some (p1.Kind==9)).bind fun m=>
 if m=true then
 (fQ a.L a.At.Row (a.L.length:Int) p1.A (p1.Kind==9)).bind fun k=>
 some (c.Cells,false,k,a.At.Row,0,false,a.Auto)
 else
 (if (p1.Kind==10)=true then
 some (p1.Kind==10)
 else
 some (p1.Kind==11)).bind fun n=>
 if n=true then
 (fQ a.L 0 (a.L.length:Int) p1.A (p1.Kind==10)).bind fun l=>
 some (c.Cells,false,l,a.At.Row,a.At.Col,false,a.Auto)
 else
 if (p1.Kind==12)=true then
 some (c.Cells,false,a.L,a.At.Row,a.At.Col,false,p1.A != 0)
 else
 some (c.Cells,false,a.L,a.At.Row,a.At.Col,false,a.Auto)).bind fun b=>
 (if b.2.1=true then
 (cq (⟨b.2.2.1,(⟨b.2.2.2.1,b.2.2.2.2.1,b.2.2.2.2.2.1⟩:ai),b.2.2.2.2.2.2⟩:ag) a.At.Row (⟨b.1,false⟩:ah)).bind fun d=>
 some (d.L,d.At.Row,d.At.Col,d.At.Pending,d.Auto)
 else
 some (b.2.2.1,b.2.2.2.1,b.2.2.2.2.1,b.2.2.2.2.2.1,b.2.2.2.2.2.2)).bind fun e=>
 some (⟨e.1,(⟨e.2.1,e.2.2.1,e.2.2.2.1⟩:ai),e.2.2.2.2⟩:ag)
def gU (p0:ai) (p1:Int) (p2:Int):Option (Bool):=
 (dO p0 p1 p2).bind fun a=>
 some (p0.Row==a.Row && (p0.Col==a.Col && (p0.Pending==a.Pending && true)))
theorem vG (l:Own c0 G F) (a:ai) (d:Int) (e:Int) {r:Bool} (H:gU a d e=some r): Calls prog 264 #[.agg #[I a.Row,I a.Col,B a.Pending],I d,I e] c0.w (aP c0 fun c v=>Own c G (F)∧v=B r):=by
 unfold gU at H;refine en func264 rfl rfl (sr (me (bx 29 [I a.Row,I a.Col,B a.Pending] l) ?_));rintro v5 t u ⟨s,rfl,m,j⟩;refine va (B false) (wln (W.seq (rD [] (Kp G0 []) m ?_)));intro o x n;have y:Kp G0 [] o:=Kp.nil0;refine tx 0 (fun i g=>lN 29 (mm j)) (tx 1 (fun i g=>lN 29 (mm j)) (ta 2 (I d) (ta 3 (I e) (bn H fun b p H=>o1 4 (gc 4 (dP n a d e p) ?_)))));rintro v15 f q ⟨h,rfl⟩;have k:Kp G0 [] f:=Kp.nil0;refine ⟨.inr k,AC.take 5 (B (a.Row==b.Row && (a.Col==b.Col && (a.Pending==b.Pending && true)))) rfl (by kernel_rfl) (by kernel_rfl) (fun i g=>(yd (T:=29) (xs:= #[I a.Row,I a.Col,B a.Pending]) (ys:= #[I b.Row,I b.Col,B b.Pending]) (r:=(a.Row==b.Row && (a.Col==b.Col && (a.Pending==b.Pending && true)))) underlying29 (by kernel_rfl) (by kernel_rfl) (EqP.int (by kernel_rfl) u_3 rfl rfl (EqP.int (by kernel_rfl) u_3 rfl rfl (EqP.bool (by kernel_rfl) u_4 rfl rfl EqP.nil))) (by kernel_rfl) _)) (ta 6 (B (a.Row==b.Row && (a.Col==b.Col && (a.Pending==b.Pending && true)))) (dn (nrm (W.ret ?_))))⟩;obtain rfl:=si H;exact r1 (qq f ⟨h,rfl⟩)
def kF (p0:Int):Option (Bool):=
 (bD (decide (p0≥1)) (some (decide (p0≤1024)))).bind fun a=>
 some a
theorem sV (d:Own c0 G F) (a:Int) {r:Bool} (H:kF a=some r): Calls prog 262 #[I a] c0.w (aP c0 fun c v=>Own c G (F)∧v=B r):=by
 unfold kF at H;refine en func262 rfl rfl (sr (va (B false) (wln (W.seq (bn H fun e f H=>W.join (Jn c0 fun c l=>Own c G (F)∧l= [(2,B e)]) ?_ ?_)))))
 ·clear H;refine W.region (va (I a) (va (B (decide (a≥1))) ?_));rcases bo (decide (a≥1)) with b | b
  ·have g:=anT b f;refine vb b (wa (I a) (wa (B (decide (a≤1024))) ?_));obtain rfl:=si g;exact vv (B (decide (a≤1024))) (wln (jn c0 ⟨d,rfl⟩))
  obtain rfl:=anF b f;exact vb b (pz (vv (B false) (wln (jn c0 ⟨d,rfl⟩))))
 rintro j n ⟨i,k,_,rfl,m,rfl,h,rfl⟩;refine nrm (W.ret ?_);obtain rfl:=si H;exact r1 (qq i ⟨h,rfl⟩)
def kG (p0:List aa) (p1:Int):Option (Int):=
 (orE (decide (p1 < 0)) (some (decide (p1≥(p0.length:Int))))).bind fun b=>
 if b=true then
 some 0
 else
 (idx p0 p1).bind fun a=>
 some a.Kind
theorem sX (h:Own c0 G F) (d:List aa) (a:Int) {r:Int} (f:Sl aw c0 v1 d) (H:kG d a=some r): Calls prog 304 #[v1,I a] c0.w (aP c0 fun c v=>Own c G (F)∧v=I r):=by
 unfold kG at H;refine en func304 rfl rfl (sr (va (I 0) (wln (W.seq (W.seq (bn H fun k p H=>W.join (Jn c0 fun c l=>Own c G (F)∧l= [(0,v1),(1,I a),(12,B k)]) ?_ ?_))))))
 ·clear H;refine W.region (va (I a) (va (B (decide (a < 0))) ?_));rcases bo (decide (a < 0)) with b | b
  ·obtain rfl:=orT b p;exact vb b (pz (pz (va (B true) (wln (jn c0 ⟨h,rfl⟩)))))
  have s:=orF b p;refine vb b (wa (I a) (wa (v1) (wn (vx (ln 3 cI f) (wa (B (decide (a≥(d.length:Int)))) ?_)))));obtain rfl:=si s;exact va (B (decide (a≥(d.length:Int)))) (wln (jn c0 ⟨h,rfl⟩))
 rintro y A ⟨j,z,_,rfl,t,rfl,i,rfl⟩;refine nrm (cn H (fun n H=>?_) (fun n H=>?_))
 ·refine sr (va (I 0) (wln (W.ret (thr ?_))));obtain rfl:=si H;exact r1 (qq j ⟨i,rfl⟩)
 refine W.skip (nrm (sr (va (v1) (va (I a) (bn H fun g e H=>?_)))));obtain ⟨u,o,q⟩:=Sl.at (f.mono t) (aR e);obtain ⟨v17,rfl,x⟩:=o;refine vx (ix cI f.m e) (va (Qo (sb v1) (so v1+a.toNat * 2)) (vx (l1 u_3 (q 0 _ rfl)) (va (I g.Kind) (wln (W.ret ?_)))));obtain rfl:=si H;exact r1 (qq j ⟨i,rfl⟩)
def kX (p0:List aa) (p1:Int):Option (Er):=
 (idx p0 p1).bind fun b=>
 (ju b).bind fun d=>
 if (!d)=true then
 some (Er.sent 4)
 else
 ((bD (b.Kind==2) ((kG p0 (w64 (p1+1))).bind fun e=>
 some (e != 3))).bind fun a=>
 if a=true then
 some (a)
 else
 (bD (b.Kind==3) ((kG p0 (w64 (p1 - 1))).bind fun f=>
 some (f != 2))).bind fun c=>
 some (c)).bind fun g=>
 if g=true then
 some (Er.sent 1)
 else
 some Er.nil
theorem wh (O0:Own c0 G F) (hG:Gl [1,4] c0) (D:List aa) (d:Int) {r:Er} (A:Sl aw c0 v1 D) (H:kX D d=some r): Calls prog 263 #[v1,I d] c0.w (aP c0 fun c v=>∃y1,Own c G (F)∧v=y1∧RE 350 144 c y1 r):=by
 unfold kX at H;refine en func263 rfl rfl (sr (va (.nilIface) (wln (sr (va (v1) (va (I d) (bn H fun b h3 H=>?_)))))));obtain ⟨t1,h5,m6⟩:=Sl.at A (aR h3);obtain ⟨v7,rfl,h8⟩:=h5;refine vx (ix cI A h3) (vx (lN 114 m6) (me (al 114 [I 0,Y] O0) ?_));rintro v12 g1 y ⟨s,rfl,f0⟩;obtain ⟨f,g,h,rfl⟩:=((h8.mono y)).form;refine md (sA 114 [I b.Kind,.slice f g h] 0 f0 ⟨rfl,h8.m.one,trivial⟩) ?_;rintro h1 U E;refine wln (W.seq (W.block (sr (vx (leN 114 0 [I b.Kind,.slice f g h] (E.on 0 rfl)) (bn H fun z t0 H=>cl (sU E b h8.m t0) ?_)))));rintro v24 q X ⟨o,rfl⟩;refine vv (B (!z)) (wln (cn H (fun u0 H=>?_) (fun u0 H=>?_)))
 ·refine sr ?_;obtain ⟨v26,P⟩:=(hG.mono (y.trans (U.trans X))).get 4 (by decide);refine vx (l1 rS P.im) (va (v26) (wln (W.ret (bkr (thr ?_)))));obtain rfl:=si H;have g0:=o.sD 1 [];exact r1 (qq q ⟨v26,g0,rfl,P⟩)
 refine bn H fun e0 a e=>W.seqJ (Jn q fun c l=>Own c G ((Eb s 114 [I b.Kind,.slice f g h]) :: F)∧l= [(15,B e0)]) ?_ ?_
 ·refine W.seq (bn a fun a0 R a=>W.join (Jn q fun c l=>Own c G ((Eb s 114 [I b.Kind,.slice f g h]) :: F)∧l= [(0,v1),(1,I d),(5,Q s),(15,B a0)]) ?_ ?_)
  ·clear a;refine W.region (va (Q s) (vx (le1 0 u_3 (o.on 0 rfl)) (va (B (b.Kind==2)) ?_)));rcases bo (b.Kind==2) with i | i
   ·have t:=anT i R;refine vb i (wa (v1) (wa (I d) (wa (I (w64 (d+1))) (wn (bn t fun k w0 t=>cl (sX o D (w64 (d+1)) A.m w0) ?_)))));rintro v40 m0 m1 ⟨h0,rfl⟩;refine wa (B (k != 3)) ?_;obtain rfl:=si t;exact vv (B (k != 3)) (wln (jn m0 ⟨h0,rfl⟩))
   obtain rfl:=anF i R;exact vb i (pz (pz (ps (vv (B false) (wln (jn q ⟨o,rfl⟩))))))
  rintro e_ w_ ⟨x,i1,_,rfl,n1,rfl,p,rfl⟩;refine nrm (cn a (fun x0 a=>?_) (fun x0 a=>?_))
  ·refine W.skip (nrm ?_);obtain rfl:=si a;exact jn x ⟨p,rfl⟩
  refine bn a fun b0 S a=>W.join (Jn x fun c l=>Own c G ((Eb s 114 [I b.Kind,.slice f g h]) :: F)∧l= [(15,B b0)]) ?_ ?_
  ·clear a;refine W.region (va (Q s) (vx (le1 0 u_3 (p.on 0 rfl)) (va (B (b.Kind==3)) ?_)));rcases bo (b.Kind==3) with j | j
   ·have u:=anT j S;refine vb j (wa (v1) (wa (I d) (wa (I (w64 (d - 1))) (wn (bn u fun n y0 u=>cl (sX p D (w64 (d - 1)) A.m y0) ?_)))));rintro v57 o0 q1 ⟨i0,rfl⟩;refine wa (B (n != 2)) ?_;obtain rfl:=si u;exact vv (B (n != 2)) (wln (jn o0 ⟨i0,rfl⟩))
   obtain rfl:=anF j S;exact vb j (pz (pz (ps (vv (B false) (wln (jn x ⟨p,rfl⟩))))))
  rintro e_ w_ ⟨q0,j1,_,rfl,s1,rfl,j0,rfl⟩;refine nrm ?_;obtain rfl:=si a;exact jn q0 ⟨j0,rfl⟩
 rintro e_ w_ ⟨N,k1,_,rfl,a1,rfl,M,rfl⟩;refine cn e (fun z0 e=>?_) (fun z0 e=>?_)
 ·refine sr ?_;obtain ⟨Z,T⟩:=(hG.mono (y.trans (U.trans (X.trans a1)))).get 1 (by decide);refine vx (l1 rS T.im) (va (Z) (wln (W.ret (bkr (thr ?_)))));obtain rfl:=si e;have k0:=M.sD 1 [];exact r1 (qq N ⟨Z,k0,rfl,T⟩)
 refine W.skip (bkn (nrm (sr (va (.nilIface) (wln (W.ret ?_))))));obtain rfl:=si e;have l0:=M.sD 1 [];exact r1 (qq N ⟨.nilIface,l0,rfl,rfl⟩)
def lS (p0:aE):Option (List Er):=
 ((kF p0.Wide).bind fun u=>
 (orE (!u) ((kF p0.High).bind fun l=>
 some (!l))).bind fun i=>
 (orE i (some (p0.High != (p0.Lines.length:Int)))).bind fun j=>
 if j=true then
 (app ([]:List Er) ([(Er.sent 2)]:List Er)).bind fun m=>
 some (m)
 else
 some (([]:List Er))).bind fun v=>
 (cv (σ:=(List Er)×Int) (τ:=(List Er)) (((p0.Lines.length:Int) - 0).toNat+1) (fun a=>
 if (decide (a.2 < (p0.Lines.length:Int)))=true then
 (idx p0.Lines a.2).bind fun c=>
 (if ((c.Cells.length:Int) != p0.Wide)=true then
 (iM a.2 (Er.sent 3)).bind fun n=>
 (app a.1 ([n]:List Er)).bind fun o=>
 some (o)
 else
 some (a.1)).bind fun s=>
 (cv (σ:=(List Er)×Int) (τ:=(List Er)) (((c.Cells.length:Int) - 0).toNat+1) (fun b=>
 if (decide (b.2 < (c.Cells.length:Int)))=true then
 ((kX c.Cells b.2).bind fun e=>
 if (!e.isNil)=true then
 (iM b.2 e).bind fun p=>
 (iM a.2 p).bind fun q=>
 (app b.1 ([q]:List Er)).bind fun r=>
 some (r)
 else
 some (b.1)).bind fun t=>
 some (.inl (t,(w64 (b.2+1))))
 else
 some (.inr (b.1))) (s,0)).bind fun k=>
 some (.inl (k,(w64 (a.2+1))))
 else
 some (.inr (a.1))) (v,0)).bind fun d=>
 ((gU p0.At p0.Wide p0.High).bind fun f=>
 if (!f)=true then
 (app d ([(Er.sent 7)]:List Er)).bind fun g=>
 some (g)
 else
 some (d)).bind fun h=>
 some h
theorem xH (O0:Own c0 G F) (hG:Gl [1,2,3,4,7] c0) (d:aE) {r:List Er} (h2:Sl aL c0 v1 d.Lines) (H:lS d=some r): Calls prog 212 #[.agg #[I d.Wide,I d.High,v1,I d.At.Row,I d.At.Col,B d.At.Pending,B d.Auto]] c0.w (aP c0 fun c v=>∃y1 y2,Own c G (es true (RER 350 144) y1 66 y2 r :: F)∧v=y1∧OA (RER 350 144) c y1 y2 r):=by
 unfold lS at H;refine en func212 rfl rfl (sr ?_);obtain ⟨a3,a4,a5,rfl⟩:=(h2).form;refine me (bx 45 [I d.Wide,I d.High,.slice a3 a4 a5,I d.At.Row,I d.At.Col,B d.At.Pending,B d.Auto] O0) ?_;rintro v10 c9 l9 ⟨o,rfl,O7,P⟩;refine va (Y) (wln (sr (va (Y) (wln (bn H fun e3 h x=>W.seqJ (Jn c9 fun c l=>∃v13 u0,Own c G (es true (RER 350 144) v13 66 u0 e3 :: F)∧l= [(1,Q o),(3,v13)]∧OA (RER 350 144) c v13 u0 e3) ?_ ?_)))))
 ·refine W.seq (bn h fun d3 r6 h=>bn h fun w7 t2 h=>bn h fun n4 p1 h=>W.join (Jn c9 fun c l=>Own c G (F)∧l= [(1,Q o),(3,Y),(25,B n4)]) ?_ ?_)
  ·clear h;refine W.region (va (Q o) (vx (l1 u_3 (P 0 _ rfl)) (cl (sV O7 d.Wide r6) ?_)));rintro v23 m6 x9 ⟨m2,rfl⟩;refine va (B (!d3)) ?_;rcases bo (!d3) with f0 | f0
   ·obtain rfl:=orT f0 t2;refine vb f0 (pz (pz (va (B true) ?_)));have u2:true=true:=rfl;obtain rfl:=orT u2 p1;exact vb u2 (pz (pz (pz (va (B true) (wln (jn m6 ⟨m2,rfl⟩))))))
   have b1:=orF f0 t2;refine vb f0 (wa (Qo o (0+1)) (wn (vx (l1 u_3 ((mm P) 1 _ rfl)) (wn (bn b1 fun q0 s6 b1=>cl (sV m2 d.High s6) ?_)))));rintro v33 q2 y9 ⟨n2,rfl⟩;refine wa (B (!q0)) ?_;obtain rfl:=si b1;refine va (B (!q0)) ?_;rcases bo (!q0) with g0 | g0
   ·obtain rfl:=orT g0 p1;exact vb g0 (pz (pz (pz (va (B true) (wln (jn q2 ⟨n2,rfl⟩))))))
   have d6:=orF g0 p1;refine vb g0 (wa (Qo o (0+1)) (wn (vx (l1 u_3 ((mm P) 1 _ rfl)) (wa (Qo o (0+2)) (wn (vx (l1 fg ((mm P) 2 _ rfl)) (wn (vx (ln 3 fg h2.m) (wa (B (d.High != (d.Lines.length:Int))) ?_)))))))));obtain rfl:=si d6;exact va (B (d.High != (d.Lines.length:Int))) (wln (jn q2 ⟨n2,rfl⟩))
  rintro e_ w_ ⟨s2,u9,_,rfl,e7,rfl,o2,rfl⟩;refine nrm (cn h (fun t6 h=>?_) (fun t6 h=>?_))
  ·refine W.region (va (Y) ?_);obtain ⟨v43,v2⟩:=(hG.mono (l9.trans e7)).get 2 (by decide);refine vx (l1 rS v2.im) (me (Own.slE (S:=350) (T:=144) (E:=66) o2 (v2) (fun hv=>by subst hv; kernel_rfl) (fun t a hv=>by subst hv; kernel_rfl)) ?_);rintro v49 s9 z9 ⟨u46,e6,u6⟩;obtain ⟨n6,w6,l52,f6,v6⟩:=e6.frz 0 rfl u6;refine WL.gh w6 (bn h fun n9 x6 h=>?_);have y6:OA (RER 350 144) n6 (Y) [] []:=OA.nil (aZ _);have g6:=f6.addHole (e:=es true (RER 350 144) (Y) 66 [] ([]:List Er)) rfl;refine me (ap (RER 350 144) .nilIface 16 260 0 g6 y6 v6 x6 ws) ?_;rintro c3 o6 l60 ⟨g7,h6,z6⟩;refine va (c3) (wln ?_);obtain rfl:=si h;have i6:=h6.sD 2 [0];exact jn o6 ⟨c3,g7,i6,rfl,z6⟩
  refine W.skip (nrm ?_);obtain rfl:=si h;have a7:OA (RER 350 144) s2 (Y) [] []:=OA.nil (aZ _);have j6:=o2.addHole (e:=es true (RER 350 144) (Y) 66 [] ([]:List Er)) rfl;exact jn s2 ⟨(Y),[],j6,rfl,a7⟩
 rintro e_ w_ ⟨i1,v9,_,rfl,z1,rfl,v13,u0,k6,rfl,b7⟩;refine W.seq (sr (va (Qo o (0+2)) (vx (l1 fg ((mm P) 2 _ rfl)) (vx (ln 3 fg h2.m) (va (I 0) (wln (W.block (bn x fun x8 w2 l2=>lp w2 (fun b=>Jn i1 fun c l=>∃M i0,Own c G (es true (RER 350 144) M 66 i0 b.1 :: F)∧l= [(1,Q o),(3,M),(31,.slice a3 a4 a5),(32,I (d.Lines.length:Int)),(33,I b.2)]∧OA (RER 350 144) c M i0 b.1) (fun s0 ex e w=>ex= .exit 0∧(Jn i1 fun c l=>∃N v0,Own c G (es true (RER 350 144) N 66 v0 s0 :: F)∧l= [(1,Q o),(3,N)]∧OA (RER 350 144) c N v0 s0) e w) ?_ ?_ ?_))))))))
 ·clear l2 w2;intro b h7 j1 e2 x;revert j1 e2;rintro e_ w_ ⟨p6,w9,_,rfl,z2,rfl,M,i0,p2,rfl,x1⟩;refine sr (va (B (decide (b.2 < (d.Lines.length:Int)))) (wln (W.seq (cn x (fun c7 x=>?_) (fun c7 x=>?_)))))
  ·refine W.skip (nrm (W.seq (W.block (sr (va (I b.2) (bn x fun i x2 x=>?_))))));obtain ⟨w8,d7,f7⟩:=Sl.at (h2.mono (l9.trans (z1.trans z2))) (aR x2);obtain ⟨v90,rfl,h0⟩:=d7;refine vx (ix fg h2.m x2) (vx (lN 48 f7) (me (al 48 [Y,B false] p2) ?_));rintro v95 t9 b3 ⟨p,rfl,l6⟩;refine va (I b.2) ?_;obtain ⟨a0,b0,d0,rfl⟩:=((h0.mono b3)).form;refine md (sA 48 [.slice a0 b0 d0,B i.Wrap] 0 l6 ⟨h0.m.one,rfl,trivial⟩) ?_;rintro g1 u5 f1;refine wln (bn x fun g2 j q=>W.seqJ (Jn g1 fun c l=>∃z R,Own c G (es true (RER 350 144) z 66 R g2 :: (Eb p 48 [.slice a0 b0 d0,B i.Wrap]) :: F)∧l= [(1,Q o),(3,z),(4,I b.2),(5,Q p),(31,.slice a3 a4 a5),(32,I (d.Lines.length:Int)),(33,I b.2)]∧OA (RER 350 144) c z R g2) ?_ ?_)
   ·refine sr (va (Q p) (vx (le1 0 cI (f1.on 0 rfl)) (vx (ln 3 cI h0.m) (va (Q o) (vx (l1 u_3 ((mm P) 0 _ rfl)) (va (B ((i.Cells.length:Int) != d.Wide)) (wln (cn j (fun o4 j=>?_) (fun o4 j=>?_)))))))))
    ·refine W.region (va (M) (va (I b.2) ?_));obtain ⟨d9,k1⟩:=(hG.mono (l9.trans (z1.trans (z2.trans (b3.trans u5))))).get 3 (by decide);refine vx (l1 rS k1.im) (bn j fun o9 p4 j=>cl (mU f1 b.2 (Er.sent 3) k1 p4) ?_);rintro e9 n7 d8 ⟨_,h3,rfl,q4⟩;refine me (Own.slE (S:=350) (T:=144) (E:=66) h3 (q4) (fun hv=>by subst hv; kernel_rfl) (fun t a hv=>by subst hv; kernel_rfl)) ?_;rintro f9 o7 e8 ⟨z8,i3,r4⟩;obtain ⟨p7,t4,f8,j3,s4⟩:=i3.frz 0 rfl r4;refine WL.gh t4 (bn j fun p9 u4 j=>me (ap (RER 350 144) .nilIface 16 260 2 j3 x1.m s4 u4 ws) ?_);rintro b2 e4 g8 ⟨x5,k3,v4⟩;refine va (b2) (wln ?_);obtain rfl:=si j;have l3:=k3.sD 3 [2,1];exact jn e4 ⟨b2,x5,l3,rfl,v4⟩
    refine W.skip (nrm ?_);obtain rfl:=si j;have m3:=f1.sD 2 [1,0];exact jn g1 ⟨M,i0,m3,rfl,x1.m⟩
   rintro e_ w_ ⟨l0,x7,_,rfl,h8,rfl,z,R,c1,rfl,w4⟩;refine sr (va (Q p) (vx (le1 0 cI (c1.on 1 rfl)) (vx (ln 3 cI h0.m) (va (I 0) (wln (W.block (bn q fun y8 m1 a1=>lp m1 (fun f=>Jn l0 fun c l=>∃s y,Own c G (es true (RER 350 144) s 66 y f.1 :: (Eb p 48 [.slice a0 b0 d0,B i.Wrap]) :: F)∧l= [(1,Q o),(3,s),(4,I b.2),(5,Q p),(31,.slice a3 a4 a5),(32,I (d.Lines.length:Int)),(33,I b.2),(52,I (i.Cells.length:Int)),(53,I f.2)]∧OA (RER 350 144) c s y f.1) (fun t0 ex e w=>ex= .exit 2∧(Jn l0 fun c l=>∃A U,Own c G (es true (RER 350 144) A 66 U t0 :: (Eb p 48 [.slice a0 b0 d0,B i.Wrap]) :: F)∧l= [(1,Q o),(3,A),(31,.slice a3 a4 a5),(32,I (d.Lines.length:Int)),(33,I b.2)]∧OA (RER 350 144) c A U t0) e w) ?_ ?_ ?_)))))))
   ·clear a1 m1;intro f h7 j1 e2 q;revert j1 e2;rintro e_ w_ ⟨h1,y7,_,rfl,i8,rfl,s,y,k0,rfl,m0⟩;refine sr (va (B (decide (f.2 < (i.Cells.length:Int)))) (wln (W.seq (cn q (fun x4 q=>?_) (fun x4 q=>?_)))))
    ·refine W.skip (nrm (bn q fun i2 g f3=>W.seqJ (Jn h1 fun c l=>∃D X,Own c G (es true (RER 350 144) D 66 X i2 :: (Eb p 48 [.slice a0 b0 d0,B i.Wrap]) :: F)∧l= [(1,Q o),(3,D),(4,I b.2),(5,Q p),(31,.slice a3 a4 a5),(32,I (d.Lines.length:Int)),(33,I b.2),(52,I (i.Cells.length:Int)),(53,I f.2)]∧OA (RER 350 144) c D X i2) ?_ ?_))
     ·refine W.block (sr (vv (I f.2) (wln (sr (va (Q p) (vx (le1 0 cI (k0.on 1 rfl)) (va (I f.2) (bn g fun f2 y4 g=>cl (wh k0 (hG.m.le (by decide)) i.Cells f.2 h0.m y4) ?_))))))));rintro o0 f4 j8 ⟨_,d1,rfl,n1⟩;refine va (o0) (wln (sr (va (o0) (vr (B (!f2.isNil)) (by rcases (n1).cs with ⟨q1,w1⟩ | ⟨b_,q1,w1⟩ | ⟨b_,q1,w1⟩ <;> (subst q1; rw [w1]; kernel_rfl)) (wln (cn g (fun z4 g=>?_) (fun z4 g=>?_)))))))
      ·refine W.region (va (s) (va (I b.2) (va (I f.2) (va (o0) (bn g fun a6 b5 g=>cl (mU d1 f.2 f2 n1 b5) ?_)))));rintro g9 q7 k8 ⟨_,n3,rfl,c5⟩;refine bn g fun q9 d5 g=>cl (mU n3 b.2 a6 c5 d5) ?_;rintro h9 r7 l8 ⟨_,o3,rfl,e5⟩;refine me (Own.slE (S:=350) (T:=144) (E:=66) o3 (e5) (fun hv=>by subst hv; kernel_rfl) (fun t a hv=>by subst hv; kernel_rfl)) ?_;rintro i9 s7 n8 ⟨a9,p3,f5⟩;obtain ⟨t7,h5,o8,q3,g5⟩:=p3.frz 0 rfl f5;refine WL.gh h5 (bn g fun r9 i5 g=>me (ap (RER 350 144) .nilIface 16 260 1 q3 m0.m g5 i5 ws) ?_);rintro c2 g4 p8 ⟨y5,s3,j5⟩;refine va (c2) (WL.nil (bkn (nrm ?_)));obtain rfl:=si g;have t3:=s3.sD 3 [1,2];exact jn g4 ⟨c2,y5,t3,rfl,j5⟩
      refine W.skip (bkn (nrm ?_));obtain rfl:=si g;exact jn f4 ⟨s,y,d1,rfl,m0.m⟩
     rintro e_ w_ ⟨h4,z7,_,rfl,q8,rfl,D,X,u3,rfl,k5⟩;refine W.region (vv (I (w64 (f.2+1))) (WL.nil ?_));obtain rfl:=si f3;exact ⟨_,rfl,jn h4 ⟨D,X,u3,rfl,k5⟩⟩
    refine W.exit (thx ?_);obtain rfl:=si q;exact ⟨_,rfl,rfl,jn h1 ⟨s,y,k0,rfl,m0⟩⟩
   ·exact jn l0 ⟨z,R,c1,rfl,w4⟩
   rintro _ e_ w_ ⟨rfl,i4,a8,_,rfl,r8,rfl,A,U,v3,rfl,l5⟩;refine bke (bkn (nrm (W.region (vv (I (w64 (b.2+1))) (WL.nil ?_)))));obtain rfl:=si a1;refine ⟨_,rfl,?_⟩;have w3:=v3.sD 2 [0];exact jn i4 ⟨A,U,w3,rfl,l5⟩
  refine W.exit (thx ?_);obtain rfl:=si x;exact ⟨_,rfl,rfl,jn p6 ⟨M,i0,p2,rfl,x1⟩⟩
 ·exact jn i1 ⟨v13,u0,k6,rfl,b7⟩
 rintro _ e_ w_ ⟨rfl,j4,b8,_,rfl,v5,rfl,N,v0,x3,rfl,t1⟩;refine bke (nrm (bn l2 fun w0 n g3=>W.seqJ (Jn j4 fun c l=>∃u Z,Own c G (es true (RER 350 144) u 66 Z w0 :: F)∧l= [(3,u)]∧OA (RER 350 144) c u Z w0) ?_ ?_))
 ·refine sr (va (Qo o (0+3)) (vx (lN 29 (AH (k:=3) (l:=[I d.At.Row,I d.At.Col,B d.At.Pending]) (mm P) rfl)) (va (Q o) (vx (l1 u_3 ((mm P) 0 _ rfl)) (va (Qo o (0+1)) (vx (l1 u_3 ((mm P) 1 _ rfl)) (bn n fun k2 m5 n=>cl (vG x3 d.At d.Wide d.High m5) ?_)))))));rintro j9 k4 w5 ⟨e1,rfl⟩;refine va (B (!k2)) (wln (cn n (fun n5 n=>?_) (fun n5 n=>?_)))
  ·refine W.region (va (N) ?_);obtain ⟨k9,u1⟩:=(hG.mono (l9.trans (z1.trans (v5.trans w5)))).get 7 (by decide);refine vx (l1 rS u1.im) (me (Own.slE (S:=350) (T:=144) (E:=66) e1 (u1) (fun hv=>by subst hv; kernel_rfl) (fun t a hv=>by subst hv; kernel_rfl)) ?_);rintro m9 u7 s8 ⟨b9,y3,o5⟩;obtain ⟨v7,q5,t8,z3,p5⟩:=y3.frz 0 rfl o5;refine WL.gh q5 (bn n fun j7 r5 n=>me (ap (RER 350 144) .nilIface 16 260 1 z3 t1.m p5 r5 ws) ?_);rintro d2 l4 u8 ⟨z5,b4,s5⟩;refine va (d2) (wln ?_);obtain rfl:=si n;have c4:=b4.sD 2 [1];exact jn l4 ⟨d2,z5,c4,rfl,s5⟩
  refine W.skip (nrm ?_);obtain rfl:=si n;exact jn k4 ⟨N,v0,e1,rfl,t1.m⟩
 rintro e_ w_ ⟨m4,c8,_,rfl,v8,rfl,u,Z,d4,rfl,t5⟩;refine sr (vv (u) (wln (W.ret ?_)));obtain rfl:=si g3;exact r1 (qq m4 ⟨u,Z,d4,rfl,t5⟩)
def mz (p0:aE):Option (Er):=
 (lS p0).bind fun a=>
 if (decide ((a.length:Int) > 0))=true then
 (idx a 0).bind fun b=>
 some b
 else
 some Er.nil
theorem wj (t:Own c0 G F) (hG:Gl [1,2,3,4,7] c0) (a:aE) {r:Er} (k:Sl aL c0 v1 a.Lines) (H:mz a=some r): Calls prog 149 #[.agg #[I a.Wide,I a.High,v1,I a.At.Row,I a.At.Col,B a.At.Pending,B a.Auto]] c0.w (aP c0 fun c v=>∃s,Own c G (F)∧v=s∧RE 350 144 c s r):=by
 unfold mz at H;refine en func149 rfl rfl (sr ?_);obtain ⟨x,y,z,rfl⟩:=(k).form;refine me (bx 45 [I a.Wide,I a.High,.slice x y z,I a.At.Row,I a.At.Col,B a.At.Pending,B a.Auto] t) ?_;rintro v10 R S ⟨P,rfl,u,D⟩;refine va (.nilIface) (wln (W.seq (sr (vx (lN 45 D) (bn H fun q i H=>cl (xH u (hG.m.le (by decide)) a k.m i) ?_)))));rintro v12 f M ⟨_,N,d,rfl,b⟩;refine va (v12) (wln (sr (va (v12) (vx (lnO 3 ws b) (va (B (decide ((q.length:Int) > 0))) (wln (cn H (fun l H=>?_) (fun l H=>?_))))))))
 ·refine sr (va (v12) (bn H fun E e H=>vx (ixO ws b e) ?_));obtain ⟨A,n,p⟩:=OA.at b e;obtain ⟨v26,rfl,o⟩:=n;refine vr v26 (rx (by kernel_rfl) (mE rS rfl (d.on 0 rfl) (b.blk e) (at1 (j:=0) p rfl))) (va (v26) (wln (W.ret (thr ?_))));obtain rfl:=si H;have g:=d.sD 1 [];exact r1 (qq f ⟨v26,g,rfl,o⟩)
 refine W.skip (nrm (sr (va (.nilIface) (wln (W.ret ?_)))));obtain rfl:=si H;have h:=d.sD 1 [];exact r1 (qq f ⟨.nilIface,h,rfl,rfl⟩)
def kY (p0:aE):Option (Bool):=
 (mz p0).bind fun a=>
 some a.isNil
theorem wi (k:Own c0 G F) (hG:Gl [1,2,3,4,7] c0) (a:aE) {r:Bool} (j:Sl aL c0 v1 a.Lines) (H:kY a=some r): Calls prog 94 #[.agg #[I a.Wide,I a.High,v1,I a.At.Row,I a.At.Col,B a.At.Pending,B a.Auto]] c0.w (aP c0 fun c v=>Own c G (F)∧v=B r):=by
 unfold kY at H;refine en func94 rfl rfl (sr ?_);obtain ⟨n,o,p,rfl⟩:=(j).form;refine me (bx 45 [I a.Wide,I a.High,.slice n o p,I a.At.Row,I a.At.Col,B a.At.Pending,B a.Auto] k) ?_;rintro v10 x y ⟨u,rfl,l,s⟩;refine va (B false) (wln (sr (vx (lN 45 s) (bn H fun e h H=>cl (wj l (hG.m.le (by decide)) a j.m h) ?_))));rintro v12 g t ⟨_,f,rfl,i⟩;refine vr (B e.isNil) (by rcases (i).cs with ⟨b,d⟩ | ⟨q,b,d⟩ | ⟨q,b,d⟩ <;> (subst b; rw [d]; kernel_rfl)) (va (B e.isNil) (wln (W.ret ?_)));obtain rfl:=si H;exact r1 (qq g ⟨f,rfl⟩)
end Go.Proofs.YtclmdpamofdoiaaGreatDoor
namespace Go.Lt
def EY:Nat:=35184372088832
def appW {α:Type} (xs ys:List α):Option (List α):=if xs.length+ys.length≤EY then some (xs++ys) else none
section
variable {P:Program} {c c':Cx} {G:Gm} {F:List En} {α:Type} {R:Rp α} {ρ:Operand→Value} {o:Oper}
theorem zd {E t ty:TypeId} {v:Value} {vs:List Value} {xs ys zs:List α} {z:Value} {by_:Nat} {m:Bool} {ua:Option Addr} {ucap:Nat} {nw:List Value} (k:Nat) (O:Own c G F) (hk:F[k]? = some (es m R v E vs xs)) (h:OA R c v vs xs)
  (n1:nw.length=ys.length * R.size) (n2:ys≠ []→∃ub uo,ua=some ⟨ub,uo,none⟩∧∀j w,nw[j]? = some w→c.w.cell? ⟨ub,uo+j,none⟩=some w) (n3:∀w∈nw,w.oneCell'=true) (n4:∀i x,ys[i]? = some x→R.cells c ((nw.drop (i * R.size)).take R.size) x) (happ:appW xs ys=some zs)
  (hT:P.underlying t=some (.slice E)) (hi:(P.info? E).map (fun i=>(i.zero,i.size,i.bytes))=some (some z,R.size,by_)) (hz:z.cells.size=R.size) (hby:Nat.ble by_ 4=true):
  ∃v' c',(Builtin.append_ #[t,t] ty #[v,.slice ua ys.length ucap]).run P c.w= .ok v' c'.w∧c.le c'∧∃vs',Own c' G (F.set k (es m R v' E vs' zs))∧OA R c' v' vs' zs:=by
 have hby:=bE hby;have hfar:xs.length+ys.length≤EY∧xs++ys=zs:=by
  unfold appW at happ;split at happ
  ·exact ⟨by assumption,by simpa using happ⟩
  ·cases happ
 obtain ⟨hfar,rfl⟩:=hfar;unfold EY at hfar;obtain ⟨ti,hti,hzz⟩:=Option.map_eq_some_iff.1 hi;simp only [fM] at hzz;obtain ⟨hz1,hz2,hz3⟩:=hzz;have hon:=O.on k hk;have hklt:=(List.getElem?_eq_some_iff.1 hk).1;have hh:=h;obtain ⟨hp,h1,h2⟩:=h;by_cases hys:ys= []
 ·subst hys;refine ⟨v,c,?_,Cx.le.refl c,vs,?_,by rw [da]; exact hh⟩
  ·rcases h1 with ⟨rfl,rfl⟩ | ⟨g,cap,rfl,hcap,_⟩
   ·cases ua <;> simp [Builtin.append_,bL hT,sizeOf,typeInfo,hti,Builtin.lenOf,Builtin.firstCells,loadCells,loadCellsFrom,storeCells]
   ·cases ua <;> simp [Builtin.append_,bL hT,sizeOf,typeInfo,hti,Builtin.lenOf,Builtin.firstCells,loadCells,loadCellsFrom,storeCells,hcap]
  ·rw [da];have:F.set k (es m R v E vs xs)=F:=by
    apply be;intro j;by_cases hj:k=j
    ·subst hj; rw [bh hklt,hk]
    ·rw [aQ hj]
   rw [this]; exact O
 ·have hpos:0 < ys.length:=by
   rcases kO ys.length with h | h
   ·exact absurd (ck h) hys
   ·exact h
  obtain ⟨ub,uo,hua,n5⟩:=n2 hys;subst hua;have hcells:∀j w,nw[j]? = some w→c.w.cell? ((⟨ub,uo,none⟩:Addr).add j)=some w:=fun j w hw=>by
   rw [dG];exact n5 j w hw
  have hN:(xs++ys).length=xs.length+ys.length:=av;have hxl:=h2.len hp;have helem:∀(c':Cx) (tail:List Value),c.le c'→AR R c' (vs.take (xs.length * R.size)++nw++tail) (xs++ys):=fun c' tail hcc i x hx=>by
   have hlt:(vs.take (xs.length * R.size)).length=xs.length * R.size:=by rw [az]; omega
   rcases aG i xs.length with hi' | hi'
   ·have hm:=iI (s:=R.size) hi';rw [aF,fN (by rw [hlt]; exact hm)];rw [aB hi'] at hx;have:=h2 i x hx;rw [fX,ku,show min R.size (xs.length * R.size - i * R.size)=R.size by omega];exact R.mono hcc this
   ·rw [aY hi'] at hx;have h4:=n4 _ _ hx;have hiy:=iI (s:=R.size) (List.getElem?_eq_some_iff.1 hx).1;have e:i * R.size=xs.length * R.size+(i - xs.length) * R.size:=by rw [←eu]; congr 1; omega
    have e2:(vs.take (xs.length * R.size)++(nw++tail)).drop (xs.length * R.size)=nw++tail:=by
     conv=>lhs; arg 1; rw [←hlt]
     exact jl
    rw [aF,e,←de,e2,fN (by rw [n1]; omega)];exact R.mono hcc h4
  have hbytes:(xs.length+ys.length) * ti.bytes≤140737488355328:=by
   rw [hz3];exact dd (Nat.mul_le_mul hfar hby) (by decide)
  have fresh:∀old,old < xs.length+ys.length→
    ∃v' c',Result.ok (α:=Value) (.slice (some ⟨c.w.heap.size,0,none⟩) (xs.length+ys.length) (grownCap c.w (xs.length+ys.length) old E)) (c.w.drew.alloc (.cells ((vs.take (xs.length * R.size)).toArray++nw.toArray++Builtin.zeroCells z.cells (grownCap c.w (xs.length+ys.length) old E - (xs.length+ys.length))) E))= .ok v' c'.w∧c.le c'∧
    ∃vs',Own c' G (F.set k (es m R v' E vs' (xs++ys)))∧OA R c' v' vs' (xs++ys):=by
   intro old ho;have hge:=AM c.w (xs.length+ys.length) old E;have hcm:grownCap c.w (xs.length+ys.length) old E≤maxLen:=qp c.w _ old E (by unfold maxLen; omega);have hd:=Cx.drew_le c;obtain ⟨c',e1,e2,e3,e4,e5⟩:=Cx.new ⟨c.w.drew,c.A,c.t⟩ ((vs.take (xs.length * R.size))++nw++(Builtin.zeroCells z.cells (grownCap c.w (xs.length+ys.length) old E - (xs.length+ys.length))).toList) E (cond m 0 ((xs++ys).length * R.size));have ea:((vs.take (xs.length * R.size))++nw++(Builtin.zeroCells z.cells (grownCap c.w (xs.length+ys.length) old E - (xs.length+ys.length))).toList).toArray=(vs.take (xs.length * R.size)).toArray++nw.toArray++Builtin.zeroCells z.cells (grownCap c.w (xs.length+ys.length) old E - (xs.length+ys.length)):=by
    apply D7; simp
   refine ⟨.slice (some ⟨c.w.heap.size,0,none⟩) (xs.length+ys.length) (grownCap c.w (xs.length+ys.length) old E),c',by rw [e1,ea],hd.le.trans e2.le,(vs.take (xs.length * R.size))++nw++(Builtin.zeroCells z.cells (grownCap c.w (xs.length+ys.length) old E - (xs.length+ys.length))).toList,Own.set (O.keep hd) k hk e2 (fun b (h:False)=>h.elim) (fun b hb=>?_) (fun b hb=>?_),hp,.inr ⟨c.w.heap.size,_,by rw [hN],by rw [hN]; exact hge,hcm,?_⟩,?_⟩
   ·simp only [es,blk,aK] at hb; subst hb; exact ⟨e3,e5⟩
   ·simp only [es,blk,aK] at hb; subst hb; exact .inr (ay _)
   ·simp only [av,wm,mV,hz,n1,az];have:grownCap c.w (xs.length+ys.length) old E * R.size=xs.length * R.size+ys.length * R.size+(grownCap c.w (xs.length+ys.length) old E - (xs.length+ys.length)) * R.size:=by
     rw [←eu,←eu]; congr 1; omega
    rw [this,cC hxl];exact ay _
   ·exact helem c' _ (hd.le.trans e2.le)
  rcases h1 with ⟨rfl,rfl⟩ | ⟨g,cap,rfl,hnc,hcm,hcs⟩
  ·have hr:=run_append_nil (P:=P) c.w t ty E ti z hT hti hz1 ⟨ub,uo,none⟩ ys.length ucap nw (by rw [n1,hz2]) hcells hpos (by simp at hfar; omega) (by have:=hbytes; simp at this; omega);have:=fresh 0 (by simpa using hpos);simp only [bd,gI,qd,fW,xO,bN] at this hr⊢;rw [hr];simpa using this
  ·obtain ⟨hg,hA⟩:=hon g rfl;by_cases hroom:xs.length+ys.length≤cap
   ·have hfit:xs.length * R.size+nw.length≤vs.length:=by
     rw [n1,←eu];exact dd (gW _ hroom) hcs
    have hr:=Bp (P:=P) c.w t ty E ti hT hti g xs.length cap vs.toArray hg ⟨ub,uo,none⟩ ys.length ucap nw (by rw [n1,hz2]) hcells n3 hroom (by rw [hz2]; simpa using hfit);rw [hz2] at hr;simp only at hr;obtain ⟨c',e1,e2,e3,e4⟩:=Cx.row (m:=vs.take (xs.length * R.size)++nw++vs.drop (xs.length * R.size+nw.length)) hg _ hA (fun o ho=>by
     have ho:o < xs.length * R.size:=by
      cases m
      ·exact ho
      ·exact absurd ho (uf _)
     rw [aF,aB (by rw [az]; omega),aN,ae ho];rfl) (cond m 0 ((xs++ys).length * R.size)) (by
      cases m
      ·simp only [es,Dy]; exact gW _ (by rw [hN]; omega)
      ·exact ay _)
    refine ⟨.slice (some ⟨g,0,none⟩) (xs.length+ys.length) cap,c',by rw [hr,e1],e2.le,vs.take (xs.length * R.size)++nw++vs.drop (xs.length * R.size+nw.length),Own.set O k hk e2 (fun b h=>by subst h; rfl) (fun b hb=>?_) (fun b hb=> .inl hb),hp,.inr ⟨g,cap,by rw [hN],by rw [hN]; exact hroom,hcm,?_⟩,helem c' _ e2.le⟩
    ·simp only [es,blk,aK] at hb; subst hb; exact ⟨e3,e4⟩
    ·simp only [av,bm,az];omega
   ·have vg:∀j w,(vs.take (xs.length * R.size))[j]? = some w→c.w.cell? ((⟨g,0,none⟩:Addr).add j)=some w:=fun j w hw=>by
     rw [dG,gI,iV _ _ _ _ _ _ hg,bV];rw [aN] at hw;split at hw
     ·exact hw
     ·cases hw
    have hr:=Jk (P:=P) c.w t ty E ti z hT hti hz1 ⟨g,0,none⟩ xs.length cap (vs.take (xs.length * R.size)) (by rw [az,hz2]; omega) vg ⟨ub,uo,none⟩ ys.length ucap nw (by rw [n1,hz2]) hcells (by omega) (by omega) (Dc (by omega) hbytes);rw [hr];exact fresh cap (by omega)
theorem Ab {E t ty:TypeId} {v u:Value} {vs:List Value} {xs ys zs:List α} {z:Value} {by_:Nat} {m:Bool} (k:Nat) (O:Own c G F) (hk:F[k]? = some (es m R v E vs xs)) (h:OA R c v vs xs) (hS:Sl R c u ys) (happ:appW xs ys=some zs)
  (hT:P.underlying t=some (.slice E)) (hi:(P.info? E).map (fun i=>(i.zero,i.size,i.bytes))=some (some z,R.size,by_)) (hz:z.cells.size=R.size) (hby:Nat.ble by_ 4=true):
  ∃v' c',(Builtin.append_ #[t,t] ty #[v,u]).run P c.w= .ok v' c'.w∧c.le c'∧∃vs',Own c' G (F.set k (es m R v' E vs' zs))∧OA R c' v' vs' zs:=by
 obtain ⟨nw,n1,n2,n3,n4⟩:=hS.flat;obtain ⟨ua,ucap,rfl,hu1,hu2,hu3⟩:=hS;refine zd k O hk h n1 (fun hys=>?_) n3 n4 happ hT hi hz hby;have hpos:0 < ys.length:=by
  rcases kO ys.length with h | h
  ·exact absurd (ck h) hys
  ·exact h
 obtain ⟨ub,uo,_,hua,_⟩:=hu3 0 ys[0] (af hpos);subst hua;exact ⟨ub,uo,rfl,fun j w hw=>(n2 j w hw).cell⟩
theorem Own.appW {E t ty:TypeId} {v u:Value} {vs:List Value} {xs ys zs:List α} {z:Value} {by_:Nat} {m:Bool} (k:Nat) (O:Own c G F) (hk:F[k]? = some (es m R v E vs xs)) (h:OA R c v vs xs) (hS:Sl R c u ys) (happ:appW xs ys=some zs)
  (hT:P.underlying t=some (.slice E)) (hi:(P.info? E).map (fun i=>(i.zero,i.size,i.bytes))=some (some z,R.size,by_)) (hz:z.cells.size=R.size) (hby:Nat.ble by_ 4=true)
  (hx:execOp ρ o=(do pure (Next.value (←Builtin.append_ #[t,t] ty #[v,u])):Sem Next)):
  ∃v' c',(execOp ρ o).run P c.w= .ok (.value v') c'.w∧c.le c'∧∃vs',Own c' G (F.set k (es m R v' E vs' zs))∧OA R c' v' vs' zs:=by
 obtain ⟨v',c',h1,h2,h3⟩:=Ab (P:=P) (t:=t) (ty:=ty) k O hk h hS happ hT hi hz hby;exact ⟨v',c',rx hx h1,h2,h3⟩
end
end Go.Lt
namespace Go.Proofs.YtclmdpamofdoiaaGreatDoor
open Go Go.Lt
set_option maxRecDepth 10000
set_option linter.unusedVariables false
attribute [local irreducible] W WL AC
def jC (p0:List Int):Option (List Int):=appW [] p0
theorem uk {c0:Cx} {G:Gm} {F:List En} {v1:Value} (O0:Own c0 G F) (p0:List Int) (h1:Sl (RI .i32) c0 v1 p0) {r:List Int} (H:jC p0=some r):
  Calls Tryz.prog 96 #[v1] c0.w (aP c0 fun c v=>∃y1:Value,∃y2:List Value,Own c G (es true (RI .i32) y1 21 y2 r :: F)∧v=y1∧OA (RI .i32) c y1 y2 r):=by
 unfold jC at H
 have hS:=h1
 obtain ⟨a,cap,rfl,h2,h3,h4⟩:=h1
 refine enter (l:=[.slice a p0.length cap]) Tryz.func96 rfl rfl rfl ?_
 refine W.seq ?_
 refine W.region ?_
 refine WL.val0 (v:= .slice none 0 0) rfl (by kernel_rfl) ?_
 refine WL.nil ?_
 refine nrm ?_
 cases a with
 | none=>
  obtain rfl:p0= []:=by
   cases p0 with
   | nil=>rfl
   | cons x t=>
    obtain ⟨b,off,l,e,_⟩:=h4 0 x rfl
    cases e
  obtain rfl:r= []:=by simpa [appW] using H.symm
  refine W.seq ?_
  refine W.seq ?_
  refine W.region ?_
  refine WL.val0 (v:= .slice none 0 cap) rfl (by kernel_rfl) ?_
  refine WL.val0 (v:= .bool true) rfl (by kernel_rfl) ?_
  refine WL.nil ?_
  refine nrm ?_
  refine W.cond (t:=true) (by kernel_rfl) (fun _=>?_) (fun h=>by cases h)
  refine W.seq ?_
  refine W.region ?_
  refine WL.val0 (v:= .slice none 0 0) rfl (by kernel_rfl) ?_
  refine WL.nil ?_
  refine nrm ?_
  refine W.ret ?_
  refine thr ?_
  have O1:=O0.addHole (e:=es true (RI .i32) (.slice none 0 0) 21 [] ([]:List Int)) rfl
  exact zA (v:= .slice none 0 0) rfl (by kernel_rfl) ⟨_,c0,rfl,rfl,Cx.le.refl _,_,_,O1,rfl,OA.nil (aZ _)⟩
 | some ad=>
  refine W.seq ?_
  refine W.seq ?_
  refine W.region ?_
  refine WL.val0 (v:= .slice (some ad) p0.length cap) rfl (by kernel_rfl) ?_
  refine WL.val0 (v:= .bool false) rfl (by kernel_rfl) ?_
  refine WL.nil ?_
  refine nrm ?_
  refine W.cond (t:=false) (by kernel_rfl) (fun h=>by cases h) (fun _=>?_)
  refine W.skip ?_
  refine nrm ?_
  refine W.seq ?_
  refine W.region ?_
  refine WL.mem rfl (Own.sl (R:=RI .i32) (E:=21) (ls:=[]) (vs:=[]) (xs:=([]:List Int)) true O0 (aZ _) rfl trivial (by kernel_rfl) (by kernel_rfl)) ?_
  rintro v5 c1 l1 ⟨u1,O1,a1⟩
  refine WL.val0 (v:= .slice (some ad) p0.length cap) rfl (by kernel_rfl) ?_
  refine WL.mem rfl (Own.appW (R:=RI .i32) (z:= .int .i32 0) (by_:=4) (ty:=32) 0 O1 rfl a1 (hS.mono l1) H Tryz.underlying32 (by kernel_rfl) rfl (by kernel_rfl) (by kernel_rfl)) ?_
  rintro v6 c2 l2 ⟨u2,O2,a2⟩
  refine WL.val0 (v:=v6) rfl (by kernel_rfl) ?_
  refine WL.nil ?_
  refine nrm ?_
  refine W.ret ?_
  exact zA (v:=v6) rfl (by kernel_rfl) ⟨_,c2,rfl,rfl,l1.trans l2,_,_,O2,rfl,a2⟩
end Go.Proofs.YtclmdpamofdoiaaGreatDoor
namespace Go.Proofs.YtclmdpamofdoiaaGreatDoor
open Go Go.Lt
set_option maxRecDepth 10000
set_option linter.unusedVariables false
attribute [local irreducible] W WL AC
open Tryz
variable {c0:Cx} {G:Gm} {F:List En} {sg:Sto} {v1 v2 v3 v4 v5 v6 v7 v8 v9 v10 v11 v12 v13 v14 v15 v16 v17 v18 v19 v20 v21 v22 v23 v24 v25 v26 v27 v28 v29 v30 v31 v32 v33 v34 v35 v36 v37 v38 v39 v40 v41 v42 v43 v44 v45 v46 v47 v48 v49 v50 v51 v52 v53 v54 v55 v56 v57 v58 v59 v60:Value}
def gV (p0:Int):Option (Bool):=
 (bD (decide (p0≥0)) (some (decide (p0 < 32)))).bind fun b=>
 (orE b ((bD (decide (p0≥127)) (some (decide (p0≤159)))).bind fun a=>
 some a)).bind fun c=>
 some c
theorem nC (e:Own c0 G F) (a:Int) {r:Bool} (H:gV a=some r): Calls prog 134 #[J a] c0.w (aP c0 fun c v=>Own c G (F)∧v=B r):=by
 unfold gV at H;refine en func134 rfl rfl (sr (va (B false) (wln (W.seq (bn H fun z t H=>bn H fun s n H=>W.join (Jn c0 fun c l=>Own c G (F)∧l= [(2,B s)]) ?_ ?_)))))
 ·clear H;refine W.region (va (J a) (va (B (decide (a≥0))) ?_));rcases bo (decide (a≥0)) with f | f
  ·have x:=anT f t;refine vb f (wa (J a) (wa (B (decide (a < 32))) ?_));obtain rfl:=si x;refine va (B (decide (a < 32))) ?_;rcases bo (decide (a < 32)) with g | g
   ·obtain rfl:=orT g n;exact vb g (pz (pz (pz (vv (B true) (wln (jn c0 ⟨e,rfl⟩))))))
   have i:=orF g n;refine vb g (wa (J a) (wa (B (decide (a≥127))) (wn (bn i fun m u i=>?_))));rcases bo (decide (a≥127)) with h | h
   ·have y:=anT h u;refine vb h (wa (J a) (wa (B (decide (a≤159))) (wn ?_)));obtain rfl:=si y;refine va (B (decide (a≤159))) ?_;obtain rfl:=si i;exact vv (B (decide (a≤159))) (wln (jn c0 ⟨e,rfl⟩))
   obtain rfl:=anF h u;refine vb h (pz (wa (B false) ?_));obtain rfl:=si i;exact vv (B false) (wln (jn c0 ⟨e,rfl⟩))
  obtain rfl:=anF f t;refine vb f (pz (va (B false) ?_));have j:false=false:=rfl;have d:=orF j n;refine vb j (wa (J a) (wa (B (decide (a≥127))) (wn (bn d fun m k d=>?_))));rcases bo (decide (a≥127)) with b | b
  ·have o:=anT b k;refine vb b (wa (J a) (wa (B (decide (a≤159))) (wn ?_)));obtain rfl:=si o;refine va (B (decide (a≤159))) ?_;obtain rfl:=si d;exact vv (B (decide (a≤159))) (wln (jn c0 ⟨e,rfl⟩))
  obtain rfl:=anF b k;refine vb b (pz (wa (B false) ?_));obtain rfl:=si d;exact vv (B false) (wln (jn c0 ⟨e,rfl⟩))
 rintro E M ⟨q,A,_,rfl,D,rfl,p,rfl⟩;refine nrm (W.ret ?_);obtain rfl:=si H;exact r1 (qq q ⟨p,rfl⟩)
def kW (p0:ai):Option (ai):=
 (if (decide (p0.Col > 0))=true then
 some ((w64 (p0.Col - 1)))
 else
 some (p0.Col)).bind fun a=>
 some (⟨p0.Row,a,false⟩:ai)
theorem wg (s:Own c0 G F) (a:ai) {r:ai} (H:kW a=some r): Calls prog 182 #[.agg #[I a.Row,I a.Col,B a.Pending]] c0.w (aP c0 fun c v=>Own c G (F)∧v= .agg #[I r.Row,I r.Col,B r.Pending]):=by
 unfold kW at H;refine en func182 rfl rfl (sr (me (al 29 [I a.Row,I a.Col,B a.Pending] s) ?_));rintro v4 E P ⟨e,rfl,t⟩;refine me (al 29 [I 0,I 0,B false] t) ?_;rintro v8 M R ⟨o,rfl,u⟩;refine wln (sr (va (Qo e 2) (md (sC 4 2 (B false) [I a.Row,I a.Col,B false] 1 u ⟨rfl,trivial⟩) ?_)));rintro i z f;refine wln (bn H fun d b k=>W.seqJ (Jn i fun c l=>Own c G ((Eb o 29 [I 0,I 0,B false]) :: (Eb e 29 [I a.Row,I d,B false]) :: F)∧l= [(1,Q e),(2,Q o)]) ?_ ?_)
 ·refine sr (va (Qo e 1) (vx (le1 1 u_3 (f.on 1 rfl)) (va (B (decide (a.Col > 0))) (wln (cn b (fun q b=>?_) (fun q b=>?_))))))
  ·refine W.region (va (Qo e 1) (vx (le1 1 u_3 (f.on 1 rfl)) (va (I (w64 (a.Col - 1))) (va (Qo e 1) (md (sC 3 1 (I (w64 (a.Col - 1))) [I a.Row,I (w64 (a.Col - 1)),B false] 1 f ⟨rfl,trivial⟩) ?_)))));rintro p A m;refine wln ?_;obtain rfl:=si b;exact jn p ⟨m,rfl⟩
  refine W.skip (nrm ?_);obtain rfl:=si b;exact jn i ⟨f,rfl⟩
 rintro N S ⟨x,y,_,rfl,l16,rfl,g,rfl⟩;refine sr (vx (leN 29 0 [I a.Row,I d,B false] (g.on 1 rfl)) (md (sA 29 [I a.Row,I d,B false] 0 g ⟨rfl,rfl,rfl,trivial⟩) ?_));rintro j D h;refine wln (W.ret ?_);obtain rfl:=si k;have n:=h.sD 2 [];exact rF (c:=j) (vs:=[I a.Row,I d,B false]) rfl (by kernel_rfl) (by kernel_rfl) (by kernel_rfl) (h.on 0 rfl _ rfl).1 ⟨_,j,rfl,rfl,pt,n,rfl⟩
def oH (sg:Sto) (p0:Option Nat) (p1:Int):Option (Sto×Bool):=
 (gV p1).bind fun s=>
 if (!s)=true then
 some (sg,false)
 else
 (orE p0.isNone ((p0).bind fun j=>
 (sg.place_Pen[j]?).bind fun l=>
 some l.G.isNone)).bind fun i=>
 if i=true then
 some (sg,true)
 else
 (p0).bind fun k=>
 (sg.place_Pen[k]?).bind fun a=>
 (cf sg a.G).bind fun m=>
 (bK sg a.G).bind fun n=>
 (dO a.At m n).bind fun h=>
 (if (p1==13)=true then
 (dt h).bind fun o=>
 (p0).bind fun d=>
 (sg.place_Pen[d]?).bind fun f=>
 (sg.set_place_Pen d (⟨f.G,o,f.Auto⟩:bq)).bind fun b=>
 some (b)
 else
 if (p1==10)=true then
 (fe sg p0).bind fun p=>
 some (p)
 else
 if (p1==8)=true then
 (kW h).bind fun q=>
 (p0).bind fun e=>
 (sg.place_Pen[e]?).bind fun g=>
 (sg.set_place_Pen e (⟨g.G,q,g.Auto⟩:bq)).bind fun c=>
 some (c)
 else
 some (sg)).bind fun r=>
 some (r,true)
theorem B5 (O0:Own c0 G F) (g:Rel c0 sg G) (p0:Option Nat) (j:Int) {r:Sto×Bool} (S:Pt 2 c0 v1 p0) (H:oH sg p0 j=some r): Calls prog 116 #[v1,J j] c0.w (aP c0 fun c v=>∃G_:Gm,Own c G_ (F)∧Rel c r.1 G_∧v=B r.2):=by
 unfold oH at H;refine en func116 rfl rfl (sr (va (B false) (wln (W.seq (sr (va (J j) (bn H fun o5 h3 H=>cl (nC O0 j h3) ?_)))))));rintro v9 c8 o ⟨O5,rfl⟩;refine va (B (!o5)) (wln (cn H (fun t4 H=>?_) (fun t4 H=>?_)))
 ·refine sr (va (B false) (wln (W.ret (thr ?_))));obtain rfl:=si H;exact r1 (qq c8 ⟨G,O5,g.m,rfl⟩)
 refine W.skip (nrm (W.seq (W.seq (bn H fun c3 s1 H=>W.join (Jn c8 fun c l=>Own c G (F)∧l= [(0,v1),(1,J j),(17,B c3)]) ?_ ?_))))
 ·clear H;refine W.region (va (v1) (vr (B p0.isNone) (by rcases S.m.cs with ⟨y,z⟩ | ⟨b_,y,z⟩ <;> (subst y; rw [z]; kernel_rfl)) ?_));rcases bo (p0.isNone) with x | x
  ·obtain rfl:=orT x s1;exact vb x (pz (pz (ps (va (B true) (wln (jn c8 ⟨O5,rfl⟩))))))
  have u:=orF x s1;refine vb x (wa (v1) (wn (bn u fun a6 v4 u=>?_)));obtain ⟨k1,rfl,u4⟩:=((S.mono o)).get v4;refine va (Q k1) (wa (Q k1) (wn (bn u fun t0 w4 u=>?_)));obtain ⟨v18,y4,x4⟩:=Rel.open_place_Pen (g.mono o) w4 u4;refine vx (le1 0 eU (O5.gon y4 0 rfl)) (wn (vr (B t0.G.isNone) (by rcases (x4).cs with ⟨y,z⟩ | ⟨b_,y,z⟩ <;> (subst y; rw [z]; kernel_rfl)) ?_));obtain rfl:=si u;exact va (B t0.G.isNone) (wln (jn c8 ⟨O5,rfl⟩))
 rintro e_ w_ ⟨m1,w6,_,rfl,n,rfl,a1,rfl⟩;refine nrm (cn H (fun z4 H=>?_) (fun z4 H=>?_))
 ·refine sr (va (B true) (wln (W.ret (thr ?_))));obtain rfl:=si H;exact r1 (qq m1 ⟨G,a1,g.m,rfl⟩)
 refine W.skip (nrm (W.seq (bn H fun b6 a5 H=>bn H fun d b5 H=>bn H fun s t1 H=>bn H fun t l0 H=>bn H fun b R H=>W.join (Jn m1 fun c l=>∃P,Own c G ((Eb P 29 [I b.Row,I b.Col,B b.Pending]) :: F)∧l= [(0,v1),(1,J j),(5,Q P)]) ?_ ?_)))
 ·clear H;refine rD [] (Kp G []) a1 ?_;intro j4 w1 d0;have x0:Kp G [] j4:=(Kp.nil d0);refine ta 0 (v1) ?_;obtain ⟨k,rfl,c5⟩:=((S.mono (o.trans (n.trans w1)))).get a5;refine ta 1 (Q k) (ta 2 (Qo k 1) ?_);obtain ⟨v39,m0,A⟩:=Rel.open_place_Pen (g.mono (o.trans (n.trans w1))) b5 c5;refine tkx 3 x0 (fun c' u1 hk=>leN 29 1 [I d.At.Row,I d.At.Col,B d.At.Pending] (hk.gon m0 0 rfl)) (ta 4 (Q k) (ta 5 (Q k) (ta 6 (Q k) (tkx 7 x0 (fun c' u1 hk=>le1 0 eU (hk.gon m0 0 rfl)) (ta 9 (Q k) (ta 10 (Q k) (ta 11 (Q k) (tkx 12 x0 (fun c' u1 hk=>le1 0 eU (hk.gon m0 0 rfl)) (mn2 8 15 ?_ ?_)))))))))
  ·refine gc 8 (cL d0 g.m d.G A t1) ?_;rintro v47 k4 x6 ⟨e0,rfl⟩;have d5:Kp G [] k4:=(Kp.nil e0);refine ⟨.inr d5,mn2 13 15 ?_ ?_⟩
   ·refine gc 13 (bG e0 g.m d.G A.m l0) ?_;rintro v54 l4 y6 ⟨f0,rfl⟩;have e5:Kp G [] l4:=(Kp.nil f0);refine ⟨.inr e5,mn2 14 15 ?_ ?_⟩
    ·refine gc 14 (dP f0 d.At s t R) ?_;rintro h7 m4 z6 ⟨b1,rfl⟩;have f5:Kp G [] m4:=(Kp.nil b1);refine ⟨.inr f5,o1 15 (gm 15 (al 29 [I 0,I 0,B false] b1) ?_)⟩;rintro i7 n4 a7 ⟨f4,rfl,c1⟩;have g5:Kp G [] n4:=(Kp.nil c1);refine ⟨.inr g5,o1 16 (gD 16 (sA 29 [I b.Row,I b.Col,B b.Pending] 0 c1 ⟨rfl,rfl,rfl,trivial⟩) ?_)⟩;rintro n1 b7 d1;have h5:Kp G [] n1:=(Kp.nil d1);exact ⟨.inr h5,dn (nrm (jn n1 ⟨f4,d1,rfl⟩))⟩
    refine gm 15 (al 29 [I 0,I 0,B false] f0) ?_;rintro j7 o4 c7 ⟨g4,rfl,e1⟩;have i5:Kp G [] o4:=(Kp.nil e1);refine ⟨.inr i5,o1 14 (gc 14 (dP e1 d.At s t R) ?_)⟩;rintro k7 p4 d7 ⟨f1,rfl⟩;have j5:Kp G [] p4:=(Kp.nil f1);refine ⟨.inr j5,o1 16 (gD 16 (sA 29 [I b.Row,I b.Col,B b.Pending] 0 f1 ⟨rfl,rfl,rfl,trivial⟩) ?_)⟩;rintro q1 e7 g1;have k5:Kp G [] q1:=(Kp.nil g1);exact ⟨.inr k5,dn (nrm (jn q1 ⟨g4,g1,rfl⟩))⟩
   refine gm 15 (al 29 [I 0,I 0,B false] e0) ?_;rintro l7 q4 f7 ⟨h4,rfl,h1⟩;have l5:Kp G [] q4:=(Kp.nil h1);refine ⟨.inr l5,o1 13 (gc 13 (bG h1 g.m d.G A.m l0) ?_)⟩;rintro m7 r4 g7 ⟨i1,rfl⟩;have m5:Kp G [] r4:=(Kp.nil i1);refine ⟨.inr m5,o1 14 (gc 14 (dP i1 d.At s t R) ?_)⟩;rintro n6 t2 e6 ⟨j1,rfl⟩;have v3:Kp G [] t2:=(Kp.nil j1);refine ⟨.inr v3,o1 16 (gD 16 (sA 29 [I b.Row,I b.Col,B b.Pending] 0 j1 ⟨rfl,rfl,rfl,trivial⟩) ?_)⟩;rintro g0 f6 T;have w3:Kp G [] g0:=(Kp.nil T);exact ⟨.inr w3,dn (nrm (jn g0 ⟨h4,T,rfl⟩))⟩
  refine gm 15 (al 29 [I 0,I 0,B false] d0) ?_;rintro o6 u2 g6 ⟨s2,rfl,U⟩;have x3:Kp G [] u2:=(Kp.nil U);refine ⟨.inr x3,o1 8 (gc 8 (cL U g.m d.G A.m t1) ?_)⟩;rintro p6 v2 h6 ⟨X,rfl⟩;have y3:Kp G [] v2:=(Kp.nil X);refine ⟨.inr y3,o1 13 (gc 13 (bG X g.m d.G A.m l0) ?_)⟩;rintro q6 w2 i6 ⟨Z,rfl⟩;have z3:Kp G [] w2:=(Kp.nil Z);refine ⟨.inr z3,o1 14 (gc 14 (dP Z d.At s t R) ?_)⟩;rintro r6 x2 j6 ⟨a0,rfl⟩;have a4:Kp G [] x2:=(Kp.nil a0);refine ⟨.inr a4,o1 16 (gD 16 (sA 29 [I b.Row,I b.Col,B b.Pending] 0 a0 ⟨rfl,rfl,rfl,trivial⟩) ?_)⟩;rintro h0 k6 b0;have b4:Kp G [] h0:=(Kp.nil b0);exact ⟨.inr b4,dn (nrm (jn h0 ⟨s2,b0,rfl⟩))⟩
 rintro e_ w_ ⟨i0,v5,_,rfl,i,rfl,P,h,rfl⟩;refine nrm (bn H fun c4 a c2=>W.seqJ (Jn i0 fun c l=>∃G_,Own c G_ ((Eb P 29 [I b.Row,I b.Col,B b.Pending]) :: F)∧l= []∧Rel c c4 G_) ?_ ?_)
 ·refine sr (va (J j) (wln (W.block (sr (vv (B (j==13)) (wln (cn a (fun d3 a=>?_) (fun d3 a=>?_))))))))
  ·refine W.region (va (v1) (vx (leN 29 0 [I b.Row,I b.Col,B b.Pending] (h.on 0 rfl)) (bn a fun e e3 a=>cl (jE h b e3) ?_)));rintro s6 t5 D ⟨d2,rfl⟩;refine bn a fun c6 f3 a=>?_;obtain ⟨p,rfl,j0⟩:=((S.mono (o.trans (n.trans (i.trans D))))).get f3;refine va (Q p) (va (Qo p 1) (bn a fun u0 g3 a=>?_));obtain ⟨M,j3,i3⟩:=Rel.open_place_Pen (g.mono (o.trans (n.trans (i.trans D)))) g3 j0;refine md (gB 29 1 [I e.Row,I e.Col,B e.Pending] [M,I e.Row,I e.Col,B e.Pending,B u0.Auto] 0 d2 j3 ⟨rfl,rfl,rfl,trivial⟩) ?_;rintro y2 q0 e2;refine bn a fun d4 k3 a=>?_;obtain ⟨x1,f2,n2,x5,q5⟩:=Rel.put_place_Pen e2 (g.mono (o.trans (n.trans (i.trans (D.trans q0))))) (E':=[(Eb p 126 [M,I e.Row,I e.Col,B e.Pending,B u0.Auto])]) k3 ⟨p,M,(tm j0),rfl,(i3.mono q0)⟩;refine WL.nil (bkn (nrm ?_));obtain rfl:=si a;exact jn y2 ⟨x1,f2,rfl,n2⟩
  refine sr (vv (B (j==10)) (wln (cn a (fun l3 a=>?_) (fun l3 a=>?_))))
  ·refine W.region (va (v1) (bn a fun v6 m3 a=>cl (na h g.m p0 S.m m3) ?_));rintro t6 z2 l6 ⟨y1,g2,o2,rfl⟩;refine WL.nil (bkn (nrm ?_));obtain rfl:=si a;exact jn z2 ⟨y1,g2,rfl,o2⟩
  refine sr (vv (B (j==8)) (wln (cn a (fun n3 a=>?_) (fun n3 a=>?_))))
  ·refine W.region (va (v1) (vx (leN 29 0 [I b.Row,I b.Col,B b.Pending] (h.on 0 rfl)) (bn a fun f o3 a=>cl (wg h b o3) ?_)));rintro u6 u5 E ⟨i2,rfl⟩;refine bn a fun d6 p3 a=>?_;obtain ⟨q,rfl,k0⟩:=((S.mono (o.trans (n.trans (i.trans E))))).get p3;refine va (Q q) (va (Qo q 1) (bn a fun v0 q3 a=>?_));obtain ⟨N,t3,s3⟩:=Rel.open_place_Pen (g.mono (o.trans (n.trans (i.trans E)))) q3 k0;refine md (gB 29 1 [I f.Row,I f.Col,B f.Pending] [N,I f.Row,I f.Col,B f.Pending,B v0.Auto] 0 i2 t3 ⟨rfl,rfl,rfl,trivial⟩) ?_;rintro a3 s0 j2;refine bn a fun e4 u3 a=>?_;obtain ⟨z1,k2,p2,y5,r5⟩:=Rel.put_place_Pen j2 (g.mono (o.trans (n.trans (i.trans (E.trans s0))))) (E':=[(Eb q 126 [N,I f.Row,I f.Col,B f.Pending,B v0.Auto])]) u3 ⟨q,N,(tm k0),rfl,(s3.mono s0)⟩;refine WL.nil (bkn (nrm ?_));obtain rfl:=si a;exact jn a3 ⟨z1,k2,rfl,p2⟩
  refine W.skip (bkn (nrm ?_));obtain rfl:=si a;exact jn i0 ⟨G,h,rfl,g.m⟩
 rintro e_ w_ ⟨b3,w5,_,rfl,m6,rfl,b2,l2,rfl,q2⟩;refine sr (va (B true) (wln (W.ret ?_)));obtain rfl:=si c2;have m2:=l2.sD 1 [];exact r1 (qq b3 ⟨b2,m2,q2,rfl⟩)
def dS (p0:Int):Option (Bool):=
 (bD (decide (p0≥0)) (some (decide (p0≤31)))).bind fun b=>
 (orE b ((bD (decide (p0≥127)) (some (decide (p0≤159)))).bind fun a=>
 some a)).bind fun c=>
 some c
theorem po (e:Own c0 G F) (a:Int) {r:Bool} (H:dS a=some r): Calls prog 39 #[J a] c0.w (aP c0 fun c v=>Own c G (F)∧v=B r):=by
 unfold dS at H;refine en func39 rfl rfl (sr (va (B false) (wln (W.seq (bn H fun z t H=>bn H fun s n H=>W.join (Jn c0 fun c l=>Own c G (F)∧l= [(2,B s)]) ?_ ?_)))))
 ·clear H;refine W.region (va (J a) (va (B (decide (a≥0))) ?_));rcases bo (decide (a≥0)) with f | f
  ·have x:=anT f t;refine vb f (wa (J a) (wa (B (decide (a≤31))) ?_));obtain rfl:=si x;refine va (B (decide (a≤31))) ?_;rcases bo (decide (a≤31)) with g | g
   ·obtain rfl:=orT g n;exact vb g (pz (pz (pz (vv (B true) (wln (jn c0 ⟨e,rfl⟩))))))
   have i:=orF g n;refine vb g (wa (J a) (wa (B (decide (a≥127))) (wn (bn i fun m u i=>?_))));rcases bo (decide (a≥127)) with h | h
   ·have y:=anT h u;refine vb h (wa (J a) (wa (B (decide (a≤159))) (wn ?_)));obtain rfl:=si y;refine va (B (decide (a≤159))) ?_;obtain rfl:=si i;exact vv (B (decide (a≤159))) (wln (jn c0 ⟨e,rfl⟩))
   obtain rfl:=anF h u;refine vb h (pz (wa (B false) ?_));obtain rfl:=si i;exact vv (B false) (wln (jn c0 ⟨e,rfl⟩))
  obtain rfl:=anF f t;refine vb f (pz (va (B false) ?_));have j:false=false:=rfl;have d:=orF j n;refine vb j (wa (J a) (wa (B (decide (a≥127))) (wn (bn d fun m k d=>?_))));rcases bo (decide (a≥127)) with b | b
  ·have o:=anT b k;refine vb b (wa (J a) (wa (B (decide (a≤159))) (wn ?_)));obtain rfl:=si o;refine va (B (decide (a≤159))) ?_;obtain rfl:=si d;exact vv (B (decide (a≤159))) (wln (jn c0 ⟨e,rfl⟩))
  obtain rfl:=anF b k;refine vb b (pz (wa (B false) ?_));obtain rfl:=si d;exact vv (B false) (wln (jn c0 ⟨e,rfl⟩))
 rintro E M ⟨q,A,_,rfl,D,rfl,p,rfl⟩;refine nrm (W.ret ?_);obtain rfl:=si H;exact r1 (qq q ⟨p,rfl⟩)
def dK (p0:ag) (p1:Int):Option (ag×Bool):=
 (if (p1==13)=true then
 (bZ p0).bind fun f=>
 some (f.L,f.At.Row,0,false,f.Auto)
 else
 some (p0.L,p0.At.Row,p0.At.Col,p0.At.Pending,p0.Auto)).bind fun b=>
 (if (p1==10)=true then
 (eM (⟨b.1,(⟨b.2.1,b.2.2.1,b.2.2.2.1⟩:ai),b.2.2.2.2⟩:ag)).bind fun c=>
 some (c.L,c.At.Row,c.At.Col,c.At.Pending,c.Auto)
 else
 some (b.1,b.2.1,b.2.2.1,b.2.2.2.1,b.2.2.2.2)).bind fun a=>
 (if (p1==8)=true then
 (bZ (⟨a.1,(⟨a.2.1,a.2.2.1,a.2.2.2.1⟩:ai),a.2.2.2.2⟩:ag)).bind fun e=>
 some (e.L,e.At.Row,(bb 0 (w64 (e.At.Col - 1))),false,e.Auto)
 else
 some (a.1,a.2.1,a.2.2.1,a.2.2.2.1,a.2.2.2.2)).bind fun d=>
 (dS p1).bind fun g=>
 some ((⟨d.1,(⟨d.2.1,d.2.2.1,d.2.2.2.1⟩:ai),d.2.2.2.2⟩:ag),g)
end Go.Proofs.YtclmdpamofdoiaaGreatDoor
