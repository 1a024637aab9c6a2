/- Parts of the proofs of PlayFirst: the walk through the code, and plain Lean. No condition. -/
import Derived.Test.YtclmdpamofdoiaaGreatDoorPfA
import Derived.Test.YtclmdpamofdoiaaGreatDoorProg
import Derived.Test.YtclmdpamofdoiaaGreatDoorPfB
set_option linter.unusedVariables false
set_option linter.unusedSimpArgs false
namespace Go.Proofs.YtclmdpamofdoiaaGreatDoor
open Go Go.Lt
set_option maxRecDepth 10000
set_option linter.unusedVariables false
attribute [local irreducible] W WL AC
open Tryz
variable {c0:Cx} {G:Gm} {F:List En} {sg:Sto} {v1 v2 v3 v4 v5 v6 v7 v8 v9 v10 v11 v12 v13 v14 v15 v16 v17 v18 v19 v20 v21 v22 v23 v24 v25 v26 v27 v28 v29 v30 v31 v32 v33 v34 v35 v36 v37 v38 v39 v40 v41 v42 v43 v44 v45 v46 v47 v48 v49 v50 v51 v52 v53 v54 v55 v56 v57 v58 v59 v60:Value}
def jo (p0:List ab) (p1:Int) (q0_0:Int):Option (List ab):=
 (ew p1).bind fun c=>
 (jK p0 q0_0 c).bind fun d=>
 (slc d 0 (p0.length:Int)).bind fun a=>
 ((idx a (w64 ((p0.length:Int) - 1))).bind fun e=>
 if (e.Kind==2)=true then
 (idx a (w64 ((p0.length:Int) - 1))).bind fun g=>
 (oQ a (w64 ((p0.length:Int) - 1)) (⟨0,([]:List Int)⟩:ab)).bind fun b=>
 some (b)
 else
 some (a)).bind fun f=>
 some f
theorem tS {e:Value} {q:List Value} {p:Nat} (b:List ab) (o:Int) (q0_0:Int) (O0:Own c0 G (es true ag e 114 q b :: F)) {r:List ab} (S:OA ag c0 e q b) (m2:∀j u,([I q0_0]:List Value)[j]? = some u→Im c0 p (0+j) u) (H:jo b o q0_0=some r): Calls prog 249 #[e,I o,Q p] c0.w (aO c0 fun c v=>∃t y2,Own c G (es true ag t 114 y2 r :: F)∧v=t∧OA ag c t y2 r):=by
 unfold jo at H;refine en func249 rfl rfl (sr (va (Y) (wln (sr (va (e) (vx (lnO 3 cG S) (va (I (b.length:Int)) (wln (W.seq (rD [] (Kp G0 []) O0 ?_))))))))));intro c3 l3 O4;have p5:Kp G0 [] c3:=Kp.nil0;refine ta 0 (e) (tx 1 (fun c' i0=>l1 u_3 ((mm m2) 0 _ rfl)) (ta 2 (I o) (ta 5 (I (b.length:Int)) (bn H fun s h6 H=>o1 3 (gc 3 (jS O4 o h6) ?_)))));rintro v7 M g1 ⟨_,u8,y,rfl,h9⟩;have k0:Kp G0 [] M:=Kp.nil0;refine ⟨.inr k0,?_⟩;have z:=y.sD 2 [1,0];refine bn H fun b1 U H=>o1 4 (gc 4 (uw b q0_0 s z S.m h9 U) ?_);rintro v19 h i1 ⟨_,m0,A,rfl,X⟩;have l0:Kp G0 [] h:=Kp.nil0;refine ⟨.inr l0,bn H fun c1 Z H=>?_⟩;obtain ⟨v30,a0,g,d⟩:=Own.cutH (k':= .i64) 0 A rfl cG X (by kernel_rfl) Z;refine AC.take 6 (v30) rfl (by kernel_rfl) (by kernel_rfl) (fun c' i0=>(rx (by kernel_rfl) (a0 _))) (ta 7 (v30) (dn (nrm (bn H fun n a x=>W.seqJ (Jn h fun c l=>∃v36 f,Own c G (es true ag v36 114 f n :: F)∧l= [(0,v36)]∧OA ag c v36 f n) ?_ ?_))))
 ·refine sr (va (v30) (va (I (b.length:Int)) (va (I (w64 ((b.length:Int) - 1))) (bn a fun k i a=>vx (ixO cG d i) (va (Qo (sb v30) ((w64 ((b.length:Int) - 1)).toNat * 2)) ?_)))));obtain ⟨y0,b0,j0⟩:=OA.at d i;obtain ⟨v42,rfl,f1⟩:=b0;refine vr (I k.Kind) (rx (by kernel_rfl) (mu u_3 rfl (g.on 0 rfl) (d.blk i) (at1 (j:=0) j0 rfl))) (va (B (k.Kind==2)) (wln (cn a (fun d0 a=>?_) (fun d0 a=>?_))))
  ·refine W.region (va (v30) (va (I (b.length:Int)) (va (I (w64 ((b.length:Int) - 1))) (va (.agg #[I 0,Y]) (bn a fun d1 e0 a=>vx (ixO cG d e0) (bn a fun a1 f0 a=>md (Own.stW (R:=ag) (T:=114) (us:=[I 0,Y]) (x':=(⟨0,([]:List Int)⟩:ab)) (u:= .agg #[I 0,Y]) 0 g (by kernel_rfl) rfl d f0 rfl (by kernel_rfl) ⟨rfl,rfl,trivial⟩ rfl ⟨(Y),rfl,(Sl.nl _ _)⟩) ?_))))));rintro N j1 ⟨o0,D,g0⟩;refine wln ?_;obtain rfl:=si a;exact jn N ⟨v30,o0,D,rfl,g0⟩
  refine W.skip (nrm ?_);obtain rfl:=si a;exact jn h ⟨v30,m0,g,rfl,d⟩
 rintro e_ w_ ⟨P,e1,_,rfl,k1,rfl,v36,f,E,rfl,h0⟩;refine sr (vv (v36) (wln (W.ret ?_)));obtain rfl:=si x;exact r1 (qq P ⟨v36,f,E,rfl,h0⟩)
def jA (p0:List ab) (p1:Int):Option (List ab):=
 (bV (decide (p1 < (p0.length:Int))) ((idx p0 p1).bind fun d=>
 some (d.Kind==3))).bind fun c=>
 if c=true then
 (idx p0 (w64 (p1 - 1))).bind fun e=>
 (oQ p0 (w64 (p1 - 1)) (⟨0,([]:List Int)⟩:ab)).bind fun a=>
 (idx a p1).bind fun f=>
 (oQ a p1 (⟨0,([]:List Int)⟩:ab)).bind fun b=>
 some b
 else
 some p0
theorem pa {a:Value} {e:List Value} (f:List ab) (b:Int) (o:Own c0 G (es true ag a 114 e f :: F)) {r:List ab} (d:OA ag c0 a e f) (H:jA f b=some r): Calls prog 252 #[a,I b] c0.w (aO c0 fun c v=>∃U,Own c G (es true ag a 114 U r :: F)∧v= .tuple #[]∧OA ag c a U r):=by
 unfold jA at H;refine en func252 rfl rfl (W.seq (bn H fun y E H=>W.join (Jn c0 fun c l=>Own c G (es true ag a 114 e f :: F)∧l= [(0,a),(1,I b),(15,B y)]) ?_ ?_))
 ·clear H;refine W.region (va (I b) (va (a) (vx (lnO 3 cG d) (va (B (decide (b < (f.length:Int)))) ?_))));rcases bo (decide (b < (f.length:Int))) with g | g
  ·have n:=anT g E;refine vb g (wa (a) (wa (I b) (wn (bn n fun h p n=>vx (ixO cG d p) (wa (Qo (sb a) (b.toNat * 2)) (wn ?_))))));obtain ⟨l0,X,Z⟩:=OA.at d p;obtain ⟨v9,rfl,h0⟩:=X;refine vr (I h.Kind) (rx (by kernel_rfl) (mu u_3 rfl (o.on 0 rfl) (d.blk p) (at1 (j:=0) Z rfl))) (wa (B (h.Kind==3)) ?_);obtain rfl:=si n;exact va (B (h.Kind==3)) (wln (jn c0 ⟨o,rfl⟩))
  obtain rfl:=anF g E;exact vb g (pz (pz (pz (va (B false) (wln (jn c0 ⟨o,rfl⟩))))))
 rintro e_ w_ ⟨t,g0,_,rfl,i0,rfl,i,rfl⟩;refine nrm (cn H (fun z H=>?_) (fun z H=>?_))
 ·refine W.region (va (a) (va (I b) (va (I (w64 (b - 1))) (va (a) (va (I b) (vv (.agg #[I 0,Y]) (bn H fun d0 A H=>vx (ixO cG d.m A) (bn H fun a0 D H=>md (Own.stW (R:=ag) (T:=114) (us:=[I 0,Y]) (x':=(⟨0,([]:List Int)⟩:ab)) (u:= .agg #[I 0,Y]) 0 i (by kernel_rfl) rfl d.m D rfl (by kernel_rfl) ⟨rfl,rfl,trivial⟩ rfl ⟨(Y),rfl,(Sl.nl _ _)⟩) ?_))))))));rintro f0 j0 ⟨m0,q,k⟩;refine bn H fun e0 M H=>vx (ixO cG k M) (bn H fun b0 N H=>md (Own.stW (R:=ag) (T:=114) (us:=[I 0,Y]) (x':=(⟨0,([]:List Int)⟩:ab)) (u:= .agg #[I 0,Y]) 0 q (by kernel_rfl) rfl k N rfl (by kernel_rfl) ⟨rfl,rfl,trivial⟩ rfl ⟨(Y),rfl,(Sl.nl _ _)⟩) ?_);rintro x k0 ⟨S,s,P⟩;refine WL.nil ?_;obtain rfl:=si H;exact n0 (qq x ⟨S,s,rfl,P⟩)
 refine W.skip ?_;obtain rfl:=si H;exact n0 (qq t ⟨e,i,rfl,d.m⟩)
def ei (sg:Sto) (p0:Option Nat) (p1:Int) (p2:Int) (p3_0_0:Int):Option (Sto):=
 (bN sg p0).bind fun a=>
 (orE (decide (p1 < 0)) (some (decide (p1≥a)))).bind fun g=>
 (orE g (some (decide (p2 < 1)))).bind fun b=>
 if b=true then
 some sg
 else
 (eC sg p0).bind fun c=>
 (jA c p1).bind fun d=>
 (jo d (aB p2 (w64 (a - p1))) p3_0_0).bind fun e=>
 (dQ sg p0 0 e).bind fun f=>
 some f.1
theorem mQ {b3_0:Nat} (O0:Own c0 G F) (i:Rel c0 sg G) (hG:Gl [2,4] c0) (h:Option Nat) (a:Int) (d:Int) (p3_0_0:Int) {r:Sto} (t:Pt 0 c0 v1 h) (m3:∀j u,([I p3_0_0]:List Value)[j]? = some u→Im c0 b3_0 (0+j) u) (H:ei sg h a d p3_0_0=some r): Calls prog 248 #[v1,I a,I d,.func (.func 249) #[] #[Q b3_0]] c0.w (aO c0 fun c v=>∃G_:Gm,Own c G_ (F)∧Rel c r G_∧v= .tuple #[]):=by
 unfold ei at H;refine en func248 rfl rfl (sr (va (v1) (bn H fun b h4 H=>cl (cF O0 i h t h4) ?_)));rintro v10 k l9 ⟨q,rfl⟩;refine va (I b) (wln (W.seq (W.seq (bn H fun w0 o H=>bn H fun s g H=>W.join (Jn k fun c l=>Own c G (F)∧l= [(0,v1),(1,I a),(2,I d),(3,.func (.func 249) #[] #[Q b3_0]),(8,I b),(22,B s)]) ?_ ?_))))
 ·clear H;refine W.region (va (I a) (va (B (decide (a < 0))) ?_));rcases bo (decide (a < 0)) with e | e
  ·obtain rfl:=orT e o;refine vb e (pz (ps (va (B true) ?_)));have p:true=true:=rfl;obtain rfl:=orT p g;exact vb p (pz (va (B true) (wln (jn k ⟨q,rfl⟩))))
  have D:=orF e o;refine vb e (wa (I a) (wa (I b) (wa (B (decide (a≥b))) ?_)));obtain rfl:=si D;refine va (B (decide (a≥b))) ?_;rcases bo (decide (a≥b)) with f | f
  ·obtain rfl:=orT f g;exact vb f (pz (va (B true) (wln (jn k ⟨q,rfl⟩))))
  have E:=orF f g;refine vb f (wa (I d) (wa (B (decide (d < 1))) ?_));obtain rfl:=si E;exact va (B (decide (d < 1))) (wln (jn k ⟨q,rfl⟩))
 rintro e_ w_ ⟨X,x0,_,rfl,z0,rfl,n,rfl⟩;refine nrm (cn H (fun a0 H=>?_) (fun a0 H=>?_))
 ·refine W.ret (thr ?_);obtain rfl:=si H;exact r0 (qq X ⟨G,n,i.m,rfl⟩)
 refine W.skip (nrm (sr (va (v1) (bn H fun x b0 H=>cl (ll n i.m h t.m b0) ?_))));rintro v26 s0 a1 ⟨_,f1,M,rfl,d0⟩;refine va (v26) (wln (sr (va (v26) (va (I a) (bn H fun y e0 H=>cl (pa x a M d0 e0) ?_)))));rintro v44 t0 b1 ⟨g1,N,rfl,f0⟩;refine wln (W.region (va (v1) (va (.func (.func 249) #[] #[Q b3_0]) (va (v26) (va (I d) (va (I b) (va (I a) (va (I (w64 (b - a))) (va (I (aB d (w64 (b - a)))) (bn H fun z g0 H=>cl (tS y (aB d (w64 (b - a))) p3_0_0 N f0 (mm m3) g0) ?_))))))))));rintro v47 u0 c1 ⟨_,h1,P,rfl,h0⟩;obtain ⟨v0,j0,d1,R,i0⟩:=P.frz 0 rfl h0;refine WL.gh j0 (bn H fun q0 k0 H=>cl (jM R i.m (hG.m.le (by decide)) h 0 z t.m i0 k0) ?_);rintro i1 Z e1 ⟨_,A,S,U,rfl,y0⟩;refine WL.nil ?_;obtain rfl:=si H;have T:=S.sD 1 [];exact n0 (qq Z ⟨A,T,U,rfl⟩)
def ka (sg:Sto) (p0:Option Nat) (p1:Int) (p2:Int):Option (Sto):=
 (ei sg p0 p1 p2 p1).bind fun a=>
 some a
theorem vB (j:Own c0 G F) (l:Rel c0 sg G) (hG:Gl [2,4] c0) (d:Option Nat) (a:Int) (b:Int) {r:Sto} (o:Pt 0 c0 v1 d) (H:ka sg d a b=some r): Calls prog 193 #[v1,I a,I b] c0.w (aO c0 fun c v=>∃G_:Gm,Own c G_ (F)∧Rel c r G_∧v= .tuple #[]):=by
 unfold ka at H;refine en func193 rfl rfl (sr (me (bx 3 [I a] j) ?_));rintro v7 t u ⟨n,rfl,k,h⟩;refine wln (W.region (va (v1) (vx (l1 u_3 (h 0 _ rfl)) (va (I b) (va (.func (.func 249) #[] #[Q n]) (bn H fun s p H=>cl (mQ k l.m (hG.m.le (by decide)) d a b a o.m h p) ?_))))));rintro v14 g q ⟨i,e,f,rfl⟩;refine WL.nil ?_;obtain rfl:=si H;exact n0 (qq g ⟨i,e,f,rfl⟩)
def jp (p0:List ab) (p1:Int) (q0_0:Int):Option (List ab):=
 (jA p0 (w64 (q0_0+p1))).bind fun d=>
 (jL d q0_0 (w64 (q0_0+p1))).bind fun a=>
 (ew p1).bind fun b=>
 (app a b).bind fun c=>
 some c
theorem tT {b:Value} {f:List Value} {e:Nat} (d:List ab) (a:Int) (q0_0:Int) (P:Own c0 G (es true ag b 114 f d :: F)) {r:List ab} (S:OA ag c0 b f d) (g:∀j u,([I q0_0]:List Value)[j]? = some u→Im c0 e (0+j) u) (H:jp d a q0_0=some r): Calls prog 251 #[b,I a,Q e] c0.w (aO c0 fun c v=>∃h N,Own c G (es true ag h 114 N r :: F)∧v=h∧OA ag c h N r):=by
 unfold jp at H;refine en func251 rfl rfl (sr (va (Y) (wln (sr (va (b) (vx (l1 u_3 (g 0 _ rfl)) (va (I a) (va (I (w64 (q0_0+a))) (bn H fun M T H=>cl (pa d (w64 (q0_0+a)) P S T) ?_)))))))));rintro v12 b0 g0 ⟨u5,R,rfl,U⟩;refine wln (sr (va (b) (vx (l1 u_3 ((mm g) 0 _ rfl)) (vx (l1 u_3 ((mm g) 0 _ rfl)) (va (I a) (va (I (w64 (q0_0+a))) (bn H fun X q H=>cl (ux M q0_0 (w64 (q0_0+a)) R U q) ?_)))))));rintro v15 d0 h0 ⟨_,l0,i,rfl,s⟩;refine va (I a) (bn H fun Z t H=>cl (jS i a t) ?_);rintro v25 e0 i0 ⟨_,m0,k,rfl,x⟩;obtain ⟨f0,z,j0,l,y⟩:=k.frz 0 rfl x;refine WL.gh z (bn H fun a0 A H=>me (ap ag (.agg #[I 0,Y]) 32 46 1 l s.m y A cG) ?_);rintro v43 p k0 ⟨E,n,D⟩;refine va (v43) (wln (W.ret ?_));obtain rfl:=si H;have o:=n.sD 2 [1];exact r1 (qq p ⟨v43,E,o,rfl,D⟩)
def ej (sg:Sto) (p0:Option Nat) (p1:Int) (p2:Int) (p3_0_0:Int):Option (Sto):=
 (bN sg p0).bind fun a=>
 (orE (decide (p1 < 0)) (some (decide (p1≥a)))).bind fun g=>
 (orE g (some (decide (p2 < 1)))).bind fun b=>
 if b=true then
 some sg
 else
 (eC sg p0).bind fun c=>
 (jA c p1).bind fun d=>
 (jp d (aB p2 (w64 (a - p1))) p3_0_0).bind fun e=>
 (dQ sg p0 0 e).bind fun f=>
 some f.1
theorem mR {b3_0:Nat} (O0:Own c0 G F) (i:Rel c0 sg G) (hG:Gl [2,4] c0) (h:Option Nat) (a:Int) (d:Int) (p3_0_0:Int) {r:Sto} (t:Pt 0 c0 v1 h) (m3:∀j u,([I p3_0_0]:List Value)[j]? = some u→Im c0 b3_0 (0+j) u) (H:ej sg h a d p3_0_0=some r): Calls prog 248 #[v1,I a,I d,.func (.func 251) #[] #[Q b3_0]] c0.w (aO c0 fun c v=>∃G_:Gm,Own c G_ (F)∧Rel c r G_∧v= .tuple #[]):=by
 unfold ej at H;refine en func248 rfl rfl (sr (va (v1) (bn H fun b h4 H=>cl (cF O0 i h t h4) ?_)));rintro v10 k l9 ⟨q,rfl⟩;refine va (I b) (wln (W.seq (W.seq (bn H fun w0 o H=>bn H fun s g H=>W.join (Jn k fun c l=>Own c G (F)∧l= [(0,v1),(1,I a),(2,I d),(3,.func (.func 251) #[] #[Q b3_0]),(8,I b),(22,B s)]) ?_ ?_))))
 ·clear H;refine W.region (va (I a) (va (B (decide (a < 0))) ?_));rcases bo (decide (a < 0)) with e | e
  ·obtain rfl:=orT e o;refine vb e (pz (ps (va (B true) ?_)));have p:true=true:=rfl;obtain rfl:=orT p g;exact vb p (pz (va (B true) (wln (jn k ⟨q,rfl⟩))))
  have D:=orF e o;refine vb e (wa (I a) (wa (I b) (wa (B (decide (a≥b))) ?_)));obtain rfl:=si D;refine va (B (decide (a≥b))) ?_;rcases bo (decide (a≥b)) with f | f
  ·obtain rfl:=orT f g;exact vb f (pz (va (B true) (wln (jn k ⟨q,rfl⟩))))
  have E:=orF f g;refine vb f (wa (I d) (wa (B (decide (d < 1))) ?_));obtain rfl:=si E;exact va (B (decide (d < 1))) (wln (jn k ⟨q,rfl⟩))
 rintro e_ w_ ⟨X,x0,_,rfl,z0,rfl,n,rfl⟩;refine nrm (cn H (fun a0 H=>?_) (fun a0 H=>?_))
 ·refine W.ret (thr ?_);obtain rfl:=si H;exact r0 (qq X ⟨G,n,i.m,rfl⟩)
 refine W.skip (nrm (sr (va (v1) (bn H fun x b0 H=>cl (ll n i.m h t.m b0) ?_))));rintro v26 s0 a1 ⟨_,f1,M,rfl,d0⟩;refine va (v26) (wln (sr (va (v26) (va (I a) (bn H fun y e0 H=>cl (pa x a M d0 e0) ?_)))));rintro v44 t0 b1 ⟨g1,N,rfl,f0⟩;refine wln (W.region (va (v1) (va (.func (.func 251) #[] #[Q b3_0]) (va (v26) (va (I d) (va (I b) (va (I a) (va (I (w64 (b - a))) (va (I (aB d (w64 (b - a)))) (bn H fun z g0 H=>cl (tT y (aB d (w64 (b - a))) p3_0_0 N f0 (mm m3) g0) ?_))))))))));rintro v47 u0 c1 ⟨_,h1,P,rfl,h0⟩;obtain ⟨v0,j0,d1,R,i0⟩:=P.frz 0 rfl h0;refine WL.gh j0 (bn H fun q0 k0 H=>cl (jM R i.m (hG.m.le (by decide)) h 0 z t.m i0 k0) ?_);rintro i1 Z e1 ⟨_,A,S,U,rfl,y0⟩;refine WL.nil ?_;obtain rfl:=si H;have T:=S.sD 1 [];exact n0 (qq Z ⟨A,T,U,rfl⟩)
def kb (sg:Sto) (p0:Option Nat) (p1:Int) (p2:Int):Option (Sto):=
 (ej sg p0 p1 p2 p1).bind fun a=>
 some a
theorem vC (j:Own c0 G F) (l:Rel c0 sg G) (hG:Gl [2,4] c0) (d:Option Nat) (a:Int) (b:Int) {r:Sto} (o:Pt 0 c0 v1 d) (H:kb sg d a b=some r): Calls prog 194 #[v1,I a,I b] c0.w (aO c0 fun c v=>∃G_:Gm,Own c G_ (F)∧Rel c r G_∧v= .tuple #[]):=by
 unfold kb at H;refine en func194 rfl rfl (sr (me (bx 3 [I a] j) ?_));rintro v7 t u ⟨n,rfl,k,h⟩;refine wln (W.region (va (v1) (vx (l1 u_3 (h 0 _ rfl)) (va (I b) (va (.func (.func 251) #[] #[Q n]) (bn H fun s p H=>cl (mR k l.m (hG.m.le (by decide)) d a b a o.m h p) ?_))))));rintro v14 g q ⟨i,e,f,rfl⟩;refine WL.nil ?_;obtain rfl:=si H;exact n0 (qq g ⟨i,e,f,rfl⟩)
def dL (p0:List ab) (p1:Int):Option (List ab):=
 (cM (σ:=(List ab)×Int) (τ:=(List ab)) (((p0.length:Int) - 0).toNat+1) (fun a=>
 if (decide (a.2 < (p0.length:Int)))=true then
 (idx p0 a.2).bind fun b=>
 ((bV (decide (p1 < (p0.length:Int))) ((idx p0 p1).bind fun g=>
 some (g.Kind==3))).bind fun d=>
 (bV d ((orE (a.2==p1) (some ((w64 (a.2+1))==p1))).bind fun f=>
 some f)).bind fun e=>
 if e=true then
 some (0,([]:List Int))
 else
 some (b.Kind,b.Text)).bind fun c=>
 (app a.1 ([(⟨c.1,c.2⟩:ab)]:List ab)).bind fun h=>
 some (.inl (h,(w64 (a.2+1))))
 else
 some (.inr (a.1))) (([]:List ab),0)).bind fun i=>
 some i
theorem kq (O0:Own c0 G F) (M:List ab) (b:Int) {r:List ab} (q:Sl ag c0 v1 M) (H:dL M b=some r): Calls prog 208 #[v1,I b] c0.w (aO c0 fun c v=>∃y1 y2,Own c G (es true ag y1 114 y2 r :: F)∧v=y1∧OA ag c y1 y2 r):=by
 unfold dL at H;refine en func208 rfl rfl (sr (va (Y) (wln (sr (va (Y) (wln (W.seq (sr (va (I 0) (wln (W.block (bn H fun g3 h3 H4=>lp h3 (fun a=>Jn c0 fun c l=>∃v5 s,Own c G (es true ag v5 114 s a.1 :: F)∧l= [(0,v1),(1,I b),(5,v5),(6,I a.2)]∧OA ag c v5 s a.1) (fun E ex e w=>ex= .exit 0∧(Jn c0 fun c l=>∃v7 P,Own c G (es true ag v7 114 P E :: F)∧l= [(5,v7)]∧OA ag c v7 P E) e w) ?_ ?_ ?_))))))))))))
 ·clear H4 h3;intro a k3 f1 e2 H;revert f1 e2;rintro e_ w_ ⟨c9,t2,_,rfl,l9,rfl,v5,s,R,rfl,a0⟩;refine W.seq (sr (va (I a.2) (va (v1) (vx (ln 3 cG q.m) (va (B (decide (a.2 < (M.length:Int)))) (wln (cn H (fun g1 H=>?_) (fun g1 H=>?_))))))))
  ·refine W.skip (nrm (W.seq (W.block (sr (va (v1) (va (I a.2) (bn H fun N b0 H=>?_)))))));obtain ⟨l2,h1,b2⟩:=Sl.at (q.mono l9) (aX b0);obtain ⟨v21,rfl,A⟩:=h1;refine vx (ix cG q.m b0) (vx (lN 114 b2) (me (al 114 [I 0,Y] R) ?_));rintro v26 o2 i0 ⟨p,rfl,t0⟩;obtain ⟨x,y,z,rfl⟩:=((A.mono i0)).form;refine md (sA 114 [I N.Kind,.slice x y z] 0 t0 ⟨rfl,A.m.one,trivial⟩) ?_;rintro g x1 o;refine wln (bn H fun f d t=>W.seqJ (Jn g fun c l=>∃v34,Own c G ((Eb p 114 [I f.1,v34]) :: es true ag v5 114 s a.1 :: F)∧l= [(0,v1),(1,I b),(5,v5),(6,I a.2),(7,Q p)]∧Sl (RI .i32) c v34 f.2) ?_ ?_)
   ·refine W.seq (bn d fun j2 d0 d=>bn d fun k0 D d=>W.join (Jn g fun c l=>Own c G ((Eb p 114 [I N.Kind,.slice x y z]) :: es true ag v5 114 s a.1 :: F)∧l= [(0,v1),(1,I b),(5,v5),(6,I a.2),(7,Q p),(40,B k0)]) ?_ ?_)
    ·clear d;refine W.region (va (I b) (va (v1) (vx (ln 3 cG q.m) (va (B (decide (b < (M.length:Int)))) ?_))));rcases bo (decide (b < (M.length:Int))) with h | h
     ·have u:=anT h d0;refine vb h (wa (v1) (wa (I b) (wn (bn u fun k e0 u=>?_))));obtain ⟨m2,j1,c2⟩:=Sl.at (q.mono (l9.trans (i0.trans x1))) (aX e0);obtain ⟨v43,rfl,x2⟩:=j1;refine vx (ix cG q.m e0) (wa (Qo (sb v1) (so v1+b.toNat * 2)) (wn (vx (l1 u_3 (c2 0 _ rfl)) (wa (B (k.Kind==3)) ?_))));obtain rfl:=si u;refine va (B (k.Kind==3)) ?_;rcases bo (k.Kind==3) with i | i
      ·have n:=anT i D;refine vb i (wa (I a.2) (wa (I b) (wa (B (a.2==b)) (wn (bn n fun k2 f0 n=>?_)))));rcases bo (a.2==b) with j | j
       ·obtain rfl:=orT j f0;refine vb j (pz (pz (wa (B true) ?_)));obtain rfl:=si n;exact va (B true) (wln (jn g ⟨o,rfl⟩))
       have s0:=orF j f0;refine vb j (wa (I a.2) (wa (I (w64 (a.2+1))) (wa (I b) (wa (B ((w64 (a.2+1))==b)) (wn ?_)))));obtain rfl:=si s0;refine va (B ((w64 (a.2+1))==b)) ?_;obtain rfl:=si n;exact va (B ((w64 (a.2+1))==b)) (wln (jn g ⟨o,rfl⟩))
      obtain rfl:=anF i D;exact vb i (pz (pz (pz (pz (ps (va (B false) (wln (jn g ⟨o,rfl⟩))))))))
     obtain rfl:=anF h d0;refine vb h (pz (pz (pz (va (B false) ?_))));have g0:false=false:=rfl;obtain rfl:=anF g0 D;exact vb g0 (pz (pz (pz (pz (ps (va (B false) (wln (jn g ⟨o,rfl⟩))))))))
    rintro e_ w_ ⟨b1,u2,_,rfl,z2,rfl,S,rfl⟩;refine nrm (cn d (fun k1 d=>?_) (fun k1 d=>?_))
    ·refine W.region (va (.agg #[I 0,Y]) (md (sA 114 [I 0,Y] 0 S ⟨rfl,rfl,trivial⟩) ?_));rintro c1 a3 u0;refine wln ?_;obtain rfl:=si d;exact jn c1 ⟨(Y),u0,rfl,(Sl.nl _ _)⟩
    refine W.skip (nrm ?_);obtain rfl:=si d;exact jn b1 ⟨(.slice x y z),S,rfl,A.m⟩
   rintro e_ w_ ⟨p2,v2,_,rfl,b3,rfl,v34,T,rfl,h0⟩;refine W.region (va (v5) (vx (leN 114 0 [I f.1,v34] (T.on 0 rfl)) ?_));obtain ⟨U,X,Z,rfl⟩:=(h0).form;refine me (sl ag 114 [[I f.1,.slice U X Z]] ([(⟨f.1,f.2⟩:ab)]:List ab) T ⟨⟨(.slice U X Z),rfl,h0⟩,trivial⟩) ?_;rintro j3 q2 c3 ⟨i3,v0,m1⟩;obtain ⟨s2,q1,d3,w0,n1⟩:=v0.frz 0 rfl m1;refine WL.gh q1 (bn t fun n2 s1 t=>me (ap ag (.agg #[I 0,Y]) 32 46 2 w0 a0.m n1 s1 cG) ?_);rintro j0 d1 e3 ⟨d2,x0,t1⟩;refine va (j0) (WL.nil (bkn (nrm (W.region (va (I a.2) (vv (I (w64 (a.2+1))) (WL.nil ?_)))))));obtain rfl:=si t;refine ⟨_,rfl,?_⟩;have y0:=x0.sD 3 [2];exact jn d1 ⟨j0,d2,y0,rfl,t1⟩
  refine W.exit (thx ?_);obtain rfl:=si H;exact ⟨_,rfl,rfl,jn c9 ⟨v5,s,R,rfl,a0⟩⟩
 ·have u1:OA ag c0 (Y) [] []:=OA.nil (aM _);have z0:=O0.addHole (e:=es true ag (Y) 114 [] ([]:List ab)) rfl;exact jn c0 ⟨(Y),[],z0,rfl,u1⟩
 rintro _ e_ w_ ⟨rfl,e1,w2,_,rfl,f3,rfl,v7,P,a1,rfl,w1⟩;refine bke (nrm (sr (vv (v7) (wln (W.ret ?_)))));obtain rfl:=si H4;exact r1 (qq e1 ⟨v7,P,a1,rfl,w1⟩)
def fc (p0:List ab) (p1:Int) (p2:Int):Option ((List ab)×Bool):=
 (orE (decide (p1 < 0)) (some (decide (p1≥(p0.length:Int))))).bind fun l=>
 (orE l (some (decide (p2 < 1)))).bind fun h=>
 if h=true then
 some (p0,false)
 else
 (dL p0 p1).bind fun c=>
 (cM (σ:=(List ab)×Int) (τ:=(List ab)) (((p0.length:Int) - 0).toNat+1) (fun a=>
 if (decide (a.2 < (p0.length:Int)))=true then
 (if (decide (a.2 < p1))=true then
 (idx c a.2).bind fun d=>
 some (d.Kind,d.Text)
 else
 some (0,([]:List Int))).bind fun f=>
 (if (decide (a.2≥(w64 (p1+(aB p2 (w64 ((p0.length:Int) - p1)))))))=true then
 (idx c (w64 (a.2 - (aB p2 (w64 ((p0.length:Int) - p1)))))).bind fun e=>
 some (e.Kind,e.Text)
 else
 some (f.1,f.2)).bind fun b=>
 ((bV ((w64 (a.2+1))==(p0.length:Int)) (some (b.1==2))).bind fun i=>
 if i=true then
 some (0,([]:List Int))
 else
 some (b.1,b.2)).bind fun g=>
 (app a.1 ([(⟨g.1,g.2⟩:ab)]:List ab)).bind fun k=>
 some (.inl (k,(w64 (a.2+1))))
 else
 some (.inr (a.1))) (([]:List ab),0)).bind fun j=>
 some (j,true)
theorem pi (O0:Own c0 G F) (d:List ab) (b:Int) (f:Int) {r:(List ab)×Bool} (P:Sl ag c0 v1 d) (H:fc d b f=some r): Calls prog 142 #[v1,I b,I f] c0.w (aO c0 fun c v=>∃y1,Own c G (F)∧v= .tuple #[y1,B r.2]∧Sl ag c y1 r.1):=by
 unfold fc at H;refine en func142 rfl rfl (sr (va (Y) (va (B false) (wln (W.seq (W.seq (bn H fun y4 h3 H=>bn H fun f2 h4 H=>W.join (Jn c0 fun c l=>Own c G (F)∧l= [(0,v1),(1,I b),(2,I f),(23,B f2)]) ?_ ?_)))))))
 ·clear H;refine W.region (va (I b) (va (B (decide (b < 0))) ?_));rcases bo (decide (b < 0)) with h5 | h5
  ·obtain rfl:=orT h5 h3;refine vb h5 (pz (pz (va (B true) ?_)));have h6:true=true:=rfl;obtain rfl:=orT h6 h4;exact vb h6 (pz (va (B true) (wln (jn c0 ⟨O0,rfl⟩))))
  have H7:=orF h5 h3;refine vb h5 (wa (I b) (wa (v1) (wn (vx (ln 3 cG P) (wa (B (decide (b≥(d.length:Int)))) ?_)))));obtain rfl:=si H7;refine va (B (decide (b≥(d.length:Int)))) ?_;rcases bo (decide (b≥(d.length:Int))) with h8 | h8
  ·obtain rfl:=orT h8 h4;exact vb h8 (pz (va (B true) (wln (jn c0 ⟨O0,rfl⟩))))
  have H9:=orF h8 h4;refine vb h8 (wa (I f) (wa (B (decide (f < 1))) ?_));obtain rfl:=si H9;exact va (B (decide (f < 1))) (wln (jn c0 ⟨O0,rfl⟩))
 rintro N R ⟨d3,z4,_,rfl,e5,rfl,t0,rfl⟩;refine nrm (cn H (fun k3 H=>?_) (fun k3 H=>?_))
 ·refine sr (vv (v1) (va (B false) (wln (W.ret (thr ?_)))));obtain rfl:=si H;exact r2 (qq d3 ⟨v1,t0,rfl,P.m⟩)
 refine W.skip (nrm (sr (va (I f) (va (v1) (vx (ln 3 cG P.m) (va (I b) (va (I (w64 ((d.length:Int) - b))) (vv (I (aB f (w64 ((d.length:Int) - b)))) (wln (sr (va (v1) (va (I b) (bn H fun h l3 H=>cl (kq t0 d b P.m l3) ?_)))))))))))));rintro v18 A f5 ⟨_,t,z2,rfl,s⟩;refine va (v18) (wln (sr (va (Y) (wln (W.seq (sr (va (I 0) (wln (W.block (bn H fun t4 e1 s0=>lp e1 (fun a=>Jn A fun c l=>∃v29 n,Own c G (es true ag v29 114 n a.1 :: es true ag v18 114 t h :: F)∧l= [(0,v1),(1,I b),(2,I (aB f (w64 ((d.length:Int) - b)))),(8,v18),(9,v29),(10,I a.2)]∧OA ag c v29 n a.1) (fun E ex e w=>ex= .exit 0∧(Jn A fun c l=>∃v31 m0,Own c G (es true ag v31 114 m0 E :: es true ag v18 114 t h :: F)∧l= [(9,v31)]∧OA ag c v31 m0 E) e w) ?_ ?_ ?_))))))))))
 ·clear s0 e1;intro a l5 j3 z3 H;revert j3 z3;rintro N R ⟨e3,a5,_,rfl,h1,rfl,v29,n,u0,rfl,f1⟩;refine W.seq (sr (va (I a.2) (va (v1) (vx (ln 3 cG P.m) (va (B (decide (a.2 < (d.length:Int)))) (wln (cn H (fun n3 H=>?_) (fun n3 H=>?_))))))))
  ·refine W.skip (nrm (W.seq (W.block (sr (va (.agg #[I 0,Y]) (me (al 114 [I 0,Y] u0) ?_))))));rintro v44 x4 i1 ⟨g,rfl,a3⟩;refine md (sA 114 [I 0,Y] 0 a3 ⟨rfl,rfl,trivial⟩) ?_;rintro c1 j1 X;refine wln (bn H fun q0 o w2=>W.seqJ (Jn c1 fun c l=>∃v49,Own c G ((Eb g 114 [I q0.1,v49]) :: es true ag v29 114 n a.1 :: es true ag v18 114 t h :: F)∧l= [(0,v1),(1,I b),(2,I (aB f (w64 ((d.length:Int) - b)))),(8,v18),(9,v29),(10,I a.2),(11,Q g)]∧Sl (RI .i32) c v49 q0.2) ?_ ?_)
   ·refine sr (va (I a.2) (va (I b) (va (B (decide (a.2 < b))) (wln (cn o (fun o3 o=>?_) (fun o3 o=>?_))))))
    ·refine W.region (va (v18) (va (I a.2) (bn o fun y h0 o=>vx (ixO cG s.m h0) ?_)));obtain ⟨r4,p3,x3⟩:=OA.at (s.mono (h1.trans (i1.trans j1))) h0;obtain ⟨v55,rfl,i0⟩:=p3;refine vr (.agg #[I y.Kind,v55]) (rx (by kernel_rfl) (zE (T:=114) (l:=[I y.Kind,v55]) (by kernel_rfl) (by kernel_rfl) (X.on 2 rfl) (s.m.blk h0) (at2 (j:=0) x3 rfl))) ?_;obtain ⟨w0,x0,y0,rfl⟩:=(i0).form;refine md (sA 114 [I y.Kind,.slice w0 x0 y0] 0 X ⟨rfl,i0.one,trivial⟩) ?_;rintro f3 g5 b3;refine wln ?_;obtain rfl:=si o;exact jn f3 ⟨(.slice w0 x0 y0),b3,rfl,i0.m⟩
    refine W.skip (nrm ?_);obtain rfl:=si o;exact jn c1 ⟨(Y),X,rfl,(Sl.nl _ _)⟩
   rintro N R ⟨d1,b5,_,rfl,w3,rfl,v49,Z,rfl,s3⟩;refine bn w2 fun q p x2=>W.seqJ (Jn d1 fun c l=>∃x,Own c G ((Eb g 114 [I q.1,x]) :: es true ag v29 114 n a.1 :: es true ag v18 114 t h :: F)∧l= [(0,v1),(1,I b),(2,I (aB f (w64 ((d.length:Int) - b)))),(8,v18),(9,v29),(10,I a.2),(11,Q g)]∧Sl (RI .i32) c x q.2) ?_ ?_
   ·refine sr (va (I a.2) (va (I b) (va (I (aB f (w64 ((d.length:Int) - b)))) (va (I (w64 (b+(aB f (w64 ((d.length:Int) - b)))))) (va (B (decide (a.2≥(w64 (b+(aB f (w64 ((d.length:Int) - b)))))))) (wln (cn p (fun t3 p=>?_) (fun t3 p=>?_))))))))
    ·refine W.region (va (v18) (va (I a.2) (va (I (aB f (w64 ((d.length:Int) - b)))) (va (I (w64 (a.2 - (aB f (w64 ((d.length:Int) - b)))))) (bn p fun z j0 p=>vx (ixO cG s.m j0) ?_)))));obtain ⟨s4,u3,y3⟩:=OA.at (s.mono (h1.trans (i1.trans (j1.trans w3)))) j0;obtain ⟨k1,rfl,k0⟩:=u3;refine vr (.agg #[I z.Kind,k1]) (rx (by kernel_rfl) (zE (T:=114) (l:=[I z.Kind,k1]) (by kernel_rfl) (by kernel_rfl) (Z.on 2 rfl) (s.m.blk j0) (at2 (j:=0) y3 rfl))) ?_;obtain ⟨z0,a1,b1,rfl⟩:=(k0).form;refine md (sA 114 [I z.Kind,.slice z0 a1 b1] 0 Z ⟨rfl,k0.one,trivial⟩) ?_;rintro g3 i5 c3;refine wln ?_;obtain rfl:=si p;exact jn g3 ⟨(.slice z0 a1 b1),c3,rfl,k0.m⟩
    refine W.skip (nrm ?_);obtain rfl:=si p;exact jn d1 ⟨v49,Z,rfl,s3⟩
   rintro N R ⟨D,c5,_,rfl,j5,rfl,x,a0,rfl,v3⟩;refine bn x2 fun i k S=>W.seqJ (Jn D fun c l=>∃M,Own c G ((Eb g 114 [I i.1,M]) :: es true ag v29 114 n a.1 :: es true ag v18 114 t h :: F)∧l= [(0,v1),(1,I b),(2,I (aB f (w64 ((d.length:Int) - b)))),(8,v18),(9,v29),(10,I a.2),(11,Q g)]∧Sl (RI .i32) c M i.2) ?_ ?_
   ·refine W.seq (bn k fun g2 g1 k=>W.join (Jn D fun c l=>Own c G ((Eb g 114 [I q.1,x]) :: es true ag v29 114 n a.1 :: es true ag v18 114 t h :: F)∧l= [(0,v1),(1,I b),(2,I (aB f (w64 ((d.length:Int) - b)))),(8,v18),(9,v29),(10,I a.2),(11,Q g),(68,B g2)]) ?_ ?_)
    ·clear k;refine W.region (va (I a.2) (va (I (w64 (a.2+1))) (va (v1) (vx (ln 3 cG P.m) (va (B ((w64 (a.2+1))==(d.length:Int))) ?_)))));rcases bo ((w64 (a.2+1))==(d.length:Int)) with u | u
     ·have y2:=anT u g1;refine vb u (wa (Q g) (wn (vx (le1 0 u_3 (a0.on 0 rfl)) (wa (B (q.1==2)) ?_))));obtain rfl:=si y2;exact va (B (q.1==2)) (wln (jn D ⟨a0,rfl⟩))
     obtain rfl:=anF u g1;exact vb u (pz (ps (va (B false) (wln (jn D ⟨a0,rfl⟩)))))
    rintro N R ⟨i3,d5,_,rfl,k5,rfl,v0,rfl⟩;refine nrm (cn k (fun i2 k=>?_) (fun i2 k=>?_))
    ·refine W.region (va (.agg #[I 0,Y]) (md (sA 114 [I 0,Y] 0 v0 ⟨rfl,rfl,trivial⟩) ?_));rintro c2 k4 n1;refine wln ?_;obtain rfl:=si k;exact jn c2 ⟨(Y),n1,rfl,(Sl.nl _ _)⟩
    refine W.skip (nrm ?_);obtain rfl:=si k;exact jn i3 ⟨x,v0,rfl,v3.m⟩
   rintro N R ⟨d4,i4,_,rfl,l4,rfl,M,U,rfl,f0⟩;refine W.region (va (v29) (vx (leN 114 0 [I i.1,M] (U.on 0 rfl)) ?_));obtain ⟨b0,d0,e0,rfl⟩:=(f0).form;refine me (sl ag 114 [[I i.1,.slice b0 d0 e0]] ([(⟨i.1,i.2⟩:ab)]:List ab) U ⟨⟨(.slice b0 d0 e0),rfl,f0⟩,trivial⟩) ?_;rintro v4 e4 m4 ⟨u4,q1,j2⟩;obtain ⟨f4,l2,n4,s1,k2⟩:=q1.frz 0 rfl j2;refine WL.gh l2 (bn S fun w4 m2 S=>me (ap ag (.agg #[I 0,Y]) 32 46 2 s1 f1.m k2 m2 cG) ?_);rintro o0 d2 o4 ⟨v2,t1,n2⟩;refine va (o0) (WL.nil (bkn (nrm (W.region (va (I a.2) (vv (I (w64 (a.2+1))) (WL.nil ?_)))))));obtain rfl:=si S;refine ⟨_,rfl,?_⟩;have u1:=t1.sD 4 [2,3];exact jn d2 ⟨o0,v2,u1,rfl,n2⟩
  refine W.exit (thx ?_);obtain rfl:=si H;exact ⟨_,rfl,rfl,jn e3 ⟨v29,n,u0,rfl,f1⟩⟩
 ·have o2:OA ag A (Y) [] []:=OA.nil (aM _);have w1:=z2.addHole (e:=es true ag (Y) 114 [] ([]:List ab)) rfl;exact jn A ⟨(Y),[],w1,rfl,o2⟩
 rintro _ N R ⟨rfl,g4,j4,_,rfl,p4,rfl,v31,m0,x1,rfl,q2⟩;refine bke (nrm (sr (vv (v31) (va (B true) (wln (W.ret ?_))))));obtain rfl:=si s0;obtain ⟨e2,t2,q4,z1,s2⟩:=x1.frz 0 rfl q2;have b2:=z1.sD 2 [];exact zS t2 (r2 (qq e2 ⟨v31,b2,rfl,s2⟩))
def fe (p0:List ab) (p1:Int) (p2:Int):Option ((List ab)×Bool):=
 (orE (decide (p1 < 0)) (some (decide (p1≥(p0.length:Int))))).bind fun j=>
 (orE j (some (decide (p2 < 1)))).bind fun f=>
 if f=true then
 some (p0,false)
 else
 (dL p0 p1).bind fun h=>
 (dL h (w64 (p1+(aB p2 (w64 ((p0.length:Int) - p1)))))).bind fun b=>
 (cM (σ:=(List ab)×Int) (τ:=(List ab)) (((p0.length:Int) - 0).toNat+1) (fun a=>
 if (decide (a.2 < (p0.length:Int)))=true then
 (if (decide (a.2 < p1))=true then
 (idx b a.2).bind fun c=>
 some (c.Kind,c.Text)
 else
 if (decide ((w64 (a.2+(aB p2 (w64 ((p0.length:Int) - p1))))) < (p0.length:Int)))=true then
 (idx b (w64 (a.2+(aB p2 (w64 ((p0.length:Int) - p1)))))).bind fun d=>
 some (d.Kind,d.Text)
 else
 some (0,([]:List Int))).bind fun e=>
 (app a.1 ([(⟨e.1,e.2⟩:ab)]:List ab)).bind fun i=>
 some (.inl (i,(w64 (a.2+1))))
 else
 some (.inr (a.1))) (([]:List ab),0)).bind fun g=>
 some (g,true)
theorem pm (O0:Own c0 G F) (d:List ab) (b:Int) (g:Int) {r:(List ab)×Bool} (y:Sl ag c0 v1 d) (H:fe d b g=some r): Calls prog 143 #[v1,I b,I g] c0.w (aO c0 fun c v=>∃y1,Own c G (F)∧v= .tuple #[y1,B r.2]∧Sl ag c y1 r.1):=by
 unfold fe at H;refine en func143 rfl rfl (sr (va (Y) (va (B false) (wln (W.seq (W.seq (bn H fun i4 h3 H=>bn H fun k1 h4 H=>W.join (Jn c0 fun c l=>Own c G (F)∧l= [(0,v1),(1,I b),(2,I g),(23,B k1)]) ?_ ?_)))))))
 ·clear H;refine W.region (va (I b) (va (B (decide (b < 0))) ?_));rcases bo (decide (b < 0)) with A | A
  ·obtain rfl:=orT A h3;refine vb A (pz (pz (va (B true) ?_)));have h6:true=true:=rfl;obtain rfl:=orT h6 h4;exact vb h6 (pz (va (B true) (wln (jn c0 ⟨O0,rfl⟩))))
  have H7:=orF A h3;refine vb A (wa (I b) (wa (v1) (wn (vx (ln 3 cG y) (wa (B (decide (b≥(d.length:Int)))) ?_)))));obtain rfl:=si H7;refine va (B (decide (b≥(d.length:Int)))) ?_;rcases bo (decide (b≥(d.length:Int))) with N | N
  ·obtain rfl:=orT N h4;exact vb N (pz (va (B true) (wln (jn c0 ⟨O0,rfl⟩))))
  have H9:=orF N h4;refine vb N (wa (I g) (wa (B (decide (g < 1))) ?_));obtain rfl:=si H9;exact va (B (decide (g < 1))) (wln (jn c0 ⟨O0,rfl⟩))
 rintro e_ w_ ⟨n2,j4,_,rfl,m4,rfl,a0,rfl⟩;refine nrm (cn H (fun u2 H=>?_) (fun u2 H=>?_))
 ·refine sr (vv (v1) (va (B false) (wln (W.ret (thr ?_)))));obtain rfl:=si H;exact r2 (qq n2 ⟨v1,a0,rfl,y.m⟩)
 refine W.skip (nrm (sr (va (I g) (va (v1) (vx (ln 3 cG y.m) (va (I b) (va (I (w64 ((d.length:Int) - b))) (vv (I (aB g (w64 ((d.length:Int) - b)))) (wln (sr (va (v1) (va (I b) (bn H fun k v2 H=>cl (kq a0 d b y.m v2) ?_)))))))))))));rintro v18 d4 n4 ⟨_,R,f2,rfl,w2⟩;refine va (I b) (va (I (aB g (w64 ((d.length:Int) - b)))) (va (I (w64 (b+(aB g (w64 ((d.length:Int) - b)))))) ?_));obtain ⟨e4,z2,o4,g2,x2⟩:=f2.frz 0 rfl w2;refine WL.gh z2 (bn H fun p a3 H=>cl (kq g2 k (w64 (b+(aB g (w64 ((d.length:Int) - b))))) x2 a3) ?_);rintro v32 t p4 ⟨_,S,i2,rfl,i⟩;refine va (v32) (wln (sr (va (Y) (wln (W.seq (sr (va (I 0) (wln (W.block (bn H fun a4 s0 Z=>lp s0 (fun a=>Jn t fun c l=>∃v43 o,Own c G (es true ag v43 114 o a.1 :: es true ag v32 114 S p :: es false ag v18 114 R k :: F)∧l= [(0,v1),(1,I b),(2,I (aB g (w64 ((d.length:Int) - b)))),(8,v32),(9,v43),(10,I a.2)]∧OA ag c v43 o a.1) (fun u ex e w=>ex= .exit 0∧(Jn t fun c l=>∃v45 U,Own c G (es true ag v45 114 U u :: es true ag v32 114 S p :: es false ag v18 114 R k :: F)∧l= [(9,v45)]∧OA ag c v45 U u) e w) ?_ ?_ ?_))))))))))
 ·clear Z s0;intro a u4 t2 k3 H;revert t2 k3;rintro e_ w_ ⟨o2,k4,_,rfl,v0,rfl,v43,o,b0,rfl,t0⟩;refine W.seq (sr (va (I a.2) (va (v1) (vx (ln 3 cG y.m) (va (B (decide (a.2 < (d.length:Int)))) (wln (cn H (fun b3 H=>?_) (fun b3 H=>?_))))))))
  ·refine W.skip (nrm (W.seq (W.block (sr (va (.agg #[I 0,Y]) (me (al 114 [I 0,Y] b0) ?_))))));rintro v58 f4 w0 ⟨o0,rfl,j2⟩;refine md (sA 114 [I 0,Y] 0 j2 ⟨rfl,rfl,trivial⟩) ?_;rintro q0 x0 n;refine wln (bn H fun h f z=>W.seqJ (Jn q0 fun c l=>∃x,Own c G ((Eb o0 114 [I h.1,x]) :: es true ag v43 114 o a.1 :: es true ag v32 114 S p :: es false ag v18 114 R k :: F)∧l= [(0,v1),(1,I b),(2,I (aB g (w64 ((d.length:Int) - b)))),(8,v32),(9,v43),(10,I a.2),(11,Q o0)]∧Sl (RI .i32) c x h.2) ?_ ?_)
   ·refine sr (va (I a.2) (va (I b) (va (B (decide (a.2 < b))) (wln (cn f (fun d3 f=>?_) (fun d3 f=>?_))))))
    ·refine W.region (va (v32) (va (I a.2) (bn f fun q D f=>vx (ixO cG i.m D) ?_)));obtain ⟨y3,e3,i3⟩:=OA.at (i.mono (v0.trans (w0.trans x0))) D;obtain ⟨y0,rfl,E⟩:=e3;refine vr (.agg #[I q.Kind,y0]) (rx (by kernel_rfl) (zE (T:=114) (l:=[I q.Kind,y0]) (by kernel_rfl) (by kernel_rfl) (n.on 2 rfl) (i.m.blk D) (at2 (j:=0) i3 rfl))) ?_;obtain ⟨e0,f0,g0,rfl⟩:=(E).form;refine md (sA 114 [I q.Kind,.slice e0 f0 g0] 0 n ⟨rfl,E.one,trivial⟩) ?_;rintro q2 q4 k2;refine wln ?_;obtain rfl:=si f;exact jn q2 ⟨(.slice e0 f0 g0),k2,rfl,E.m⟩
    refine sr (va (I a.2) (va (I (aB g (w64 ((d.length:Int) - b)))) (va (I (w64 (a.2+(aB g (w64 ((d.length:Int) - b)))))) (va (v1) (vx (ln 3 cG y.m) (va (B (decide ((w64 (a.2+(aB g (w64 ((d.length:Int) - b))))) < (d.length:Int)))) (wln (cn f (fun f3 f=>?_) (fun f3 f=>?_)))))))))
    ·refine W.region (va (v32) (va (I a.2) (va (I (aB g (w64 ((d.length:Int) - b)))) (va (I (w64 (a.2+(aB g (w64 ((d.length:Int) - b)))))) (bn f fun s M f=>vx (ixO cG i.m M) ?_)))));obtain ⟨z3,g3,j3⟩:=OA.at (i.mono (v0.trans (w0.trans x0))) M;obtain ⟨z0,rfl,P⟩:=g3;refine vr (.agg #[I s.Kind,z0]) (rx (by kernel_rfl) (zE (T:=114) (l:=[I s.Kind,z0]) (by kernel_rfl) (by kernel_rfl) (n.on 2 rfl) (i.m.blk M) (at2 (j:=0) j3 rfl))) ?_;obtain ⟨h0,i0,j0,rfl⟩:=(P).form;refine md (sA 114 [I s.Kind,.slice h0 i0 j0] 0 n ⟨rfl,P.one,trivial⟩) ?_;rintro s2 r4 l2;refine wln ?_;obtain rfl:=si f;exact jn s2 ⟨(.slice h0 i0 j0),l2,rfl,P.m⟩
    refine W.skip (nrm ?_);obtain rfl:=si f;exact jn q0 ⟨(Y),n,rfl,(Sl.nl _ _)⟩
   rintro e_ w_ ⟨g4,l4,_,rfl,s4,rfl,x,d0,rfl,u0⟩;refine W.region (va (v43) (vx (leN 114 0 [I h.1,x] (d0.on 0 rfl)) ?_));obtain ⟨k0,l0,m0,rfl⟩:=(u0).form;refine me (sl ag 114 [[I h.1,.slice k0 l0 m0]] ([(⟨h.1,h.2⟩:ab)]:List ab) d0 ⟨⟨(.slice k0 l0 m0),rfl,u0⟩,trivial⟩) ?_;rintro b4 o3 t3 ⟨t4,m2,n1⟩;obtain ⟨p3,s1,u3,b1,q1⟩:=m2.frz 0 rfl n1;refine WL.gh s1 (bn z fun c4 t1 z=>me (ap ag (.agg #[I 0,Y]) 32 46 2 b1 t0.m q1 t1 cG) ?_);rintro X i1 v3 ⟨d2,c1,u1⟩;refine va (X) (WL.nil (bkn (nrm (W.region (va (I a.2) (vv (I (w64 (a.2+1))) (WL.nil ?_)))))));obtain rfl:=si z;refine ⟨_,rfl,?_⟩;have d1:=c1.sD 5 [2,3,4];exact jn i1 ⟨X,d2,d1,rfl,u1⟩
  refine W.exit (thx ?_);obtain rfl:=si H;exact ⟨_,rfl,rfl,jn o2 ⟨v43,o,b0,rfl,t0⟩⟩
 ·have w1:OA ag t (Y) [] []:=OA.nil (aM _);have e1:=i2.addHole (e:=es true ag (Y) 114 [] ([]:List ab)) rfl;exact jn t ⟨(Y),[],e1,rfl,w1⟩
 rintro _ e_ w_ ⟨rfl,q3,s3,_,rfl,w3,rfl,v45,U,f1,rfl,x1⟩;refine bke (nrm (sr (vv (v45) (va (B true) (wln (W.ret ?_))))));obtain rfl:=si Z;obtain ⟨j1,b2,x3,g1,z1⟩:=f1.frz 0 rfl x1;have h1:=g1.sD 3 [];exact zS b2 (r2 (qq j1 ⟨v45,h1,rfl,z1⟩))
def jc (p0:Int) (p1:Int) (p2:Int) (p3:Int):Option (ai):=
 (fZ (⟨p0,p1,false⟩:ai) p2 p3).bind fun a=>
 some a
theorem rK (j:Own c0 G F) (b:Int) (d:Int) (e:Int) (f:Int) {r:ai} (H:jc b d e f=some r): Calls prog 121 #[I b,I d,I e,I f] c0.w (aO c0 fun c v=>Own c G (F)∧v= .agg #[I r.Row,I r.Col,B r.Pending]):=by
 unfold jc at H;refine en func121 rfl rfl (sr (me (al 29 [I 0,I 0,B false] j) ?_));rintro v4 s t ⟨q,rfl,k⟩;refine wln (sr (va (I b) (va (I d) (va (.agg #[I b,I d,B false]) (va (I e) (va (I f) (bn H fun a m H=>cl (ey k (⟨b,d,false⟩:ai) e f m) ?_)))))));rintro v11 n o ⟨l,rfl⟩;refine md (sA 29 [I a.Row,I a.Col,B a.Pending] 0 l ⟨rfl,rfl,rfl,trivial⟩) ?_;rintro h p g;refine wln (W.ret ?_);obtain rfl:=si H;have i:=g.sD 1 [];exact kE (c:=h) (vs:=[I a.Row,I a.Col,B a.Pending]) rfl (by kernel_rfl) (by kernel_rfl) (by kernel_rfl) (g.on 0 rfl _ rfl).1 ⟨_,h,rfl,rfl,pt,i,rfl⟩
def ow (p0:List ab) (p1:Int):Option (List ab):=
 (slc p0 0 p1).bind fun a=>
 ((bV (decide (p1 > 0)) ((idx a (w64 (p1 - 1))).bind fun d=>
 some (d.Kind==2))).bind fun b=>
 if b=true then
 (idx a (w64 (p1 - 1))).bind fun f=>
 (oQ a (w64 (p1 - 1)) (⟨0,([]:List Int)⟩:ab)).bind fun c=>
 some (c)
 else
 some (a)).bind fun e=>
 some e
theorem BJ {h:Value} {f:List Value} (x:List ab) (a:Int) (O0:Own c0 G (es true ag h 114 f x :: F)) {r:List ab} (h1:OA ag c0 h f x) (H:ow x a=some r): Calls prog 185 #[h,I a] c0.w (aO c0 fun c v=>∃y y2,Own c G (es true ag y 114 y2 r :: F)∧v=y∧OA ag c y y2 r):=by
 unfold ow at H;refine en func185 rfl rfl (sr (va (Y) (wln (sr (va (h) (vv (I a) (bn H fun d0 h2 H=>?_)))))));obtain ⟨v3,h4,s,i⟩:=Own.cutHM (k2:= .i64) (k':= .i64) 0 O0 rfl cG h1 (by kernel_rfl) h2;refine vr v3 (rx (by kernel_rfl) (h4 _)) (va (v3) (wln (bn H fun q b H8=>W.seqJ (Jn c0 fun c l=>∃v9 g,Own c G (es true ag v9 114 g q :: F)∧l= [(0,v9)]∧OA ag c v9 g q) ?_ ?_)))
 ·refine W.seq (bn b fun t p b=>W.join (Jn c0 fun c l=>Own c G (es true ag v3 114 f d0 :: F)∧l= [(0,v3),(1,I a),(19,B t)]) ?_ ?_)
  ·clear b;refine W.region (va (I a) (va (B (decide (a > 0))) ?_));rcases bo (decide (a > 0)) with d | d
   ·have k:=anT d p;refine vb d (wa (v3) (wa (I a) (wa (I (w64 (a - 1))) (wn (bn k fun e n k=>vx (ixO cG i n) (wa (Qo (sb v3) ((w64 (a - 1)).toNat * 2)) (wn ?_)))))));obtain ⟨l0,N,a0⟩:=OA.at i n;obtain ⟨v18,rfl,u0⟩:=N;refine vr (I e.Kind) (rx (by kernel_rfl) (mu u_3 rfl (s.on 0 rfl) (i.blk n) (at1 (j:=0) a0 rfl))) (wa (B (e.Kind==2)) ?_);obtain rfl:=si k;exact va (B (e.Kind==2)) (wln (jn c0 ⟨s,rfl⟩))
   obtain rfl:=anF d p;exact vb d (pz (pz (pz (ps (va (B false) (wln (jn c0 ⟨s,rfl⟩)))))))
  rintro e_ w_ ⟨D,s0,_,rfl,v0,rfl,o,rfl⟩;refine nrm (cn b (fun P b=>?_) (fun P b=>?_))
  ·refine W.region (va (v3) (va (I a) (va (I (w64 (a - 1))) (va (.agg #[I 0,Y]) (bn b fun q0 S b=>vx (ixO cG i.m S) (bn b fun o0 U b=>md (Own.stW (R:=ag) (T:=114) (us:=[I 0,Y]) (x':=(⟨0,([]:List Int)⟩:ab)) (u:= .agg #[I 0,Y]) 0 o (by kernel_rfl) rfl i.m U rfl (by kernel_rfl) ⟨rfl,rfl,trivial⟩ rfl ⟨(Y),rfl,(Sl.nl _ _)⟩) ?_))))));rintro E w0 ⟨b0,z,X⟩;refine wln ?_;obtain rfl:=si b;exact jn E ⟨v3,b0,z,rfl,X⟩
  refine W.skip (nrm ?_);obtain rfl:=si b;exact jn D ⟨v3,f,o,rfl,i.m⟩
 rintro e_ w_ ⟨M,t0,_,rfl,x0,rfl,v9,g,A,rfl,Z⟩;refine sr (vv (v9) (wln (W.ret ?_)));obtain rfl:=si H8;exact r1 (qq M ⟨v9,g,A,rfl,Z⟩)
def sX (sg:Sto) (p0:List ab):Option (Sto×(Option Nat)):=
 (qv sg p0).bind fun a=>
 if (!a.2.2.isNil)=true then
 some (a.1,(none:Option Nat))
 else
 some (a.1,a.2.1)
theorem Di (l:Own c0 G F) (m:Rel c0 sg G) (hG:Gl [2,4] c0) (f:List ab) {r:Sto×(Option Nat)} (o:Sl ag c0 v1 f) (H:sX sg f=some r): Calls prog 186 #[v1] c0.w (aO c0 fun c v=>∃k,∃G_:Gm,Own c G_ (F)∧Rel c r.1 G_∧v=k∧Pt 0 c k r.2):=by
 unfold sX at H;refine en func186 rfl rfl (sr (va (.pointer none) (wln (sr (va (v1) (bn H fun j p H=>cl (Dg l m (hG.le (by decide)) f o p) ?_))))));rintro v13 e t ⟨v4,v6,g,h,d,rfl,q,s⟩;refine va (.tuple #[v4,v6]) (va (v4) (va (v6) (va (v4) (va (v6) (wln (W.seq (sr (va (v6) (vr (B (!j.2.2.isNil)) (by rcases (s).cs with ⟨a,b⟩ | ⟨n,a,b⟩ | ⟨n,a,b⟩ <;> (subst a; rw [b]; kernel_rfl)) (wln (cn H (fun i H=>?_) (fun i H=>?_))))))))))))
 ·refine sr (va (.pointer none) (wln (W.ret (thr ?_))));obtain rfl:=si H;exact r1 (qq e ⟨(.pointer none),g,h,d,rfl,rfl⟩)
 refine W.skip (nrm (sr (vv (v4) (wln (W.ret ?_)))));obtain rfl:=si H;exact r1 (qq e ⟨v4,g,h,d,rfl,q⟩)
def jE (sg:Sto) (p0:Option Nat) (p1:Int):Option (Sto×(Option Nat)):=
 if p0.isNone=true then
 some (sg,(none:Option Nat))
 else
 (eC sg p0).bind fun c=>
 (bN sg p0).bind fun d=>
 (ow c (aB (aE 1 (aB p1 1024)) d)).bind fun a=>
 (ew (w64 ((aE 1 (aB p1 1024)) - (a.length:Int)))).bind fun e=>
 (app a e).bind fun f=>
 (sX sg f).bind fun b=>
 some (b.1,b.2)
theorem xz (o:Own c0 G F) (f:Rel c0 sg G) (hG:Gl [2,4] c0) (b:Option Nat) (a:Int) {r:Sto×(Option Nat)} (j:Pt 0 c0 v1 b) (H:jE sg b a=some r): Calls prog 120 #[v1,I a] c0.w (aO c0 fun c v=>∃y1,∃G_:Gm,Own c G_ (F)∧Rel c r.1 G_∧v=y1∧Pt 0 c y1 r.2):=by
 unfold jE at H;refine en func120 rfl rfl (sr (va (.pointer none) (wln (W.seq (sr (va (v1) (vr (B b.isNone) (by rcases (j).cs with ⟨g,i⟩ | ⟨b_,g,i⟩ <;> (subst g; rw [i]; kernel_rfl)) (wln (cn H (fun h3 H=>?_) (fun h3 H=>?_))))))))))
 ·refine sr (va (.pointer none) (wln (W.ret (thr ?_))));obtain rfl:=si H;exact r1 (qq c0 ⟨(.pointer none),G,o,f,rfl,rfl⟩)
 refine W.skip (nrm (sr (va (I a) (va (I (aB a 1024)) (vv (I (aE 1 (aB a 1024))) (wln (sr (va (v1) (bn H fun k h4 H=>cl (ll o f b j h4) ?_)))))))));rintro v5 k0 u0 ⟨_,u6,O9,rfl,h7⟩;refine va (I (aE 1 (aB a 1024))) (va (v1) (bn H fun d E H=>cl (cF O9 f.m b j.m E) ?_));rintro v20 l0 v0 ⟨p,rfl⟩;refine va (I (aB (aE 1 (aB a 1024)) d)) (bn H fun e M H=>cl (BJ k (aB (aE 1 (aB a 1024)) d) p h7.m M) ?_);rintro v23 m0 w0 ⟨_,c1,q,rfl,h⟩;refine va (v23) (wln (sr (va (v23) (va (I (aE 1 (aB a 1024))) (va (v23) (vx (lnO 3 cG h) (va (I (w64 ((aE 1 (aB a 1024)) - (e.length:Int)))) (bn H fun i0 N H=>cl (jS q (w64 ((aE 1 (aB a 1024)) - (e.length:Int))) N) ?_))))))));rintro v33 o0 x0 ⟨_,d1,s,rfl,P⟩;obtain ⟨q0,S,y0,t,R⟩:=s.frz 0 rfl P;refine WL.gh S (bn H fun l T H=>me (ap ag (.agg #[I 0,Y]) 32 46 1 t h.m R T cG) ?_);rintro v51 s0 z0 ⟨e1,u,U⟩;obtain ⟨t0,Z,a1,x,X⟩:=u.frz 1 rfl U;refine WL.gh Z (bn H fun j0 a0 H=>cl (Di x f.m (hG.m.le (by decide)) l X a0) ?_);rintro v57 D b1 ⟨_,n,y,A,rfl,b0⟩;refine va (v57) (wln (W.ret ?_));obtain rfl:=si H;have z:=y.sD 2 [];exact r1 (qq D ⟨v57,n,z,A,rfl,b0⟩)
def kV (sg:Sto) (p0:Option Nat) (p1:Int) (p2:Int):Option (Sto):=
 (orE p0.isNone ((p0).bind fun u=>
 (sg.place_Pen[u]?).bind fun v=>
 some v.G.isNone)).bind fun t=>
 if t=true then
 some sg
 else
 (p0).bind fun l=>
 (sg.place_Pen[l]?).bind fun e=>
 (ci sg e.G).bind fun o=>
 (bL sg e.G).bind fun p=>
 (fZ e.At o p).bind fun b=>
 (my sg (aE 1 (aB p1 1024)) (aE 1 (aB p2 1024))).bind fun c=>
 (cM (σ:=Int×Sto) (τ:=Sto) (((aE 1 (aB p2 1024)) - 0).toNat+1) (fun a=>
 if (decide (a.1 < (aE 1 (aB p2 1024))))=true then
 ((p0).bind fun m=>
 (a.2.place_Pen[m]?).bind fun n=>
 (bA a.2 n.G (w64 ((aE 0 (w64 ((w64 (b.Row - (aE 1 (aB p2 1024))))+1)))+a.1))).bind fun j=>
 if (!j.isNone)=true then
 (jE a.2 j (aE 1 (aB p1 1024))).bind fun k=>
 (eD k.1 c.2 a.1 k.2).bind fun q=>
 some (q.1)
 else
 some (a.2)).bind fun s=>
 some (.inl ((w64 (a.1+1)),s))
 else
 some (.inr (a.2))) (0,c.1)).bind fun i=>
 (p0).bind fun d=>
 (i.place_Pen[d]?).bind fun f=>
 (i.set_place_Pen d (⟨c.2,f.At,f.Auto⟩:bi)).bind fun h=>
 (jc (w64 (b.Row - (aE 0 (w64 ((w64 (b.Row - (aE 1 (aB p2 1024))))+1))))) b.Col (aE 1 (aB p1 1024)) (aE 1 (aB p2 1024))).bind fun r=>
 (h.set_place_Pen d (⟨c.2,r,f.Auto⟩:bi)).bind fun g=>
 some g
theorem wb (O0:Own c0 G F) (z:Rel c0 sg G) (hG:Gl [2,4] c0) (p0:Option Nat) (o:Int) (b:Int) {r:Sto} (h2:Pt 2 c0 v1 p0) (H:kV sg p0 o b=some r): Calls prog 75 #[v1,I o,I b] c0.w (aO c0 fun c v=>∃G_:Gm,Own c G_ (F)∧Rel c r G_∧v= .tuple #[]):=by
 unfold kV at H;refine en func75 rfl rfl (W.seq (W.seq (bn H fun q5 h3 H=>W.join (Jn c0 fun c l=>Own c G (F)∧l= [(0,v1),(1,I o),(2,I b),(19,B q5)]) ?_ ?_)))
 ·clear H;refine W.region (va (v1) (vr (B p0.isNone) (by rcases (h2).cs with ⟨t,u⟩ | ⟨b_,t,u⟩ <;> (subst t; rw [u]; kernel_rfl)) ?_));rcases bo (p0.isNone) with h4 | h4
  ·obtain rfl:=orT h4 h3;exact vb h4 (pz (pz (ps (va (B true) (wln (jn c0 ⟨O0,rfl⟩))))))
  have H5:=orF h4 h3;refine vb h4 (wa (v1) (wn (bn H5 fun g8 h8 H5=>?_)));obtain ⟨b6,rfl,h7⟩:=(h2).get h8;refine va (Q b6) (wa (Q b6) (wn (bn H5 fun k2 h9 H5=>?_)));obtain ⟨v10,t5,s5⟩:=Rel.open_place_Pen z h9 h7;refine vx (le1 0 eW (O0.gon t5 0 rfl)) (wn (vr (B k2.G.isNone) (by rcases (s5).cs with ⟨t,u⟩ | ⟨b_,t,u⟩ <;> (subst t; rw [u]; kernel_rfl)) ?_));obtain rfl:=si H5;exact va (B k2.G.isNone) (wln (jn c0 ⟨O0,rfl⟩))
 rintro e_ w_ ⟨c2,f8,_,rfl,Z,rfl,m1,rfl⟩;refine nrm (cn H (fun u5 H=>?_) (fun u5 H=>?_))
 ·refine W.ret (thr ?_);obtain rfl:=si H;exact r0 (qq c2 ⟨G,m1,z.m,rfl⟩)
 refine W.skip (nrm (sr (va (I o) (va (I (aB o 1024)) (va (I (aE 1 (aB o 1024))) (va (I b) (va (I (aB b 1024)) (va (I (aE 1 (aB b 1024))) (va (I (aE 1 (aB o 1024))) (va (I (aE 1 (aB b 1024))) (wln (W.seq (bn H fun i7 v5 H=>bn H fun h w5 H=>bn H fun D g2 H=>bn H fun E x0 H=>bn H fun a X H=>W.join (Jn c2 fun c l=>∃n,Own c G ((Eb n 29 [I a.Row,I a.Col,B a.Pending]) :: F)∧l= [(0,v1),(1,I (aE 1 (aB o 1024))),(2,I (aE 1 (aB b 1024))),(6,Q n)]) ?_ ?_)))))))))))))
 ·clear H;refine rD [] (Kp G []) m1 ?_;intro g5 j2 k0;have f1:Kp G [] g5:=(Kp.nil k0);refine ta 0 (v1) ?_;obtain ⟨s,rfl,y5⟩:=((h2.mono (Z.trans j2))).get v5;refine ta 1 (Q s) (ta 2 (Qo s 1) ?_);obtain ⟨v31,y0,M⟩:=Rel.open_place_Pen (z.mono (Z.trans j2)) w5 y5;refine tkx 3 f1 (fun c' i2 hk=>leN 29 1 [I h.At.Row,I h.At.Col,B h.At.Pending] (hk.gon y0 0 rfl)) (ta 4 (Q s) (ta 5 (Q s) (ta 6 (Q s) (tkx 7 f1 (fun c' i2 hk=>le1 0 eW (hk.gon y0 0 rfl)) (ta 9 (Q s) (ta 10 (Q s) (ta 11 (Q s) (tkx 12 f1 (fun c' i2 hk=>le1 0 eW (hk.gon y0 0 rfl)) (mn2 8 15 ?_ ?_)))))))))
  ·refine gc 8 (cL k0 z.m h.G M g2) ?_;rintro v39 h5 i8 ⟨l0,rfl⟩;have z5:Kp G [] h5:=(Kp.nil l0);refine ⟨.inr z5,mn2 13 15 ?_ ?_⟩
   ·refine gc 13 (bH l0 z.m h.G M.m x0) ?_;rintro v46 i5 j8 ⟨m0,rfl⟩;have a6:Kp G [] i5:=(Kp.nil m0);refine ⟨.inr a6,mn2 14 15 ?_ ?_⟩
    ·refine gc 14 (ey m0 h.At D E X) ?_;rintro v53 j5 k8 ⟨n1,rfl⟩;have c6:Kp G [] j5:=(Kp.nil n1);refine ⟨.inr c6,o1 15 (gm 15 (al 29 [I 0,I 0,B false] n1) ?_)⟩;rintro v58 k5 l8 ⟨a5,rfl,q1⟩;have d6:Kp G [] k5:=(Kp.nil q1);refine ⟨.inr d6,o1 16 (gD 16 (sA 29 [I a.Row,I a.Col,B a.Pending] 0 q1 ⟨rfl,rfl,rfl,trivial⟩) ?_)⟩;rintro d2 m8 s1;have e6:Kp G [] d2:=(Kp.nil s1);exact ⟨.inr e6,dn (nrm (jn d2 ⟨a5,s1,rfl⟩))⟩
    refine gm 15 (al 29 [I 0,I 0,B false] m0) ?_;rintro u8 l5 n8 ⟨c5,rfl,t1⟩;have f6:Kp G [] l5:=(Kp.nil t1);refine ⟨.inr f6,o1 14 (gc 14 (ey t1 h.At D E X) ?_)⟩;rintro v8 m5 o8 ⟨u1,rfl⟩;have g6:Kp G [] m5:=(Kp.nil u1);refine ⟨.inr g6,o1 16 (gD 16 (sA 29 [I a.Row,I a.Col,B a.Pending] 0 u1 ⟨rfl,rfl,rfl,trivial⟩) ?_)⟩;rintro e2 p8 w1;have h6:Kp G [] e2:=(Kp.nil w1);exact ⟨.inr h6,dn (nrm (jn e2 ⟨c5,w1,rfl⟩))⟩
   refine gm 15 (al 29 [I 0,I 0,B false] l0) ?_;rintro w8 n5 q8 ⟨d5,rfl,x1⟩;have i6:Kp G [] n5:=(Kp.nil x1);refine ⟨.inr i6,o1 13 (gc 13 (bH x1 z.m h.G M.m x0) ?_)⟩;rintro x8 o5 r8 ⟨y1,rfl⟩;have j6:Kp G [] o5:=(Kp.nil y1);refine ⟨.inr j6,o1 14 (gc 14 (ey y1 h.At D E X) ?_)⟩;rintro y8 p5 s8 ⟨z1,rfl⟩;have k6:Kp G [] p5:=(Kp.nil z1);refine ⟨.inr k6,o1 16 (gD 16 (sA 29 [I a.Row,I a.Col,B a.Pending] 0 z1 ⟨rfl,rfl,rfl,trivial⟩) ?_)⟩;rintro f2 t8 b2;have l6:Kp G [] f2:=(Kp.nil b2);exact ⟨.inr l6,dn (nrm (jn f2 ⟨d5,b2,rfl⟩))⟩
  refine gm 15 (al 29 [I 0,I 0,B false] k0) ?_;rintro v7 l3 l7 ⟨k3,rfl,d0⟩;have q4:Kp G [] l3:=(Kp.nil d0);refine ⟨.inr q4,o1 8 (gc 8 (cL d0 z.m h.G M.m g2) ?_)⟩;rintro w7 m3 m7 ⟨e0,rfl⟩;have r4:Kp G [] m3:=(Kp.nil e0);refine ⟨.inr r4,o1 13 (gc 13 (bH e0 z.m h.G M.m x0) ?_)⟩;rintro x7 n3 n7 ⟨f0,rfl⟩;have s4:Kp G [] n3:=(Kp.nil f0);refine ⟨.inr s4,o1 14 (gc 14 (ey f0 h.At D E X) ?_)⟩;rintro y7 o3 o7 ⟨g0,rfl⟩;have t4:Kp G [] o3:=(Kp.nil g0);refine ⟨.inr t4,o1 16 (gD 16 (sA 29 [I a.Row,I a.Col,B a.Pending] 0 g0 ⟨rfl,rfl,rfl,trivial⟩) ?_)⟩;rintro s0 p7 h0;have u4:Kp G [] s0:=(Kp.nil h0);exact ⟨.inr u4,dn (nrm (jn s0 ⟨k3,h0,rfl⟩))⟩
 rintro e_ w_ ⟨t6,y6,_,rfl,b1,rfl,n,i0,rfl⟩;refine nrm (sr (va (Q n) (vx (le1 0 u_3 (i0.on 0 rfl)) (va (I (aE 1 (aB b 1024))) (va (I (w64 (a.Row - (aE 1 (aB b 1024))))) (va (I (w64 ((w64 (a.Row - (aE 1 (aB b 1024))))+1))) (vv (I (aE 0 (w64 ((w64 (a.Row - (aE 1 (aB b 1024))))+1)))) (wln (sr (va (I (aE 1 (aB o 1024))) (va (I (aE 1 (aB b 1024))) (bn H fun w4 u3 H=>cl (vJ i0 z.m (aE 1 (aB o 1024)) (aE 1 (aB b 1024)) u3) ?_))))))))))));rintro q R c1 ⟨_,l2,t2,d3,q6,rfl,y⟩;refine va (q) (wln (W.seq (sr (va (I (aE 1 (aB b 1024))) (va (I 0) (wln (W.block (bn H fun u7 u0 g=>lp u0 (fun f=>Jn R fun c l=>∃G_,Own c G_ ((Eb n 29 [I a.Row,I a.Col,B a.Pending]) :: F)∧l= [(0,v1),(1,I (aE 1 (aB o 1024))),(2,I (aE 1 (aB b 1024))),(6,Q n),(7,I (aE 0 (w64 ((w64 (a.Row - (aE 1 (aB b 1024))))+1)))),(8,q),(50,I (aE 1 (aB b 1024))),(51,I f.1)]∧Rel c f.2 G_) (fun i1 ex e w=>ex= .exit 0∧(Jn R fun c l=>∃G_,Own c G_ ((Eb n 29 [I a.Row,I a.Col,B a.Pending]) :: F)∧l= [(0,v1),(1,I (aE 1 (aB o 1024))),(2,I (aE 1 (aB b 1024))),(6,Q n),(7,I (aE 0 (w64 ((w64 (a.Row - (aE 1 (aB b 1024))))+1)))),(8,q)]∧Rel c i1 G_) e w) ?_ ?_ ?_))))))))
 ·clear g u0;intro f z8 r5 m6 H;revert r5 m6;rintro e_ w_ ⟨t0,z6,_,rfl,o4,rfl,a0,N,rfl,x⟩;refine sr (va (B (decide (f.1 < (aE 1 (aB b 1024))))) (wln (W.seq (cn H (fun v3 H=>?_) (fun v3 H=>?_)))))
  ·refine W.skip (nrm (bn H fun y4 d q2=>W.seqJ (Jn t0 fun c l=>∃G_,Own c G_ ((Eb n 29 [I a.Row,I a.Col,B a.Pending]) :: F)∧l= [(0,v1),(1,I (aE 1 (aB o 1024))),(2,I (aE 1 (aB b 1024))),(6,Q n),(7,I (aE 0 (w64 ((w64 (a.Row - (aE 1 (aB b 1024))))+1)))),(8,q),(50,I (aE 1 (aB b 1024))),(51,I f.1)]∧Rel c y4 G_) ?_ ?_))
   ·refine W.block (sr (vv (I f.1) (wln (sr (va (v1) (bn d fun j7 x3 d=>?_))))));obtain ⟨q0,rfl,w3⟩:=((h2.mono (Z.trans (b1.trans (c1.trans o4))))).get x3;refine vv (Q q0) (bn d fun p4 y3 d=>?_);obtain ⟨z7,a4,z3⟩:=Rel.open_place_Pen x y3 w3;refine vx (le1 0 eW (N.gon a4 0 rfl)) (va (I (aE 0 (w64 ((w64 (a.Row - (aE 1 (aB b 1024))))+1)))) (va (I f.1) (va (I (w64 ((aE 0 (w64 ((w64 (a.Row - (aE 1 (aB b 1024))))+1)))+f.1))) (bn d fun g1 b4 d=>cl (cU N x p4.G (w64 ((aE 0 (w64 ((w64 (a.Row - (aE 1 (aB b 1024))))+1)))+f.1)) z3 b4) ?_))));rintro U p3 q7 ⟨_,j0,rfl,v0⟩;refine va (U) (wln (sr (va (U) (vr (B (!g1.isNone)) (by rcases (v0).cs with ⟨t,u⟩ | ⟨b_,t,u⟩ <;> (subst t; rw [u]; kernel_rfl)) (wln (cn d (fun c4 d=>?_) (fun c4 d=>?_)))))))
    ·refine W.region (va (q) (va (I f.1) (va (U) (va (I (aE 1 (aB o 1024))) (bn d fun x4 d4 d=>cl (xz j0 x.m (hG.m.le (by decide)) g1 (aE 1 (aB o 1024)) v0 d4) ?_)))));rintro a8 u6 r7 ⟨_,n6,u2,e3,rfl,e4⟩;refine bn d fun e8 f4 d=>cl (pC u2 e3 w4.2 f.1 x4.2 y.m e4 f4) ?_;rintro b8 q3 s7 ⟨m2,v2,f3,rfl⟩;refine WL.nil (bkn (nrm ?_));obtain rfl:=si d;exact jn q3 ⟨m2,v2,rfl,f3⟩
    refine W.skip (bkn (nrm ?_));obtain rfl:=si d;exact jn p3 ⟨a0,j0,rfl,x.m⟩
   rintro e_ w_ ⟨s3,a7,_,rfl,t7,rfl,n2,w2,rfl,g3⟩;refine W.region (vv (I (w64 (f.1+1))) (WL.nil ?_));obtain rfl:=si q2;exact ⟨_,rfl,jn s3 ⟨n2,w2,rfl,g3⟩⟩
  refine W.exit (thx ?_);obtain rfl:=si H;exact ⟨_,rfl,rfl,jn t0 ⟨a0,N,rfl,x⟩⟩
 ·exact jn R ⟨l2,t2,rfl,d3⟩
 rintro _ e_ w_ ⟨rfl,v6,b7,_,rfl,A,rfl,o6,x2,rfl,o0⟩;refine bke (nrm (sr (va (v1) (va (q) (bn g fun k7 g4 g=>?_)))));obtain ⟨j,rfl,S⟩:=((h2.mono (Z.trans (b1.trans (c1.trans A))))).get g4;refine vv (Q j) ?_;obtain ⟨p,rfl⟩:=((y.mono A)).form;refine bn g fun i i4 g=>?_;obtain ⟨c8,j4,c7⟩:=Rel.open_place_Pen o0 i4 S;refine md (gC 124 0 (.pointer p) [.pointer p,I i.At.Row,I i.At.Col,B i.At.Pending,B i.Auto] 0 x2 j4 ⟨y.m.one,trivial⟩) ?_;rintro w6 T y2;refine bn g fun z4 l4 g=>?_;obtain ⟨p6,P,i3,k4,r6⟩:=Rel.put_place_Pen y2 (o0.mono T) (E':=[(Eb j 126 [.pointer p,I i.At.Row,I i.At.Col,B i.At.Pending,B i.Auto])]) l4 ⟨j,(.pointer p),(tm S),rfl,(y.mono (A.trans T))⟩;refine wln (W.region (va (Q j) (va (Q n) (vx (le1 0 u_3 (P.on 0 rfl)) (va (I (aE 0 (w64 ((w64 (a.Row - (aE 1 (aB b 1024))))+1)))) (va (I (w64 (a.Row - (aE 0 (w64 ((w64 (a.Row - (aE 1 (aB b 1024))))+1)))))) (va (Qo n 1) (vx (le1 1 u_3 (P.on 0 rfl)) (va (I (aE 1 (aB o 1024))) (va (I (aE 1 (aB b 1024))) (bn g fun k m4 g=>cl (rK P (w64 (a.Row - (aE 0 (w64 ((w64 (a.Row - (aE 1 (aB b 1024))))+1))))) a.Col (aE 1 (aB o 1024)) (aE 1 (aB b 1024)) m4) ?_)))))))))));rintro d8 x6 d1 ⟨z2,rfl⟩;refine va (Q j) (va (Qo j 1) (md (gB 29 1 [I k.Row,I k.Col,B k.Pending] [.pointer p,I k.Row,I k.Col,B k.Pending,B i.Auto] 0 z2 k4 ⟨rfl,rfl,rfl,trivial⟩) ?_));rintro t3 e1 a3;refine bn g fun v4 n4 g=>?_;obtain ⟨o2,b3,j3,d7,s6⟩:=Rel.put_place_Pen a3 (i3.mono (d1.trans e1)) (E':=[(Eb j 126 [.pointer p,I k.Row,I k.Col,B k.Pending,B i.Auto])]) n4 ⟨j,(.pointer p),(tm S),rfl,(y.mono (A.trans (T.trans (d1.trans e1))))⟩;refine WL.nil ?_;obtain rfl:=si g;have c3:=b3.sD 1 [];exact n0 (qq t3 ⟨o2,c3,j3,rfl⟩)
def dW (p0:List ab) (p1:Int):Option (List ab):=
 (rep (aE 1 (aB p1 1024)) (⟨0,([]:List Int)⟩:ab)).bind fun i=>
 (cM (σ:=(List ab)×Int) (τ:=(List ab)) (((aE 1 (aB p1 1024)) - 0).toNat+1) (fun a=>
 (bV (decide (a.2 < (aE 1 (aB p1 1024)))) (some (decide (a.2 < (p0.length:Int))))).bind fun b=>
 if b=true then
 ((orE (decide ((w64 (a.2+1)) < (aE 1 (aB p1 1024)))) ((idx p0 a.2).bind fun f=>
 some (f.Kind != 2))).bind fun c=>
 if c=true then
 (idx p0 a.2).bind fun g=>
 (idx a.1 a.2).bind fun j=>
 (oQ a.1 a.2 g).bind fun e=>
 some (e)
 else
 some (a.1)).bind fun h=>
 some (.inl (h,(w64 (a.2+1))))
 else
 some (.inr (a.1))) (i,0)).bind fun d=>
 some d
theorem ph (O0:Own c0 G F) (Z:List ab) (d:Int) {r:List ab} (N:Sl ag c0 v1 Z) (H:dW Z d=some r): Calls prog 138 #[v1,I d] c0.w (aO c0 fun c v=>∃y1 y2,Own c G (es true ag y1 114 y2 r :: F)∧v=y1∧OA ag c y1 y2 r):=by
 unfold dW at H;refine en func138 rfl rfl (sr (va (Y) (wln (sr (va (I d) (va (I (aB d 1024)) (vv (I (aE 1 (aB d 1024))) (wln (sr (va (I (aE 1 (aB d 1024))) (bn H fun v2 h3 H=>me (Own.mkS (kl:= .i64) (kc:= .i64) (R:=ag) (z:= .agg #[I 0,Y]) (lz:=[I 0,Y]) (x:=(⟨0,([]:List Int)⟩:ab)) (by_:=32) (i:=(aE 1 (aB d 1024))) (j:=(aE 1 (aB d 1024))) true O0 (aM _) h3 (oN _) (rR h3) cG (by kernel_rfl) rfl rfl (fun _=>⟨(Y),rfl,(Sl.nl _ _)⟩) (by kernel_rfl) (by kernel_rfl)) ?_)))))))))));rintro v8 c7 l7 ⟨u5,O4,h6⟩;refine va (v8) (wln (W.seq (sr (va (I 0) (wln (W.block (bn H fun g2 h9 b0=>lp h9 (fun a=>Jn c7 fun c l=>∃v11 f,Own c G (es true ag v11 114 f a.1 :: F)∧l= [(0,v1),(1,I (aE 1 (aB d 1024))),(5,v11),(6,I a.2)]∧OA ag c v11 f a.1) (fun p ex e w=>ex= .exit 0∧(Jn c7 fun c l=>∃v13 q,Own c G (es true ag v13 114 q p :: F)∧l= [(5,v13)]∧OA ag c v13 q p) e w) ?_ ?_ ?_)))))))
 ·clear b0 h9;intro a w2 b1 x1 H;revert b1 x1;rintro X w_ ⟨M,l2,_,rfl,j0,rfl,v11,f,d0,rfl,o⟩;refine W.seq (W.seq (bn H fun m0 f0 H=>W.join (Jn M fun c l=>Own c G (es true ag v11 114 f a.1 :: F)∧l= [(0,v1),(1,I (aE 1 (aB d 1024))),(5,v11),(6,I a.2),(20,B m0)]) ?_ ?_))
  ·clear H;refine W.region (va (I a.2) (va (I (aE 1 (aB d 1024))) (va (B (decide (a.2 < (aE 1 (aB d 1024))))) ?_)));rcases bo (decide (a.2 < (aE 1 (aB d 1024)))) with h | h
   ·have s0:=anT h f0;refine vb h (wa (I a.2) (wa (v1) (wn (vx (ln 3 cG N.m) (wa (B (decide (a.2 < (Z.length:Int)))) ?_)))));obtain rfl:=si s0;exact va (B (decide (a.2 < (Z.length:Int)))) (wln (jn M ⟨d0,rfl⟩))
   obtain rfl:=anF h f0;exact vb h (pz (pz (va (B false) (wln (jn M ⟨d0,rfl⟩)))))
  rintro X w_ ⟨g,m2,_,rfl,k0,rfl,y,rfl⟩;refine nrm (cn H (fun d1 H=>?_) (fun d1 H=>?_))
  ·refine W.skip (nrm (bn H fun U b t0=>W.seqJ (Jn g fun c l=>∃v34 s,Own c G (es true ag v34 114 s U :: F)∧l= [(0,v1),(1,I (aE 1 (aB d 1024))),(5,v34),(6,I a.2)]∧OA ag c v34 s U) ?_ ?_))
   ·refine W.block (W.seq (bn b fun o0 g0 b=>W.join (Jn g fun c l=>Own c G (es true ag v11 114 f a.1 :: F)∧l= [(0,v1),(1,I (aE 1 (aB d 1024))),(5,v11),(6,I a.2),(34,B o0)]) ?_ ?_))
    ·clear b;refine W.region (va (I a.2) (va (I (w64 (a.2+1))) (va (I (aE 1 (aB d 1024))) (va (B (decide ((w64 (a.2+1)) < (aE 1 (aB d 1024))))) ?_))));rcases bo (decide ((w64 (a.2+1)) < (aE 1 (aB d 1024)))) with k | k
     ·obtain rfl:=orT k g0;exact vb k (pz (pz (pz (va (B true) (wln (jn g ⟨y,rfl⟩))))))
     have t:=orF k g0;refine vb k (wa (v1) (wa (I a.2) (wn (bn t fun S h0 t=>?_))));obtain ⟨e2,e1,t1⟩:=Sl.at (N.mono (l7.trans (j0.trans k0))) (aX h0);obtain ⟨v43,rfl,q2⟩:=e1;refine vx (ix cG N.m h0) (wa (Qo (sb v1) (so v1+a.2.toNat * 2)) (wn (vx (l1 u_3 (t1 0 _ rfl)) (wa (B (S.Kind != 2)) ?_))));obtain rfl:=si t;exact va (B (S.Kind != 2)) (wln (jn g ⟨y,rfl⟩))
    rintro X w_ ⟨x0,n2,_,rfl,q1,rfl,e0,rfl⟩;refine nrm (cn b (fun f1 b=>?_) (fun f1 b=>?_))
    ·refine W.region (va (v11) (va (I a.2) (va (v1) (va (I a.2) (bn b fun n i0 b=>?_)))));obtain ⟨f2,g1,u1⟩:=Sl.at (N.mono (l7.trans (j0.trans (k0.trans q1)))) (aX i0);obtain ⟨v56,rfl,P⟩:=g1;refine vx (ix cG N.m i0) (vx (lN 114 u1) (bn b fun k2 h1 b=>vx (ixO cG o.m h1) ?_));obtain ⟨A,D,E,rfl⟩:=(P).form;refine bn b fun j2 i1 b=>md (Own.stW (R:=ag) (T:=114) (us:=[I n.Kind,.slice A D E]) (x':=n) (u:= .agg #[I n.Kind,.slice A D E]) 0 e0 (by kernel_rfl) rfl o.m i1 rfl (by kernel_rfl) ⟨rfl,P.one,trivial⟩ rfl ⟨(.slice A D E),rfl,P⟩) ?_;rintro y0 s2 ⟨w1,u0,j1⟩;refine WL.nil (bkn (nrm ?_));obtain rfl:=si b;exact jn y0 ⟨v11,w1,u0,rfl,j1⟩
    refine W.skip (bkn (nrm ?_));obtain rfl:=si b;exact jn x0 ⟨v11,f,e0,rfl,o.m⟩
   rintro X w_ ⟨z0,o2,_,rfl,t2,rfl,v34,s,v0,rfl,k1⟩;refine W.region (va (I a.2) (vv (I (w64 (a.2+1))) (WL.nil ?_)));obtain rfl:=si t0;exact ⟨_,rfl,jn z0 ⟨v34,s,v0,rfl,k1⟩⟩
  refine W.exit (thx ?_);obtain rfl:=si H;exact ⟨_,rfl,rfl,jn g ⟨v11,f,y,rfl,o.m⟩⟩
 ·exact jn c7 ⟨v8,u5,O4,rfl,h6⟩
 rintro _ X w_ ⟨rfl,a1,p2,_,rfl,u2,rfl,v13,q,w0,rfl,m1⟩;refine bke (nrm (sr (vv (v13) (wln (W.ret ?_)))));obtain rfl:=si b0;exact r1 (qq a1 ⟨v13,q,w0,rfl,m1⟩)
def dq (p0:aa) (p1:Int) (p2:Int):Option (aa):=
 (cf p0).bind fun d=>
 (bY p1).bind fun f=>
 (bY p2).bind fun c=>
 (cM (σ:=(List ak)×Int) (τ:=((List ak)×Int)) ((d.At.Row - c).toNat+2) (fun a=>
 if (decide (a.2≥c))=true then
 (slc a.1 1 a.1.length).bind fun h=>
 some (.inl (h,(w64 (a.2 - 1))))
 else
 some (.inr (a.1,a.2))) (d.L,d.At.Row)).bind fun e=>
 (cM (σ:=(List ak)×Int) (τ:=(List ak)) ((c - 0).toNat+1) (fun b=>
 if (decide (b.2 < c))=true then
 (if (decide (b.2 < (e.1.length:Int)))=true then
 (idx e.1 b.2).bind fun i=>
 some (i.Cells)
 else
 some (([]:List ab))).bind fun l=>
 (dW l f).bind fun j=>
 (app b.1 ([(⟨j,false⟩:ak)]:List ak)).bind fun k=>
 some (.inl (k,(w64 (b.2+1))))
 else
 some (.inr (b.1))) (([]:List ak),0)).bind fun g=>
 some (⟨g,(⟨e.2,(aB d.At.Col (w64 (f - 1))),false⟩:ai),d.Auto⟩:aa)
theorem pg (O0:Own c0 G F) (j:aa) (p1:Int) (p2:Int) {r:aa} (h2:Sl an c0 v1 j.L) (H:dq j p1 p2=some r): Calls prog 89 #[.agg #[v1,I j.At.Row,I j.At.Col,B j.At.Pending,B j.Auto],I p1,I p2] c0.w (aO c0 fun c v=>∃y1 y2,Own c G (es true an y1 48 y2 r.L :: F)∧v= .agg #[y1,I r.At.Row,I r.At.Col,B r.At.Pending,B r.Auto]∧OA an c y1 y2 r.L):=by
 unfold dq at H;refine en func89 rfl rfl (sr ?_);obtain ⟨a3,a4,a5,rfl⟩:=(h2).form;refine me (al 31 [.slice a3 a4 a5,I j.At.Row,I j.At.Col,B j.At.Pending,B j.Auto] O0) ?_;rintro v9 c8 l8 ⟨o,rfl,O7⟩;refine me (al 31 [Y,I 0,I 0,B false,B false] O7) ?_;rintro v13 s4 e5 ⟨i,rfl,a1⟩;refine wln (sr (vx (leN 31 0 [.slice a3 a4 a5,I j.At.Row,I j.At.Col,B j.At.Pending,B j.Auto] (a1.on 1 rfl)) (bn H fun a c3 H=>cl (dy a1 j h2.m c3) ?_)));rintro v22 t4 f5 ⟨v15,l2,rfl,m0⟩;obtain ⟨q,s,t,rfl⟩:=(m0).form;refine md (sA 31 [.slice q s t,I a.At.Row,I a.At.Col,B a.At.Pending,B a.Auto] 1 l2 ⟨m0.one,rfl,rfl,rfl,rfl,trivial⟩) ?_;rintro u4 g5 m2;refine wln (sr (va (I p1) (bn H fun f e3 H=>cl (dP m2 p1 e3) ?_)));rintro v34 v4 h5 ⟨n2,rfl⟩;refine va (I f) (wln (sr (va (I p2) (bn H fun g f3 H=>cl (dP n2 p2 f3) ?_))));rintro v41 w4 i5 ⟨g0,rfl⟩;refine va (I g) (wln (sr (va (Q o) (vx (le1 0 gX (g0.on 1 rfl)) (va (.slice q s t) (wln (sr (va (Qo o 1) (vx (leN 29 1 [I a.At.Row,I a.At.Col,B a.At.Pending] (g0.on 1 rfl)) (me (al 29 [I 0,I 0,B false] g0) ?_))))))))));rintro v45 x4 j5 ⟨d,rfl,o2⟩;refine md (sA 29 [I a.At.Row,I a.At.Col,B a.At.Pending] 0 o2 ⟨rfl,rfl,rfl,trivial⟩) ?_;rintro j0 k5 q2;refine wln (W.seq (W.block (bn H fun h b1 p=>lp b1 (fun n=>Jn j0 fun c l=>∃v50,Own c G ((Eb d 29 [I n.2,I a.At.Col,B a.At.Pending]) :: (Eb i 31 [Y,I 0,I 0,B false,B false]) :: (Eb o 31 [.slice q s t,I a.At.Row,I a.At.Col,B a.At.Pending,B a.Auto]) :: F)∧l= [(1,I f),(2,I g),(3,Q o),(6,Q i),(7,v50),(8,Q d)]∧Sl an c v50 n.1) (fun a0 ex e w=>ex= .exit 0∧(Jn j0 fun c l=>∃v51,Own c G ((Eb d 29 [I a0.2,I a.At.Col,B a.At.Pending]) :: (Eb i 31 [Y,I 0,I 0,B false,B false]) :: (Eb o 31 [.slice q s t,I a.At.Row,I a.At.Col,B a.At.Pending,B a.Auto]) :: F)∧l= [(1,I f),(2,I g),(3,Q o),(6,Q i),(7,v51),(8,Q d)]∧Sl an c v51 a0.1) e w) ?_ ?_ ?_)))
 ·clear p b1;intro n q3 k0 t0 H;revert k0 t0;rintro e_ w_ ⟨z2,z4,_,rfl,l5,rfl,v50,U,rfl,c1⟩;refine W.seq (sr (va (Q d) (vx (le1 0 u_3 (U.on 0 rfl)) (va (I g) (va (B (decide (n.2≥g))) (wln (cn H (fun g3 H=>?_) (fun g3 H=>?_))))))))
  ·refine W.skip (nrm (W.block (sr (va (v50) (bn H fun p4 h3 H=>?_)))));obtain ⟨s0,i3,j3⟩:=Ck (k:= .i64) gX (by kernel_rfl) c1 h3;refine vr s0 (rx (by kernel_rfl) (i3 _)) (va (s0) (wln (W.region (va (Q d) (vx (le1 0 u_3 (U.on 0 rfl)) (va (I (w64 (n.2 - 1))) (va (Q d) (md (sC 3 0 (I (w64 (n.2 - 1))) [I (w64 (n.2 - 1)),I a.At.Col,B a.At.Pending] 0 U ⟨rfl,trivial⟩) ?_))))))));rintro b3 m5 s2;refine WL.nil (bkn ?_);obtain rfl:=si H;exact ⟨_,rfl,jn b3 ⟨s0,s2,rfl,j3.m⟩⟩
  refine W.exit (thx ?_);obtain rfl:=si H;exact ⟨_,rfl,rfl,jn z2 ⟨v50,U,rfl,c1⟩⟩
 ·exact jn j0 ⟨(.slice q s t),q2,rfl,m0.m⟩
 rintro _ e_ w_ ⟨rfl,X,b5,_,rfl,n5,rfl,v51,t2,rfl,o0⟩;refine bke (nrm (sr (va (Y) (wln (W.seq (sr (va (I 0) (wln (W.block (bn p fun k4 d1 z0=>lp d1 (fun b=>Jn X fun c l=>∃u M,Own c G (es true an u 48 M b.1 :: (Eb d 29 [I h.2,I a.At.Col,B a.At.Pending]) :: (Eb i 31 [Y,I 0,I 0,B false,B false]) :: (Eb o 31 [.slice q s t,I a.At.Row,I a.At.Col,B a.At.Pending,B a.Auto]) :: F)∧l= [(1,I f),(2,I g),(3,Q o),(6,Q i),(7,v51),(8,Q d),(9,u),(10,I b.2)]∧OA an c u M b.1) (fun b0 ex e w=>ex= .exit 2∧(Jn X fun c l=>∃N d0,Own c G (es true an N 48 d0 b0 :: (Eb d 29 [I h.2,I a.At.Col,B a.At.Pending]) :: (Eb i 31 [Y,I 0,I 0,B false,B false]) :: (Eb o 31 [.slice q s t,I a.At.Row,I a.At.Col,B a.At.Pending,B a.Auto]) :: F)∧l= [(1,I f),(3,Q o),(6,Q i),(8,Q d),(9,N)]∧OA an c N d0 b0) e w) ?_ ?_ ?_))))))))))
 ·clear z0 d1;intro b q3 k0 t0 p;revert k0 t0;rintro e_ w_ ⟨Z,c5,_,rfl,o3,rfl,u,M,h0,rfl,e1⟩;refine W.seq (sr (va (I b.2) (va (I g) (va (B (decide (b.2 < g))) (wln (cn p (fun k3 p=>?_) (fun k3 p=>?_)))))))
  ·refine W.skip (nrm (W.seq (W.block (sr (va (Y) (wln (bn p fun u0 x E=>W.seqJ (Jn Z fun c l=>∃e0,Own c G (es true an u 48 M b.1 :: (Eb d 29 [I h.2,I a.At.Col,B a.At.Pending]) :: (Eb i 31 [Y,I 0,I 0,B false,B false]) :: (Eb o 31 [.slice q s t,I a.At.Row,I a.At.Col,B a.At.Pending,B a.Auto]) :: F)∧l= [(1,I f),(2,I g),(3,Q o),(6,Q i),(7,v51),(8,Q d),(9,u),(10,I b.2),(11,e0)]∧Sl ag c e0 u0) ?_ ?_)))))))
   ·refine sr (va (I b.2) (va (v51) (vx (ln 3 gX o0.m) (va (B (decide (b.2 < (h.1.length:Int)))) (wln (cn x (fun l3 x=>?_) (fun l3 x=>?_)))))))
    ·refine W.region (va (v51) (va (I b.2) (bn x fun q4 f1 x=>?_)));obtain ⟨j4,m3,p3⟩:=Sl.at (o0.mono o3) (aX f1);obtain ⟨g1,rfl,n3⟩:=m3;refine vx (ix gX o0.m f1) (va (Qo (sb v51) (so v51+b.2.toNat * 2)) (vx (l1 cG (p3 0 _ rfl)) (va (g1) (wln ?_))));obtain rfl:=si x;exact jn Z ⟨g1,h0,rfl,n3⟩
    refine W.skip (nrm ?_);obtain rfl:=si x;exact jn Z ⟨(Y),h0,rfl,(Sl.nl _ _)⟩
   rintro e_ w_ ⟨y4,d5,_,rfl,o5,rfl,e0,u2,rfl,u1⟩;refine W.region (va (u) (va (e0) (va (I f) (bn E fun j2 w1 E=>cl (ph u2 u0 f u1 w1) ?_))));rintro n4 v3 c4 ⟨_,l4,h1,rfl,l0⟩;obtain ⟨P,R,S,rfl⟩:=(l0).form;refine va (.agg #[.slice P R S,B false]) ?_;obtain ⟨w3,z1,d4,i1,x1⟩:=h1.frz 0 rfl l0;refine WL.gh z1 (me (sl an 48 [[.slice P R S,B false]] ([(⟨j2,false⟩:ak)]:List ak) i1 ⟨⟨(.slice P R S),rfl,x1⟩,trivial⟩) ?_);rintro o4 x3 e4 ⟨m4,j1,b2⟩;obtain ⟨y3,d2,f4,k1,c2⟩:=j1.frz 0 rfl b2;refine WL.gh d2 (bn E fun r4 e2 E=>me (ap an (.agg #[Y,B false]) 32 27 2 k1 e1.m c2 e2 gX) ?_);rintro q0 t1 g4 ⟨i2,m1,f2⟩;refine va (q0) (WL.nil (bkn (nrm (W.region (va (I b.2) (vv (I (w64 (b.2+1))) (WL.nil ?_)))))));obtain rfl:=si E;refine ⟨_,rfl,?_⟩;have n1:=m1.sD 6 [2,3,4,5];exact jn t1 ⟨q0,i2,n1,rfl,f2⟩
  refine W.exit (thx ?_);obtain rfl:=si p;exact ⟨_,rfl,rfl,jn Z ⟨u,M,h0,rfl,e1⟩⟩
 ·have g2:OA an X (Y) [] []:=OA.nil (aM _);have q1:=t2.addHole (e:=es true an (Y) 48 [] ([]:List ak)) rfl;exact jn X ⟨(Y),[],q1,rfl,g2⟩
 rintro _ e_ w_ ⟨rfl,z3,b4,_,rfl,h4,rfl,N,d0,y,rfl,T⟩;refine bke (nrm (sr (va (N) (va (Q d) (vx (le1 0 u_3 (y.on 1 rfl)) (va (Qo d 1) (vx (le1 1 u_3 (y.on 1 rfl)) (va (I f) (va (I (w64 (f - 1))) (va (I (aB a.At.Col (w64 (f - 1)))) (va (.agg #[I h.2,I (aB a.At.Col (w64 (f - 1))),B false]) (va (Qo o 4) (vx (le1 4 u_4 (y.on 3 rfl)) ?_)))))))))))));obtain ⟨z,A,D,rfl⟩:=(T).form;refine va (.agg #[.slice z A D,I h.2,I (aB a.At.Col (w64 (f - 1))),B false,B a.Auto]) (md (sA 31 [.slice z A D,I h.2,I (aB a.At.Col (w64 (f - 1))),B false,B a.Auto] 2 y ⟨(T).one,rfl,rfl,rfl,rfl,trivial⟩) ?_);rintro i0 i4 f0;refine wln (W.ret ?_);obtain rfl:=si z0;have s1:=f0.sD 4 [0];exact kE (c:=i0) (vs:=[.slice z A D,I h.2,I (aB a.At.Col (w64 (f - 1))),B false,B a.Auto]) rfl (by kernel_rfl) (by kernel_rfl) (by kernel_rfl) (f0.on 2 rfl _ rfl).1 ⟨_,i0,rfl,rfl,pt,(.slice z A D),d0,s1,rfl,T.m⟩
def jv (p0:Int):Option (Bool):=
 (bV (decide (p0≥0)) (some (decide (p0 < 32)))).bind fun b=>
 (orE b ((bV (decide (p0≥127)) (some (decide (p0≤159)))).bind fun a=>
 some a)).bind fun c=>
 some c
theorem qK (e:Own c0 G F) (a:Int) {r:Bool} (H:jv a=some r): Calls prog 134 #[J a] c0.w (aO c0 fun c v=>Own c G (F)∧v=B r):=by
 unfold jv at H;refine en func134 rfl rfl (sr (va (B false) (wln (W.seq (bn H fun z t H=>bn H fun s n H=>W.join (Jn c0 fun c l=>Own c G (F)∧l= [(2,B s)]) ?_ ?_)))))
 ·clear H;refine W.region (va (J a) (va (B (decide (a≥0))) ?_));rcases bo (decide (a≥0)) with f | f
  ·have x:=anT f t;refine vb f (wa (J a) (wa (B (decide (a < 32))) ?_));obtain rfl:=si x;refine va (B (decide (a < 32))) ?_;rcases bo (decide (a < 32)) with g | g
   ·obtain rfl:=orT g n;exact vb g (pz (pz (pz (vv (B true) (wln (jn c0 ⟨e,rfl⟩))))))
   have i:=orF g n;refine vb g (wa (J a) (wa (B (decide (a≥127))) (wn (bn i fun m u i=>?_))));rcases bo (decide (a≥127)) with h | h
   ·have y:=anT h u;refine vb h (wa (J a) (wa (B (decide (a≤159))) (wn ?_)));obtain rfl:=si y;refine va (B (decide (a≤159))) ?_;obtain rfl:=si i;exact vv (B (decide (a≤159))) (wln (jn c0 ⟨e,rfl⟩))
   obtain rfl:=anF h u;refine vb h (pz (wa (B false) ?_));obtain rfl:=si i;exact vv (B false) (wln (jn c0 ⟨e,rfl⟩))
  obtain rfl:=anF f t;refine vb f (pz (va (B false) ?_));have j:false=false:=rfl;have d:=orF j n;refine vb j (wa (J a) (wa (B (decide (a≥127))) (wn (bn d fun m k d=>?_))));rcases bo (decide (a≥127)) with b | b
  ·have o:=anT b k;refine vb b (wa (J a) (wa (B (decide (a≤159))) (wn ?_)));obtain rfl:=si o;refine va (B (decide (a≤159))) ?_;obtain rfl:=si d;exact vv (B (decide (a≤159))) (wln (jn c0 ⟨e,rfl⟩))
  obtain rfl:=anF b k;refine vb b (pz (wa (B false) ?_));obtain rfl:=si d;exact vv (B false) (wln (jn c0 ⟨e,rfl⟩))
 rintro E M ⟨q,A,_,rfl,D,rfl,p,rfl⟩;refine nrm (W.ret ?_);obtain rfl:=si H;exact r1 (qq q ⟨p,rfl⟩)
def kY (p0:ai):Option (ai):=
 (if (decide (p0.Col > 0))=true then
 some ((w64 (p0.Col - 1)))
 else
 some (p0.Col)).bind fun a=>
 some (⟨p0.Row,a,false⟩:ai)
theorem wh (s:Own c0 G F) (a:ai) {r:ai} (H:kY a=some r): Calls prog 182 #[.agg #[I a.Row,I a.Col,B a.Pending]] c0.w (aO c0 fun c v=>Own c G (F)∧v= .agg #[I r.Row,I r.Col,B r.Pending]):=by
 unfold kY at H;refine en func182 rfl rfl (sr (me (al 29 [I a.Row,I a.Col,B a.Pending] s) ?_));rintro v4 E P ⟨e,rfl,t⟩;refine me (al 29 [I 0,I 0,B false] t) ?_;rintro v8 M R ⟨o,rfl,u⟩;refine wln (sr (va (Qo e 2) (md (sC 4 2 (B false) [I a.Row,I a.Col,B false] 1 u ⟨rfl,trivial⟩) ?_)));rintro i z f;refine wln (bn H fun d b k=>W.seqJ (Jn i fun c l=>Own c G ((Eb o 29 [I 0,I 0,B false]) :: (Eb e 29 [I a.Row,I d,B false]) :: F)∧l= [(1,Q e),(2,Q o)]) ?_ ?_)
 ·refine sr (va (Qo e 1) (vx (le1 1 u_3 (f.on 1 rfl)) (va (B (decide (a.Col > 0))) (wln (cn b (fun q b=>?_) (fun q b=>?_))))))
  ·refine W.region (va (Qo e 1) (vx (le1 1 u_3 (f.on 1 rfl)) (va (I (w64 (a.Col - 1))) (va (Qo e 1) (md (sC 3 1 (I (w64 (a.Col - 1))) [I a.Row,I (w64 (a.Col - 1)),B false] 1 f ⟨rfl,trivial⟩) ?_)))));rintro p A m;refine wln ?_;obtain rfl:=si b;exact jn p ⟨m,rfl⟩
  refine W.skip (nrm ?_);obtain rfl:=si b;exact jn i ⟨f,rfl⟩
 rintro N S ⟨x,y,_,rfl,l16,rfl,g,rfl⟩;refine sr (vx (leN 29 0 [I a.Row,I d,B false] (g.on 1 rfl)) (md (sA 29 [I a.Row,I d,B false] 0 g ⟨rfl,rfl,rfl,trivial⟩) ?_));rintro j D h;refine wln (W.ret ?_);obtain rfl:=si k;have n:=h.sD 2 [];exact kE (c:=j) (vs:=[I a.Row,I d,B false]) rfl (by kernel_rfl) (by kernel_rfl) (by kernel_rfl) (h.on 0 rfl _ rfl).1 ⟨_,j,rfl,rfl,pt,n,rfl⟩
def oz (sg:Sto) (p0:Option Nat) (p1:Int):Option (Sto×Bool):=
 (jv p1).bind fun s=>
 if (!s)=true then
 some (sg,false)
 else
 (orE p0.isNone ((p0).bind fun j=>
 (sg.place_Pen[j]?).bind fun l=>
 some l.G.isNone)).bind fun i=>
 if i=true then
 some (sg,true)
 else
 (p0).bind fun k=>
 (sg.place_Pen[k]?).bind fun a=>
 (ci sg a.G).bind fun m=>
 (bL sg a.G).bind fun n=>
 (fZ a.At m n).bind fun h=>
 (if (p1==13)=true then
 (dw h).bind fun o=>
 (p0).bind fun d=>
 (sg.place_Pen[d]?).bind fun f=>
 (sg.set_place_Pen d (⟨f.G,o,f.Auto⟩:bi)).bind fun b=>
 some (b)
 else
 if (p1==10)=true then
 (fk sg p0).bind fun p=>
 some (p)
 else
 if (p1==8)=true then
 (kY h).bind fun q=>
 (p0).bind fun e=>
 (sg.place_Pen[e]?).bind fun g=>
 (sg.set_place_Pen e (⟨g.G,q,g.Auto⟩:bi)).bind fun c=>
 some (c)
 else
 some (sg)).bind fun r=>
 some (r,true)
theorem BM (O0:Own c0 G F) (g:Rel c0 sg G) (p0:Option Nat) (j:Int) {r:Sto×Bool} (S:Pt 2 c0 v1 p0) (H:oz sg p0 j=some r): Calls prog 116 #[v1,J j] c0.w (aO c0 fun c v=>∃G_:Gm,Own c G_ (F)∧Rel c r.1 G_∧v=B r.2):=by
 unfold oz at H;refine en func116 rfl rfl (sr (va (B false) (wln (W.seq (sr (va (J j) (bn H fun o5 h3 H=>cl (qK O0 j h3) ?_)))))));rintro v9 c8 o ⟨O5,rfl⟩;refine va (B (!o5)) (wln (cn H (fun t4 H=>?_) (fun t4 H=>?_)))
 ·refine sr (va (B false) (wln (W.ret (thr ?_))));obtain rfl:=si H;exact r1 (qq c8 ⟨G,O5,g.m,rfl⟩)
 refine W.skip (nrm (W.seq (W.seq (bn H fun c3 s1 H=>W.join (Jn c8 fun c l=>Own c G (F)∧l= [(0,v1),(1,J j),(17,B c3)]) ?_ ?_))))
 ·clear H;refine W.region (va (v1) (vr (B p0.isNone) (by rcases S.m.cs with ⟨y,z⟩ | ⟨b_,y,z⟩ <;> (subst y; rw [z]; kernel_rfl)) ?_));rcases bo (p0.isNone) with x | x
  ·obtain rfl:=orT x s1;exact vb x (pz (pz (ps (va (B true) (wln (jn c8 ⟨O5,rfl⟩))))))
  have u:=orF x s1;refine vb x (wa (v1) (wn (bn u fun a6 v4 u=>?_)));obtain ⟨k1,rfl,u4⟩:=((S.mono o)).get v4;refine va (Q k1) (wa (Q k1) (wn (bn u fun t0 w4 u=>?_)));obtain ⟨v18,y4,x4⟩:=Rel.open_place_Pen (g.mono o) w4 u4;refine vx (le1 0 eW (O5.gon y4 0 rfl)) (wn (vr (B t0.G.isNone) (by rcases (x4).cs with ⟨y,z⟩ | ⟨b_,y,z⟩ <;> (subst y; rw [z]; kernel_rfl)) ?_));obtain rfl:=si u;exact va (B t0.G.isNone) (wln (jn c8 ⟨O5,rfl⟩))
 rintro e_ w_ ⟨m1,w6,_,rfl,n,rfl,a1,rfl⟩;refine nrm (cn H (fun z4 H=>?_) (fun z4 H=>?_))
 ·refine sr (va (B true) (wln (W.ret (thr ?_))));obtain rfl:=si H;exact r1 (qq m1 ⟨G,a1,g.m,rfl⟩)
 refine W.skip (nrm (W.seq (bn H fun b6 a5 H=>bn H fun d b5 H=>bn H fun s t1 H=>bn H fun t l0 H=>bn H fun b R H=>W.join (Jn m1 fun c l=>∃P,Own c G ((Eb P 29 [I b.Row,I b.Col,B b.Pending]) :: F)∧l= [(0,v1),(1,J j),(5,Q P)]) ?_ ?_)))
 ·clear H;refine rD [] (Kp G []) a1 ?_;intro j4 w1 d0;have x0:Kp G [] j4:=(Kp.nil d0);refine ta 0 (v1) ?_;obtain ⟨k,rfl,c5⟩:=((S.mono (o.trans (n.trans w1)))).get a5;refine ta 1 (Q k) (ta 2 (Qo k 1) ?_);obtain ⟨v39,m0,A⟩:=Rel.open_place_Pen (g.mono (o.trans (n.trans w1))) b5 c5;refine tkx 3 x0 (fun c' u1 hk=>leN 29 1 [I d.At.Row,I d.At.Col,B d.At.Pending] (hk.gon m0 0 rfl)) (ta 4 (Q k) (ta 5 (Q k) (ta 6 (Q k) (tkx 7 x0 (fun c' u1 hk=>le1 0 eW (hk.gon m0 0 rfl)) (ta 9 (Q k) (ta 10 (Q k) (ta 11 (Q k) (tkx 12 x0 (fun c' u1 hk=>le1 0 eW (hk.gon m0 0 rfl)) (mn2 8 15 ?_ ?_)))))))))
  ·refine gc 8 (cL d0 g.m d.G A t1) ?_;rintro v47 k4 x6 ⟨e0,rfl⟩;have d5:Kp G [] k4:=(Kp.nil e0);refine ⟨.inr d5,mn2 13 15 ?_ ?_⟩
   ·refine gc 13 (bH e0 g.m d.G A.m l0) ?_;rintro v54 l4 y6 ⟨f0,rfl⟩;have e5:Kp G [] l4:=(Kp.nil f0);refine ⟨.inr e5,mn2 14 15 ?_ ?_⟩
    ·refine gc 14 (ey f0 d.At s t R) ?_;rintro h7 m4 z6 ⟨b1,rfl⟩;have f5:Kp G [] m4:=(Kp.nil b1);refine ⟨.inr f5,o1 15 (gm 15 (al 29 [I 0,I 0,B false] b1) ?_)⟩;rintro i7 n4 a7 ⟨f4,rfl,c1⟩;have g5:Kp G [] n4:=(Kp.nil c1);refine ⟨.inr g5,o1 16 (gD 16 (sA 29 [I b.Row,I b.Col,B b.Pending] 0 c1 ⟨rfl,rfl,rfl,trivial⟩) ?_)⟩;rintro n1 b7 d1;have h5:Kp G [] n1:=(Kp.nil d1);exact ⟨.inr h5,dn (nrm (jn n1 ⟨f4,d1,rfl⟩))⟩
    refine gm 15 (al 29 [I 0,I 0,B false] f0) ?_;rintro j7 o4 c7 ⟨g4,rfl,e1⟩;have i5:Kp G [] o4:=(Kp.nil e1);refine ⟨.inr i5,o1 14 (gc 14 (ey e1 d.At s t R) ?_)⟩;rintro k7 p4 d7 ⟨f1,rfl⟩;have j5:Kp G [] p4:=(Kp.nil f1);refine ⟨.inr j5,o1 16 (gD 16 (sA 29 [I b.Row,I b.Col,B b.Pending] 0 f1 ⟨rfl,rfl,rfl,trivial⟩) ?_)⟩;rintro q1 e7 g1;have k5:Kp G [] q1:=(Kp.nil g1);exact ⟨.inr k5,dn (nrm (jn q1 ⟨g4,g1,rfl⟩))⟩
   refine gm 15 (al 29 [I 0,I 0,B false] e0) ?_;rintro l7 q4 f7 ⟨h4,rfl,h1⟩;have l5:Kp G [] q4:=(Kp.nil h1);refine ⟨.inr l5,o1 13 (gc 13 (bH h1 g.m d.G A.m l0) ?_)⟩;rintro m7 r4 g7 ⟨i1,rfl⟩;have m5:Kp G [] r4:=(Kp.nil i1);refine ⟨.inr m5,o1 14 (gc 14 (ey i1 d.At s t R) ?_)⟩;rintro n6 t2 e6 ⟨j1,rfl⟩;have v3:Kp G [] t2:=(Kp.nil j1);refine ⟨.inr v3,o1 16 (gD 16 (sA 29 [I b.Row,I b.Col,B b.Pending] 0 j1 ⟨rfl,rfl,rfl,trivial⟩) ?_)⟩;rintro g0 f6 T;have w3:Kp G [] g0:=(Kp.nil T);exact ⟨.inr w3,dn (nrm (jn g0 ⟨h4,T,rfl⟩))⟩
  refine gm 15 (al 29 [I 0,I 0,B false] d0) ?_;rintro o6 u2 g6 ⟨s2,rfl,U⟩;have x3:Kp G [] u2:=(Kp.nil U);refine ⟨.inr x3,o1 8 (gc 8 (cL U g.m d.G A.m t1) ?_)⟩;rintro p6 v2 h6 ⟨X,rfl⟩;have y3:Kp G [] v2:=(Kp.nil X);refine ⟨.inr y3,o1 13 (gc 13 (bH X g.m d.G A.m l0) ?_)⟩;rintro q6 w2 i6 ⟨Z,rfl⟩;have z3:Kp G [] w2:=(Kp.nil Z);refine ⟨.inr z3,o1 14 (gc 14 (ey Z d.At s t R) ?_)⟩;rintro r6 x2 j6 ⟨a0,rfl⟩;have a4:Kp G [] x2:=(Kp.nil a0);refine ⟨.inr a4,o1 16 (gD 16 (sA 29 [I b.Row,I b.Col,B b.Pending] 0 a0 ⟨rfl,rfl,rfl,trivial⟩) ?_)⟩;rintro h0 k6 b0;have b4:Kp G [] h0:=(Kp.nil b0);exact ⟨.inr b4,dn (nrm (jn h0 ⟨s2,b0,rfl⟩))⟩
 rintro e_ w_ ⟨i0,v5,_,rfl,i,rfl,P,h,rfl⟩;refine nrm (bn H fun c4 a c2=>W.seqJ (Jn i0 fun c l=>∃G_,Own c G_ ((Eb P 29 [I b.Row,I b.Col,B b.Pending]) :: F)∧l= []∧Rel c c4 G_) ?_ ?_)
 ·refine sr (va (J j) (wln (W.block (sr (vv (B (j==13)) (wln (cn a (fun d3 a=>?_) (fun d3 a=>?_))))))))
  ·refine W.region (va (v1) (vx (leN 29 0 [I b.Row,I b.Col,B b.Pending] (h.on 0 rfl)) (bn a fun e e3 a=>cl (jN h b e3) ?_)));rintro s6 t5 D ⟨d2,rfl⟩;refine bn a fun c6 f3 a=>?_;obtain ⟨p,rfl,j0⟩:=((S.mono (o.trans (n.trans (i.trans D))))).get f3;refine va (Q p) (va (Qo p 1) (bn a fun u0 g3 a=>?_));obtain ⟨M,j3,i3⟩:=Rel.open_place_Pen (g.mono (o.trans (n.trans (i.trans D)))) g3 j0;refine md (gB 29 1 [I e.Row,I e.Col,B e.Pending] [M,I e.Row,I e.Col,B e.Pending,B u0.Auto] 0 d2 j3 ⟨rfl,rfl,rfl,trivial⟩) ?_;rintro y2 q0 e2;refine bn a fun d4 k3 a=>?_;obtain ⟨x1,f2,n2,x5,q5⟩:=Rel.put_place_Pen e2 (g.mono (o.trans (n.trans (i.trans (D.trans q0))))) (E':=[(Eb p 126 [M,I e.Row,I e.Col,B e.Pending,B u0.Auto])]) k3 ⟨p,M,(tm j0),rfl,(i3.mono q0)⟩;refine WL.nil (bkn (nrm ?_));obtain rfl:=si a;exact jn y2 ⟨x1,f2,rfl,n2⟩
  refine sr (vv (B (j==10)) (wln (cn a (fun l3 a=>?_) (fun l3 a=>?_))))
  ·refine W.region (va (v1) (bn a fun v6 m3 a=>cl (mY h g.m p0 S.m m3) ?_));rintro t6 z2 l6 ⟨y1,g2,o2,rfl⟩;refine WL.nil (bkn (nrm ?_));obtain rfl:=si a;exact jn z2 ⟨y1,g2,rfl,o2⟩
  refine sr (vv (B (j==8)) (wln (cn a (fun n3 a=>?_) (fun n3 a=>?_))))
  ·refine W.region (va (v1) (vx (leN 29 0 [I b.Row,I b.Col,B b.Pending] (h.on 0 rfl)) (bn a fun f o3 a=>cl (wh h b o3) ?_)));rintro u6 u5 E ⟨i2,rfl⟩;refine bn a fun d6 p3 a=>?_;obtain ⟨q,rfl,k0⟩:=((S.mono (o.trans (n.trans (i.trans E))))).get p3;refine va (Q q) (va (Qo q 1) (bn a fun v0 q3 a=>?_));obtain ⟨N,t3,s3⟩:=Rel.open_place_Pen (g.mono (o.trans (n.trans (i.trans E)))) q3 k0;refine md (gB 29 1 [I f.Row,I f.Col,B f.Pending] [N,I f.Row,I f.Col,B f.Pending,B v0.Auto] 0 i2 t3 ⟨rfl,rfl,rfl,trivial⟩) ?_;rintro a3 s0 j2;refine bn a fun e4 u3 a=>?_;obtain ⟨z1,k2,p2,y5,r5⟩:=Rel.put_place_Pen j2 (g.mono (o.trans (n.trans (i.trans (E.trans s0))))) (E':=[(Eb q 126 [N,I f.Row,I f.Col,B f.Pending,B v0.Auto])]) u3 ⟨q,N,(tm k0),rfl,(s3.mono s0)⟩;refine WL.nil (bkn (nrm ?_));obtain rfl:=si a;exact jn a3 ⟨z1,k2,rfl,p2⟩
  refine W.skip (bkn (nrm ?_));obtain rfl:=si a;exact jn i0 ⟨G,h,rfl,g.m⟩
 rintro e_ w_ ⟨b3,w5,_,rfl,m6,rfl,b2,l2,rfl,q2⟩;refine sr (va (B true) (wln (W.ret ?_)));obtain rfl:=si c2;have m2:=l2.sD 1 [];exact r1 (qq b3 ⟨b2,m2,q2,rfl⟩)
def dr (p0:Int):Option (Bool):=
 (bV (decide (p0≥0)) (some (decide (p0≤31)))).bind fun b=>
 (orE b ((bV (decide (p0≥127)) (some (decide (p0≤159)))).bind fun a=>
 some a)).bind fun c=>
 some c
theorem jG (e:Own c0 G F) (a:Int) {r:Bool} (H:dr a=some r): Calls prog 39 #[J a] c0.w (aO c0 fun c v=>Own c G (F)∧v=B r):=by
 unfold dr at H;refine en func39 rfl rfl (sr (va (B false) (wln (W.seq (bn H fun z t H=>bn H fun s n H=>W.join (Jn c0 fun c l=>Own c G (F)∧l= [(2,B s)]) ?_ ?_)))))
 ·clear H;refine W.region (va (J a) (va (B (decide (a≥0))) ?_));rcases bo (decide (a≥0)) with f | f
  ·have x:=anT f t;refine vb f (wa (J a) (wa (B (decide (a≤31))) ?_));obtain rfl:=si x;refine va (B (decide (a≤31))) ?_;rcases bo (decide (a≤31)) with g | g
   ·obtain rfl:=orT g n;exact vb g (pz (pz (pz (vv (B true) (wln (jn c0 ⟨e,rfl⟩))))))
   have i:=orF g n;refine vb g (wa (J a) (wa (B (decide (a≥127))) (wn (bn i fun m u i=>?_))));rcases bo (decide (a≥127)) with h | h
   ·have y:=anT h u;refine vb h (wa (J a) (wa (B (decide (a≤159))) (wn ?_)));obtain rfl:=si y;refine va (B (decide (a≤159))) ?_;obtain rfl:=si i;exact vv (B (decide (a≤159))) (wln (jn c0 ⟨e,rfl⟩))
   obtain rfl:=anF h u;refine vb h (pz (wa (B false) ?_));obtain rfl:=si i;exact vv (B false) (wln (jn c0 ⟨e,rfl⟩))
  obtain rfl:=anF f t;refine vb f (pz (va (B false) ?_));have j:false=false:=rfl;have d:=orF j n;refine vb j (wa (J a) (wa (B (decide (a≥127))) (wn (bn d fun m k d=>?_))));rcases bo (decide (a≥127)) with b | b
  ·have o:=anT b k;refine vb b (wa (J a) (wa (B (decide (a≤159))) (wn ?_)));obtain rfl:=si o;refine va (B (decide (a≤159))) ?_;obtain rfl:=si d;exact vv (B (decide (a≤159))) (wln (jn c0 ⟨e,rfl⟩))
  obtain rfl:=anF b k;refine vb b (pz (wa (B false) ?_));obtain rfl:=si d;exact vv (B false) (wln (jn c0 ⟨e,rfl⟩))
 rintro E M ⟨q,A,_,rfl,D,rfl,p,rfl⟩;refine nrm (W.ret ?_);obtain rfl:=si H;exact r1 (qq q ⟨p,rfl⟩)
def cB (p0:aa) (p1:Int):Option (aa×Bool):=
 (if (p1==13)=true then
 (cf p0).bind fun f=>
 some (f.L,f.At.Row,0,false,f.Auto)
 else
 some (p0.L,p0.At.Row,p0.At.Col,p0.At.Pending,p0.Auto)).bind fun b=>
 (if (p1==10)=true then
 (dd (⟨b.1,(⟨b.2.1,b.2.2.1,b.2.2.2.1⟩:ai),b.2.2.2.2⟩:aa)).bind fun c=>
 some (c.L,c.At.Row,c.At.Col,c.At.Pending,c.Auto)
 else
 some (b.1,b.2.1,b.2.2.1,b.2.2.2.1,b.2.2.2.2)).bind fun a=>
 (if (p1==8)=true then
 (cf (⟨a.1,(⟨a.2.1,a.2.2.1,a.2.2.2.1⟩:ai),a.2.2.2.2⟩:aa)).bind fun e=>
 some (e.L,e.At.Row,(aE 0 (w64 (e.At.Col - 1))),false,e.Auto)
 else
 some (a.1,a.2.1,a.2.2.1,a.2.2.2.1,a.2.2.2.2)).bind fun d=>
 (dr p1).bind fun g=>
 some ((⟨d.1,(⟨d.2.1,d.2.2.1,d.2.2.2.1⟩:ai),d.2.2.2.2⟩:aa),g)
theorem rW (O0:Own c0 G F) (h:aa) (i:Int) {r:aa×Bool} (h2:Sl an c0 v1 h.L) (H:cB h i=some r): Calls prog 131 #[.agg #[v1,I h.At.Row,I h.At.Col,B h.At.Pending,B h.Auto],J i] c0.w (aO c0 fun c v=>∃y1,Own c G (F)∧v= .tuple #[.agg #[y1,I r.1.At.Row,I r.1.At.Col,B r.1.At.Pending,B r.1.Auto],B r.2]∧Sl an c y1 r.1.L):=by
 unfold cB at H;refine en func131 rfl rfl (sr ?_);obtain ⟨a3,a4,a5,rfl⟩:=(h2).form;refine me (al 31 [.slice a3 a4 a5,I h.At.Row,I h.At.Col,B h.At.Pending,B h.Auto] O0) ?_;rintro v9 c8 l8 ⟨f,rfl,O7⟩;refine me (al 31 [Y,I 0,I 0,B false,B false] O7) ?_;rintro v13 j0 d3 ⟨p,rfl,S⟩;refine va (B false) (wln (bn H fun e j b1=>W.seqJ (Jn j0 fun c l=>∃v16,Own c G ((Eb p 31 [Y,I 0,I 0,B false,B false]) :: (Eb f 31 [v16,I e.2.1,I e.2.2.1,B e.2.2.2.1,B e.2.2.2.2]) :: F)∧l= [(1,J i),(2,Q f),(4,Q p)]∧Sl an c v16 e.1) ?_ ?_))
 ·refine sr (va (J i) (va (B (i==13)) (wln (cn j (fun x1 j=>?_) (fun x1 j=>?_)))))
  ·refine sr (vx (leN 31 0 [.slice a3 a4 a5,I h.At.Row,I h.At.Col,B h.At.Pending,B h.Auto] (S.on 1 rfl)) (bn j fun g z1 j=>cl (dy S h h2.m z1) ?_));rintro v26 p2 e3 ⟨v19,d1,rfl,X⟩;obtain ⟨z,A,D,rfl⟩:=(X).form;refine md (sA 31 [.slice z A D,I g.At.Row,I g.At.Col,B g.At.Pending,B g.Auto] 1 d1 ⟨X.one,rfl,rfl,rfl,rfl,trivial⟩) ?_;rintro q2 f3 e1;refine wln (sr (va (Qo f 1) (va (Qo f 2) (md (sC 3 2 (I 0) [.slice z A D,I g.At.Row,I 0,B g.At.Pending,B g.Auto] 1 e1 ⟨rfl,trivial⟩) ?_))));rintro s2 g3 f1;refine wln (W.region (va (Qo f 1) (va (Qo f 3) (md (sC 4 3 (B false) [.slice z A D,I g.At.Row,I 0,B false,B g.Auto] 1 f1 ⟨rfl,trivial⟩) ?_))));rintro q1 h3 g1;refine wln ?_;obtain rfl:=si j;exact jn q1 ⟨(.slice z A D),g1,rfl,X.m⟩
  refine W.skip (nrm ?_);obtain rfl:=si j;exact jn j0 ⟨(.slice a3 a4 a5),S,rfl,h2.m⟩
 rintro e_ w_ ⟨k0,y2,_,rfl,i3,rfl,v16,T,rfl,m0⟩;refine bn b1 fun d k c1=>W.seqJ (Jn k0 fun c l=>∃v45,Own c G ((Eb p 31 [Y,I 0,I 0,B false,B false]) :: (Eb f 31 [v45,I d.2.1,I d.2.2.1,B d.2.2.2.1,B d.2.2.2.2]) :: F)∧l= [(1,J i),(2,Q f),(4,Q p)]∧Sl an c v45 d.1) ?_ ?_
 ·refine sr (va (J i) (va (B (i==10)) (wln (cn k (fun b2 k=>?_) (fun b2 k=>?_)))))
  ·refine W.region (vx (leN 31 0 [v16,I e.2.1,I e.2.2.1,B e.2.2.2.1,B e.2.2.2.2] (T.on 1 rfl)) (bn k fun u c2 k=>cl (jX T (⟨e.1,(⟨e.2.1,e.2.2.1,e.2.2.2.1⟩:ai),e.2.2.2.2⟩:aa) m0 c2) ?_));rintro v55 t2 j3 ⟨v48,h1,rfl,Z⟩;obtain ⟨g0,h0,i0,rfl⟩:=(Z).form;refine md (sA 31 [.slice g0 h0 i0,I u.At.Row,I u.At.Col,B u.At.Pending,B u.Auto] 1 h1 ⟨Z.one,rfl,rfl,rfl,rfl,trivial⟩) ?_;rintro s1 k3 i1;refine wln ?_;obtain rfl:=si k;exact jn s1 ⟨(.slice g0 h0 i0),i1,rfl,Z.m⟩
  refine W.skip (nrm ?_);obtain rfl:=si k;exact jn k0 ⟨v16,T,rfl,m0⟩
 rintro e_ w_ ⟨l0,z2,_,rfl,l3,rfl,v45,U,rfl,o0⟩;refine bn c1 fun a n P=>W.seqJ (Jn l0 fun c l=>∃o,Own c G ((Eb p 31 [Y,I 0,I 0,B false,B false]) :: (Eb f 31 [o,I a.2.1,I a.2.2.1,B a.2.2.2.1,B a.2.2.2.2]) :: F)∧l= [(1,J i),(2,Q f),(4,Q p)]∧Sl an c o a.1) ?_ ?_
 ·refine sr (va (J i) (va (B (i==8)) (wln (cn n (fun d2 n=>?_) (fun d2 n=>?_)))))
  ·refine sr (vx (leN 31 0 [v45,I d.2.1,I d.2.2.1,B d.2.2.2.1,B d.2.2.2.2] (U.on 1 rfl)) (bn n fun b e2 n=>cl (dy U (⟨d.1,(⟨d.2.1,d.2.2.1,d.2.2.2.1⟩:ai),d.2.2.2.2⟩:aa) o0 e2) ?_));rintro t3 u2 m3 ⟨s3,j1,rfl,a0⟩;obtain ⟨E,M,N,rfl⟩:=(a0).form;refine md (sA 31 [.slice E M N,I b.At.Row,I b.At.Col,B b.At.Pending,B b.Auto] 1 j1 ⟨a0.one,rfl,rfl,rfl,rfl,trivial⟩) ?_;rintro v2 n3 e0;refine wln (sr (va (Qo f 1) (va (Qo f 2) (vx (le1 2 u_3 (e0.on 1 rfl)) (va (I (w64 (b.At.Col - 1))) (va (I (aE 0 (w64 (b.At.Col - 1)))) (va (Qo f 1) (va (Qo f 2) (md (sC 3 2 (I (aE 0 (w64 (b.At.Col - 1)))) [.slice E M N,I b.At.Row,I (aE 0 (w64 (b.At.Col - 1))),B b.At.Pending,B b.Auto] 1 e0 ⟨rfl,trivial⟩) ?_)))))))));rintro w2 o3 k1;refine wln (W.region (va (Qo f 1) (va (Qo f 3) (md (sC 4 3 (B false) [.slice E M N,I b.At.Row,I (aE 0 (w64 (b.At.Col - 1))),B false,B b.Auto] 1 k1 ⟨rfl,trivial⟩) ?_))));rintro t1 p3 m1;refine wln ?_;obtain rfl:=si n;exact jn t1 ⟨(.slice E M N),m1,rfl,a0.m⟩
  refine W.skip (nrm ?_);obtain rfl:=si n;exact jn l0 ⟨v45,U,rfl,o0⟩
 rintro e_ w_ ⟨x2,b3,_,rfl,q3,rfl,o,n1,rfl,b0⟩;refine W.seq (rD [] (Kp G0 [(Eb f 31 [o,I a.2.1,I a.2.2.1,B a.2.2.2.1,B a.2.2.2.2])]) n1 ?_);intro u1 f2 f0;have g2:Kp G0 [(Eb f 31 [o,I a.2.1,I a.2.2.1,B a.2.2.2.1,B a.2.2.2.2])] u1:=(Kp.cons (f0.on 1 rfl) Kp.nil0);refine tkx 0 g2 (fun c' c3 hk=>leN 31 0 [o,I a.2.1,I a.2.2.1,B a.2.2.2.1,B a.2.2.2.2] (hk.on 0 rfl)) (ta 1 (J i) (bn P fun d0 w0 P=>o1 2 (gc 2 (jG f0 i w0) ?_)));rintro o2 v0 y0 ⟨R,rfl⟩;have z0:Kp G0 [(Eb f 31 [o,I a.2.1,I a.2.2.1,B a.2.2.2.1,B a.2.2.2.2])] v0:=(Kp.cons (R.on 1 rfl) Kp.nil0);refine ⟨.inr z0,?_⟩;obtain ⟨q,s,t,rfl⟩:=((b0.mono (f2.trans y0))).form;refine o1 3 (gD 3 (sA 31 [.slice q s t,I a.2.1,I a.2.2.1,B a.2.2.2.1,B a.2.2.2.2] 0 R ⟨b0.m.one,rfl,rfl,rfl,rfl,trivial⟩) ?_);rintro y n2 x;have a1:Kp G0 [(Eb f 31 [(.slice q s t),I a.2.1,I a.2.2.1,B a.2.2.2.1,B a.2.2.2.2])] y:=(Kp.cons (x.on 1 rfl) Kp.nil0);refine ⟨.inr a1,ta 4 (B d0) (dn (nrm (W.ret ?_)))⟩;obtain rfl:=si P;have q0:=x.sD 2 [];exact qr (c:=y) (vs:=[.slice q s t,I a.2.1,I a.2.2.1,B a.2.2.2.1,B a.2.2.2.2]) (v:=B d0) rfl (by kernel_rfl) (by kernel_rfl) (by kernel_rfl) (by kernel_rfl) (x.on 0 rfl _ rfl).1 ⟨_,y,rfl,rfl,pt,(.slice q s t),q0,rfl,b0.m⟩
def lQ (p0:Int):Option (Bool):=
 (if (p0==1)=true then
 some (p0==1)
 else
 if (p0==2)=true then
 some (p0==2)
 else
 some (p0==3)).bind fun c=>
 if c=true then
 some true
 else
 (if (p0==4)=true then
 some (p0==4)
 else
 some (p0==5)).bind fun a=>
 if a=true then
 some true
 else
 (if (p0==10)=true then
 some (p0==10)
 else
 some (p0==11)).bind fun b=>
 if b=true then
 some true
 else
 some false
theorem xF (o:Own c0 G F) (a:Int) {r:Bool} (H:lQ a=some r): Calls prog 317 #[I a] c0.w (aO c0 fun c v=>Own c G (F)∧v=B r):=by
 unfold lQ at H;refine en func317 rfl rfl (sr (va (B false) (wln (W.seq (sr (va (I a) (wln (W.block (W.seq (W.block (W.block (W.block (W.seq (W.seq (bn H fun E b i=>W.seqJ (Jn c0 fun c l=>Own c G (F)∧l= [(3,I a),(4,B E)]) ?_ ?_)))))))))))))))
 ·refine sr (vv (B (a==1)) (wln (cn b (fun M b=>?_) (fun M b=>?_))))
  ·refine W.skip (nrm ?_);obtain rfl:=si b;exact jn c0 ⟨o,rfl⟩
  refine sr (vv (B (a==2)) (wln (cn b (fun N b=>?_) (fun N b=>?_))))
  ·refine W.skip (nrm ?_);obtain rfl:=si b;exact jn c0 ⟨o,rfl⟩
  refine W.region (vv (B (a==3)) (wln ?_));obtain rfl:=si b;exact jn c0 ⟨o,rfl⟩
 rintro t D ⟨k,U,_,rfl,X,rfl,p,rfl⟩;refine cn i (fun u i=>?_) (fun u i=>?_)
 ·refine W.exit (thx (thx (bke (bkn (bkn (nrm (W.seq (sr (va (B true) (wln (W.ret (thr (bkr (thr ?_))))))))))))));obtain rfl:=si i;exact r1 (qq k ⟨p,rfl⟩)
 refine W.skip (nrm (W.seq (bn i fun q d e=>W.seqJ (Jn k fun c l=>Own c G (F)∧l= [(3,I a),(8,B q)]) ?_ ?_)))
 ·refine sr (vv (B (a==4)) (wln (cn d (fun x d=>?_) (fun x d=>?_))))
  ·refine W.skip (nrm ?_);obtain rfl:=si d;exact jn k ⟨p,rfl⟩
  refine W.region (vv (B (a==5)) (wln ?_));obtain rfl:=si d;exact jn k ⟨p,rfl⟩
 rintro t D ⟨h,P,_,rfl,S,rfl,j,rfl⟩;refine cn e (fun y e=>?_) (fun y e=>?_)
 ·refine W.exit (thx (thx (bko rfl (bke (bkn (nrm (W.seq (sr (va (B true) (wln (W.ret (thr (bkr (thr ?_))))))))))))));obtain rfl:=si e;exact r1 (qq h ⟨j,rfl⟩)
 refine W.skip (nrm (bn e fun s f g=>W.seqJ (Jn h fun c l=>Own c G (F)∧l= [(11,B s)]) ?_ ?_))
 ·refine sr (vv (B (a==10)) (wln (cn f (fun z f=>?_) (fun z f=>?_))))
  ·refine W.skip (nrm ?_);obtain rfl:=si f;exact jn h ⟨j,rfl⟩
  refine W.region (vv (B (a==11)) (wln ?_));obtain rfl:=si f;exact jn h ⟨j,rfl⟩
 rintro t D ⟨n,R,_,rfl,T,rfl,m,rfl⟩;refine cn g (fun A g=>?_) (fun A g=>?_)
 ·refine W.exit (thx (bko rfl (bko rfl (bke (nrm (W.seq (sr (va (B true) (wln (W.ret (thr (bkr (thr ?_)))))))))))));obtain rfl:=si g;exact r1 (qq n ⟨m,rfl⟩)
 refine W.skip (nrm (W.exit (bko rfl (bko rfl (bko rfl (thx (bke (nrm (sr (va (B false) (wln (W.ret ?_))))))))))));obtain rfl:=si g;exact r1 (qq n ⟨m,rfl⟩)
def ns (p0:aw):Option (Int):=
 (lQ p0.Break).bind fun b=>
 if b=true then
 some 0
 else
 (orE (p0.East==1) (some (p0.East==2))).bind fun a=>
 if a=true then
 some 2
 else
 some 1
theorem zR (q:Own c0 G F) (a:aw) {r:Int} (H:ns a=some r): Calls prog 305 #[.agg #[I a.Break,B a.Pict,I a.Conj,I a.East]] c0.w (aO c0 fun c v=>Own c G (F)∧v=I r):=by
 unfold ns at H;refine en func305 rfl rfl (sr (me (bx 238 [I a.Break,B a.Pict,I a.Conj,I a.East] q) ?_));rintro v5 z D ⟨i,rfl,s,k⟩;refine va (I 0) (wln (W.seq (W.block (sr (va (Q i) (vx (l1 u_3 (k 0 _ rfl)) (bn H fun p t H=>cl (xF s a.Break t) ?_)))))));rintro v12 d x ⟨h,rfl⟩;refine va (B p) (wln (cn H (fun n H=>?_) (fun n H=>?_)))
 ·refine sr (va (I 0) (wln (W.ret (bkr (thr ?_)))));obtain rfl:=si H;exact r1 (qq d ⟨h,rfl⟩)
 refine W.seq (bn H fun j g H=>W.join (Jn d fun c l=>Own c G (F)∧l= [(7,B j)]) ?_ ?_)
 ·clear H;refine W.region (va (Qo i (0+3)) (vx (l1 u_3 ((mm k) 3 _ rfl)) (va (B (a.East==1)) ?_)));rcases bo (a.East==1) with b | b
  ·obtain rfl:=orT b g;exact vb b (pz (ps (vv (B true) (wln (jn d ⟨h,rfl⟩)))))
  have m:=orF b g;refine vb b (wa (Qo i (0+3)) (wn (vx (l1 u_3 ((mm k) 3 _ rfl)) (wa (B (a.East==2)) ?_))));obtain rfl:=si m;exact vv (B (a.East==2)) (wln (jn d ⟨h,rfl⟩))
 rintro A E ⟨f,u,_,rfl,y,rfl,e,rfl⟩;refine nrm (cn H (fun o H=>?_) (fun o H=>?_))
 ·refine sr (va (I 2) (wln (W.ret (bkr (thr ?_)))));obtain rfl:=si H;exact r1 (qq f ⟨e,rfl⟩)
 refine W.skip (bkn (nrm (sr (va (I 1) (wln (W.ret ?_))))));obtain rfl:=si H;exact r1 (qq f ⟨e,rfl⟩)
def cp (p0:bB) (p1:Int) (p2:aw):Option (Bool):=
 (ns p2).bind fun d=>
 if (d==2)=true then
 some true
 else
 if (!p0.some)=true then
 some false
 else
 (bV (p1==65039) (some p0.pict)).bind fun a=>
 (orE a (some p2.Pict)).bind fun b=>
 (orE b (some (p2.Break==6))).bind fun c=>
 some c
theorem jY {b:Nat} {r0_0:Value} {r0_1:Value} {r0_2:Value} {r0_3:Value} {r0_4:Value} {r0_5:Value} {r0_6:Value} {r0_7:Value} {r0_8:Value} {r0_9:Value} {r0_10:Value} {r0_11:Value} {r0_12:Value} {r0_13:Value} {r0_14:Value} {r0_15:Value} {r0_16:Value} {r0_17:Value} {r0_18:Value} {r0_19:Value} {r0_20:Value} (d:bB) (o:Int) (a:aw) (S:Own c0 G ((Eb b 338 [r0_0,r0_1,r0_2,r0_3,r0_4,r0_5,r0_6,r0_7,r0_8,r0_9,r0_10,r0_11,r0_12,r0_13,r0_14,r0_15,r0_16,r0_17,r0_18,r0_19,r0_20,B d.some,B d.pict,B d.wide]) :: F)) {r:Bool} (H:cp d o a=some r): Calls prog 265 #[.pointer (some ⟨b,21,none⟩),J o,.agg #[I a.Break,B a.Pict,I a.Conj,I a.East]] c0.w (aO c0 fun c v=>Own c G ((Eb b 338 [r0_0,r0_1,r0_2,r0_3,r0_4,r0_5,r0_6,r0_7,r0_8,r0_9,r0_10,r0_11,r0_12,r0_13,r0_14,r0_15,r0_16,r0_17,r0_18,r0_19,r0_20,B d.some,B d.pict,B d.wide]) :: F)∧v=B r):=by
 unfold cp at H;refine en func265 rfl rfl (sr (me (bx 238 [I a.Break,B a.Pict,I a.Conj,I a.East] S) ?_));rintro v5 c4 l4 ⟨p,rfl,T,n⟩;refine va (B false) (wln (W.seq (W.block (sr (vx (lN 238 n) (bn H fun u Z H=>cl (zR T a Z) ?_))))));rintro v12 e b0 ⟨f,rfl⟩;refine vv (B (u==2)) (wln (cn H (fun P H=>?_) (fun P H=>?_)))
 ·refine sr (va (B true) (wln (W.ret (bkr (thr ?_)))));obtain rfl:=si H;exact r1 (qq e ⟨f,rfl⟩)
 refine sr (vv (Qo b 21) (va (Qo b 21) (vx (le1 21 u_4 (f.on 0 rfl)) (vv (B (!d.some)) (wln (cn H (fun R H=>?_) (fun R H=>?_)))))))
 ·refine sr (va (B false) (wln (W.ret (bkr (thr ?_)))));obtain rfl:=si H;exact r1 (qq e ⟨f,rfl⟩)
 refine W.skip (bkn (nrm (W.seq (bn H fun U q H=>bn H fun X m H=>bn H fun x g H=>W.join (Jn e fun c l=>Own c G ((Eb b 338 [r0_0,r0_1,r0_2,r0_3,r0_4,r0_5,r0_6,r0_7,r0_8,r0_9,r0_10,r0_11,r0_12,r0_13,r0_14,r0_15,r0_16,r0_17,r0_18,r0_19,r0_20,B d.some,B d.pict,B d.wide]) :: F)∧l= [(6,B x)]) ?_ ?_))))
 ·clear H;refine W.region (va (J o) (va (B (o==65039)) ?_));rcases bo (o==65039) with h | h
  ·have y:=anT h q;refine vb h (wa (Qo b 21) (wa (Qo b 21) (wa (Qo b 22) (wn (vx (le1 22 u_4 (f.on 0 rfl)) ?_)))));obtain rfl:=si y;refine va (B d.pict) ?_;rcases bo (d.pict) with i | i
   ·obtain rfl:=orT i m;refine vb i (pz (va (B true) ?_));have s:true=true:=rfl;obtain rfl:=orT s g;exact vb s (pz (ps (vv (B true) (wln (jn e ⟨f,rfl⟩)))))
   have z:=orF i m;refine vb i (wa (Qo p (0+1)) (wn (vx (l1 u_4 ((mm n) 1 _ rfl)) ?_)));obtain rfl:=si z;refine va (B a.Pict) ?_;rcases bo (a.Pict) with j | j
   ·obtain rfl:=orT j g;exact vb j (pz (ps (vv (B true) (wln (jn e ⟨f,rfl⟩)))))
   have A:=orF j g;refine vb j (wa (Q p) (wn (vx (l1 u_3 ((mm n) 0 _ rfl)) (wa (B (a.Break==6)) ?_))));obtain rfl:=si A;exact vv (B (a.Break==6)) (wln (jn e ⟨f,rfl⟩))
  obtain rfl:=anF h q;refine vb h (pz (pz (va (B false) ?_)));have t:false=false:=rfl;have D:=orF t m;refine vb t (wa (Qo p (0+1)) (wn (vx (l1 u_4 ((mm n) 1 _ rfl)) ?_)));obtain rfl:=si D;refine va (B a.Pict) ?_;rcases bo (a.Pict) with k | k
  ·obtain rfl:=orT k g;exact vb k (pz (ps (vv (B true) (wln (jn e ⟨f,rfl⟩)))))
  have E:=orF k g;refine vb k (wa (Q p) (wn (vx (l1 u_3 ((mm n) 0 _ rfl)) (wa (B (a.Break==6)) ?_))));obtain rfl:=si E;exact vv (B (a.Break==6)) (wln (jn e ⟨f,rfl⟩))
 rintro e_ w_ ⟨N,a0,_,rfl,d0,rfl,M,rfl⟩;refine nrm (W.ret ?_);obtain rfl:=si H;exact r1 (qq N ⟨M,rfl⟩)
def cy (p0:bB) (p1:Int) (p2:aw):Option (bB×Int):=
 if false=true then
 some (p0,1)
 else
 (orE p0.wide ((cp p0 p1 p2).bind fun b=>
 some b)).bind fun a=>
 if a=true then
 some ((⟨true,p2.Pict,a⟩:bB),2)
 else
 some ((⟨true,p2.Pict,a⟩:bB),1)
theorem kJ {a:Nat} {r0_0:Value} {r0_1:Value} {r0_2:Value} {r0_3:Value} {r0_4:Value} {r0_5:Value} {r0_6:Value} {r0_7:Value} {r0_8:Value} {r0_9:Value} {r0_10:Value} {r0_11:Value} {r0_12:Value} {r0_13:Value} {r0_14:Value} {r0_15:Value} {r0_16:Value} {r0_17:Value} {r0_18:Value} {r0_19:Value} {r0_20:Value} (b:bB) (k:Int) (d:aw) (T:Own c0 G ((Eb a 338 [r0_0,r0_1,r0_2,r0_3,r0_4,r0_5,r0_6,r0_7,r0_8,r0_9,r0_10,r0_11,r0_12,r0_13,r0_14,r0_15,r0_16,r0_17,r0_18,r0_19,r0_20,B b.some,B b.pict,B b.wide]) :: F)) {r:bB×Int} (H:cy b k d=some r): Calls prog 215 #[.pointer (some ⟨a,21,none⟩),J k,.agg #[I d.Break,B d.Pict,I d.Conj,I d.East]] c0.w (aO c0 fun c v=>Own c G ((Eb a 338 [r0_0,r0_1,r0_2,r0_3,r0_4,r0_5,r0_6,r0_7,r0_8,r0_9,r0_10,r0_11,r0_12,r0_13,r0_14,r0_15,r0_16,r0_17,r0_18,r0_19,r0_20,B r.1.some,B r.1.pict,B r.1.wide]) :: F)∧v=I r.2):=by
 unfold cy at H;refine en func215 rfl rfl (sr (me (bx 238 [I d.Break,B d.Pict,I d.Conj,I d.East] T) ?_));rintro v5 X l4 ⟨x,rfl,m,P⟩;refine va (I 0) (wln (W.seq (sr (va (Qo a 21) (va (B false) (wln (W.cond (t:=false) (by kernel_rfl) (fun n=>?_) (fun n=>?_))))))))
 ·cases n
 have H:=ie n H;refine W.skip (nrm (W.seq (bn H fun e N H=>W.join (Jn X fun c l=>Own c G ((Eb a 338 [r0_0,r0_1,r0_2,r0_3,r0_4,r0_5,r0_6,r0_7,r0_8,r0_9,r0_10,r0_11,r0_12,r0_13,r0_14,r0_15,r0_16,r0_17,r0_18,r0_19,r0_20,B b.some,B b.pict,B e]) :: F)∧l= [(0,.pointer (some ⟨a,21,none⟩)),(5,Q x)]) ?_ ?_)))
 ·clear H;refine W.region (vv (Qo a 21) (va (Qo a 21) (va (Qo a 23) (vx (le1 23 u_4 (m.on 0 rfl)) ?_))));rcases bo (b.wide) with j | j
  ·obtain rfl:=orT j N;refine vb j (pz (pz (va (B true) (va (Qo a 21) (va (Qo a 23) (md (sC 4 23 (B true) [r0_0,r0_1,r0_2,r0_3,r0_4,r0_5,r0_6,r0_7,r0_8,r0_9,r0_10,r0_11,r0_12,r0_13,r0_14,r0_15,r0_16,r0_17,r0_18,r0_19,r0_20,B b.some,B b.pict,B true] 0 m ⟨rfl,trivial⟩) ?_))))));rintro y e0 U;exact wln (jn y ⟨U,rfl⟩)
  have g:=orF j N;refine vb j (wa (Qo a 21) (wa (J k) (wn (vx (lN 238 P) (wn (bn g fun f E g=>cl (jY b k d m E) ?_))))));rintro v19 Z f0 ⟨o,rfl⟩;obtain rfl:=si g;refine va (B f) (va (Qo a 21) (va (Qo a 23) (md (sC 4 23 (B f) [r0_0,r0_1,r0_2,r0_3,r0_4,r0_5,r0_6,r0_7,r0_8,r0_9,r0_10,r0_11,r0_12,r0_13,r0_14,r0_15,r0_16,r0_17,r0_18,r0_19,r0_20,B b.some,B b.pict,B f] 0 o ⟨rfl,trivial⟩) ?_)));rintro z g0 p;exact wln (jn z ⟨p,rfl⟩)
 rintro e_ w_ ⟨a0,b0,_,rfl,h0,rfl,q,rfl⟩;refine nrm (W.seq (rD [] (Kp G0 []) q ?_));intro A i0 s;have l0:Kp G0 [] A:=Kp.nil0;refine ta 0 (.pointer (some ⟨a,21,none⟩)) (ta 1 (Qo a 21) (ta 2 (Qo x (0+1)) (tx 3 (fun c' d0=>l1 u_4 ((mm P) 1 _ rfl)) (ta 4 (Qo a 21) (ta 5 (Qo a 21) (o1 6 (gD 6 (sC 4 21 (B true) [r0_0,r0_1,r0_2,r0_3,r0_4,r0_5,r0_6,r0_7,r0_8,r0_9,r0_10,r0_11,r0_12,r0_13,r0_14,r0_15,r0_16,r0_17,r0_18,r0_19,r0_20,B true,B b.pict,B e] 0 s ⟨rfl,trivial⟩) ?_)))))));rintro D j0 u;have R:Kp G0 [] D:=Kp.nil0;refine ⟨.inr R,ta 7 (.pointer (some ⟨a,21,none⟩)) (ta 8 (Qo a 22) (o1 9 (gD 9 (sC 4 22 (B d.Pict) [r0_0,r0_1,r0_2,r0_3,r0_4,r0_5,r0_6,r0_7,r0_8,r0_9,r0_10,r0_11,r0_12,r0_13,r0_14,r0_15,r0_16,r0_17,r0_18,r0_19,r0_20,B true,B d.Pict,B e] 0 u ⟨rfl,trivial⟩) ?_)))⟩;rintro i k0 h;have S:Kp G0 [] i:=Kp.nil0;refine ⟨.inr S,dn (nrm (W.seq (sr (vv (Qo a 21) (va (Qo a 23) (vx (le1 23 u_4 (h.on 0 rfl)) (wln (cn H (fun M H=>?_) (fun M H=>?_)))))))))⟩
 ·refine sr (va (I 2) (wln (W.ret (thr ?_))));obtain rfl:=si H;exact r1 (qq i ⟨h,rfl⟩)
 refine W.skip (nrm (sr (va (I 1) (wln (W.ret ?_)))));obtain rfl:=si H;exact r1 (qq i ⟨h,rfl⟩)
def cY (p0:bG):Option (Int):=
 if false=true then
 some 0
 else
 some p0.n
theorem ku {b:Nat} {r0_0:Value} {r0_1:Value} {r0_2:Value} {r0_3:Value} {r0_21:Value} {r0_22:Value} {r0_23:Value} (a:bG) (e:Own c0 G ((Eb b 338 [r0_0,r0_1,r0_2,r0_3,J a.text.1,J a.text.2.1,J a.text.2.2.1,J a.text.2.2.2.1,J a.text.2.2.2.2.1,J a.text.2.2.2.2.2.1,J a.text.2.2.2.2.2.2.1,J a.text.2.2.2.2.2.2.2.1,J a.text.2.2.2.2.2.2.2.2.1,J a.text.2.2.2.2.2.2.2.2.2.1,J a.text.2.2.2.2.2.2.2.2.2.2.1,J a.text.2.2.2.2.2.2.2.2.2.2.2.1,J a.text.2.2.2.2.2.2.2.2.2.2.2.2.1,J a.text.2.2.2.2.2.2.2.2.2.2.2.2.2.1,J a.text.2.2.2.2.2.2.2.2.2.2.2.2.2.2.1,J a.text.2.2.2.2.2.2.2.2.2.2.2.2.2.2.2,I a.n,r0_21,r0_22,r0_23]) :: F)) {r:Int} (H:cY a=some r): Calls prog 318 #[.pointer (some ⟨b,4,none⟩)] c0.w (aO c0 fun c v=>Own c G ((Eb b 338 [r0_0,r0_1,r0_2,r0_3,J a.text.1,J a.text.2.1,J a.text.2.2.1,J a.text.2.2.2.1,J a.text.2.2.2.2.1,J a.text.2.2.2.2.2.1,J a.text.2.2.2.2.2.2.1,J a.text.2.2.2.2.2.2.2.1,J a.text.2.2.2.2.2.2.2.2.1,J a.text.2.2.2.2.2.2.2.2.2.1,J a.text.2.2.2.2.2.2.2.2.2.2.1,J a.text.2.2.2.2.2.2.2.2.2.2.2.1,J a.text.2.2.2.2.2.2.2.2.2.2.2.2.1,J a.text.2.2.2.2.2.2.2.2.2.2.2.2.2.1,J a.text.2.2.2.2.2.2.2.2.2.2.2.2.2.2.1,J a.text.2.2.2.2.2.2.2.2.2.2.2.2.2.2.2,I a.n,r0_21,r0_22,r0_23]) :: F)∧v=I r):=by
 unfold cY at H;refine en func318 rfl rfl (sr (va (I 0) (wln (W.seq (sr (va (Qo b 4) (va (B false) (wln (W.cond (t:=false) (by kernel_rfl) (fun d=>?_) (fun d=>?_))))))))))
 ·cases d
 have H:=ie d H;refine W.skip (nrm (sr (vv (Qo b 4) (va (Qo b 20) (vx (le1 20 u_3 (e.on 0 rfl)) (va (I a.n) (wln (W.ret ?_))))))));obtain rfl:=si H;exact r1 (qq c0 ⟨e,rfl⟩)
def bR (p0:bG):Option (Bool):=
 (cY p0).bind fun a=>
 some (a==16)
theorem fM {b:Nat} {r0_0:Value} {r0_1:Value} {r0_2:Value} {r0_3:Value} {r0_21:Value} {r0_22:Value} {r0_23:Value} (a:bG) (e:Own c0 G ((Eb b 338 [r0_0,r0_1,r0_2,r0_3,J a.text.1,J a.text.2.1,J a.text.2.2.1,J a.text.2.2.2.1,J a.text.2.2.2.2.1,J a.text.2.2.2.2.2.1,J a.text.2.2.2.2.2.2.1,J a.text.2.2.2.2.2.2.2.1,J a.text.2.2.2.2.2.2.2.2.1,J a.text.2.2.2.2.2.2.2.2.2.1,J a.text.2.2.2.2.2.2.2.2.2.2.1,J a.text.2.2.2.2.2.2.2.2.2.2.2.1,J a.text.2.2.2.2.2.2.2.2.2.2.2.2.1,J a.text.2.2.2.2.2.2.2.2.2.2.2.2.2.1,J a.text.2.2.2.2.2.2.2.2.2.2.2.2.2.2.1,J a.text.2.2.2.2.2.2.2.2.2.2.2.2.2.2.2,I a.n,r0_21,r0_22,r0_23]) :: F)) {r:Bool} (H:bR a=some r): Calls prog 306 #[.pointer (some ⟨b,4,none⟩)] c0.w (aO c0 fun c v=>Own c G ((Eb b 338 [r0_0,r0_1,r0_2,r0_3,J a.text.1,J a.text.2.1,J a.text.2.2.1,J a.text.2.2.2.1,J a.text.2.2.2.2.1,J a.text.2.2.2.2.2.1,J a.text.2.2.2.2.2.2.1,J a.text.2.2.2.2.2.2.2.1,J a.text.2.2.2.2.2.2.2.2.1,J a.text.2.2.2.2.2.2.2.2.2.1,J a.text.2.2.2.2.2.2.2.2.2.2.1,J a.text.2.2.2.2.2.2.2.2.2.2.2.1,J a.text.2.2.2.2.2.2.2.2.2.2.2.2.1,J a.text.2.2.2.2.2.2.2.2.2.2.2.2.2.1,J a.text.2.2.2.2.2.2.2.2.2.2.2.2.2.2.1,J a.text.2.2.2.2.2.2.2.2.2.2.2.2.2.2.2,I a.n,r0_21,r0_22,r0_23]) :: F)∧v=B r):=by
 unfold bR at H;refine en func306 rfl rfl (sr (va (B false) (wln (sr (va (Qo b 4) (bn H fun d h H=>cl (ku a e h) ?_))))));rintro v8 g i ⟨f,rfl⟩;refine vv (B (d==16)) (wln (W.ret ?_));obtain rfl:=si H;exact r1 (qq g ⟨f,rfl⟩)
def cv (p0:bG) (p1:Int):Option (bG×Bool):=
 (orE false ((bR p0).bind fun c=>
 some c)).bind fun b=>
 if b=true then
 some (p0,false)
 else
 (idx (a16 p0.text) p0.n).bind fun d=>
 (some (zV p0.text p0.n p1)).bind fun a=>
 some ((⟨a,(w64 (p0.n+1))⟩:bG),true)
theorem kv {d:Nat} {r0_0:Value} {r0_1:Value} {r0_2:Value} {r0_3:Value} {r0_21:Value} {r0_22:Value} {r0_23:Value} (a:bG) (f:Int) (M:Own c0 G ((Eb d 338 [r0_0,r0_1,r0_2,r0_3,J a.text.1,J a.text.2.1,J a.text.2.2.1,J a.text.2.2.2.1,J a.text.2.2.2.2.1,J a.text.2.2.2.2.2.1,J a.text.2.2.2.2.2.2.1,J a.text.2.2.2.2.2.2.2.1,J a.text.2.2.2.2.2.2.2.2.1,J a.text.2.2.2.2.2.2.2.2.2.1,J a.text.2.2.2.2.2.2.2.2.2.2.1,J a.text.2.2.2.2.2.2.2.2.2.2.2.1,J a.text.2.2.2.2.2.2.2.2.2.2.2.2.1,J a.text.2.2.2.2.2.2.2.2.2.2.2.2.2.1,J a.text.2.2.2.2.2.2.2.2.2.2.2.2.2.2.1,J a.text.2.2.2.2.2.2.2.2.2.2.2.2.2.2.2,I a.n,r0_21,r0_22,r0_23]) :: F)) {r:bG×Bool} (H:cv a f=some r): Calls prog 280 #[.pointer (some ⟨d,4,none⟩),J f] c0.w (aO c0 fun c v=>Own c G ((Eb d 338 [r0_0,r0_1,r0_2,r0_3,J r.1.text.1,J r.1.text.2.1,J r.1.text.2.2.1,J r.1.text.2.2.2.1,J r.1.text.2.2.2.2.1,J r.1.text.2.2.2.2.2.1,J r.1.text.2.2.2.2.2.2.1,J r.1.text.2.2.2.2.2.2.2.1,J r.1.text.2.2.2.2.2.2.2.2.1,J r.1.text.2.2.2.2.2.2.2.2.2.1,J r.1.text.2.2.2.2.2.2.2.2.2.2.1,J r.1.text.2.2.2.2.2.2.2.2.2.2.2.1,J r.1.text.2.2.2.2.2.2.2.2.2.2.2.2.1,J r.1.text.2.2.2.2.2.2.2.2.2.2.2.2.2.1,J r.1.text.2.2.2.2.2.2.2.2.2.2.2.2.2.2.1,J r.1.text.2.2.2.2.2.2.2.2.2.2.2.2.2.2.2,I r.1.n,r0_21,r0_22,r0_23]) :: F)∧v=B r.2):=by
 unfold cv at H;refine en func280 rfl rfl (sr (va (B false) (wln (W.seq (W.seq (bn H fun u R H=>W.join (Jn c0 fun c l=>Own c G ((Eb d 338 [r0_0,r0_1,r0_2,r0_3,J a.text.1,J a.text.2.1,J a.text.2.2.1,J a.text.2.2.2.1,J a.text.2.2.2.2.1,J a.text.2.2.2.2.2.1,J a.text.2.2.2.2.2.2.1,J a.text.2.2.2.2.2.2.2.1,J a.text.2.2.2.2.2.2.2.2.1,J a.text.2.2.2.2.2.2.2.2.2.1,J a.text.2.2.2.2.2.2.2.2.2.2.1,J a.text.2.2.2.2.2.2.2.2.2.2.2.1,J a.text.2.2.2.2.2.2.2.2.2.2.2.2.1,J a.text.2.2.2.2.2.2.2.2.2.2.2.2.2.1,J a.text.2.2.2.2.2.2.2.2.2.2.2.2.2.2.1,J a.text.2.2.2.2.2.2.2.2.2.2.2.2.2.2.2,I a.n,r0_21,r0_22,r0_23]) :: F)∧l= [(0,.pointer (some ⟨d,4,none⟩)),(1,J f),(10,B u)]) ?_ ?_))))))
 ·clear H;refine W.region (va (Qo d 4) (va (B false) ?_));have y:false=false:=rfl;have m:=orF y R;refine vb y (wa (Qo d 4) (wn (bn m fun E S m=>cl (fM a M S) ?_)));rintro v11 p b0 ⟨N,rfl⟩;obtain rfl:=si m;exact va (B E) (wln (jn p ⟨N,rfl⟩))
 rintro e_ w_ ⟨q,a0,_,rfl,d0,rfl,g,rfl⟩;refine nrm (cn H (fun x H=>?_) (fun x H=>?_))
 ·refine sr (va (B false) (wln (W.ret (thr ?_))));obtain rfl:=si H;exact r1 (qq q ⟨g,rfl⟩)
 refine W.skip (nrm (W.seq (rD [9] (Kp G0 [(Eb d 338 [r0_0,r0_1,r0_2,r0_3,J a.text.1,J a.text.2.1,J a.text.2.2.1,J a.text.2.2.2.1,J a.text.2.2.2.2.1,J a.text.2.2.2.2.2.1,J a.text.2.2.2.2.2.2.1,J a.text.2.2.2.2.2.2.2.1,J a.text.2.2.2.2.2.2.2.2.1,J a.text.2.2.2.2.2.2.2.2.2.1,J a.text.2.2.2.2.2.2.2.2.2.2.1,J a.text.2.2.2.2.2.2.2.2.2.2.2.1,J a.text.2.2.2.2.2.2.2.2.2.2.2.2.1,J a.text.2.2.2.2.2.2.2.2.2.2.2.2.2.1,J a.text.2.2.2.2.2.2.2.2.2.2.2.2.2.2.1,J a.text.2.2.2.2.2.2.2.2.2.2.2.2.2.2.2,I a.n,r0_21,r0_22,r0_23])]) g ?_)));intro s e0 h;have D:Kp G0 [(Eb d 338 [r0_0,r0_1,r0_2,r0_3,J a.text.1,J a.text.2.1,J a.text.2.2.1,J a.text.2.2.2.1,J a.text.2.2.2.2.1,J a.text.2.2.2.2.2.1,J a.text.2.2.2.2.2.2.1,J a.text.2.2.2.2.2.2.2.1,J a.text.2.2.2.2.2.2.2.2.1,J a.text.2.2.2.2.2.2.2.2.2.1,J a.text.2.2.2.2.2.2.2.2.2.2.1,J a.text.2.2.2.2.2.2.2.2.2.2.2.1,J a.text.2.2.2.2.2.2.2.2.2.2.2.2.1,J a.text.2.2.2.2.2.2.2.2.2.2.2.2.2.1,J a.text.2.2.2.2.2.2.2.2.2.2.2.2.2.2.1,J a.text.2.2.2.2.2.2.2.2.2.2.2.2.2.2.2,I a.n,r0_21,r0_22,r0_23])] s:=(Kp.cons (h.on 0 rfl) Kp.nil0);refine ta 0 (.pointer (some ⟨d,4,none⟩)) (ta 1 (Qo d 4) (ta 2 (Qo d 4) (ta 3 (Qo d 20) (tkx 4 D (fun P A U=>le1 20 u_3 (U.on 0 rfl)) (ta 5 (J f) (ta 6 (Qo d 4) (ta 7 (Qo d 4) (bn H fun X e H=>AC.take 8 (.pointer (some ⟨d,4+a.n.toNat * 1,none⟩)) rfl (by kernel_rfl) (by kernel_rfl) (fun P A=>(rx (by kernel_rfl) (zt (k:= .i64) underlying289 (by kernel_rfl) (tN e).1 (tN e).2 _))) (bn H fun b z H=>o1 9 (gD 9 (Own.st (T:=21) (j:=4+a.n.toNat * 1) (us:=[J f]) (nw:=[r0_0,r0_1,r0_2,r0_3,J b.1,J b.2.1,J b.2.2.1,J b.2.2.2.1,J b.2.2.2.2.1,J b.2.2.2.2.2.1,J b.2.2.2.2.2.2.1,J b.2.2.2.2.2.2.2.1,J b.2.2.2.2.2.2.2.2.1,J b.2.2.2.2.2.2.2.2.2.1,J b.2.2.2.2.2.2.2.2.2.2.1,J b.2.2.2.2.2.2.2.2.2.2.2.1,J b.2.2.2.2.2.2.2.2.2.2.2.2.1,J b.2.2.2.2.2.2.2.2.2.2.2.2.2.1,J b.2.2.2.2.2.2.2.2.2.2.2.2.2.2.1,J b.2.2.2.2.2.2.2.2.2.2.2.2.2.2.2,I a.n,r0_21,r0_22,r0_23]) (v:=J f) 0 h (by kernel_rfl) rfl rfl rfl rfl (by kernel_rfl) ⟨rfl,trivial⟩ (Hm e (bE rfl)) (GG (k:= .i32) e z [r0_0,r0_1,r0_2,r0_3] [I a.n,r0_21,r0_22,r0_23])) ?_))))))))));rintro Z f0 i;refine ⟨.inl rfl,dn (nrm (sr (vv (Qo d 4) (va (Qo d 20) (vx (le1 20 u_3 (i.on 0 rfl)) (va (I (w64 (a.n+1))) (va (Qo d 4) (va (Qo d 20) (md (sC 3 20 (I (w64 (a.n+1))) [r0_0,r0_1,r0_2,r0_3,J b.1,J b.2.1,J b.2.2.1,J b.2.2.2.1,J b.2.2.2.2.1,J b.2.2.2.2.2.1,J b.2.2.2.2.2.2.1,J b.2.2.2.2.2.2.2.1,J b.2.2.2.2.2.2.2.2.1,J b.2.2.2.2.2.2.2.2.2.1,J b.2.2.2.2.2.2.2.2.2.2.1,J b.2.2.2.2.2.2.2.2.2.2.2.1,J b.2.2.2.2.2.2.2.2.2.2.2.2.1,J b.2.2.2.2.2.2.2.2.2.2.2.2.2.1,J b.2.2.2.2.2.2.2.2.2.2.2.2.2.2.1,J b.2.2.2.2.2.2.2.2.2.2.2.2.2.2.2,I (w64 (a.n+1)),r0_21,r0_22,r0_23] 0 i ⟨rfl,trivial⟩) ?_)))))))))⟩;rintro t g0 o;refine wln (sr (va (B true) (wln (W.ret ?_))));obtain rfl:=si H;exact r1 (qq t ⟨o,rfl⟩)
def fj (sg:Sto) (p0:Option Nat) (p1:Int) (p2:aw):Option (Sto×Int):=
 ((eZ p1).bind fun h=>
 if (!h)=true then
 some (65533)
 else
 some (p1)).bind fun g=>
 (p0).bind fun b=>
 (sg.widen_Cluster[b]?).bind fun a=>
 (cv a.text g).bind fun e=>
 (sg.set_widen_Cluster b (⟨a.at_,a.wide,e.1,a.gauge⟩:be)).bind fun c=>
 (cy a.gauge g p2).bind fun f=>
 (c.set_widen_Cluster b (⟨a.at_,a.wide,e.1,f.1⟩:be)).bind fun d=>
 some (d,f.2)
theorem mX (O0:Own c0 G F) (T:Rel c0 sg G) (p0:Option Nat) (m:Int) (f:aw) {r:Sto×Int} (h2:Pt 3 c0 v1 p0) (H:fj sg p0 m f=some r): Calls prog 307 #[v1,J m,.agg #[I f.Break,B f.Pict,I f.Conj,I f.East]] c0.w (aO c0 fun c v=>∃G_:Gm,Own c G_ (F)∧Rel c r.1 G_∧v=I r.2):=by
 unfold fj at H;refine en func307 rfl rfl (sr (me (bx 238 [I f.Break,B f.Pict,I f.Conj,I f.East] O0) ?_));rintro v7 c6 s ⟨b3,rfl,O4,m5⟩;refine va (I 0) (wln (bn H fun h i e=>W.seqJ (Jn c6 fun c l=>Own c G (F)∧l= [(0,v1),(1,J h),(5,Q b3)]) ?_ ?_))
 ·refine sr (va (J m) (bn i fun t0 a0 i=>cl (nt O4 m a0) ?_));rintro v16 p j1 ⟨o,rfl⟩;refine va (B (!t0)) (wln (cn i (fun b0 i=>?_) (fun b0 i=>?_)))
  ·refine W.region (va (J 65533) (wln ?_));obtain rfl:=si i;exact jn p ⟨o,rfl⟩
  refine W.skip (nrm ?_);obtain rfl:=si i;exact jn p ⟨o,rfl⟩
 rintro e_ w_ ⟨e1,g1,_,rfl,k,rfl,y,rfl⟩;refine sr (va (v1) (bn e fun z0 d0 e=>?_));obtain ⟨d,rfl,j⟩:=((h2.mono (s.trans k))).get d0;refine va (Q d) (va (Qo d 4) (va (J h) (bn e fun b e0 e=>?_)));have f0:=Rel.open_widen_Cluster (T.mono (s.trans k)) e0 j;have z:=y.borrow 0 f0 rfl;refine bn e fun a g0 e=>cl (kv b.text h z g0) ?_;rintro v37 f1 l0 ⟨A,rfl⟩;have D:=A.giveB 0 rfl;refine bn e fun t i0 e=>?_;obtain ⟨b1,E,U,h0,c1⟩:=Rel.put_widen_Cluster D (T.mono (s.trans (k.trans l0))) (E':=[(Eb d 338 [I b.at_.Row,I b.at_.Col,B b.at_.Pending,I b.wide,J a.1.text.1,J a.1.text.2.1,J a.1.text.2.2.1,J a.1.text.2.2.2.1,J a.1.text.2.2.2.2.1,J a.1.text.2.2.2.2.2.1,J a.1.text.2.2.2.2.2.2.1,J a.1.text.2.2.2.2.2.2.2.1,J a.1.text.2.2.2.2.2.2.2.2.1,J a.1.text.2.2.2.2.2.2.2.2.2.1,J a.1.text.2.2.2.2.2.2.2.2.2.2.1,J a.1.text.2.2.2.2.2.2.2.2.2.2.2.1,J a.1.text.2.2.2.2.2.2.2.2.2.2.2.2.1,J a.1.text.2.2.2.2.2.2.2.2.2.2.2.2.2.1,J a.1.text.2.2.2.2.2.2.2.2.2.2.2.2.2.2.1,J a.1.text.2.2.2.2.2.2.2.2.2.2.2.2.2.2.2,I a.1.n,B b.gauge.some,B b.gauge.pict,B b.gauge.wide])]) i0 ⟨d,(tm j),rfl⟩;refine wln (W.seq (rD [] (Kp G0 []) E ?_));intro Z m0 M;have k1:Kp G0 [] Z:=Kp.nil0;refine ta 0 (Q d) (ta 1 (Q d) (ta 2 (Qo d 21) (ta 3 (J h) (tx 4 (fun c' i1=>lN 238 (mm m5)) ?_))));have N:=M.borrow 0 h0 rfl;refine bn e fun g j0 e=>o1 5 (gc 5 (kJ b.gauge h f N j0) ?_);rintro v56 q o0 ⟨P,rfl⟩;have R:=P.giveB 0 rfl;refine bn e fun u k0 e=>?_;obtain ⟨x,S,X,h1,d1⟩:=Rel.put_widen_Cluster R (U.mono (m0.trans o0)) (E':=[(Eb d 338 [I b.at_.Row,I b.at_.Col,B b.at_.Pending,I b.wide,J a.1.text.1,J a.1.text.2.1,J a.1.text.2.2.1,J a.1.text.2.2.2.1,J a.1.text.2.2.2.2.1,J a.1.text.2.2.2.2.2.1,J a.1.text.2.2.2.2.2.2.1,J a.1.text.2.2.2.2.2.2.2.1,J a.1.text.2.2.2.2.2.2.2.2.1,J a.1.text.2.2.2.2.2.2.2.2.2.1,J a.1.text.2.2.2.2.2.2.2.2.2.2.1,J a.1.text.2.2.2.2.2.2.2.2.2.2.2.1,J a.1.text.2.2.2.2.2.2.2.2.2.2.2.2.1,J a.1.text.2.2.2.2.2.2.2.2.2.2.2.2.2.1,J a.1.text.2.2.2.2.2.2.2.2.2.2.2.2.2.2.1,J a.1.text.2.2.2.2.2.2.2.2.2.2.2.2.2.2.2,I a.1.n,B g.1.some,B g.1.pict,B g.1.wide])]) k0 ⟨d,(tm j),rfl⟩;have s0:Kp G0 [] q:=Kp.nil0;refine ⟨.inr s0,ta 6 (I g.2) (dn (nrm (W.ret ?_)))⟩;obtain rfl:=si e;exact r1 (qq q ⟨x,S,X,rfl⟩)
def bQ (p0:bG):Option (List Int):=
 if false=true then
 some ([]:List Int)
 else
 (slc (a16 p0.text) 0 p0.n).bind fun a=>
 (gb a).bind fun b=>
 some b
theorem fL {b:Nat} {r0_0:Value} {r0_1:Value} {r0_2:Value} {r0_3:Value} {r0_21:Value} {r0_22:Value} {r0_23:Value} (a:bG) (p:Own c0 G ((Eb b 338 [r0_0,r0_1,r0_2,r0_3,J a.text.1,J a.text.2.1,J a.text.2.2.1,J a.text.2.2.2.1,J a.text.2.2.2.2.1,J a.text.2.2.2.2.2.1,J a.text.2.2.2.2.2.2.1,J a.text.2.2.2.2.2.2.2.1,J a.text.2.2.2.2.2.2.2.2.1,J a.text.2.2.2.2.2.2.2.2.2.1,J a.text.2.2.2.2.2.2.2.2.2.2.1,J a.text.2.2.2.2.2.2.2.2.2.2.2.1,J a.text.2.2.2.2.2.2.2.2.2.2.2.2.1,J a.text.2.2.2.2.2.2.2.2.2.2.2.2.2.1,J a.text.2.2.2.2.2.2.2.2.2.2.2.2.2.2.1,J a.text.2.2.2.2.2.2.2.2.2.2.2.2.2.2.2,I a.n,r0_21,r0_22,r0_23]) :: F)) {r:List Int} (H:bQ a=some r): Calls prog 232 #[.pointer (some ⟨b,4,none⟩)] c0.w (aO c0 fun c v=>∃h o,Own c G (es true (RI .i32) h 21 o r :: (Eb b 338 [r0_0,r0_1,r0_2,r0_3,J a.text.1,J a.text.2.1,J a.text.2.2.1,J a.text.2.2.2.1,J a.text.2.2.2.2.1,J a.text.2.2.2.2.2.1,J a.text.2.2.2.2.2.2.1,J a.text.2.2.2.2.2.2.2.1,J a.text.2.2.2.2.2.2.2.2.1,J a.text.2.2.2.2.2.2.2.2.2.1,J a.text.2.2.2.2.2.2.2.2.2.2.1,J a.text.2.2.2.2.2.2.2.2.2.2.2.1,J a.text.2.2.2.2.2.2.2.2.2.2.2.2.1,J a.text.2.2.2.2.2.2.2.2.2.2.2.2.2.1,J a.text.2.2.2.2.2.2.2.2.2.2.2.2.2.2.1,J a.text.2.2.2.2.2.2.2.2.2.2.2.2.2.2.2,I a.n,r0_21,r0_22,r0_23]) :: F)∧v=h∧OA (RI .i32) c h o r):=by
 unfold bQ at H;refine en func232 rfl rfl (sr (va (Y) (wln (W.seq (sr (va (Qo b 4) (va (B false) (wln (W.cond (t:=false) (by kernel_rfl) (fun g=>?_) (fun g=>?_))))))))))
 ·cases g
 have H:=ie g H;refine W.skip (nrm (W.seq (rD [] (Kp G0 [(Eb b 338 [r0_0,r0_1,r0_2,r0_3,J a.text.1,J a.text.2.1,J a.text.2.2.1,J a.text.2.2.2.1,J a.text.2.2.2.2.1,J a.text.2.2.2.2.2.1,J a.text.2.2.2.2.2.2.1,J a.text.2.2.2.2.2.2.2.1,J a.text.2.2.2.2.2.2.2.2.1,J a.text.2.2.2.2.2.2.2.2.2.1,J a.text.2.2.2.2.2.2.2.2.2.2.1,J a.text.2.2.2.2.2.2.2.2.2.2.2.1,J a.text.2.2.2.2.2.2.2.2.2.2.2.2.1,J a.text.2.2.2.2.2.2.2.2.2.2.2.2.2.1,J a.text.2.2.2.2.2.2.2.2.2.2.2.2.2.2.1,J a.text.2.2.2.2.2.2.2.2.2.2.2.2.2.2.2,I a.n,r0_21,r0_22,r0_23])]) p ?_)));intro s M i;have y:Kp G0 [(Eb b 338 [r0_0,r0_1,r0_2,r0_3,J a.text.1,J a.text.2.1,J a.text.2.2.1,J a.text.2.2.2.1,J a.text.2.2.2.2.1,J a.text.2.2.2.2.2.1,J a.text.2.2.2.2.2.2.1,J a.text.2.2.2.2.2.2.2.1,J a.text.2.2.2.2.2.2.2.2.1,J a.text.2.2.2.2.2.2.2.2.2.1,J a.text.2.2.2.2.2.2.2.2.2.2.1,J a.text.2.2.2.2.2.2.2.2.2.2.2.1,J a.text.2.2.2.2.2.2.2.2.2.2.2.2.1,J a.text.2.2.2.2.2.2.2.2.2.2.2.2.2.1,J a.text.2.2.2.2.2.2.2.2.2.2.2.2.2.2.1,J a.text.2.2.2.2.2.2.2.2.2.2.2.2.2.2.2,I a.n,r0_21,r0_22,r0_23])] s:=(Kp.cons (i.on 0 rfl) Kp.nil0);refine ta 0 (.pointer (some ⟨b,4,none⟩)) (ta 1 (Qo b 4) (ta 2 (Qo b 4) (ta 3 (Qo b 4) (ta 4 (Qo b 4) (ta 5 (Qo b 20) (tkx 6 y (fun q l x=>le1 20 u_3 (x.on 0 rfl)) (bn H fun A d H=>AC.take 7 (.slice (some ⟨b,4,none⟩) a.n.toNat 16) rfl (by kernel_rfl) (by kernel_rfl) (fun q l=>(rx (by kernel_rfl) (Cl (k:= .i64) underlying289 (by kernel_rfl) (oO d).2.1 (oO d).2.2.1 _))) (bn H fun D u H=>o1 8 (gc 8 (uy i rfl (B8 d) (Fa (k:= .i32) d [r0_0,r0_1,r0_2,r0_3] [I a.n,r0_21,r0_22,r0_23]) u) ?_)))))))));rintro v8 f E ⟨_,z,e,rfl,j⟩;have m:Kp G0 [(Eb b 338 [r0_0,r0_1,r0_2,r0_3,J a.text.1,J a.text.2.1,J a.text.2.2.1,J a.text.2.2.2.1,J a.text.2.2.2.2.1,J a.text.2.2.2.2.2.1,J a.text.2.2.2.2.2.2.1,J a.text.2.2.2.2.2.2.2.1,J a.text.2.2.2.2.2.2.2.2.1,J a.text.2.2.2.2.2.2.2.2.2.1,J a.text.2.2.2.2.2.2.2.2.2.2.1,J a.text.2.2.2.2.2.2.2.2.2.2.2.1,J a.text.2.2.2.2.2.2.2.2.2.2.2.2.1,J a.text.2.2.2.2.2.2.2.2.2.2.2.2.2.1,J a.text.2.2.2.2.2.2.2.2.2.2.2.2.2.2.1,J a.text.2.2.2.2.2.2.2.2.2.2.2.2.2.2.2,I a.n,r0_21,r0_22,r0_23])] f:=(Kp.cons (e.on 1 rfl) Kp.nil0);refine ⟨.inr m,ta 9 (v8) (dn (nrm (W.ret ?_)))⟩;obtain rfl:=si H;exact r1 (qq f ⟨v8,z,e,rfl,j⟩)
def kU (sg:Sto) (p0:Option Nat) (p1:Int) (p2:aw):Option (Sto×(Option Nat)):=
 (orE p0.isNone ((p0).bind fun k=>
 (sg.place_Pen[k]?).bind fun h=>
 some h.G.isNone)).bind fun j=>
 if j=true then
 some (sg,(none:Option Nat))
 else
 (some (sg.add_widen_Cluster (⟨(⟨0,0,false⟩:ai),0,(⟨(0,0,0,0,0,0,0,0,0,0,0,0,0,0,0,0),0⟩:bG),(⟨false,false,false⟩:bB)⟩:be))).bind fun e=>
 (fj e (some sg.widen_Cluster.length) p1 p2).bind fun b=>
 (b.1.widen_Cluster[sg.widen_Cluster.length]?).bind fun a=>
 (b.1.set_widen_Cluster sg.widen_Cluster.length (⟨a.at_,b.2,a.text,a.gauge⟩:be)).bind fun f=>
 (bQ a.text).bind fun i=>
 (iQ f p0 b.2 i).bind fun d=>
 (d.1.widen_Cluster[sg.widen_Cluster.length]?).bind fun c=>
 (d.1.set_widen_Cluster sg.widen_Cluster.length (⟨d.2,c.wide,c.text,c.gauge⟩:be)).bind fun g=>
 some (g,(some sg.widen_Cluster.length))
theorem vZ (O0:Own c0 G F) (R0:Rel c0 sg G) (hG:Gl [2,4] c0) (y:Option Nat) (z:Int) (g:aw) {r:Sto×(Option Nat)} (h2:Pt 2 c0 v1 y) (H:kU sg y z g=some r): Calls prog 268 #[v1,J z,.agg #[I g.Break,B g.Pict,I g.Conj,I g.East]] c0.w (aO c0 fun c v=>∃y1,∃G_:Gm,Own c G_ (F)∧Rel c r.1 G_∧v=y1∧Pt 3 c y1 r.2):=by
 unfold kU at H;refine en func268 rfl rfl (sr (me (bx 238 [I g.Break,B g.Pict,I g.Conj,I g.East] O0) ?_));rintro v7 c6 l6 ⟨b3,rfl,O4,m5⟩;refine va (.pointer none) (wln (W.seq (W.seq (bn H fun m1 h8 H=>W.join (Jn c6 fun c l=>Own c G (F)∧l= [(0,v1),(1,J z),(5,Q b3),(16,B m1)]) ?_ ?_))))
 ·clear H;refine W.region (va (v1) (vr (B y.isNone) (by rcases h2.m.cs with ⟨j,k⟩ | ⟨b_,j,k⟩ <;> (subst j; rw [k]; kernel_rfl)) ?_));rcases bo (y.isNone) with s | s
  ·obtain rfl:=orT s h8;exact vb s (pz (pz (ps (va (B true) (wln (jn c6 ⟨O4,rfl⟩))))))
  have i:=orF s h8;refine vb s (wa (v1) (wn (bn i fun x3 q1 i=>?_)));obtain ⟨T,rfl,n1⟩:=((h2.mono l6)).get q1;refine va (Q T) (wa (Q T) (wn (bn i fun u s1 i=>?_)));obtain ⟨v15,u1,t1⟩:=Rel.open_place_Pen (R0.mono l6) s1 n1;refine vx (le1 0 eW (O4.gon u1 0 rfl)) (wn (vr (B u.G.isNone) (by rcases (t1).cs with ⟨j,k⟩ | ⟨b_,j,k⟩ <;> (subst j; rw [k]; kernel_rfl)) ?_));obtain rfl:=si i;exact va (B u.G.isNone) (wln (jn c6 ⟨O4,rfl⟩))
 rintro e_ w_ ⟨f1,s3,_,rfl,q2,rfl,A,rfl⟩;refine nrm (cn H (fun w1 H=>?_) (fun w1 H=>?_))
 ·refine sr (va (.pointer none) (wln (W.ret (thr ?_))));obtain rfl:=si H;exact r1 (qq f1 ⟨(.pointer none),G,A,R0.m,rfl,rfl⟩)
 refine W.skip (nrm (sr (va (.agg #[I 0,I 0,B false,I 0,J 0,J 0,J 0,J 0,J 0,J 0,J 0,J 0,J 0,J 0,J 0,J 0,J 0,J 0,J 0,J 0,I 0,B false,B false,B false]) (me (al 338 [I 0,I 0,B false,I 0,J 0,J 0,J 0,J 0,J 0,J 0,J 0,J 0,J 0,J 0,J 0,J 0,J 0,J 0,J 0,J 0,I 0,B false,B false,B false] A) ?_))));rintro v28 n3 s2 ⟨e,rfl,o0⟩;have q0:=o0.sD 1 [0];refine bn H fun j0 x1 H=>?_;obtain ⟨g1,h3,z1,y3,o,s0,P,t3,u3,k3⟩:=Rel.new_widen_Cluster (E:=[(Eb e 338 [I 0,I 0,B false,I 0,J 0,J 0,J 0,J 0,J 0,J 0,J 0,J 0,J 0,J 0,J 0,J 0,J 0,J 0,J 0,J 0,I 0,B false,B false,B false])]) (F:=F) (x:=(⟨(⟨0,0,false⟩:ai),0,(⟨(0,0,0,0,0,0,0,0,0,0,0,0,0,0,0,0),0⟩:bG),(⟨false,false,false⟩:bB)⟩:be)) (b:=e) q0 (R0.mono (l6.trans (q2.trans s2))) (fun c_ hle_=>⟨e,rfl,rfl⟩);rw [bm x1] at P;refine WL.gh z1.1 ?_;have U:Pt 3 g1 (Q e) (some sg.widen_Cluster.length):=⟨e,rfl,o⟩;refine va (Q e) (wln (sr (vv (Q e) (va (J z) (vx (lN 238 (mm m5)) (bn H fun h b2 H=>cl (mX s0 P (some sg.widen_Cluster.length) z g U b2) ?_))))));rintro v48 o3 t2 ⟨i3,t0,R,rfl⟩;refine va (Q e) (va (Qo e 3) (bn H fun a c2 H=>?_));have d2:=Rel.open_widen_Cluster R c2 (tm o);refine md (gC 3 3 (I h.2) [I a.at_.Row,I a.at_.Col,B a.at_.Pending,I h.2,J a.text.text.1,J a.text.text.2.1,J a.text.text.2.2.1,J a.text.text.2.2.2.1,J a.text.text.2.2.2.2.1,J a.text.text.2.2.2.2.2.1,J a.text.text.2.2.2.2.2.2.1,J a.text.text.2.2.2.2.2.2.2.1,J a.text.text.2.2.2.2.2.2.2.2.1,J a.text.text.2.2.2.2.2.2.2.2.2.1,J a.text.text.2.2.2.2.2.2.2.2.2.2.1,J a.text.text.2.2.2.2.2.2.2.2.2.2.2.1,J a.text.text.2.2.2.2.2.2.2.2.2.2.2.2.1,J a.text.text.2.2.2.2.2.2.2.2.2.2.2.2.2.1,J a.text.text.2.2.2.2.2.2.2.2.2.2.2.2.2.2.1,J a.text.text.2.2.2.2.2.2.2.2.2.2.2.2.2.2.2,I a.text.n,B a.gauge.some,B a.gauge.pict,B a.gauge.wide] 0 t0 d2 ⟨rfl,trivial⟩) ?_;rintro p3 X u0;refine bn H fun k0 e2 H=>?_;obtain ⟨p,v0,d1,q,l3⟩:=Rel.put_widen_Cluster u0 (R.mono X) (E':=[(Eb e 338 [I a.at_.Row,I a.at_.Col,B a.at_.Pending,I h.2,J a.text.text.1,J a.text.text.2.1,J a.text.text.2.2.1,J a.text.text.2.2.2.1,J a.text.text.2.2.2.2.1,J a.text.text.2.2.2.2.2.1,J a.text.text.2.2.2.2.2.2.1,J a.text.text.2.2.2.2.2.2.2.1,J a.text.text.2.2.2.2.2.2.2.2.1,J a.text.text.2.2.2.2.2.2.2.2.2.1,J a.text.text.2.2.2.2.2.2.2.2.2.2.1,J a.text.text.2.2.2.2.2.2.2.2.2.2.2.1,J a.text.text.2.2.2.2.2.2.2.2.2.2.2.2.1,J a.text.text.2.2.2.2.2.2.2.2.2.2.2.2.2.1,J a.text.text.2.2.2.2.2.2.2.2.2.2.2.2.2.2.1,J a.text.text.2.2.2.2.2.2.2.2.2.2.2.2.2.2.2,I a.text.n,B a.gauge.some,B a.gauge.pict,B a.gauge.wide])]) e2 ⟨e,(tm o),rfl⟩;refine wln (W.seq (rD [10,13] (Kp p []) v0 ?_));intro h1 u2 D;have x2:Kp p [] h1:=(Kp.nil D);refine ta 0 (Q e) (ta 1 (v1) (ta 2 (Q e) (ta 3 (Q e) (ta 4 (Qo e 3) (tkx 5 x2 (fun c' w3 hk=>le1 3 u_3 (hk.gon q 0 rfl)) (ta 6 (Q e) (ta 7 (Q e) (ta 8 (Qo e 4) ?_))))))));have w0:=D.borrow 0 q rfl;refine bn H fun i0 f2 H=>o1 9 (gc 9 (fL a.text w0 f2) ?_);rintro a4 i1 v2 ⟨_,z3,x0,rfl,g2⟩;have z0:=x0.sD 2 [1,0];have y0:=z0.giveB 0 rfl;have M:=Own.back y0 q rfl;have y2:Kp p [] i1:=(Kp.nil M);refine ⟨.inr y2,?_⟩;obtain ⟨j1,k2,Z,N,i2⟩:=M.frz 0 rfl g2;have z2:Kp p [] j1:=(Kp.nil N);refine AC.gh k2 Z (fun _=>z2) (bn H fun f l2 H=>o1 10 (gc 10 (pB N d1.m (hG.m.le (by decide)) y h.2 i0 h2.m i2 l2) ?_));rintro b4 q3 w2 ⟨j3,a1,S,rfl⟩;refine ⟨.inl rfl,ta 11 (Q e) (ta 12 (Q e) (bn H fun d m2 H=>?_))⟩;have n2:=Rel.open_widen_Cluster S m2 (tm o);refine o1 13 (gD 13 (gB 29 0 [I f.2.Row,I f.2.Col,B f.2.Pending] [I f.2.Row,I f.2.Col,B f.2.Pending,I d.wide,J d.text.text.1,J d.text.text.2.1,J d.text.text.2.2.1,J d.text.text.2.2.2.1,J d.text.text.2.2.2.2.1,J d.text.text.2.2.2.2.2.1,J d.text.text.2.2.2.2.2.2.1,J d.text.text.2.2.2.2.2.2.2.1,J d.text.text.2.2.2.2.2.2.2.2.1,J d.text.text.2.2.2.2.2.2.2.2.2.1,J d.text.text.2.2.2.2.2.2.2.2.2.2.1,J d.text.text.2.2.2.2.2.2.2.2.2.2.2.1,J d.text.text.2.2.2.2.2.2.2.2.2.2.2.2.1,J d.text.text.2.2.2.2.2.2.2.2.2.2.2.2.2.1,J d.text.text.2.2.2.2.2.2.2.2.2.2.2.2.2.2.1,J d.text.text.2.2.2.2.2.2.2.2.2.2.2.2.2.2.2,I d.text.n,B d.gauge.some,B d.gauge.pict,B d.gauge.wide] 0 a1 n2 ⟨rfl,rfl,rfl,trivial⟩) ?_);rintro k1 a0 b1;refine bn H fun l0 o2 H=>?_;obtain ⟨m0,c1,e1,v3,m3⟩:=Rel.put_widen_Cluster b1 (S.mono a0) (E':=[(Eb e 338 [I f.2.Row,I f.2.Col,B f.2.Pending,I d.wide,J d.text.text.1,J d.text.text.2.1,J d.text.text.2.2.1,J d.text.text.2.2.2.1,J d.text.text.2.2.2.2.1,J d.text.text.2.2.2.2.2.1,J d.text.text.2.2.2.2.2.2.1,J d.text.text.2.2.2.2.2.2.2.1,J d.text.text.2.2.2.2.2.2.2.2.1,J d.text.text.2.2.2.2.2.2.2.2.2.1,J d.text.text.2.2.2.2.2.2.2.2.2.2.1,J d.text.text.2.2.2.2.2.2.2.2.2.2.2.1,J d.text.text.2.2.2.2.2.2.2.2.2.2.2.2.1,J d.text.text.2.2.2.2.2.2.2.2.2.2.2.2.2.1,J d.text.text.2.2.2.2.2.2.2.2.2.2.2.2.2.2.1,J d.text.text.2.2.2.2.2.2.2.2.2.2.2.2.2.2.2,I d.text.n,B d.gauge.some,B d.gauge.pict,B d.gauge.wide])]) o2 ⟨e,((t2.trans (X.trans (u2.trans (v2.trans (Z.trans (w2.trans a0)))))).t _ _ _ o),rfl⟩;refine ⟨.inl rfl,dn (nrm (sr (vv (Q e) (wln (W.ret ?_)))))⟩;obtain rfl:=si H;have b0:=c1.sD 1 [];exact r1 (qq k1 ⟨(Q e),m0,b0,e1,rfl,U.m⟩)
def dG (sg:Sto) (p0:Option Nat) (p1:Option Nat) (p2:Int) (p3:aw):Option (Sto×Bool):=
 (orE p0.isNone (some p1.isNone)).bind fun A=>
 (orE A ((p1).bind fun r=>
 (sg.place_Pen[r]?).bind fun u=>
 some u.G.isNone)).bind fun p=>
 (orE p ((p0).bind fun s=>
 (sg.widen_Cluster[s]?).bind fun h=>
 (bR h.text).bind fun w=>
 some w)).bind fun q=>
 if q=true then
 some (sg,false)
 else
 (p0).bind fun b=>
 (sg.widen_Cluster[b]?).bind fun v=>
 (fj sg p0 p2 p3).bind fun d=>
 (d.1.widen_Cluster[b]?).bind fun c=>
 (d.1.set_widen_Cluster b (⟨c.at_,d.2,c.text,c.gauge⟩:be)).bind fun a=>
 (if (d.2 != v.wide)=true then
 (p1).bind fun j=>
 (a.place_Pen[j]?).bind fun k=>
 (a.set_place_Pen j (⟨k.G,c.at_,k.Auto⟩:bi)).bind fun e=>
 (e.widen_Cluster[b]?).bind fun l=>
 (bQ l.text).bind fun x=>
 (iQ e p1 l.wide x).bind fun g=>
 (g.1.widen_Cluster[b]?).bind fun f=>
 (g.1.set_widen_Cluster b (⟨g.2,f.wide,f.text,f.gauge⟩:be)).bind fun i=>
 some (i)
 else
 (p1).bind fun t=>
 (a.place_Pen[t]?).bind fun m=>
 (ci a m.G).bind fun y=>
 if (decide (d.2≤y))=true then
 (bA a m.G c.at_.Row).bind fun n=>
 (nn a n c.at_.Col p2).bind fun o=>
 some (o.1)
 else
 some (a)).bind fun z=>
 some (z,true)
theorem qy (O0:Own c0 G F) (R0:Rel c0 sg G) (hG:Gl [2,4] c0) (p0:Option Nat) (p1:Option Nat) (Z:Int) (s:aw) {r:Sto×Bool} (h2:Pt 3 c0 v1 p0) (h4:Pt 2 c0 v3 p1) (H:dG sg p0 p1 Z s=some r): Calls prog 267 #[v1,v3,J Z,.agg #[I s.Break,B s.Pict,I s.Conj,I s.East]] c0.w (aO c0 fun c v=>∃G_:Gm,Own c G_ (F)∧Rel c r.1 G_∧v=B r.2):=by
 unfold dG at H;refine en func267 rfl rfl (sr (me (bx 238 [I s.Break,B s.Pict,I s.Conj,I s.East] O0) ?_));rintro v9 c8 R ⟨b5,rfl,O6,m7⟩;refine va (B false) (wln (W.seq (W.seq (bn H fun l7 c2 H=>bn H fun j6 x0 H=>bn H fun i3 d0 H=>W.join (Jn c8 fun c l=>Own c G (F)∧l= [(0,v1),(1,v3),(2,J Z),(7,Q b5),(28,B i3)]) ?_ ?_))))
 ·clear H;refine W.region (va (v1) (vr (B p0.isNone) (by rcases h2.m.cs with ⟨h,i⟩ | ⟨b_,h,i⟩ <;> (subst h; rw [i]; kernel_rfl)) ?_));rcases bo (p0.isNone) with A | A
  ·obtain rfl:=orT A c2;refine vb A (pz (va (B true) ?_));have d2:true=true:=rfl;obtain rfl:=orT d2 x0;refine vb d2 (pz (pz (ps (va (B true) ?_))));have e2:true=true:=rfl;obtain rfl:=orT e2 d0;exact vb e2 (pz (pz (va (B true) (wln (jn c8 ⟨O6,rfl⟩)))))
  have m4:=orF A c2;refine vb A (wa (v3) (wn (vr (B p1.isNone) (by rcases h4.m.cs with ⟨h,i⟩ | ⟨b_,h,i⟩ <;> (subst h; rw [i]; kernel_rfl)) ?_)));obtain rfl:=si m4;refine va (B p1.isNone) ?_;rcases bo (p1.isNone) with D | D
  ·obtain rfl:=orT D x0;refine vb D (pz (pz (ps (va (B true) ?_))));have f2:true=true:=rfl;obtain rfl:=orT f2 d0;exact vb f2 (pz (pz (va (B true) (wln (jn c8 ⟨O6,rfl⟩)))))
  have y:=orF D x0;refine vb D (wa (v3) (wn (bn y fun n6 e5 y=>?_)));obtain ⟨z1,rfl,d5⟩:=((h4.mono R)).get e5;refine va (Q z1) (wa (Q z1) (wn (bn y fun U f5 y=>?_)));obtain ⟨v24,h5,g5⟩:=Rel.open_place_Pen (R0.mono R) f5 d5;refine vx (le1 0 eW (O6.gon h5 0 rfl)) (wn (vr (B U.G.isNone) (by rcases (g5).cs with ⟨h,i⟩ | ⟨b_,h,i⟩ <;> (subst h; rw [i]; kernel_rfl)) ?_));obtain rfl:=si y;refine va (B U.G.isNone) ?_;rcases bo (U.G.isNone) with E | E
  ·obtain rfl:=orT E d0;exact vb E (pz (pz (va (B true) (wln (jn c8 ⟨O6,rfl⟩)))))
  have k:=orF E d0;refine vb E (wa (v1) (wn (bn k fun o6 j5 k=>?_)));obtain ⟨b2,rfl,i5⟩:=((h2.mono R)).get j5;refine va (Q b2) (wa (Qo b2 4) (wn (bn k fun h0 k5 k=>?_)));have g2:=Rel.open_widen_Cluster (R0.mono R) k5 i5;have o4:=O6.borrow 0 g2 rfl;refine bn k fun f4 l5 k=>cl (fM h0.text o4 l5) ?_;rintro v42 y4 p7 ⟨p4,rfl⟩;have q4:=p4.giveB 0 rfl;have r4:=Own.back q4 g2 rfl;obtain rfl:=si k;exact va (B f4) (wln (jn y4 ⟨r4,rfl⟩))
 rintro e_ w_ ⟨z4,n7,_,rfl,e0,rfl,q0,rfl⟩;refine nrm (cn H (fun m5 H=>?_) (fun m5 H=>?_))
 ·refine sr (va (B false) (wln (W.ret (thr ?_))));obtain rfl:=si H;exact r1 (qq z4 ⟨G,q0,R0.m,rfl⟩)
 refine W.skip (nrm (sr (va (v1) (bn H fun p6 n5 H=>?_))));obtain ⟨d,rfl,u⟩:=((h2.mono (R.trans e0))).get n5;refine va (Q d) (va (Qo d 3) (bn H fun x o5 H=>?_));have p5:=Rel.open_widen_Cluster (R0.mono (R.trans e0)) o5 u;refine vx (le1 3 u_3 (q0.gon p5 0 rfl)) (va (I x.wide) (wln (sr (vv (Q d) (va (J Z) (vx (lN 238 (mm m7)) (bn H fun g q5 H=>cl (mX q0 R0.m p0 Z s h2.m q5) ?_)))))));rintro q7 j7 f0 ⟨g7,s4,x1,rfl⟩;refine va (Q d) (va (Qo d 3) (bn H fun a r5 H=>?_));have s5:=Rel.open_widen_Cluster x1 r5 (tm u);refine md (gC 3 3 (I g.2) [I a.at_.Row,I a.at_.Col,B a.at_.Pending,I g.2,J a.text.text.1,J a.text.text.2.1,J a.text.text.2.2.1,J a.text.text.2.2.2.1,J a.text.text.2.2.2.2.1,J a.text.text.2.2.2.2.2.1,J a.text.text.2.2.2.2.2.2.1,J a.text.text.2.2.2.2.2.2.2.1,J a.text.text.2.2.2.2.2.2.2.2.1,J a.text.text.2.2.2.2.2.2.2.2.2.1,J a.text.text.2.2.2.2.2.2.2.2.2.2.1,J a.text.text.2.2.2.2.2.2.2.2.2.2.2.1,J a.text.text.2.2.2.2.2.2.2.2.2.2.2.2.1,J a.text.text.2.2.2.2.2.2.2.2.2.2.2.2.2.1,J a.text.text.2.2.2.2.2.2.2.2.2.2.2.2.2.2.1,J a.text.text.2.2.2.2.2.2.2.2.2.2.2.2.2.2.2,I a.text.n,B a.gauge.some,B a.gauge.pict,B a.gauge.wide] 0 s4 s5 ⟨rfl,trivial⟩) ?_;rintro a5 P t4;refine bn H fun j4 t5 H=>?_;obtain ⟨j,b0,o,M,h7⟩:=Rel.put_widen_Cluster t4 (x1.mono P) (E':=[(Eb d 338 [I a.at_.Row,I a.at_.Col,B a.at_.Pending,I g.2,J a.text.text.1,J a.text.text.2.1,J a.text.text.2.2.1,J a.text.text.2.2.2.1,J a.text.text.2.2.2.2.1,J a.text.text.2.2.2.2.2.1,J a.text.text.2.2.2.2.2.2.1,J a.text.text.2.2.2.2.2.2.2.1,J a.text.text.2.2.2.2.2.2.2.2.1,J a.text.text.2.2.2.2.2.2.2.2.2.1,J a.text.text.2.2.2.2.2.2.2.2.2.2.1,J a.text.text.2.2.2.2.2.2.2.2.2.2.2.1,J a.text.text.2.2.2.2.2.2.2.2.2.2.2.2.1,J a.text.text.2.2.2.2.2.2.2.2.2.2.2.2.2.1,J a.text.text.2.2.2.2.2.2.2.2.2.2.2.2.2.2.1,J a.text.text.2.2.2.2.2.2.2.2.2.2.2.2.2.2.2,I a.text.n,B a.gauge.some,B a.gauge.pict,B a.gauge.wide])]) t5 ⟨d,(tm u),rfl⟩;refine wln (bn H fun i4 e n4=>W.seqJ (Jn a5 fun c l=>∃G_,Own c G_ (F)∧l= []∧Rel c i4 G_) ?_ ?_)
 ·refine W.block (sr (vv (Q d) (va (Qo d 3) (vx (le1 3 u_3 (b0.gon M 0 rfl)) (va (I x.wide) (vv (B (g.2 != x.wide)) (wln (cn e (fun u5 e=>?_) (fun u5 e=>?_)))))))))
  ·refine sr (va (v3) (vv (Q d) (va (Q d) (vx (leN 29 0 [I a.at_.Row,I a.at_.Col,B a.at_.Pending] (b0.gon M 0 rfl)) (bn e fun q6 v5 e=>?_)))));obtain ⟨z,rfl,i2⟩:=((h4.mono (R.trans (e0.trans (f0.trans P))))).get v5;refine va (Q z) (va (Qo z 1) (bn e fun h1 w5 e=>?_));obtain ⟨n1,y5,x5⟩:=Rel.open_place_Pen o w5 i2;refine md (gB 29 1 [I a.at_.Row,I a.at_.Col,B a.at_.Pending] [n1,I a.at_.Row,I a.at_.Col,B a.at_.Pending,B h1.Auto] 0 b0 y5 ⟨rfl,rfl,rfl,trivial⟩) ?_;rintro k7 g0 u4;refine bn e fun k4 z5 e=>?_;obtain ⟨a0,v4,y1,o7,i7⟩:=Rel.put_place_Pen u4 (o.mono g0) (E':=[(Eb z 126 [n1,I a.at_.Row,I a.at_.Col,B a.at_.Pending,B h1.Auto])]) z5 ⟨z,n1,(tm i2),rfl,(x5.mono g0)⟩;refine wln (rD [10,13] (Kp a0 []) v4 ?_);intro c5 g1 w1;have c6:Kp a0 [] c5:=(Kp.nil w1);refine ta 0 (Q d) (ta 1 (Q z) (ta 2 (Q d) (ta 3 (Q d) (ta 4 (Qo d 3) (bn e fun i1 a6 e=>?_)))));have b1:=Rel.open_widen_Cluster (y1.mono g1) a6 (tm u);refine tkx 5 c6 (fun c' N q=>le1 3 u_3 (q.gon b1 0 rfl)) (ta 6 (Q d) (ta 7 (Q d) (ta 8 (Qo d 4) ?_)));have w4:=w1.borrow 0 b1 rfl;refine bn e fun g4 b6 e=>o1 9 (gc 9 (fL i1.text w4 b6) ?_);rintro z6 a3 c1 ⟨_,y6,m2,rfl,j3⟩;have o2:=m2.sD 2 [1,0];have n2:=o2.giveB 0 rfl;have j0:=Own.back n2 b1 rfl;have b4:Kp a0 [] a3:=(Kp.nil j0);refine ⟨.inr b4,?_⟩;obtain ⟨b3,l3,T,k0,k3⟩:=j0.frz 0 rfl j3;have c4:Kp a0 [] b3:=(Kp.nil k0);refine AC.gh l3 T (fun _=>c4) (bn e fun f m3 e=>o1 10 (gc 10 (pB k0 y1.m (hG.m.le (by decide)) p1 i1.wide g4 h4.m k3 m3) ?_));rintro a7 i6 d1 ⟨e6,q2,u0,rfl⟩;refine ⟨.inl rfl,ta 11 (Q d) (ta 12 (Q d) (bn e fun b n3 e=>?_))⟩;have o3:=Rel.open_widen_Cluster u0 n3 ((f0.trans (P.trans (g0.trans (g1.trans (c1.trans (T.trans d1)))))).t _ _ _ u);refine o1 13 (gD 13 (gB 29 0 [I f.2.Row,I f.2.Col,B f.2.Pending] [I f.2.Row,I f.2.Col,B f.2.Pending,I b.wide,J b.text.text.1,J b.text.text.2.1,J b.text.text.2.2.1,J b.text.text.2.2.2.1,J b.text.text.2.2.2.2.1,J b.text.text.2.2.2.2.2.1,J b.text.text.2.2.2.2.2.2.1,J b.text.text.2.2.2.2.2.2.2.1,J b.text.text.2.2.2.2.2.2.2.2.1,J b.text.text.2.2.2.2.2.2.2.2.2.1,J b.text.text.2.2.2.2.2.2.2.2.2.2.1,J b.text.text.2.2.2.2.2.2.2.2.2.2.2.1,J b.text.text.2.2.2.2.2.2.2.2.2.2.2.2.1,J b.text.text.2.2.2.2.2.2.2.2.2.2.2.2.2.1,J b.text.text.2.2.2.2.2.2.2.2.2.2.2.2.2.2.1,J b.text.text.2.2.2.2.2.2.2.2.2.2.2.2.2.2.2,I b.text.n,B b.gauge.some,B b.gauge.pict,B b.gauge.wide] 0 q2 o3 ⟨rfl,rfl,rfl,trivial⟩) ?_);rintro c3 e1 s2;refine bn e fun l4 q3 e=>?_;obtain ⟨j2,t2,x2,m6,g6⟩:=Rel.put_widen_Cluster s2 (u0.mono e1) (E':=[(Eb d 338 [I f.2.Row,I f.2.Col,B f.2.Pending,I b.wide,J b.text.text.1,J b.text.text.2.1,J b.text.text.2.2.1,J b.text.text.2.2.2.1,J b.text.text.2.2.2.2.1,J b.text.text.2.2.2.2.2.1,J b.text.text.2.2.2.2.2.2.1,J b.text.text.2.2.2.2.2.2.2.1,J b.text.text.2.2.2.2.2.2.2.2.1,J b.text.text.2.2.2.2.2.2.2.2.2.1,J b.text.text.2.2.2.2.2.2.2.2.2.2.1,J b.text.text.2.2.2.2.2.2.2.2.2.2.2.1,J b.text.text.2.2.2.2.2.2.2.2.2.2.2.2.1,J b.text.text.2.2.2.2.2.2.2.2.2.2.2.2.2.1,J b.text.text.2.2.2.2.2.2.2.2.2.2.2.2.2.2.1,J b.text.text.2.2.2.2.2.2.2.2.2.2.2.2.2.2.2,I b.text.n,B b.gauge.some,B b.gauge.pict,B b.gauge.wide])]) q3 ⟨d,((f0.trans (P.trans (g0.trans (g1.trans (c1.trans (T.trans (d1.trans e1))))))).t _ _ _ u),rfl⟩;refine ⟨.inl rfl,dn (bkn (nrm ?_))⟩;obtain rfl:=si e;have u2:=t2.sD 1 [];exact jn c3 ⟨j2,u2,rfl,x2⟩
  refine W.seq (rD [] (Kp j []) b0 ?_);intro d3 f1 l0;have m1:Kp j [] d3:=(Kp.nil l0);refine ta 0 (Q d) (ta 1 (Q d) (ta 2 (Qo d 3) (tkx 3 m1 (fun c' N q=>le1 3 u_3 (q.gon M 0 rfl)) (ta 4 (v3) (bn e fun r6 t3 e=>?_)))));obtain ⟨p,rfl,s3⟩:=((h4.mono (R.trans (e0.trans (f0.trans (P.trans f1)))))).get t3;refine ta 5 (Q p) (ta 6 (Q p) (bn e fun j1 u3 e=>?_));obtain ⟨b7,z0,y0⟩:=Rel.open_place_Pen (o.mono f1) u3 s3;refine tkx 7 m1 (fun c' N q=>le1 0 eW (q.gon z0 0 rfl)) (bn e fun q1 w3 e=>o1 8 (gc 8 (cL l0 o.m j1.G y0 w3) ?_));rintro c7 w0 s6 ⟨S,rfl⟩;have d4:Kp j [] w0:=(Kp.nil S);refine ⟨.inr d4,ta 9 (B (decide (g.2≤q1))) (ta 10 (B (decide (g.2≤q1))) (dn (nrm (cn e (fun x3 e=>?_) (fun x3 e=>?_)))))⟩
  ·refine rD [16] (Kp j []) S ?_;intro e3 t6 m0;have X:Kp j [] e3:=(Kp.nil m0);refine ta 0 (Q p) (ta 1 (Q p) (ta 2 (Q p) (tkx 3 X (fun c' N q=>le1 0 eW (q.gon z0 0 rfl)) (ta 4 (Q d) (ta 5 (Q d) (ta 6 (Q d) (ta 7 (Q d) (tkx 8 X (fun c' N q=>le1 0 u_3 (q.gon M 0 rfl)) (ta 10 (Q d) (ta 11 (Q d) (ta 12 (Q d) (ta 13 (Qo d 1) (tkx 14 X (fun c' N q=>le1 1 u_3 (q.gon M 0 rfl)) (ta 15 (J Z) (bn e fun u1 y3 e=>o1 9 (gc 9 (cU m0 o.m j1.G a.at_.Row y0.m y3) ?_))))))))))))))));rintro d7 f3 u6 ⟨_,o0,rfl,z3⟩;have e4:Kp j [] f3:=(Kp.nil o0);refine ⟨.inr e4,bn e fun d6 a4 e=>o1 16 (gc 16 (zO o0 o.m (hG.m.le (by decide)) u1 a.at_.Col Z z3 a4) ?_)⟩;rintro e7 g3 v6 ⟨k2,v2,y2,rfl⟩;refine ⟨.inl rfl,dn (bkn (nrm ?_))⟩;obtain rfl:=si e;exact jn g3 ⟨k2,v2,rfl,y2⟩
  refine W.skip (bkn (nrm ?_));obtain rfl:=si e;exact jn w0 ⟨j,S,rfl,o.m⟩
 rintro e_ w_ ⟨h3,l6,_,rfl,w6,rfl,l2,w2,rfl,z2⟩;refine sr (va (B true) (wln (W.ret ?_)));obtain rfl:=si n4;exact r1 (qq h3 ⟨l2,w2,z2,rfl⟩)
def hU (p0:aw):Option (Int):=
 (cM (σ:=Int) (τ:=Int ⊕ Unit) (((([1,2,3,4,5,10,11]:List Int).length:Int) - 0).toNat+1) (fun b=>
 if (decide (b < (([1,2,3,4,5,10,11]:List Int).length:Int)))=true then
 (idx ([1,2,3,4,5,10,11]:List Int) b).bind fun d=>
 if (p0.Break==d)=true then
 some (.inr (.inl 0))
 else
 some (.inl ((w64 (b+1))))
 else
 some (.inr (.inr ()))) (0)).bind fun a=>
 match a with
 | .inl a=>
 some a
 | .inr a=>
 (orE (p0.East==1) (some (p0.East==2))).bind fun c=>
 if c=true then
 some 2
 else
 some 1
theorem rZ (O0:Own c0 G F) (b:aw) {r:Int} (H:hU b=some r): Calls prog 261 #[.agg #[I b.Break,B b.Pict,I b.Conj,I b.East]] c0.w (aO c0 fun c v=>Own c G (F)∧v=I r):=by
 unfold hU at H;refine en func261 rfl rfl (sr (me (bx 238 [I b.Break,B b.Pict,I b.Conj,I b.East] O0) ?_));rintro v5 c4 l4 ⟨h,rfl,O2,R⟩;refine va (I 0) (wln (sr (me (sl (RI .i64) 3 [[I 1],[I 2],[I 3],[I 4],[I 5],[I 10],[I 11]] ([1,2,3,4,5,10,11]:List Int) O2 ⟨rfl,rfl,rfl,rfl,rfl,rfl,rfl,trivial⟩) ?_)));rintro v10 s l9 ⟨p,O6,u⟩;refine va (v10) (wln (W.seq (sr (va (I 0) (wln (W.block (bn H fun o D a=>lp D (fun d=>Jn s fun c l=>Own c G (es true (RI .i64) v10 3 p ([1,2,3,4,5,10,11]:List Int) :: F)∧l= [(1,Q h),(3,v10),(4,I d)]) (fun t=>match t with | .inl T=>(fun t0 ex e w=>ex= .ret∧(Jn s fun c l=>Own c G (F)∧l= [(2,I t0)]) e w) T | .inr T=>(fun a1 ex e w=>ex= .exit 0∧(Jn s fun c l=>Own c G (es true (RI .i64) v10 3 p ([1,2,3,4,5,10,11]:List Int) :: F)∧l= [(1,Q h)]) e w) T) ?_ ?_ ?_)))))))
 ·clear a D;intro d j1 g0 u0 H;revert g0 u0;rintro P S ⟨e0,c1,_,rfl,m0,rfl,x,rfl⟩;refine W.seq (sr (va (I d) (va (v10) (vx (lnO 3 rP u.m) (va (B (decide (d < (([1,2,3,4,5,10,11]:List Int).length:Int)))) (wln (cn H (fun i0 H=>?_) (fun i0 H=>?_))))))))
  ·refine W.skip (nrm (W.seq (W.block (W.seq (rD [] (Kp G0 [es true (RI .i64) v10 3 p ([1,2,3,4,5,10,11]:List Int)]) x ?_)))));intro i o0 g;have s0:Kp G0 [es true (RI .i64) v10 3 p ([1,2,3,4,5,10,11]:List Int)] i:=(Kp.cons (g.on 0 rfl) Kp.nil0);refine ta 0 (Q h) (tx 1 (fun c' M=>l1 u_3 ((mm R) 0 _ rfl)) (ta 2 (v10) (ta 3 (I d) (bn H fun q n H=>tx 4 (fun c' M=>ixO rP u.m n) ?_))));obtain ⟨z0,j0,q0⟩:=OA.at (u.mono (m0.trans o0)) n;obtain rfl:=j0;refine AC.takeK 5 (I q) s0 rfl (by kernel_rfl) (by kernel_rfl) (by kernel_rfl) (fun c' M hk=>(rx (by kernel_rfl) (mu u_3 rfl (hk.on 0 rfl) (u.m.blk n) (at1 (j:=0) q0 rfl)))) (ta 6 (B (b.Break==q)) (dn (nrm (cn H (fun k0 H=>?_) (fun k0 H=>?_)))))
   ·refine sr (va (I 0) (wln (W.ret (bkr (thr ?_)))));obtain rfl:=si H;refine ⟨_,rfl,⟨rfl,?_⟩⟩;have X:=g.sD 1 [];exact jn i ⟨X,rfl⟩
   refine W.skip (bkn (nrm (W.region (va (I d) (vv (I (w64 (d+1))) (WL.nil ?_))))));obtain rfl:=si H;exact ⟨_,rfl,jn i ⟨g,rfl⟩⟩
  refine W.exit (thx ?_);obtain rfl:=si H;exact ⟨_,rfl,rfl,jn e0 ⟨x,rfl⟩⟩
 ·exact jn s ⟨O6,rfl⟩
 rcases o with o | o
 ·intro h0; revert h0;rintro _ P S ⟨rfl,f0,d1,_,rfl,g1,rfl,Z,rfl⟩;refine bkr (thr ?_);obtain rfl:=si a;exact r1 (qq f0 ⟨Z,rfl⟩)
 rintro _ P S ⟨rfl,k,e1,_,rfl,h1,rfl,y,rfl⟩;refine bke (nrm (W.seq (W.seq (bn a fun N E a=>W.join (Jn k fun c l=>Own c G (es true (RI .i64) v10 3 p ([1,2,3,4,5,10,11]:List Int) :: F)∧l= [(26,B N)]) ?_ ?_))))
 ·clear a;refine W.region (va (Qo h (0+3)) (vx (l1 u_3 ((mm R) 3 _ rfl)) (va (B (b.East==1)) ?_)));rcases bo (b.East==1) with f | f
  ·obtain rfl:=orT f E;exact vb f (pz (ps (va (B true) (wln (jn k ⟨y,rfl⟩)))))
  have U:=orF f E;refine vb f (wa (Qo h (0+3)) (wn (vx (l1 u_3 ((mm R) 3 _ rfl)) (wa (B (b.East==2)) ?_))));obtain rfl:=si U;exact va (B (b.East==2)) (wln (jn k ⟨y,rfl⟩))
 rintro P S ⟨A,f1,_,rfl,i1,rfl,z,rfl⟩;refine nrm (cn a (fun l0 a=>?_) (fun l0 a=>?_))
 ·refine sr (va (I 2) (wln (W.ret (thr ?_))));obtain rfl:=si a;have a0:=z.sD 1 [];exact r1 (qq A ⟨a0,rfl⟩)
 refine W.skip (nrm (sr (va (I 1) (wln (W.ret ?_)))));obtain rfl:=si a;have b0:=z.sD 1 [];exact r1 (qq A ⟨b0,rfl⟩)
def gG (p0:List Int) (p1:List aw):Option (Int):=
 (cM (σ:=Int) (τ:=Int ⊕ Unit) (((p0.length:Int) - 0).toNat+1) (fun a=>
 if (decide (a < (p0.length:Int)))=true then
 (idx p1 a).bind fun h=>
 (hU h).bind fun i=>
 (orE (i==2) ((bV (decide (a > 0)) ((idx p0 a).bind fun j=>
 (bV (j==65039) ((idx p1 (w64 (a - 1))).bind fun k=>
 some k.Pict)).bind fun e=>
 (orE e ((idx p1 a).bind fun l=>
 some l.Pict)).bind fun f=>
 (orE f ((idx p1 a).bind fun m=>
 some (m.Break==6))).bind fun g=>
 some g)).bind fun d=>
 some d)).bind fun c=>
 if c=true then
 some (.inr (.inl 2))
 else
 some (.inl ((w64 (a+1))))
 else
 some (.inr (.inr ()))) (0)).bind fun b=>
 match b with
 | .inl b=>
 some b
 | .inr b=>
 some 1
theorem rn (O0:Own c0 G F) (p0:List Int) (p1:List aw) {r:Int} (h2:Sl (RI .i32) c0 v1 p0) (g:Sl cE c0 v3 p1) (H:gG p0 p1=some r): Calls prog 211 #[v1,v3] c0.w (aO c0 fun c v=>Own c G (F)∧v=I r):=by
 unfold gG at H;refine en func211 rfl rfl (sr (va (I 0) (wln (W.seq (sr (va (I 0) (wln (W.block (bn H fun N h5 H6=>lp h5 (fun a=>Jn c0 fun c l=>Own c G (F)∧l= [(0,v1),(1,v3),(5,I a)]) (fun t=>match t with | .inl x_=>(fun k2 ex e w=>ex= .ret∧(Jn c0 fun c l=>Own c G (F)∧l= [(4,I k2)]) e w) x_ | .inr x_=>(fun x2 ex e w=>ex= .exit 0∧(Jn c0 fun c l=>Own c G (F)∧l= []) e w) x_) ?_ ?_ ?_)))))))))
 ·clear H6 h5;intro a e3 g1 l2 H;revert g1 l2;rintro e_ w_ ⟨c7,g8,_,rfl,x,rfl,O9,rfl⟩;refine W.seq (sr (va (I a) (va (v1) (vx (ln 3 dS h2.m) (va (B (decide (a < (p0.length:Int)))) (wln (cn H (fun i1 H=>?_) (fun i1 H=>?_))))))))
  ·refine W.skip (nrm (W.seq (W.block (W.seq (bn H fun z0 X H=>bn H fun P j1 H=>bn H fun s0 Z H=>W.join (Jn c7 fun c l=>Own c G (F)∧l= [(0,v1),(1,v3),(5,I a),(51,B s0)]) ?_ ?_)))))
   ·clear H;refine W.region (va (v3) (va (I a) ?_));obtain ⟨p2,k1,b2⟩:=Sl.at (g.mono x) (aX X);obtain rfl:=k1;refine vx (ix jU g.m X) (vx (lN 238 b2) (cl (rZ O9 z0 j1) ?_));rintro v25 i k ⟨h,rfl⟩;refine va (B (P==2)) ?_;rcases bo (P==2) with n | n
    ·obtain rfl:=orT n Z;exact vb n (pz (pz (pz (pz (pz (pz (pz (pz (pz (pz (pz (pz (pz (pz (pz (pz (va (B true) (wln (jn i ⟨h,rfl⟩)))))))))))))))))))
    have f:=orF n Z;refine vb n (wa (I a) (wa (B (decide (a > 0))) (wn (bn f fun n2 a0 f=>?_))));rcases bo (decide (a > 0)) with o | o
    ·have b:=anT o a0;refine vb o (wa (v1) (wa (I a) (wn (bn b fun R b0 b=>?_))));obtain ⟨q2,m1,c2⟩:=Sl.at (h2.mono (x.trans k)) (aX b0);obtain rfl:=m1;refine vx (ix dS h2.m b0) (wn (vx (l1 nc (c2 0 _ rfl)) (wa (B (R==65039)) (wn (bn b fun o2 d0 b=>?_)))));rcases bo (R==65039) with p | p
     ·have y:=anT p d0;refine vb p (wa (v3) (wa (I a) (wa (I (w64 (a - 1))) (wn (bn y fun S e0 y=>?_)))));obtain ⟨s2,n1,d2⟩:=Sl.at (g.mono (x.trans k)) (aX e0);obtain rfl:=n1;refine vx (ix jU g.m e0) (wa (Qo (sb v3) (so v3+(w64 (a - 1)).toNat * 4+1)) (wn (vx (l1 u_4 (d2 1 _ rfl)) (wn ?_))));obtain rfl:=si y;refine va (B S.Pict) (wn (bn b fun t0 f0 b=>?_));rcases bo (S.Pict) with q | q
      ·obtain rfl:=orT q f0;refine vb q (pz (pz (ps (wa (B true) (wn (bn b fun M q1 b=>?_))))));have g0:true=true:=rfl;obtain rfl:=orT g0 q1;refine vb g0 (pz (pz (pz (wa (B true) (wn ?_)))));obtain rfl:=si b;refine va (B true) ?_;obtain rfl:=si f;exact va (B true) (wln (jn i ⟨h,rfl⟩))
      have z:=orF q f0;refine vb q (wa (v3) (wa (I a) (wn (bn z fun j h0 z=>?_))));obtain ⟨t2,s1,e2⟩:=Sl.at (g.mono (x.trans k)) (aX h0);obtain rfl:=s1;refine vx (ix jU g.m h0) (wa (Qo (sb v3) (so v3+a.toNat * 4+1)) (wn (vx (l1 u_4 (e2 1 _ rfl)) (wn ?_))));obtain rfl:=si z;refine va (B j.Pict) (wn (bn b fun M i0 b=>?_));rcases bo (j.Pict) with s | s
      ·obtain rfl:=orT s i0;refine vb s (pz (pz (pz (wa (B true) (wn ?_)))));obtain rfl:=si b;refine va (B true) ?_;obtain rfl:=si f;exact va (B true) (wln (jn i ⟨h,rfl⟩))
      have A:=orF s i0;refine vb s (wa (v3) (wa (I a) (wn (bn A fun d j0 A=>?_))));obtain ⟨u2,u1,f2⟩:=Sl.at (g.mono (x.trans k)) (aX j0);obtain rfl:=u1;refine vx (ix jU g.m j0) (wa (Qo (sb v3) (so v3+a.toNat * 4)) (wn (vx (l1 u_3 (f2 0 _ rfl)) (wa (B (d.Break==6)) (wn ?_)))));obtain rfl:=si A;refine va (B (d.Break==6)) (wn ?_);obtain rfl:=si b;refine va (B (d.Break==6)) ?_;obtain rfl:=si f;exact va (B (d.Break==6)) (wln (jn i ⟨h,rfl⟩))
     obtain rfl:=anF p d0;refine vb p (pz (pz (pz (wa (B false) (wn (bn b fun t0 w1 b=>?_))))));have k0:false=false:=rfl;have D:=orF k0 w1;refine vb k0 (wa (v3) (wa (I a) (wn (bn D fun j l0 D=>?_))));obtain ⟨v2,x1,g2⟩:=Sl.at (g.mono (x.trans k)) (aX l0);obtain rfl:=x1;refine vx (ix jU g.m l0) (wa (Qo (sb v3) (so v3+a.toNat * 4+1)) (wn (vx (l1 u_4 (g2 1 _ rfl)) (wn ?_))));obtain rfl:=si D;refine va (B j.Pict) (wn (bn b fun M m0 b=>?_));rcases bo (j.Pict) with u | u
     ·obtain rfl:=orT u m0;refine vb u (pz (pz (pz (wa (B true) (wn ?_)))));obtain rfl:=si b;refine va (B true) ?_;obtain rfl:=si f;exact va (B true) (wln (jn i ⟨h,rfl⟩))
     have E:=orF u m0;refine vb u (wa (v3) (wa (I a) (wn (bn E fun d o0 E=>?_))));obtain ⟨w2,y1,i2⟩:=Sl.at (g.mono (x.trans k)) (aX o0);obtain rfl:=y1;refine vx (ix jU g.m o0) (wa (Qo (sb v3) (so v3+a.toNat * 4)) (wn (vx (l1 u_3 (i2 0 _ rfl)) (wa (B (d.Break==6)) (wn ?_)))));obtain rfl:=si E;refine va (B (d.Break==6)) (wn ?_);obtain rfl:=si b;refine va (B (d.Break==6)) ?_;obtain rfl:=si f;exact va (B (d.Break==6)) (wln (jn i ⟨h,rfl⟩))
    obtain rfl:=anF o a0;refine vb o (pz (pz (pz (pz (pz (pz (pz (pz (pz (pz (pz (pz (pz (pz (wa (B false) ?_)))))))))))))));obtain rfl:=si f;exact va (B false) (wln (jn i ⟨h,rfl⟩))
   rintro e_ w_ ⟨U,y2,_,rfl,b3,rfl,T,rfl⟩;refine nrm (cn H (fun z1 H=>?_) (fun z1 H=>?_))
   ·refine sr (va (I 2) (wln (W.ret (bkr (thr ?_)))));obtain rfl:=si H;exact ⟨_,rfl,⟨rfl,jn U ⟨T,rfl⟩⟩⟩
   refine W.skip (bkn (nrm (W.region (va (I a) (vv (I (w64 (a+1))) (WL.nil ?_))))));obtain rfl:=si H;exact ⟨_,rfl,jn U ⟨T,rfl⟩⟩
  refine W.exit (thx ?_);obtain rfl:=si H;exact ⟨_,rfl,rfl,jn c7 ⟨O9,rfl⟩⟩
 ·exact jn c0 ⟨O0,rfl⟩
 rcases N with N | N
 ·intro h1; revert h1;rintro _ e_ w_ ⟨rfl,e1,z2,_,rfl,c3,rfl,a1,rfl⟩;refine bkr (thr ?_);obtain rfl:=si H6;exact r1 (qq e1 ⟨a1,rfl⟩)
 rintro _ e_ w_ ⟨rfl,f1,a3,_,rfl,d3,rfl,b1,rfl⟩;refine bke (nrm (sr (va (I 1) (wln (W.ret ?_)))));obtain rfl:=si H6;exact r1 (qq f1 ⟨b1,rfl⟩)
def lh:List (Int×Int×Int):=[(0,9,3),(10,10,2),(11,12,3),(13,13,1),(14,31,3),(127,159,3),(173,173,3),(768,879,4),(1155,1161,4),(1425,1469,4),(1471,1471,4),(1473,1474,4),(1476,1477,4),(1479,1479,4),(1536,1541,7),(1552,1562,4),(1564,1564,3),(1611,1631,4),(1648,1648,4),(1750,1756,4),(1757,1757,7),(1759,1764,4),(1767,1768,4),(1770,1773,4),(1807,1807,7),(1809,1809,4),(1840,1866,4),(1958,1968,4),(2027,2035,4),(2070,2073,4),(2075,2083,4),(2192,2193,7),(2259,2273,4),(2274,2274,7),(2275,2306,4),(2307,2307,8),(2362,2362,4),(2363,2363,8),(2364,2364,4),(2366,2368,8),(2369,2376,4),(2377,2380,8),(2381,2381,4),(2382,2383,8),(2385,2391,4),(2402,2403,4),(2433,2433,4),(2434,2435,8),(2492,2492,4),(2494,2494,4),(2495,2496,8),(2497,2500,4),(2503,2504,8),(2507,2508,8),(2509,2509,4),(2519,2519,4),(2530,2531,4),(2561,2562,4),(2563,2563,8),(2620,2620,4),(2622,2624,8),(2625,2626,4),(2631,2632,4),(2635,2637,4),(2691,2691,8),(2748,2748,4),(2750,2752,8),(2753,2757,4),(2761,2761,8),(2765,2765,4),(2818,2819,8),(2876,2876,4),(2878,2879,4),(2880,2880,8),(2881,2884,4),(2887,2888,8),(2893,2893,4),(2902,2903,4),(3073,3075,8),(3132,3132,4),(3134,3136,4),(3137,3140,8),(3142,3144,4),(3146,3149,4),(3276,3277,4),(3330,3331,8),(3390,3390,4),(3391,3392,8),(3393,3396,4),(3398,3400,8),(3405,3405,4),(3406,3406,7),(3633,3633,4),(3635,3635,8),(3636,3642,4),(3655,3662,4),(3761,3761,4),(3763,3763,8),(3764,3772,4),(3864,3865,4),(3902,3903,8),(3953,3966,4),(4155,4156,8),(4957,4959,4),(6158,6158,3),(6832,6862,4),(7616,7679,4),(8203,8203,3),(8204,8204,4),(8205,8205,5),(8206,8207,3),(8232,8238,3),(8288,8303,3),(8400,8432,4),(12330,12335,4),(12441,12442,4),(42607,42610,4),(64286,64286,4),(65024,65039,4),(65056,65071,4),(65279,65279,3),(65520,65531,3),(69821,69821,7),(69837,69837,7),(127462,127487,6),(127995,127999,4),(917504,917535,3),(917536,917631,4),(917632,917759,3),(917760,917999,4),(918000,921599,3)]
def mM:Option (List (Int×Int×Int)):=
 some lh
theorem yT (d:Own c0 G F) {r:List (Int×Int×Int)} (H:mM=some r): Calls prog 270 #[] c0.w (aO c0 fun c v=>∃a b,Own c G (es true iL a 326 b r :: F)∧v=a∧OA iL c a b r):=by
 unfold mM at H;refine en func270 rfl rfl (sr (va (Y) (wln (sr (va (aG 0 9 3) (va (aG 10 10 2) (va (aG 11 12 3) (va (aG 13 13 1) (va (aG 14 31 3) (va (aG 127 159 3) (va (aG 173 173 3) (va (aG 768 879 4) (va (aG 1155 1161 4) (va (aG 1425 1469 4) (va (aG 1471 1471 4) (va (aG 1473 1474 4) (va (aG 1476 1477 4) (va (aG 1479 1479 4) (va (aG 1536 1541 7) (va (aG 1552 1562 4) (va (aG 1564 1564 3) (va (aG 1611 1631 4) (va (aG 1648 1648 4) (va (aG 1750 1756 4) (va (aG 1757 1757 7) (va (aG 1759 1764 4) (va (aG 1767 1768 4) (va (aG 1770 1773 4) (va (aG 1807 1807 7) (va (aG 1809 1809 4) (va (aG 1840 1866 4) (va (aG 1958 1968 4) (va (aG 2027 2035 4) (va (aG 2070 2073 4) (va (aG 2075 2083 4) (va (aG 2192 2193 7) (va (aG 2259 2273 4) (va (aG 2274 2274 7) (va (aG 2275 2306 4) (va (aG 2307 2307 8) (va (aG 2362 2362 4) (va (aG 2363 2363 8) (va (aG 2364 2364 4) (va (aG 2366 2368 8) (va (aG 2369 2376 4) (va (aG 2377 2380 8) (va (aG 2381 2381 4) (va (aG 2382 2383 8) (va (aG 2385 2391 4) (va (aG 2402 2403 4) (va (aG 2433 2433 4) (va (aG 2434 2435 8) (va (aG 2492 2492 4) (va (aG 2494 2494 4) (va (aG 2495 2496 8) (va (aG 2497 2500 4) (va (aG 2503 2504 8) (va (aG 2507 2508 8) (va (aG 2509 2509 4) (va (aG 2519 2519 4) (va (aG 2530 2531 4) (va (aG 2561 2562 4) (va (aG 2563 2563 8) (va (aG 2620 2620 4) (va (aG 2622 2624 8) (va (aG 2625 2626 4) (va (aG 2631 2632 4) (va (aG 2635 2637 4) (va (aG 2691 2691 8) (va (aG 2748 2748 4) (va (aG 2750 2752 8) (va (aG 2753 2757 4) (va (aG 2761 2761 8) (va (aG 2765 2765 4) (va (aG 2818 2819 8) (va (aG 2876 2876 4) (va (aG 2878 2879 4) (va (aG 2880 2880 8) (va (aG 2881 2884 4) (va (aG 2887 2888 8) (va (aG 2893 2893 4) (va (aG 2902 2903 4) (va (aG 3073 3075 8) (va (aG 3132 3132 4) (va (aG 3134 3136 4) (va (aG 3137 3140 8) (va (aG 3142 3144 4) (va (aG 3146 3149 4) (va (aG 3276 3277 4) (va (aG 3330 3331 8) (va (aG 3390 3390 4) (va (aG 3391 3392 8) (va (aG 3393 3396 4) (va (aG 3398 3400 8) (va (aG 3405 3405 4) (va (aG 3406 3406 7) (va (aG 3633 3633 4) (va (aG 3635 3635 8) (va (aG 3636 3642 4) (va (aG 3655 3662 4) (va (aG 3761 3761 4) (va (aG 3763 3763 8) (va (aG 3764 3772 4) (va (aG 3864 3865 4) (va (aG 3902 3903 8) (va (aG 3953 3966 4) (va (aG 4155 4156 8) (va (aG 4957 4959 4) (va (aG 6158 6158 3) (va (aG 6832 6862 4) (va (aG 7616 7679 4) (va (aG 8203 8203 3) (va (aG 8204 8204 4) (va (aG 8205 8205 5) (va (aG 8206 8207 3) (va (aG 8232 8238 3) (va (aG 8288 8303 3) (va (aG 8400 8432 4) (va (aG 12330 12335 4) (va (aG 12441 12442 4) (va (aG 42607 42610 4) (va (aG 64286 64286 4) (va (aG 65024 65039 4) (va (aG 65056 65071 4) (va (aG 65279 65279 3) (va (aG 65520 65531 3) (va (aG 69821 69821 7) (va (aG 69837 69837 7) (va (aG 127462 127487 6) (va (aG 127995 127999 4) (va (aG 917504 917535 3) (va (aG 917536 917631 4) (va (aG 917632 917759 3) (va (aG 917760 917999 4) (va (aG 918000 921599 3) (me (Own.sl (R:=iL) (E:=326) (ls:=lh.map (fun x=>[I x.1,I x.2.1,I x.2.2])) (vs:=(lh.map (fun x=>[I x.1,I x.2.1,I x.2.2])).flatten) (xs:=lh) true d (aM _) rfl (nY.map _ (fun _=>rfl) _) (by kernel_rfl) (by kernel_rfl)) ?_))))))))))))))))))))))))))))))))))))))))))))))))))))))))))))))))))))))))))))))))))))))))))))))))))))))))))))))))))))))))))))))))))))))));rintro v5 f i ⟨h,e,g⟩;refine va (v5) (wln (W.ret ?_));obtain rfl:=si H;exact r1 (qq f ⟨v5,h,e,rfl,g⟩)
def np (p0:Int) (q0_0:List (Int×Int×Int)) (q1_0:Int):Option (Bool):=
 (idx q0_0 p0).bind fun a=>
 some (decide (a.2.1≥(w64 q1_0)))
theorem zP {d:Nat} {e:Nat} (o:Own c0 G F) (b:Int) (q0_0:List (Int×Int×Int)) (q1_0:Int) {r:Bool} (s:∀j u,([v2]:List Value)[j]? = some u→Im c0 d (0+j) u) (k:Sl iL c0 v2 q0_0) (t:∀j u,([J q1_0]:List Value)[j]? = some u→Im c0 e (0+j) u) (H:np b q0_0 q1_0=some r): Calls prog 272 #[I b,Q d,Q e] c0.w (aO c0 fun c v=>Own c G (F)∧v=B r):=by
 unfold np at H;refine en func272 rfl rfl (sr (va (B false) (wln (W.seq (rD [] (Kp G0 []) o ?_)))));intro h q p;have y:Kp G0 [] h:=Kp.nil0;refine tx 0 (fun g a=>l1 iM ((mm s) 0 _ rfl)) (ta 1 (I b) (bn H fun f l H=>?_));obtain ⟨x,i,n⟩:=Sl.at (k.mono q) (aX l);obtain rfl:=i;refine tx 2 (fun g a=>ix iM k.m l) (ta 3 (Qo (sb v2) (so v2+b.toNat * 3+1)) (tx 4 (fun g a=>l1 u_3 ((mm n) 1 _ rfl)) (tx 5 (fun g a=>l1 nc ((mm t) 0 _ rfl)) (ta 6 (I (w64 q1_0)) (ta 7 (B (decide (f.2.1≥(w64 q1_0)))) (ta 8 (B (decide (f.2.1≥(w64 q1_0)))) (dn (nrm (W.ret ?_)))))))));obtain rfl:=si H;exact r1 (qq h ⟨p,rfl⟩)
def gO (p0:Int) (p1:Int) (p2:Int):Option (Bool):=
 (bV (decide (p0≥p1)) (some (decide (p0≤p2)))).bind fun a=>
 some a
theorem kr (f:Own c0 G F) (a:Int) (e:Int) (b:Int) {r:Bool} (H:gO a e b=some r): Calls prog 312 #[J a,J e,J b] c0.w (aO c0 fun c v=>Own c G (F)∧v=B r):=by
 unfold gO at H;refine en func312 rfl rfl (sr (va (B false) (wln (W.seq (bn H fun g h H=>W.join (Jn c0 fun c l=>Own c G (F)∧l= [(6,B g)]) ?_ ?_)))))
 ·clear H;refine W.region (va (J a) (va (J e) (va (B (decide (a≥e))) ?_)));rcases bo (decide (a≥e)) with d | d
  ·have i:=anT d h;refine vb d (wa (J a) (wa (J b) (wa (B (decide (a≤b))) ?_)));obtain rfl:=si i;exact vv (B (decide (a≤b))) (wln (jn c0 ⟨f,rfl⟩))
  obtain rfl:=anF d h;exact vb d (pz (ps (vv (B false) (wln (jn c0 ⟨f,rfl⟩)))))
 rintro m p ⟨k,n,_,rfl,o,rfl,j,rfl⟩;refine nrm (W.ret ?_);obtain rfl:=si H;exact r1 (qq k ⟨j,rfl⟩)
def jW (p0:Int):Option (Bool):=
 (gO p0 44032 55203).bind fun a=>
 some a
theorem tg (d:Own c0 G F) (a:Int) {r:Bool} (H:jW a=some r): Calls prog 313 #[J a] c0.w (aO c0 fun c v=>Own c G (F)∧v=B r):=by
 unfold jW at H;refine en func313 rfl rfl (sr (va (B false) (wln (sr (va (J a) (bn H fun b g H=>cl (kr d a 44032 55203 g) ?_))))));rintro v7 f h ⟨e,rfl⟩;refine va (B b) (wln (W.ret ?_));obtain rfl:=si H;exact r1 (qq f ⟨e,rfl⟩)
def kh (p0:Int):Option (Int):=
 (gO p0 4352 4447).bind fun i=>
 (orE i ((gO p0 43360 43388).bind fun j=>
 some j)).bind fun h=>
 if h=true then
 some 9
 else
 (gO p0 4448 4519).bind fun c=>
 (orE c ((gO p0 55216 55238).bind fun d=>
 some d)).bind fun a=>
 if a=true then
 some 10
 else
 (gO p0 4520 4607).bind fun e=>
 (orE e ((gO p0 55243 55291).bind fun f=>
 some f)).bind fun b=>
 if b=true then
 some 11
 else
 (jW p0).bind fun g=>
 if (!g)=true then
 some 0
 else
 if (((w32 (p0 - 44032)).tmod 28)==0)=true then
 some 12
 else
 some 13
theorem vI (O0:Own c0 G F) (a:Int) {r:Int} (H:kh a=some r): Calls prog 273 #[J a] c0.w (aO c0 fun c v=>Own c G (F)∧v=I r):=by
 unfold kh at H;refine en func273 rfl rfl (sr (va (I 0) (wln (W.seq (W.block (W.seq (bn H fun w0 h1 H=>bn H fun e0 h2 H=>W.join (Jn c0 fun c l=>Own c G (F)∧l= [(0,J a),(3,B e0)]) ?_ ?_)))))))
 ·clear H;refine W.region (va (J a) (cl (kr O0 a 4352 4447 h1) ?_));rintro v8 c7 l7 ⟨S,rfl⟩;rcases bo (w0) with j | j
  ·obtain rfl:=orT j h2;exact vb j (pz (vv (B true) (wln (jn c7 ⟨S,rfl⟩))))
  have e:=orF j h2;refine vb j (wa (J a) (wn (bn e fun A g0 e=>cl (kr S a 43360 43388 g0) ?_)));rintro v17 U l16 ⟨P,rfl⟩;obtain rfl:=si e;exact vv (B A) (wln (jn U ⟨P,rfl⟩))
 rintro e_ w_ ⟨u,a1,_,rfl,d1,rfl,o,rfl⟩;refine nrm (cn H (fun i0 H=>?_) (fun i0 H=>?_))
 ·refine sr (va (I 9) (wln (W.ret (bkr (thr ?_)))));obtain rfl:=si H;exact r1 (qq u ⟨o,rfl⟩)
 refine W.seq (bn H fun M j0 H=>bn H fun D y H=>W.join (Jn u fun c l=>Own c G (F)∧l= [(0,J a),(10,B D)]) ?_ ?_)
 ·clear H;refine W.region (va (J a) (cl (kr o a 4448 4519 j0) ?_));rintro v32 X e1 ⟨p,rfl⟩;rcases bo (M) with b | b
  ·obtain rfl:=orT b y;exact vb b (pz (vv (B true) (wln (jn X ⟨p,rfl⟩))))
  have f:=orF b y;refine vb b (wa (J a) (wn (bn f fun k k0 f=>cl (kr p a 55216 55238 k0) ?_)));rintro v41 Z f1 ⟨R,rfl⟩;obtain rfl:=si f;exact vv (B k) (wln (jn Z ⟨R,rfl⟩))
 rintro e_ w_ ⟨x,b1,_,rfl,g1,rfl,q,rfl⟩;refine nrm (cn H (fun l0 H=>?_) (fun l0 H=>?_))
 ·refine sr (va (I 10) (wln (W.ret (bkr (thr ?_)))));obtain rfl:=si H;exact r1 (qq x ⟨q,rfl⟩)
 refine W.seq (bn H fun N m0 H=>bn H fun E z H=>W.join (Jn x fun c l=>Own c G (F)∧l= [(0,J a),(17,B E)]) ?_ ?_)
 ·clear H;refine W.region (va (J a) (cl (kr q a 4520 4607 m0) ?_));rintro v56 a0 i1 ⟨s,rfl⟩;rcases bo (N) with d | d
  ·obtain rfl:=orT d z;exact vb d (pz (vv (B true) (wln (jn a0 ⟨s,rfl⟩))))
  have g:=orF d z;refine vb d (wa (J a) (wn (bn g fun m o0 g=>cl (kr s a 55243 55291 o0) ?_)));rintro n1 b0 j1 ⟨T,rfl⟩;obtain rfl:=si g;exact vv (B m) (wln (jn b0 ⟨T,rfl⟩))
 rintro e_ w_ ⟨d0,c1,_,rfl,k1,rfl,t,rfl⟩;refine nrm (cn H (fun q0 H=>?_) (fun q0 H=>?_))
 ·refine sr (va (I 11) (wln (W.ret (bkr (thr ?_)))));obtain rfl:=si H;exact r1 (qq d0 ⟨t,rfl⟩)
 refine sr (va (J a) (bn H fun n s0 H=>cl (tg t a s0) ?_));rintro p1 i m1 ⟨h,rfl⟩;refine vv (B (!n)) (wln (cn H (fun t0 H=>?_) (fun t0 H=>?_)))
 ·refine sr (va (I 0) (wln (W.ret (bkr (thr ?_)))));obtain rfl:=si H;exact r1 (qq i ⟨h,rfl⟩)
 refine sr (va (J a) (va (J (w32 (a - 44032))) (va (J ((w32 (a - 44032)).tmod 28)) (vv (B (((w32 (a - 44032)).tmod 28)==0)) (wln (cn H (fun u0 H=>?_) (fun u0 H=>?_)))))))
 ·refine sr (va (I 12) (wln (W.ret (bkr (thr ?_)))));obtain rfl:=si H;exact r1 (qq i ⟨h,rfl⟩)
 refine W.skip (bkn (nrm (sr (va (I 13) (wln (W.ret ?_))))));obtain rfl:=si H;exact r1 (qq i ⟨h,rfl⟩)
def go (p0:Int) (p1_0_0:List (Int×Int×Int)) (p1_1_0:Int):Option (Int):=
 (cM (σ:=Int×Int) (τ:=Int) ((p0 - 0).toNat+1) (fun a=>
 if (decide (a.1 < a.2))=true then
 (np (w64 ((IntKind.u64.wrap (w64 (a.1+a.2))).fdiv (2 ^ 1))) p1_0_0 p1_1_0).bind fun b=>
 if (!b)=true then
 some (.inl ((w64 ((w64 ((IntKind.u64.wrap (w64 (a.1+a.2))).fdiv (2 ^ 1)))+1)),a.2))
 else
 some (.inl (a.1,(w64 ((IntKind.u64.wrap (w64 (a.1+a.2))).fdiv (2 ^ 1)))))
 else
 some (.inr (a.1))) (0,p0)).bind fun c=>
 some c
theorem oE {b1_0:Nat} {b1_1:Nat} (A:Own c0 G F) (b:Int) (p1_0_0:List (Int×Int×Int)) (p1_1_0:Int) {r:Int} (N:∀j u,([v2]:List Value)[j]? = some u→Im c0 b1_0 (0+j) u) (M:Sl iL c0 v2 p1_0_0) (P:∀j u,([J p1_1_0]:List Value)[j]? = some u→Im c0 b1_1 (0+j) u) (H:go b p1_0_0 p1_1_0=some r): Calls prog 271 #[I b,.func (.func 272) #[] #[Q b1_0,Q b1_1]] c0.w (aO c0 fun c v=>Own c G (F)∧v=I r):=by
 unfold go at H;refine en func271 rfl rfl (sr (va (I 0) (wln (sr (va (I b) (va (I 0) (va (I b) (wln (W.seq (W.block (bn H fun g y k=>lp y (fun a=>Jn c0 fun c l=>Own c G (F)∧l= [(1,.func (.func 272) #[] #[Q b1_0,Q b1_1]),(5,I a.1),(6,I a.2)]) (fun h ex e w=>ex= .exit 0∧(Jn c0 fun c l=>Own c G (F)∧l= [(5,I h)]) e w) ?_ ?_ ?_)))))))))))
 ·clear k y;intro a X q z H;revert q z;rintro E R ⟨D,Z,_,rfl,l7,rfl,o,rfl⟩;refine W.seq (sr (va (I a.1) (va (I a.2) (va (B (decide (a.1 < a.2))) (wln (cn H (fun s H=>?_) (fun s H=>?_)))))))
  ·refine W.skip (nrm (W.block (sr (va (I a.1) (va (I a.2) (va (I (w64 (a.1+a.2))) (va (.int .u64 (IntKind.u64.wrap (w64 (a.1+a.2)))) (va (.int .u64 ((IntKind.u64.wrap (w64 (a.1+a.2))).fdiv (2 ^ 1))) (vv (I (w64 ((IntKind.u64.wrap (w64 (a.1+a.2))).fdiv (2 ^ 1)))) (wln (sr (va (.func (.func 272) #[] #[Q b1_0,Q b1_1]) (va (I (w64 ((IntKind.u64.wrap (w64 (a.1+a.2))).fdiv (2 ^ 1)))) (bn H fun i t H=>cl (zP o (w64 ((IntKind.u64.wrap (w64 (a.1+a.2))).fdiv (2 ^ 1))) p1_0_0 p1_1_0 (mm N) M.m (mm P) t) ?_))))))))))))));rintro v20 f T ⟨d,rfl⟩;refine va (B (!i)) (wln (cn H (fun x H=>?_) (fun x H=>?_)))
   ·refine W.region (va (I (w64 ((IntKind.u64.wrap (w64 (a.1+a.2))).fdiv (2 ^ 1)))) (vv (I (w64 ((w64 ((IntKind.u64.wrap (w64 (a.1+a.2))).fdiv (2 ^ 1)))+1))) (WL.nil (bkn ?_))));obtain rfl:=si H;exact ⟨_,rfl,jn f ⟨d,rfl⟩⟩
   refine W.region (vv (I (w64 ((IntKind.u64.wrap (w64 (a.1+a.2))).fdiv (2 ^ 1)))) (WL.nil (bkn ?_)));obtain rfl:=si H;exact ⟨_,rfl,jn f ⟨d,rfl⟩⟩
  refine W.exit (thx ?_);obtain rfl:=si H;exact ⟨_,rfl,rfl,jn D ⟨o,rfl⟩⟩
 ·exact jn c0 ⟨A,rfl⟩
 rintro _ E R ⟨rfl,p,S,_,rfl,U,rfl,n,rfl⟩;refine bke (nrm (sr (vv (I g) (wln (W.ret ?_)))));obtain rfl:=si k;exact r1 (qq p ⟨n,rfl⟩)
def qw (p0:Int):Option (Int):=
 (mM).bind fun a=>
 (go (a.length:Int) a p0).bind fun b=>
 (bV (decide (b < (a.length:Int))) ((idx a b).bind fun d=>
 some (decide (d.1≤(w64 p0))))).bind fun c=>
 if c=true then
 (idx a b).bind fun e=>
 some e.2.2
 else
 (kh p0).bind fun f=>
 some f
theorem Dh (O0:Own c0 G F) (i:Int) {r:Int} (H:qw i=some r): Calls prog 227 #[J i] c0.w (aO c0 fun c v=>Own c G (F)∧v=I r):=by
 unfold qw at H;refine en func227 rfl rfl (sr (me (bx 21 [J i] O0) ?_));rintro v5 c4 l4 ⟨b1,rfl,O2,R⟩;refine va (I 0) (wln (sr (bn H fun j h6 H=>cl (yT O2 h6) ?_)));rintro v7 h1 p1 ⟨_,u8,U,rfl,s⟩;refine me (al 323 [Y] U) ?_;rintro v19 i1 E ⟨y,rfl,X⟩;obtain ⟨b,d,e,rfl⟩:=((s.mono E)).form;refine md (sC 323 0 (.slice b d e) [.slice b d e] 0 X ⟨s.m.one,trivial⟩) ?_;rintro j1 v0 t;refine wln (sr (vx (le1 0 iM (t.on 0 rfl)) (vx (lnO 3 iM s.m) ?_)));obtain ⟨k1,l0,q1,Z,g⟩:=t.frz 1 rfl (s.mono (E.trans v0));refine WL.gh l0 ?_;obtain ⟨m1,m0,M,a0,n⟩:=Own.frzB 0 Z rfl;refine WL.gh m0 ?_;have b0:=a0.sD 2 [1];refine va (.func (.func 272) #[] #[Q y,Q b1]) (bn H fun a o0 H=>cl (oE b0 (j.length:Int) j i n g.m (mm R) o0) ?_);rintro v40 i0 N ⟨d0,rfl⟩;refine va (I a) (wln (W.seq (W.seq (bn H fun P z H=>W.join (Jn i0 fun c l=>Own c G (es false iL (.slice b d e) 326 u8 j :: F)∧l= [(1,Q b1),(3,Q y),(4,I a),(23,B P)]) ?_ ?_))))
 ·clear H;refine rD [] (Kp G0 []) d0 ?_;intro p w0 u;have t1:Kp G0 [] p:=Kp.nil0;refine ta 0 (I a) (tx 1 (fun k f=>l1 iM ((mm n) 0 _ rfl)) (tx 2 (fun k f=>ln 3 iM g.m) (ta 3 (B (decide (a < (j.length:Int)))) ?_)));rcases bo (decide (a < (j.length:Int))) with h | h
  ·have o:=anT h z;refine bn o fun q A o=>AC.takeb 4 h rfl (by kernel_rfl) (by kernel_rfl) (fun k f=>(by kernel_rfl)) (tx 5 (fun k f=>l1 iM ((mm n) 0 _ rfl)) (ta 6 (I a) ?_));obtain ⟨e1,q0,y0⟩:=Sl.at (g.mono (M.trans (N.trans w0))) (aX A);obtain rfl:=q0;refine tx 7 (fun k f=>ix iM g.m A) (ta 8 (Qo (sb (.slice b d e)) (so (.slice b d e)+a.toNat * 3)) (tx 9 (fun k f=>l1 u_3 ((mm y0) 0 _ rfl)) (tx 10 (fun k f=>l1 nc ((mm R) 0 _ rfl)) (ta 11 (I (w64 i)) (ta 12 (B (decide (q.1≤(w64 i)))) ?_)))));obtain rfl:=si o;exact ta 13 (B (decide (q.1≤(w64 i)))) (dn (nrm (jn p ⟨u,rfl⟩)))
  obtain rfl:=anF h z;exact AC.takeb 4 h rfl (by kernel_rfl) (by kernel_rfl) (fun k f=>(by kernel_rfl)) (tp 5 (tp 6 (tp 7 (tp 8 (tp 9 (tp 10 (tp 11 (tp 12 (ta 13 (B false) (dn (nrm (jn p ⟨u,rfl⟩))))))))))))
 rintro e_ w_ ⟨j0,n1,_,rfl,x0,rfl,x,rfl⟩;refine nrm (cn H (fun s0 H=>?_) (fun s0 H=>?_))
 ·refine sr (vx (l1 iM ((mm n) 0 _ rfl)) (va (I a) (bn H fun S D H=>?_)));obtain ⟨f1,t0,z0⟩:=Sl.at (g.mono (M.trans (N.trans x0))) (aX D);obtain rfl:=t0;refine vx (ix iM g.m D) (va (Qo (sb (.slice b d e)) (so (.slice b d e)+a.toNat * 3+2)) (vx (l1 u_3 (z0 2 _ rfl)) (va (I S.2.2) (wln (W.ret (thr ?_))))));obtain rfl:=si H;have e0:=x.sD 1 [];exact r1 (qq j0 ⟨e0,rfl⟩)
 refine W.skip (nrm (sr (vx (l1 nc ((mm R) 0 _ rfl)) (bn H fun T u0 H=>cl (vI x i u0) ?_))));rintro u1 k0 s1 ⟨f0,rfl⟩;refine va (I T) (wln (W.ret ?_));obtain rfl:=si H;have g0:=f0.sD 1 [];exact r1 (qq k0 ⟨g0,rfl⟩)
def mL (p0:Int) (q0_0:List (Int×Int)) (q1_0:Int):Option (Bool):=
 (idx q0_0 p0).bind fun a=>
 some (decide (a.2≥q1_0))
theorem yS {d:Nat} {e:Nat} (o:Own c0 G F) (b:Int) (q0_0:List (Int×Int)) (q1_0:Int) {r:Bool} (s:∀j u,([v2]:List Value)[j]? = some u→Im c0 d (0+j) u) (k:Sl qX c0 v2 q0_0) (t:∀j u,([J q1_0]:List Value)[j]? = some u→Im c0 e (0+j) u) (H:mL b q0_0 q1_0=some r): Calls prog 275 #[I b,Q d,Q e] c0.w (aO c0 fun c v=>Own c G (F)∧v=B r):=by
 unfold mL at H;refine en func275 rfl rfl (sr (va (B false) (wln (W.seq (rD [] (Kp G0 []) o ?_)))));intro h q p;have y:Kp G0 [] h:=Kp.nil0;refine tx 0 (fun g a=>l1 ue ((mm s) 0 _ rfl)) (ta 1 (I b) (bn H fun f l H=>?_));obtain ⟨x,i,n⟩:=Sl.at (k.mono q) (aX l);obtain rfl:=i;refine tx 2 (fun g a=>ix ue k.m l) (ta 3 (Qo (sb v2) (so v2+b.toNat * 2+1)) (tx 4 (fun g a=>l1 nc ((mm n) 1 _ rfl)) (tx 5 (fun g a=>l1 nc ((mm t) 0 _ rfl)) (ta 6 (B (decide (f.2≥q1_0))) (ta 7 (B (decide (f.2≥q1_0))) (dn (nrm (W.ret ?_))))))));obtain rfl:=si H;exact r1 (qq h ⟨p,rfl⟩)
def lg:List (Int×Int):=[(169,169),(174,174),(8252,8252),(8265,8265),(8482,8482),(8505,8505),(8596,8601),(8617,8618),(8986,8987),(9000,9000),(9096,9096),(9167,9167),(9193,9203),(9208,9210),(9410,9410),(9642,9643),(9654,9654),(9664,9664),(9723,9726),(9728,9733),(9735,9746),(9748,9861),(9872,9989),(9992,10002),(10004,10004),(10006,10006),(10013,10013),(10017,10017),(10024,10024),(10035,10036),(10052,10052),(10055,10055),(10060,10060),(10062,10062),(10067,10069),(10071,10071),(10083,10087),(10133,10135),(10145,10145),(10160,10160),(10175,10175),(10548,10549),(11013,11015),(11035,11036),(11088,11088),(11093,11093),(12336,12336),(12349,12349),(12951,12951),(12953,12953),(126976,127231),(127245,127247),(127279,127279),(127340,127345),(127358,127359),(127374,127374),(127377,127386),(127405,127461),(127489,127503),(127514,127514),(127535,127535),(127538,127546),(127548,127551),(127561,127994),(128000,128317),(128326,128591),(128640,128767),(128884,128895),(128981,129023),(129036,129039),(129096,129103),(129114,129119),(129160,129167),(129198,129279),(129292,129338),(129340,129349),(129351,129791),(130048,131069)]
def lJ:Option (List (Int×Int)):=
 some lg
theorem xw (d:Own c0 G F) {r:List (Int×Int)} (H:lJ=some r): Calls prog 274 #[] c0.w (aO c0 fun c v=>∃a b,Own c G (es true qX a 329 b r :: F)∧v=a∧OA qX c a b r):=by
 unfold lJ at H;refine en func274 rfl rfl (sr (va (Y) (wln (sr (va (JII 169 169) (va (JII 174 174) (va (JII 8252 8252) (va (JII 8265 8265) (va (JII 8482 8482) (va (JII 8505 8505) (va (JII 8596 8601) (va (JII 8617 8618) (va (JII 8986 8987) (va (JII 9000 9000) (va (JII 9096 9096) (va (JII 9167 9167) (va (JII 9193 9203) (va (JII 9208 9210) (va (JII 9410 9410) (va (JII 9642 9643) (va (JII 9654 9654) (va (JII 9664 9664) (va (JII 9723 9726) (va (JII 9728 9733) (va (JII 9735 9746) (va (JII 9748 9861) (va (JII 9872 9989) (va (JII 9992 10002) (va (JII 10004 10004) (va (JII 10006 10006) (va (JII 10013 10013) (va (JII 10017 10017) (va (JII 10024 10024) (va (JII 10035 10036) (va (JII 10052 10052) (va (JII 10055 10055) (va (JII 10060 10060) (va (JII 10062 10062) (va (JII 10067 10069) (va (JII 10071 10071) (va (JII 10083 10087) (va (JII 10133 10135) (va (JII 10145 10145) (va (JII 10160 10160) (va (JII 10175 10175) (va (JII 10548 10549) (va (JII 11013 11015) (va (JII 11035 11036) (va (JII 11088 11088) (va (JII 11093 11093) (va (JII 12336 12336) (va (JII 12349 12349) (va (JII 12951 12951) (va (JII 12953 12953) (va (JII 126976 127231) (va (JII 127245 127247) (va (JII 127279 127279) (va (JII 127340 127345) (va (JII 127358 127359) (va (JII 127374 127374) (va (JII 127377 127386) (va (JII 127405 127461) (va (JII 127489 127503) (va (JII 127514 127514) (va (JII 127535 127535) (va (JII 127538 127546) (va (JII 127548 127551) (va (JII 127561 127994) (va (JII 128000 128317) (va (JII 128326 128591) (va (JII 128640 128767) (va (JII 128884 128895) (va (JII 128981 129023) (va (JII 129036 129039) (va (JII 129096 129103) (va (JII 129114 129119) (va (JII 129160 129167) (va (JII 129198 129279) (va (JII 129292 129338) (va (JII 129340 129349) (va (JII 129351 129791) (va (JII 130048 131069) (me (Own.sl (R:=qX) (E:=329) (ls:=lg.map (fun x=>[J x.1,J x.2])) (vs:=(lg.map (fun x=>[J x.1,J x.2])).flatten) (xs:=lg) true d (aM _) rfl (nY.map _ (fun _=>rfl) _) (by kernel_rfl) (by kernel_rfl)) ?_)))))))))))))))))))))))))))))))))))))))))))))))))))))))))))))))))))))))))))))))))));rintro v5 f i ⟨h,e,g⟩;refine va (v5) (wln (W.ret ?_));obtain rfl:=si H;exact r1 (qq f ⟨v5,h,e,rfl,g⟩)
def fS (p0:Int) (p1_0_0:List (Int×Int)) (p1_1_0:Int):Option (Int):=
 (cM (σ:=Int×Int) (τ:=Int) ((p0 - 0).toNat+1) (fun a=>
 if (decide (a.1 < a.2))=true then
 (mL (w64 ((IntKind.u64.wrap (w64 (a.1+a.2))).fdiv (2 ^ 1))) p1_0_0 p1_1_0).bind fun b=>
 if (!b)=true then
 some (.inl ((w64 ((w64 ((IntKind.u64.wrap (w64 (a.1+a.2))).fdiv (2 ^ 1)))+1)),a.2))
 else
 some (.inl (a.1,(w64 ((IntKind.u64.wrap (w64 (a.1+a.2))).fdiv (2 ^ 1)))))
 else
 some (.inr (a.1))) (0,p0)).bind fun c=>
 some c
theorem nR {b1_0:Nat} {b1_1:Nat} (A:Own c0 G F) (b:Int) (p1_0_0:List (Int×Int)) (p1_1_0:Int) {r:Int} (N:∀j u,([v2]:List Value)[j]? = some u→Im c0 b1_0 (0+j) u) (M:Sl qX c0 v2 p1_0_0) (P:∀j u,([J p1_1_0]:List Value)[j]? = some u→Im c0 b1_1 (0+j) u) (H:fS b p1_0_0 p1_1_0=some r): Calls prog 271 #[I b,.func (.func 275) #[] #[Q b1_0,Q b1_1]] c0.w (aO c0 fun c v=>Own c G (F)∧v=I r):=by
 unfold fS at H;refine en func271 rfl rfl (sr (va (I 0) (wln (sr (va (I b) (va (I 0) (va (I b) (wln (W.seq (W.block (bn H fun g y k=>lp y (fun a=>Jn c0 fun c l=>Own c G (F)∧l= [(1,.func (.func 275) #[] #[Q b1_0,Q b1_1]),(5,I a.1),(6,I a.2)]) (fun h ex e w=>ex= .exit 0∧(Jn c0 fun c l=>Own c G (F)∧l= [(5,I h)]) e w) ?_ ?_ ?_)))))))))))
 ·clear k y;intro a X q z H;revert q z;rintro E R ⟨D,Z,_,rfl,l7,rfl,o,rfl⟩;refine W.seq (sr (va (I a.1) (va (I a.2) (va (B (decide (a.1 < a.2))) (wln (cn H (fun s H=>?_) (fun s H=>?_)))))))
  ·refine W.skip (nrm (W.block (sr (va (I a.1) (va (I a.2) (va (I (w64 (a.1+a.2))) (va (.int .u64 (IntKind.u64.wrap (w64 (a.1+a.2)))) (va (.int .u64 ((IntKind.u64.wrap (w64 (a.1+a.2))).fdiv (2 ^ 1))) (vv (I (w64 ((IntKind.u64.wrap (w64 (a.1+a.2))).fdiv (2 ^ 1)))) (wln (sr (va (.func (.func 275) #[] #[Q b1_0,Q b1_1]) (va (I (w64 ((IntKind.u64.wrap (w64 (a.1+a.2))).fdiv (2 ^ 1)))) (bn H fun i t H=>cl (yS o (w64 ((IntKind.u64.wrap (w64 (a.1+a.2))).fdiv (2 ^ 1))) p1_0_0 p1_1_0 (mm N) M.m (mm P) t) ?_))))))))))))));rintro v20 f T ⟨d,rfl⟩;refine va (B (!i)) (wln (cn H (fun x H=>?_) (fun x H=>?_)))
   ·refine W.region (va (I (w64 ((IntKind.u64.wrap (w64 (a.1+a.2))).fdiv (2 ^ 1)))) (vv (I (w64 ((w64 ((IntKind.u64.wrap (w64 (a.1+a.2))).fdiv (2 ^ 1)))+1))) (WL.nil (bkn ?_))));obtain rfl:=si H;exact ⟨_,rfl,jn f ⟨d,rfl⟩⟩
   refine W.region (vv (I (w64 ((IntKind.u64.wrap (w64 (a.1+a.2))).fdiv (2 ^ 1)))) (WL.nil (bkn ?_)));obtain rfl:=si H;exact ⟨_,rfl,jn f ⟨d,rfl⟩⟩
  refine W.exit (thx ?_);obtain rfl:=si H;exact ⟨_,rfl,rfl,jn D ⟨o,rfl⟩⟩
 ·exact jn c0 ⟨A,rfl⟩
 rintro _ E R ⟨rfl,p,S,_,rfl,U,rfl,n,rfl⟩;refine bke (nrm (sr (vv (I g) (wln (W.ret ?_)))));obtain rfl:=si k;exact r1 (qq p ⟨n,rfl⟩)
def ot (p0:Int):Option (Bool):=
 (lJ).bind fun a=>
 (fS (a.length:Int) a p0).bind fun b=>
 (bV (decide (b < (a.length:Int))) ((idx a b).bind fun d=>
 some (decide (d.1≤p0)))).bind fun c=>
 some c
theorem BH (O0:Own c0 G F) (j:Int) {r:Bool} (H:ot j=some r): Calls prog 228 #[J j] c0.w (aO c0 fun c v=>Own c G (F)∧v=B r):=by
 unfold ot at H;refine en func228 rfl rfl (sr (me (bx 21 [J j] O0) ?_));rintro v5 c4 l4 ⟨b1,rfl,O2,m3⟩;refine va (B false) (wln (sr (bn H fun h h6 H=>cl (xw O2 h6) ?_)));rintro v7 u0 a1 ⟨_,u8,D,rfl,s⟩;refine me (al 327 [Y] D) ?_;rintro v19 v0 z ⟨U,rfl,E⟩;obtain ⟨d,e,f,rfl⟩:=((s.mono z)).form;refine md (sC 327 0 (.slice d e f) [.slice d e f] 0 E ⟨s.m.one,trivial⟩) ?_;rintro w0 f0 t;refine wln (sr (vx (le1 0 ue (t.on 0 rfl)) (vx (lnO 3 ue s.m) ?_)));obtain ⟨x0,a0,c1,M,n⟩:=t.frz 1 rfl (s.mono (z.trans f0));refine WL.gh a0 ?_;obtain ⟨y0,b0,g0,N,q⟩:=Own.frzB 0 M rfl;refine WL.gh b0 ?_;have P:=N.sD 2 [1];refine va (.func (.func 275) #[] #[Q U,Q b1]) (bn H fun a d0 H=>cl (nR P (h.length:Int) h j q n.m (mm m3) d0) ?_);rintro v40 X h0 ⟨R,rfl⟩;refine va (I a) (wln (W.seq (bn H fun A x H=>W.join (Jn X fun c l=>Own c G (es false qX (.slice d e f) 329 u8 h :: F)∧l= [(2,B A)]) ?_ ?_)))
 ·clear H;refine rD [] (Kp G0 []) R ?_;intro p i0 u;have e1:Kp G0 [] p:=Kp.nil0;refine ta 0 (I a) (tx 1 (fun i b=>l1 ue ((mm q) 0 _ rfl)) (tx 2 (fun i b=>ln 3 ue n.m) (ta 3 (B (decide (a < (h.length:Int)))) ?_)));rcases bo (decide (a < (h.length:Int))) with g | g
  ·have o:=anT g x;refine bn o fun k y o=>AC.takeb 4 g rfl (by kernel_rfl) (by kernel_rfl) (fun i b=>(by kernel_rfl)) (tx 5 (fun i b=>l1 ue ((mm q) 0 _ rfl)) (ta 6 (I a) ?_));obtain ⟨s0,e0,k0⟩:=Sl.at (n.mono (g0.trans (h0.trans i0))) (aX y);obtain rfl:=e0;refine tx 7 (fun i b=>ix ue n.m y) (ta 8 (Qo (sb (.slice d e f)) (so (.slice d e f)+a.toNat * 2)) (tx 9 (fun i b=>l1 nc ((mm k0) 0 _ rfl)) (tx 10 (fun i b=>l1 nc ((mm m3) 0 _ rfl)) (ta 11 (B (decide (k.1≤j))) ?_))));obtain rfl:=si o;exact ta 12 (B (decide (k.1≤j))) (ta 13 (B (decide (k.1≤j))) (dn (nrm (jn p ⟨u,rfl⟩))))
  obtain rfl:=anF g x;exact AC.takeb 4 g rfl (by kernel_rfl) (by kernel_rfl) (fun i b=>(by kernel_rfl)) (tp 5 (tp 6 (tp 7 (tp 8 (tp 9 (tp 10 (tp 11 (ta 12 (B false) (ta 13 (B false) (dn (nrm (jn p ⟨u,rfl⟩))))))))))))
 rintro e_ w_ ⟨Z,z0,_,rfl,d1,rfl,S,rfl⟩;refine nrm (W.ret ?_);obtain rfl:=si H;have T:=S.sD 1 [];exact r1 (qq Z ⟨T,rfl⟩)
def mP (p0:Int) (q0_0:List (Int×Int×Int)) (q1_0:Int):Option (Bool):=
 (idx q0_0 p0).bind fun a=>
 some (decide (a.2.1≥(w64 q1_0)))
theorem yW {d:Nat} {e:Nat} (o:Own c0 G F) (b:Int) (q0_0:List (Int×Int×Int)) (q1_0:Int) {r:Bool} (s:∀j u,([v2]:List Value)[j]? = some u→Im c0 d (0+j) u) (k:Sl iL c0 v2 q0_0) (t:∀j u,([J q1_0]:List Value)[j]? = some u→Im c0 e (0+j) u) (H:mP b q0_0 q1_0=some r): Calls prog 277 #[I b,Q d,Q e] c0.w (aO c0 fun c v=>Own c G (F)∧v=B r):=by
 unfold mP at H;refine en func277 rfl rfl (sr (va (B false) (wln (W.seq (rD [] (Kp G0 []) o ?_)))));intro h q p;have y:Kp G0 [] h:=Kp.nil0;refine tx 0 (fun g a=>l1 iM ((mm s) 0 _ rfl)) (ta 1 (I b) (bn H fun f l H=>?_));obtain ⟨x,i,n⟩:=Sl.at (k.mono q) (aX l);obtain rfl:=i;refine tx 2 (fun g a=>ix iM k.m l) (ta 3 (Qo (sb v2) (so v2+b.toNat * 3+1)) (tx 4 (fun g a=>l1 u_3 ((mm n) 1 _ rfl)) (tx 5 (fun g a=>l1 nc ((mm t) 0 _ rfl)) (ta 6 (I (w64 q1_0)) (ta 7 (B (decide (f.2.1≥(w64 q1_0)))) (ta 8 (B (decide (f.2.1≥(w64 q1_0)))) (dn (nrm (W.ret ?_)))))))));obtain rfl:=si H;exact r1 (qq h ⟨p,rfl⟩)
def lj:List (Int×Int×Int):=[(768,879,3),(1155,1159,3),(1425,1469,3),(1552,1562,3),(1611,1631,3),(2325,2361,1),(2364,2364,3),(2381,2381,2),(2385,2388,3),(2392,2399,1),(2424,2431,1),(2453,2472,1),(2474,2480,1),(2482,2482,1),(2486,2489,1),(2492,2492,3),(2509,2509,2),(2524,2525,1),(2527,2527,1),(2544,2545,1),(2709,2728,1),(2730,2736,1),(2738,2739,1),(2741,2745,1),(2748,2748,3),(2765,2765,2),(2809,2809,1),(2837,2856,1),(2858,2864,1),(2866,2867,1),(2869,2873,1),(2876,2876,3),(2893,2893,2),(2908,2909,1),(2911,2911,1),(2929,2929,1),(3093,3112,1),(3114,3129,1),(3132,3132,3),(3149,3149,2),(3160,3162,1),(3349,3386,1),(3405,3405,2),(6832,6845,3),(7616,7679,3),(8205,8205,3),(8400,8412,3),(12330,12335,3),(12441,12442,3),(65056,65071,3)]
def lP:Option (List (Int×Int×Int)):=
 some lj
theorem xD (d:Own c0 G F) {r:List (Int×Int×Int)} (H:lP=some r): Calls prog 276 #[] c0.w (aO c0 fun c v=>∃a b,Own c G (es true iL a 326 b r :: F)∧v=a∧OA iL c a b r):=by
 unfold lP at H;refine en func276 rfl rfl (sr (va (Y) (wln (sr (va (aG 768 879 3) (va (aG 1155 1159 3) (va (aG 1425 1469 3) (va (aG 1552 1562 3) (va (aG 1611 1631 3) (va (aG 2325 2361 1) (va (aG 2364 2364 3) (va (aG 2381 2381 2) (va (aG 2385 2388 3) (va (aG 2392 2399 1) (va (aG 2424 2431 1) (va (aG 2453 2472 1) (va (aG 2474 2480 1) (va (aG 2482 2482 1) (va (aG 2486 2489 1) (va (aG 2492 2492 3) (va (aG 2509 2509 2) (va (aG 2524 2525 1) (va (aG 2527 2527 1) (va (aG 2544 2545 1) (va (aG 2709 2728 1) (va (aG 2730 2736 1) (va (aG 2738 2739 1) (va (aG 2741 2745 1) (va (aG 2748 2748 3) (va (aG 2765 2765 2) (va (aG 2809 2809 1) (va (aG 2837 2856 1) (va (aG 2858 2864 1) (va (aG 2866 2867 1) (va (aG 2869 2873 1) (va (aG 2876 2876 3) (va (aG 2893 2893 2) (va (aG 2908 2909 1) (va (aG 2911 2911 1) (va (aG 2929 2929 1) (va (aG 3093 3112 1) (va (aG 3114 3129 1) (va (aG 3132 3132 3) (va (aG 3149 3149 2) (va (aG 3160 3162 1) (va (aG 3349 3386 1) (va (aG 3405 3405 2) (va (aG 6832 6845 3) (va (aG 7616 7679 3) (va (aG 8205 8205 3) (va (aG 8400 8412 3) (va (aG 12330 12335 3) (va (aG 12441 12442 3) (va (aG 65056 65071 3) (me (Own.sl (R:=iL) (E:=326) (ls:=lj.map (fun x=>[I x.1,I x.2.1,I x.2.2])) (vs:=(lj.map (fun x=>[I x.1,I x.2.1,I x.2.2])).flatten) (xs:=lj) true d (aM _) rfl (nY.map _ (fun _=>rfl) _) (by kernel_rfl) (by kernel_rfl)) ?_)))))))))))))))))))))))))))))))))))))))))))))))))))))));rintro v5 f i ⟨h,e,g⟩;refine va (v5) (wln (W.ret ?_));obtain rfl:=si H;exact r1 (qq f ⟨v5,h,e,rfl,g⟩)
def fU (p0:Int) (p1_0_0:List (Int×Int×Int)) (p1_1_0:Int):Option (Int):=
 (cM (σ:=Int×Int) (τ:=Int) ((p0 - 0).toNat+1) (fun a=>
 if (decide (a.1 < a.2))=true then
 (mP (w64 ((IntKind.u64.wrap (w64 (a.1+a.2))).fdiv (2 ^ 1))) p1_0_0 p1_1_0).bind fun b=>
 if (!b)=true then
 some (.inl ((w64 ((w64 ((IntKind.u64.wrap (w64 (a.1+a.2))).fdiv (2 ^ 1)))+1)),a.2))
 else
 some (.inl (a.1,(w64 ((IntKind.u64.wrap (w64 (a.1+a.2))).fdiv (2 ^ 1)))))
 else
 some (.inr (a.1))) (0,p0)).bind fun c=>
 some c
theorem nT {b1_0:Nat} {b1_1:Nat} (A:Own c0 G F) (b:Int) (p1_0_0:List (Int×Int×Int)) (p1_1_0:Int) {r:Int} (N:∀j u,([v2]:List Value)[j]? = some u→Im c0 b1_0 (0+j) u) (M:Sl iL c0 v2 p1_0_0) (P:∀j u,([J p1_1_0]:List Value)[j]? = some u→Im c0 b1_1 (0+j) u) (H:fU b p1_0_0 p1_1_0=some r): Calls prog 271 #[I b,.func (.func 277) #[] #[Q b1_0,Q b1_1]] c0.w (aO c0 fun c v=>Own c G (F)∧v=I r):=by
 unfold fU at H;refine en func271 rfl rfl (sr (va (I 0) (wln (sr (va (I b) (va (I 0) (va (I b) (wln (W.seq (W.block (bn H fun g y k=>lp y (fun a=>Jn c0 fun c l=>Own c G (F)∧l= [(1,.func (.func 277) #[] #[Q b1_0,Q b1_1]),(5,I a.1),(6,I a.2)]) (fun h ex e w=>ex= .exit 0∧(Jn c0 fun c l=>Own c G (F)∧l= [(5,I h)]) e w) ?_ ?_ ?_)))))))))))
 ·clear k y;intro a X q z H;revert q z;rintro E R ⟨D,Z,_,rfl,l7,rfl,o,rfl⟩;refine W.seq (sr (va (I a.1) (va (I a.2) (va (B (decide (a.1 < a.2))) (wln (cn H (fun s H=>?_) (fun s H=>?_)))))))
  ·refine W.skip (nrm (W.block (sr (va (I a.1) (va (I a.2) (va (I (w64 (a.1+a.2))) (va (.int .u64 (IntKind.u64.wrap (w64 (a.1+a.2)))) (va (.int .u64 ((IntKind.u64.wrap (w64 (a.1+a.2))).fdiv (2 ^ 1))) (vv (I (w64 ((IntKind.u64.wrap (w64 (a.1+a.2))).fdiv (2 ^ 1)))) (wln (sr (va (.func (.func 277) #[] #[Q b1_0,Q b1_1]) (va (I (w64 ((IntKind.u64.wrap (w64 (a.1+a.2))).fdiv (2 ^ 1)))) (bn H fun i t H=>cl (yW o (w64 ((IntKind.u64.wrap (w64 (a.1+a.2))).fdiv (2 ^ 1))) p1_0_0 p1_1_0 (mm N) M.m (mm P) t) ?_))))))))))))));rintro v20 f T ⟨d,rfl⟩;refine va (B (!i)) (wln (cn H (fun x H=>?_) (fun x H=>?_)))
   ·refine W.region (va (I (w64 ((IntKind.u64.wrap (w64 (a.1+a.2))).fdiv (2 ^ 1)))) (vv (I (w64 ((w64 ((IntKind.u64.wrap (w64 (a.1+a.2))).fdiv (2 ^ 1)))+1))) (WL.nil (bkn ?_))));obtain rfl:=si H;exact ⟨_,rfl,jn f ⟨d,rfl⟩⟩
   refine W.region (vv (I (w64 ((IntKind.u64.wrap (w64 (a.1+a.2))).fdiv (2 ^ 1)))) (WL.nil (bkn ?_)));obtain rfl:=si H;exact ⟨_,rfl,jn f ⟨d,rfl⟩⟩
  refine W.exit (thx ?_);obtain rfl:=si H;exact ⟨_,rfl,rfl,jn D ⟨o,rfl⟩⟩
 ·exact jn c0 ⟨A,rfl⟩
 rintro _ E R ⟨rfl,p,S,_,rfl,U,rfl,n,rfl⟩;refine bke (nrm (sr (vv (I g) (wln (W.ret ?_)))));obtain rfl:=si k;exact r1 (qq p ⟨n,rfl⟩)
def oA (p0:Int):Option (Int):=
 (lP).bind fun a=>
 (fU (a.length:Int) a p0).bind fun b=>
 (orE (b==(a.length:Int)) ((idx a b).bind fun d=>
 some (decide (d.1 > (w64 p0))))).bind fun c=>
 if c=true then
 some 0
 else
 (idx a b).bind fun e=>
 some e.2.2
theorem BN (O0:Own c0 G F) (k:Int) {r:Int} (H:oA k=some r): Calls prog 229 #[J k] c0.w (aO c0 fun c v=>Own c G (F)∧v=I r):=by
 unfold oA at H;refine en func229 rfl rfl (sr (me (bx 21 [J k] O0) ?_));rintro v5 c4 l4 ⟨b1,rfl,O2,m3⟩;refine va (I 0) (wln (sr (bn H fun i h6 H=>cl (xD O2 h6) ?_)));rintro v7 d1 j1 ⟨_,u8,T,rfl,s⟩;refine me (al 323 [Y] T) ?_;rintro v19 e1 M ⟨y,rfl,U⟩;obtain ⟨b,d,e,rfl⟩:=((s.mono M)).form;refine md (sC 323 0 (.slice b d e) [.slice b d e] 0 U ⟨s.m.one,trivial⟩) ?_;rintro f1 m0 t;refine wln (sr (vx (le1 0 iM (t.on 0 rfl)) (vx (lnO 3 iM s.m) ?_)));obtain ⟨g1,g0,k1,X,g⟩:=t.frz 1 rfl (s.mono (M.trans m0));refine WL.gh g0 ?_;obtain ⟨h1,h0,N,Z,n⟩:=Own.frzB 0 X rfl;refine WL.gh h0 ?_;have a0:=Z.sD 2 [1];refine va (.func (.func 277) #[] #[Q y,Q b1]) (bn H fun a i0 H=>cl (nT a0 (i.length:Int) i k n g.m (mm m3) i0) ?_);rintro v40 f0 P ⟨b0,rfl⟩;refine va (I a) (wln (W.seq (W.seq (bn H fun R A H=>W.join (Jn f0 fun c l=>Own c G (es false iL (.slice b d e) 326 u8 i :: F)∧l= [(3,Q y),(4,I a),(23,B R)]) ?_ ?_))))
 ·clear H;refine rD [] (Kp G0 []) b0 ?_;intro p o0 u;have m1:Kp G0 [] p:=Kp.nil0;refine ta 0 (I a) (tx 1 (fun j f=>l1 iM ((mm n) 0 _ rfl)) (tx 2 (fun j f=>ln 3 iM g.m) (ta 3 (B (a==(i.length:Int))) ?_)));rcases bo (a==(i.length:Int)) with h | h
  ·obtain rfl:=orT h A;exact AC.takeb 4 h rfl (by kernel_rfl) (by kernel_rfl) (fun j f=>(by kernel_rfl)) (tp 5 (tp 6 (tp 7 (tp 8 (tp 9 (tp 10 (tp 11 (tp 12 (ta 13 (B true) (dn (nrm (jn p ⟨u,rfl⟩))))))))))))
  have o:=orF h A;refine bn o fun q D o=>AC.takeb 4 h rfl (by kernel_rfl) (by kernel_rfl) (fun j f=>(by kernel_rfl)) (tx 5 (fun j f=>l1 iM ((mm n) 0 _ rfl)) (ta 6 (I a) ?_));obtain ⟨z0,j0,t0⟩:=Sl.at (g.mono (N.trans (P.trans o0))) (aX D);obtain rfl:=j0;refine tx 7 (fun j f=>ix iM g.m D) (ta 8 (Qo (sb (.slice b d e)) (so (.slice b d e)+a.toNat * 3)) (tx 9 (fun j f=>l1 u_3 ((mm t0) 0 _ rfl)) (tx 10 (fun j f=>l1 nc ((mm m3) 0 _ rfl)) (ta 11 (I (w64 k)) (ta 12 (B (decide (q.1 > (w64 k)))) ?_)))));obtain rfl:=si o;exact ta 13 (B (decide (q.1 > (w64 k)))) (dn (nrm (jn p ⟨u,rfl⟩)))
 rintro e_ w_ ⟨z,i1,_,rfl,q0,rfl,x,rfl⟩;refine nrm (cn H (fun k0 H=>?_) (fun k0 H=>?_))
 ·refine sr (va (I 0) (wln (W.ret (thr ?_))));obtain rfl:=si H;have d0:=x.sD 1 [];exact r1 (qq z ⟨d0,rfl⟩)
 refine W.skip (nrm (sr (vx (l1 iM ((mm n) 0 _ rfl)) (va (I a) (bn H fun S E H=>?_)))));obtain ⟨a1,l0,u0⟩:=Sl.at (g.mono (N.trans (P.trans q0))) (aX E);obtain rfl:=l0;refine vx (ix iM g.m E) (va (Qo (sb (.slice b d e)) (so (.slice b d e)+a.toNat * 3+2)) (vx (l1 u_3 (u0 2 _ rfl)) (va (I S.2.2) (wln (W.ret ?_)))));obtain rfl:=si H;have e0:=x.sD 1 [];exact r1 (qq z ⟨e0,rfl⟩)
def mO (p0:Int) (q0_0:List (Int×Int×Int)) (q1_0:Int):Option (Bool):=
 (idx q0_0 p0).bind fun a=>
 some (decide (a.2.1≥(w64 q1_0)))
theorem yV {d:Nat} {e:Nat} (o:Own c0 G F) (b:Int) (q0_0:List (Int×Int×Int)) (q1_0:Int) {r:Bool} (s:∀j u,([v2]:List Value)[j]? = some u→Im c0 d (0+j) u) (k:Sl iL c0 v2 q0_0) (t:∀j u,([J q1_0]:List Value)[j]? = some u→Im c0 e (0+j) u) (H:mO b q0_0 q1_0=some r): Calls prog 279 #[I b,Q d,Q e] c0.w (aO c0 fun c v=>Own c G (F)∧v=B r):=by
 unfold mO at H;refine en func279 rfl rfl (sr (va (B false) (wln (W.seq (rD [] (Kp G0 []) o ?_)))));intro h q p;have y:Kp G0 [] h:=Kp.nil0;refine tx 0 (fun g a=>l1 iM ((mm s) 0 _ rfl)) (ta 1 (I b) (bn H fun f l H=>?_));obtain ⟨x,i,n⟩:=Sl.at (k.mono q) (aX l);obtain rfl:=i;refine tx 2 (fun g a=>ix iM k.m l) (ta 3 (Qo (sb v2) (so v2+b.toNat * 3+1)) (tx 4 (fun g a=>l1 u_3 ((mm n) 1 _ rfl)) (tx 5 (fun g a=>l1 nc ((mm t) 0 _ rfl)) (ta 6 (I (w64 q1_0)) (ta 7 (B (decide (f.2.1≥(w64 q1_0)))) (ta 8 (B (decide (f.2.1≥(w64 q1_0)))) (dn (nrm (W.ret ?_)))))))));obtain rfl:=si H;exact r1 (qq h ⟨p,rfl⟩)
def kx:List (Int×Int×Int):=[(4352,4447,1),(8361,8361,3),(8986,8987,1),(9001,9002,1),(9193,9196,1),(9200,9200,1),(9203,9203,1),(9725,9726,1),(9748,9749,1),(9800,9811,1),(9855,9855,1),(9875,9875,1),(9889,9889,1),(9898,9899,1),(9917,9918,1),(9924,9925,1),(9934,9934,1),(9940,9940,1),(9962,9962,1),(9970,9971,1),(9973,9973,1),(9978,9978,1),(9981,9981,1),(9989,9989,1),(9994,9995,1),(10024,10024,1),(10060,10060,1),(10062,10062,1),(10067,10069,1),(10071,10071,1),(10133,10135,1),(10160,10160,1),(10175,10175,1),(11035,11036,1),(11088,11088,1),(11093,11093,1),(11904,11929,1),(11931,12019,1),(12032,12245,1),(12272,12287,1),(12288,12288,2),(12289,12350,1),(12353,12438,1),(12441,12543,1),(12549,12591,1),(12593,12686,1),(12688,12771,1),(12784,12830,1),(12832,12871,1),(12880,19903,1),(19968,42124,1),(42128,42182,1),(43360,43388,1),(44032,55203,1),(63744,64255,1),(65040,65049,1),(65072,65106,1),(65108,65126,1),(65128,65131,1),(65281,65376,2),(65377,65470,3),(65474,65479,3),(65482,65487,3),(65490,65495,3),(65498,65500,3),(65504,65510,2),(65512,65518,3),(94176,94180,1),(94208,100343,1),(100352,101589,1),(110592,110882,1),(126980,126980,1),(127183,127183,1),(127374,127374,1),(127377,127386,1),(127488,127490,1),(127504,127547,1),(127552,127560,1),(127568,127569,1),(127584,127589,1),(127744,127776,1),(127789,127797,1),(127799,127868,1),(127870,127891,1),(127904,127946,1),(127951,127955,1),(127968,127984,1),(127988,127988,1),(127992,128062,1),(128064,128064,1),(128066,128252,1),(128255,128317,1),(128331,128334,1),(128336,128359,1),(128378,128378,1),(128405,128406,1),(128420,128420,1),(128507,128591,1),(128640,128709,1),(128716,128716,1),(128720,128722,1),(128725,128727,1),(128732,128735,1),(128747,128748,1),(128756,128764,1),(128992,129003,1),(129008,129008,1),(129292,129338,1),(129340,129349,1),(129351,129535,1),(129648,129660,1),(129664,129672,1),(129680,129725,1),(129727,129733,1),(129742,129755,1),(129760,129768,1),(129776,129784,1),(131072,196605,1),(196608,262141,1)]
def lO:Option (List (Int×Int×Int)):=
 some kx
theorem xC (d:Own c0 G F) {r:List (Int×Int×Int)} (H:lO=some r): Calls prog 278 #[] c0.w (aO c0 fun c v=>∃a b,Own c G (es true iL a 326 b r :: F)∧v=a∧OA iL c a b r):=by
 unfold lO at H;refine en func278 rfl rfl (sr (va (Y) (wln (sr (va (aG 4352 4447 1) (va (aG 8361 8361 3) (va (aG 8986 8987 1) (va (aG 9001 9002 1) (va (aG 9193 9196 1) (va (aG 9200 9200 1) (va (aG 9203 9203 1) (va (aG 9725 9726 1) (va (aG 9748 9749 1) (va (aG 9800 9811 1) (va (aG 9855 9855 1) (va (aG 9875 9875 1) (va (aG 9889 9889 1) (va (aG 9898 9899 1) (va (aG 9917 9918 1) (va (aG 9924 9925 1) (va (aG 9934 9934 1) (va (aG 9940 9940 1) (va (aG 9962 9962 1) (va (aG 9970 9971 1) (va (aG 9973 9973 1) (va (aG 9978 9978 1) (va (aG 9981 9981 1) (va (aG 9989 9989 1) (va (aG 9994 9995 1) (va (aG 10024 10024 1) (va (aG 10060 10060 1) (va (aG 10062 10062 1) (va (aG 10067 10069 1) (va (aG 10071 10071 1) (va (aG 10133 10135 1) (va (aG 10160 10160 1) (va (aG 10175 10175 1) (va (aG 11035 11036 1) (va (aG 11088 11088 1) (va (aG 11093 11093 1) (va (aG 11904 11929 1) (va (aG 11931 12019 1) (va (aG 12032 12245 1) (va (aG 12272 12287 1) (va (aG 12288 12288 2) (va (aG 12289 12350 1) (va (aG 12353 12438 1) (va (aG 12441 12543 1) (va (aG 12549 12591 1) (va (aG 12593 12686 1) (va (aG 12688 12771 1) (va (aG 12784 12830 1) (va (aG 12832 12871 1) (va (aG 12880 19903 1) (va (aG 19968 42124 1) (va (aG 42128 42182 1) (va (aG 43360 43388 1) (va (aG 44032 55203 1) (va (aG 63744 64255 1) (va (aG 65040 65049 1) (va (aG 65072 65106 1) (va (aG 65108 65126 1) (va (aG 65128 65131 1) (va (aG 65281 65376 2) (va (aG 65377 65470 3) (va (aG 65474 65479 3) (va (aG 65482 65487 3) (va (aG 65490 65495 3) (va (aG 65498 65500 3) (va (aG 65504 65510 2) (va (aG 65512 65518 3) (va (aG 94176 94180 1) (va (aG 94208 100343 1) (va (aG 100352 101589 1) (va (aG 110592 110882 1) (va (aG 126980 126980 1) (va (aG 127183 127183 1) (va (aG 127374 127374 1) (va (aG 127377 127386 1) (va (aG 127488 127490 1) (va (aG 127504 127547 1) (va (aG 127552 127560 1) (va (aG 127568 127569 1) (va (aG 127584 127589 1) (va (aG 127744 127776 1) (va (aG 127789 127797 1) (va (aG 127799 127868 1) (va (aG 127870 127891 1) (va (aG 127904 127946 1) (va (aG 127951 127955 1) (va (aG 127968 127984 1) (va (aG 127988 127988 1) (va (aG 127992 128062 1) (va (aG 128064 128064 1) (va (aG 128066 128252 1) (va (aG 128255 128317 1) (va (aG 128331 128334 1) (va (aG 128336 128359 1) (va (aG 128378 128378 1) (va (aG 128405 128406 1) (va (aG 128420 128420 1) (va (aG 128507 128591 1) (va (aG 128640 128709 1) (va (aG 128716 128716 1) (va (aG 128720 128722 1) (va (aG 128725 128727 1) (va (aG 128732 128735 1) (va (aG 128747 128748 1) (va (aG 128756 128764 1) (va (aG 128992 129003 1) (va (aG 129008 129008 1) (va (aG 129292 129338 1) (va (aG 129340 129349 1) (va (aG 129351 129535 1) (va (aG 129648 129660 1) (va (aG 129664 129672 1) (va (aG 129680 129725 1) (va (aG 129727 129733 1) (va (aG 129742 129755 1) (va (aG 129760 129768 1) (va (aG 129776 129784 1) (va (aG 131072 196605 1) (va (aG 196608 262141 1) (me (Own.sl (R:=iL) (E:=326) (ls:=kx.map (fun x=>[I x.1,I x.2.1,I x.2.2])) (vs:=(kx.map (fun x=>[I x.1,I x.2.1,I x.2.2])).flatten) (xs:=kx) true d (aM _) rfl (nY.map _ (fun _=>rfl) _) (by kernel_rfl) (by kernel_rfl)) ?_))))))))))))))))))))))))))))))))))))))))))))))))))))))))))))))))))))))))))))))))))))))))))))))))))))))))))))))))))))))))))));rintro v5 f i ⟨h,e,g⟩;refine va (v5) (wln (W.ret ?_));obtain rfl:=si H;exact r1 (qq f ⟨v5,h,e,rfl,g⟩)
def fT (p0:Int) (p1_0_0:List (Int×Int×Int)) (p1_1_0:Int):Option (Int):=
 (cM (σ:=Int×Int) (τ:=Int) ((p0 - 0).toNat+1) (fun a=>
 if (decide (a.1 < a.2))=true then
 (mO (w64 ((IntKind.u64.wrap (w64 (a.1+a.2))).fdiv (2 ^ 1))) p1_0_0 p1_1_0).bind fun b=>
 if (!b)=true then
 some (.inl ((w64 ((w64 ((IntKind.u64.wrap (w64 (a.1+a.2))).fdiv (2 ^ 1)))+1)),a.2))
 else
 some (.inl (a.1,(w64 ((IntKind.u64.wrap (w64 (a.1+a.2))).fdiv (2 ^ 1)))))
 else
 some (.inr (a.1))) (0,p0)).bind fun c=>
 some c
theorem nS {b1_0:Nat} {b1_1:Nat} (A:Own c0 G F) (b:Int) (p1_0_0:List (Int×Int×Int)) (p1_1_0:Int) {r:Int} (N:∀j u,([v2]:List Value)[j]? = some u→Im c0 b1_0 (0+j) u) (M:Sl iL c0 v2 p1_0_0) (P:∀j u,([J p1_1_0]:List Value)[j]? = some u→Im c0 b1_1 (0+j) u) (H:fT b p1_0_0 p1_1_0=some r): Calls prog 271 #[I b,.func (.func 279) #[] #[Q b1_0,Q b1_1]] c0.w (aO c0 fun c v=>Own c G (F)∧v=I r):=by
 unfold fT at H;refine en func271 rfl rfl (sr (va (I 0) (wln (sr (va (I b) (va (I 0) (va (I b) (wln (W.seq (W.block (bn H fun g y k=>lp y (fun a=>Jn c0 fun c l=>Own c G (F)∧l= [(1,.func (.func 279) #[] #[Q b1_0,Q b1_1]),(5,I a.1),(6,I a.2)]) (fun h ex e w=>ex= .exit 0∧(Jn c0 fun c l=>Own c G (F)∧l= [(5,I h)]) e w) ?_ ?_ ?_)))))))))))
 ·clear k y;intro a X q z H;revert q z;rintro E R ⟨D,Z,_,rfl,l7,rfl,o,rfl⟩;refine W.seq (sr (va (I a.1) (va (I a.2) (va (B (decide (a.1 < a.2))) (wln (cn H (fun s H=>?_) (fun s H=>?_)))))))
  ·refine W.skip (nrm (W.block (sr (va (I a.1) (va (I a.2) (va (I (w64 (a.1+a.2))) (va (.int .u64 (IntKind.u64.wrap (w64 (a.1+a.2)))) (va (.int .u64 ((IntKind.u64.wrap (w64 (a.1+a.2))).fdiv (2 ^ 1))) (vv (I (w64 ((IntKind.u64.wrap (w64 (a.1+a.2))).fdiv (2 ^ 1)))) (wln (sr (va (.func (.func 279) #[] #[Q b1_0,Q b1_1]) (va (I (w64 ((IntKind.u64.wrap (w64 (a.1+a.2))).fdiv (2 ^ 1)))) (bn H fun i t H=>cl (yV o (w64 ((IntKind.u64.wrap (w64 (a.1+a.2))).fdiv (2 ^ 1))) p1_0_0 p1_1_0 (mm N) M.m (mm P) t) ?_))))))))))))));rintro v20 f T ⟨d,rfl⟩;refine va (B (!i)) (wln (cn H (fun x H=>?_) (fun x H=>?_)))
   ·refine W.region (va (I (w64 ((IntKind.u64.wrap (w64 (a.1+a.2))).fdiv (2 ^ 1)))) (vv (I (w64 ((w64 ((IntKind.u64.wrap (w64 (a.1+a.2))).fdiv (2 ^ 1)))+1))) (WL.nil (bkn ?_))));obtain rfl:=si H;exact ⟨_,rfl,jn f ⟨d,rfl⟩⟩
   refine W.region (vv (I (w64 ((IntKind.u64.wrap (w64 (a.1+a.2))).fdiv (2 ^ 1)))) (WL.nil (bkn ?_)));obtain rfl:=si H;exact ⟨_,rfl,jn f ⟨d,rfl⟩⟩
  refine W.exit (thx ?_);obtain rfl:=si H;exact ⟨_,rfl,rfl,jn D ⟨o,rfl⟩⟩
 ·exact jn c0 ⟨A,rfl⟩
 rintro _ E R ⟨rfl,p,S,_,rfl,U,rfl,n,rfl⟩;refine bke (nrm (sr (vv (I g) (wln (W.ret ?_)))));obtain rfl:=si k;exact r1 (qq p ⟨n,rfl⟩)
def oy (p0:Int):Option (Int):=
 (lO).bind fun a=>
 (fT (a.length:Int) a p0).bind fun b=>
 (orE (b==(a.length:Int)) ((idx a b).bind fun d=>
 some (decide (d.1 > (w64 p0))))).bind fun c=>
 if c=true then
 some 0
 else
 (idx a b).bind fun e=>
 some e.2.2
theorem BL (O0:Own c0 G F) (k:Int) {r:Int} (H:oy k=some r): Calls prog 230 #[J k] c0.w (aO c0 fun c v=>Own c G (F)∧v=I r):=by
 unfold oy at H;refine en func230 rfl rfl (sr (me (bx 21 [J k] O0) ?_));rintro v5 c4 l4 ⟨b1,rfl,O2,m3⟩;refine va (I 0) (wln (sr (bn H fun i h6 H=>cl (xC O2 h6) ?_)));rintro v7 d1 j1 ⟨_,u8,T,rfl,s⟩;refine me (al 323 [Y] T) ?_;rintro v19 e1 M ⟨y,rfl,U⟩;obtain ⟨b,d,e,rfl⟩:=((s.mono M)).form;refine md (sC 323 0 (.slice b d e) [.slice b d e] 0 U ⟨s.m.one,trivial⟩) ?_;rintro f1 m0 t;refine wln (sr (vx (le1 0 iM (t.on 0 rfl)) (vx (lnO 3 iM s.m) ?_)));obtain ⟨g1,g0,k1,X,g⟩:=t.frz 1 rfl (s.mono (M.trans m0));refine WL.gh g0 ?_;obtain ⟨h1,h0,N,Z,n⟩:=Own.frzB 0 X rfl;refine WL.gh h0 ?_;have a0:=Z.sD 2 [1];refine va (.func (.func 279) #[] #[Q y,Q b1]) (bn H fun a i0 H=>cl (nS a0 (i.length:Int) i k n g.m (mm m3) i0) ?_);rintro v40 f0 P ⟨b0,rfl⟩;refine va (I a) (wln (W.seq (W.seq (bn H fun R A H=>W.join (Jn f0 fun c l=>Own c G (es false iL (.slice b d e) 326 u8 i :: F)∧l= [(3,Q y),(4,I a),(23,B R)]) ?_ ?_))))
 ·clear H;refine rD [] (Kp G0 []) b0 ?_;intro p o0 u;have m1:Kp G0 [] p:=Kp.nil0;refine ta 0 (I a) (tx 1 (fun j f=>l1 iM ((mm n) 0 _ rfl)) (tx 2 (fun j f=>ln 3 iM g.m) (ta 3 (B (a==(i.length:Int))) ?_)));rcases bo (a==(i.length:Int)) with h | h
  ·obtain rfl:=orT h A;exact AC.takeb 4 h rfl (by kernel_rfl) (by kernel_rfl) (fun j f=>(by kernel_rfl)) (tp 5 (tp 6 (tp 7 (tp 8 (tp 9 (tp 10 (tp 11 (tp 12 (ta 13 (B true) (dn (nrm (jn p ⟨u,rfl⟩))))))))))))
  have o:=orF h A;refine bn o fun q D o=>AC.takeb 4 h rfl (by kernel_rfl) (by kernel_rfl) (fun j f=>(by kernel_rfl)) (tx 5 (fun j f=>l1 iM ((mm n) 0 _ rfl)) (ta 6 (I a) ?_));obtain ⟨z0,j0,t0⟩:=Sl.at (g.mono (N.trans (P.trans o0))) (aX D);obtain rfl:=j0;refine tx 7 (fun j f=>ix iM g.m D) (ta 8 (Qo (sb (.slice b d e)) (so (.slice b d e)+a.toNat * 3)) (tx 9 (fun j f=>l1 u_3 ((mm t0) 0 _ rfl)) (tx 10 (fun j f=>l1 nc ((mm m3) 0 _ rfl)) (ta 11 (I (w64 k)) (ta 12 (B (decide (q.1 > (w64 k)))) ?_)))));obtain rfl:=si o;exact ta 13 (B (decide (q.1 > (w64 k)))) (dn (nrm (jn p ⟨u,rfl⟩)))
 rintro e_ w_ ⟨z,i1,_,rfl,q0,rfl,x,rfl⟩;refine nrm (cn H (fun k0 H=>?_) (fun k0 H=>?_))
 ·refine sr (va (I 0) (wln (W.ret (thr ?_))));obtain rfl:=si H;have d0:=x.sD 1 [];exact r1 (qq z ⟨d0,rfl⟩)
 refine W.skip (nrm (sr (vx (l1 iM ((mm n) 0 _ rfl)) (va (I a) (bn H fun S E H=>?_)))));obtain ⟨a1,l0,u0⟩:=Sl.at (g.mono (N.trans (P.trans q0))) (aX E);obtain rfl:=l0;refine vx (ix iM g.m E) (va (Qo (sb (.slice b d e)) (so (.slice b d e)+a.toNat * 3+2)) (vx (l1 u_3 (u0 2 _ rfl)) (va (I S.2.2) (wln (W.ret ?_)))));obtain rfl:=si H;have e0:=x.sD 1 [];exact r1 (qq z ⟨e0,rfl⟩)
def qu (p0:Int):Option (aw):=
 (qw p0).bind fun b=>
 (ot p0).bind fun c=>
 (oA p0).bind fun d=>
 (oy p0).bind fun a=>
 some (⟨b,c,d,a⟩:aw)
theorem Df (p:Own c0 G F) (a:Int) {r:aw} (H:qu a=some r): Calls prog 174 #[J a] c0.w (aO c0 fun c v=>Own c G (F)∧v= .agg #[I r.Break,B r.Pict,I r.Conj,I r.East]):=by
 unfold qu at H;refine en func174 rfl rfl (sr (me (al 238 [I 0,B false,I 0,I 0] p) ?_));rintro v4 R S ⟨P,rfl,q⟩;refine wln (sr (va (J a) (bn H fun d t H=>cl (Dh q a t) ?_)));rintro v11 u A ⟨s,rfl⟩;refine va (J a) (bn H fun e m H=>cl (BH s a m) ?_);rintro v18 x D ⟨i,rfl⟩;refine va (J a) (bn H fun f n H=>cl (BN i a n) ?_);rintro v25 y E ⟨j,rfl⟩;refine va (J a) (bn H fun b o H=>cl (BL j a o) ?_);rintro v32 z M ⟨k,rfl⟩;refine va (.agg #[I d,B e,I f,I b]) (md (sA 238 [I d,B e,I f,I b] 0 k ⟨rfl,rfl,rfl,rfl,trivial⟩) ?_);rintro h N g;refine wln (W.ret ?_);obtain rfl:=si H;have l:=g.sD 1 [];exact kE (c:=h) (vs:=[I d,B e,I f,I b]) rfl (by kernel_rfl) (by kernel_rfl) (by kernel_rfl) (g.on 0 rfl _ rfl).1 ⟨_,h,rfl,rfl,pt,l,rfl⟩
def nq (sg:Sto) (p0:Option Nat):Option (Sto×(Option Nat)):=
 (orE p0.isNone ((p0).bind fun d=>
 (sg.place_Pen[d]?).bind fun b=>
 some b.G.isNone)).bind fun c=>
 if c=true then
 some (sg,(none:Option Nat))
 else
 (some (sg.add_feed_Feeder (⟨p0,(⟨0,0,0,0,0⟩:bC),(⟨false,0,0,0,false⟩:cJ),(none:Option Nat)⟩:bD))).bind fun a=>
 some (a,(some sg.feed_Feeder.length))
theorem zQ (t:Own c0 G F) (u:Rel c0 sg G) (k:Option Nat) {r:Sto×(Option Nat)} (n:Pt 2 c0 v1 k) (H:nq sg k=some r): Calls prog 80 #[v1] c0.w (aO c0 fun c v=>∃y1,∃G_:Gm,Own c G_ (F)∧Rel c r.1 G_∧eI G G_∧v=y1∧Pt 4 c y1 r.2):=by
 unfold nq at H;refine en func80 rfl rfl (sr (va (.pointer none) (wln (W.seq (W.seq (bn H fun T h3 H=>W.join (Jn c0 fun c l=>Own c G (F)∧l= [(0,v1),(11,B T)]) ?_ ?_))))))
 ·clear H;refine W.region (va (v1) (vr (B k.isNone) (by rcases (n).cs with ⟨d,e⟩ | ⟨b_,d,e⟩ <;> (subst d; rw [e]; kernel_rfl)) ?_));rcases bo (k.isNone) with h | h
  ·obtain rfl:=orT h h3;exact vb h (pz (pz (ps (va (B true) (wln (jn c0 ⟨t,rfl⟩))))))
  have g:=orF h h3;refine vb h (wa (v1) (wn (bn g fun t0 h8 g=>?_)));obtain ⟨R,rfl,h7⟩:=(n).get h8;refine va (Q R) (wa (Q R) (wn (bn g fun j h9 g=>?_)));obtain ⟨v10,X,U⟩:=Rel.open_place_Pen u h9 h7;refine vx (le1 0 eW (t.gon X 0 rfl)) (wn (vr (B j.G.isNone) (by rcases (U).cs with ⟨d,e⟩ | ⟨b_,d,e⟩ <;> (subst d; rw [e]; kernel_rfl)) ?_));obtain rfl:=si g;exact va (B j.G.isNone) (wln (jn c0 ⟨t,rfl⟩))
 rintro e_ w_ ⟨S,o0,_,rfl,i,rfl,o,rfl⟩;refine nrm (cn H (fun Z H=>?_) (fun Z H=>?_))
 ·refine sr (va (.pointer none) (wln (W.ret (thr ?_))));obtain rfl:=si H;exact r1 (qq S ⟨(.pointer none),G,o,u.m,(eI.refl _),rfl,rfl⟩)
 refine W.skip (nrm (sr (va (v1) ?_)));obtain ⟨f,rfl⟩:=((n.mono i)).form;refine va (.agg #[.pointer f,I 0,I 0,.int .u8 0,.int .u8 0,I 0,B false,I 0,I 0,I 0,B false,.pointer none]) (me (al 184 [.pointer f,I 0,I 0,.int .u8 0,.int .u8 0,I 0,B false,I 0,I 0,I 0,B false,.pointer none] o) ?_);rintro v24 m0 s ⟨a,rfl,A⟩;have D:=A.sD 1 [0];refine bn H fun y a0 H=>?_;obtain ⟨q,z,b0,u0,d0,M,p,q0,f0,N⟩:=Rel.new_feed_Feeder (E:=[(Eb a 184 [.pointer f,I 0,I 0,.int .u8 0,.int .u8 0,I 0,B false,I 0,I 0,I 0,B false,.pointer none])]) (F:=F) (x:=(⟨k,(⟨0,0,0,0,0⟩:bC),(⟨false,0,0,0,false⟩:cJ),(none:Option Nat)⟩:bD)) (b:=a) D (u.mono (i.trans s)) (fun c_ hle_=>⟨a,(.pointer f),(.pointer none),rfl,rfl,(n.mono ((i.trans s).trans hle_)),rfl⟩);rw [bm a0] at p;refine WL.gh b0.1 ?_;have s0:=eI.nil (eI.refl _) f0;have P:=(eI.refl _).trans N;have g0:Pt 4 q (Q a) (some sg.feed_Feeder.length):=⟨a,rfl,d0⟩;refine va (Q a) (wln (W.ret ?_));obtain rfl:=si H;exact r1 (qq q ⟨(Q a),z,M,p,P,rfl,g0⟩)
def iZ (p0:Int):Option (Int):=
 (orE (decide (p0 < 0)) (some (decide (p0 > 13)))).bind fun a=>
 if a=true then
 some 0
 else
 some p0
theorem rI (d:Own c0 G F) (a:Int) {r:Int} (H:iZ a=some r): Calls prog 309 #[I a] c0.w (aO c0 fun c v=>Own c G (F)∧v=I r):=by
 unfold iZ at H;refine en func309 rfl rfl (sr (va (I 0) (wln (W.seq (W.seq (bn H fun g h H=>W.join (Jn c0 fun c l=>Own c G (F)∧l= [(0,I a),(8,B g)]) ?_ ?_))))))
 ·clear H;refine W.region (va (I a) (va (B (decide (a < 0))) ?_));rcases bo (decide (a < 0)) with b | b
  ·obtain rfl:=orT b h;exact vb b (pz (va (B true) (wln (jn c0 ⟨d,rfl⟩))))
  have j:=orF b h;refine vb b (wa (I a) (wa (B (decide (a > 13))) ?_));obtain rfl:=si j;exact va (B (decide (a > 13))) (wln (jn c0 ⟨d,rfl⟩))
 rintro k o ⟨f,m,_,rfl,n,rfl,e,rfl⟩;refine nrm (cn H (fun i H=>?_) (fun i H=>?_))
 ·refine sr (va (I 0) (wln (W.ret (thr ?_))));obtain rfl:=si H;exact r1 (qq f ⟨e,rfl⟩)
 refine W.skip (nrm (sr (vv (I a) (wln (W.ret ?_)))));obtain rfl:=si H;exact r1 (qq f ⟨e,rfl⟩)
def lK (p0:Int):Option (Bool):=
 if (p0==1)=true then
 some true
 else
 if (p0==2)=true then
 some true
 else
 if (p0==3)=true then
 some true
 else
 some false
theorem qC (b:Own c0 G F) (a:Int) {r:Bool} (H:lK a=some r): Calls prog 310 #[I a] c0.w (aO c0 fun c v=>Own c G (F)∧v=B r):=by
 unfold lK at H;refine en func310 rfl rfl (sr (va (B false) (wln (W.seq (sr (va (I a) (wln (W.block (W.seq (W.block (W.block (W.block (W.seq (W.seq (sr (vv (B (a==1)) (wln (cn H (fun d H=>?_) (fun d H=>?_)))))))))))))))))))
 ·refine W.exit (thx (thx (bke (bkn (bkn (nrm (W.seq (sr (va (B true) (wln (W.ret (thr (bkr (thr ?_))))))))))))));obtain rfl:=si H;exact r1 (qq c0 ⟨b,rfl⟩)
 refine W.skip (nrm (W.seq (sr (vv (B (a==2)) (wln (cn H (fun e H=>?_) (fun e H=>?_)))))))
 ·refine W.exit (thx (thx (bko rfl (bke (bkn (nrm (W.seq (sr (va (B true) (wln (W.ret (thr (bkr (thr ?_))))))))))))));obtain rfl:=si H;exact r1 (qq c0 ⟨b,rfl⟩)
 refine W.skip (nrm (sr (vv (B (a==3)) (wln (cn H (fun f H=>?_) (fun f H=>?_))))))
 ·refine W.exit (thx (bko rfl (bko rfl (bke (nrm (W.seq (sr (va (B true) (wln (W.ret (thr (bkr (thr ?_)))))))))))));obtain rfl:=si H;exact r1 (qq c0 ⟨b,rfl⟩)
 refine W.skip (nrm (W.exit (bko rfl (bko rfl (bko rfl (thx (bke (nrm (sr (va (B false) (wln (W.ret ?_))))))))))));obtain rfl:=si H;exact r1 (qq c0 ⟨b,rfl⟩)
def mx (p0:Int) (p1:Int):Option (Bool):=
 if (p0==9)=true then
 (orE (p1==9) (some (p1==10))).bind fun a=>
 (orE a (some (p1==12))).bind fun b=>
 (orE b (some (p1==13))).bind fun c=>
 some c
 else
 (if (p0==12)=true then
 some (p0==12)
 else
 some (p0==10)).bind fun e=>
 if e=true then
 (orE (p1==10) (some (p1==11))).bind fun d=>
 some d
 else
 (if (p0==13)=true then
 some (p0==13)
 else
 some (p0==11)).bind fun f=>
 if f=true then
 some (p1==11)
 else
 some false
theorem tX (m:Own c0 G F) (b:Int) (a:Int) {r:Bool} (H:mx b a=some r): Calls prog 311 #[I b,I a] c0.w (aO c0 fun c v=>Own c G (F)∧v=B r):=by
 unfold mx at H;refine en func311 rfl rfl (sr (va (B false) (wln (W.seq (sr (va (I b) (wln (W.block (sr (vv (B (b==9)) (wln (cn H (fun h1 H=>?_) (fun h1 H=>?_)))))))))))))
 ·refine W.seq (bn H fun i0 Z H=>bn H fun j0 A H=>bn H fun x p H=>W.join (Jn c0 fun c l=>Own c G (F)∧l= [(4,B x)]) ?_ ?_)
  ·clear H;refine W.region (va (I a) (va (B (a==9)) ?_));rcases bo (a==9) with n | n
   ·obtain rfl:=orT n Z;refine vb n (pz (va (B true) ?_));have h6:true=true:=rfl;obtain rfl:=orT h6 A;refine vb h6 (pz (va (B true) ?_));have h7:true=true:=rfl;obtain rfl:=orT h7 p;exact vb h7 (pz (vv (B true) (wln (jn c0 ⟨m,rfl⟩))))
   have H8:=orF n Z;refine vb n (wa (I a) (wa (B (a==10)) ?_));obtain rfl:=si H8;refine va (B (a==10)) ?_;rcases bo (a==10) with o | o
   ·obtain rfl:=orT o A;refine vb o (pz (va (B true) ?_));have t:true=true:=rfl;obtain rfl:=orT t p;exact vb t (pz (vv (B true) (wln (jn c0 ⟨m,rfl⟩))))
   have N:=orF o A;refine vb o (wa (I a) (wa (B (a==12)) ?_));obtain rfl:=si N;refine va (B (a==12)) ?_;rcases bo (a==12) with i | i
   ·obtain rfl:=orT i p;exact vb i (pz (vv (B true) (wln (jn c0 ⟨m,rfl⟩))))
   have P:=orF i p;refine vb i (wa (I a) (wa (B (a==13)) ?_));obtain rfl:=si P;exact vv (B (a==13)) (wln (jn c0 ⟨m,rfl⟩))
  rintro z D ⟨U,l0,_,rfl,s0,rfl,S,rfl⟩;refine nrm (W.ret (bkr (thr ?_)));obtain rfl:=si H;exact r1 (qq U ⟨S,rfl⟩)
 refine bn H fun E f d=>W.seqJ (Jn c0 fun c l=>Own c G (F)∧l= [(1,I a),(5,I b),(22,B E)]) ?_ ?_
 ·refine sr (vv (B (b==12)) (wln (cn f (fun a0 f=>?_) (fun a0 f=>?_))))
  ·refine W.skip (nrm ?_);obtain rfl:=si f;exact jn c0 ⟨m,rfl⟩
  refine W.region (vv (B (b==10)) (wln ?_));obtain rfl:=si f;exact jn c0 ⟨m,rfl⟩
 rintro z D ⟨e,m0,_,rfl,t0,rfl,k,rfl⟩;refine cn d (fun b0 d=>?_) (fun b0 d=>?_)
 ·refine W.seq (bn d fun y u d=>W.join (Jn e fun c l=>Own c G (F)∧l= [(4,B y)]) ?_ ?_)
  ·clear d;refine W.region (va (I a) (va (B (a==10)) ?_));rcases bo (a==10) with j | j
   ·obtain rfl:=orT j u;exact vb j (pz (vv (B true) (wln (jn e ⟨k,rfl⟩))))
   have R:=orF j u;refine vb j (wa (I a) (wa (B (a==11)) ?_));obtain rfl:=si R;exact vv (B (a==11)) (wln (jn e ⟨k,rfl⟩))
  rintro z D ⟨X,o0,_,rfl,u0,rfl,T,rfl⟩;refine nrm (W.ret (bkr (thr ?_)));obtain rfl:=si d;exact r1 (qq X ⟨T,rfl⟩)
 refine bn d fun M g h=>W.seqJ (Jn e fun c l=>Own c G (F)∧l= [(1,I a),(31,B M)]) ?_ ?_
 ·refine sr (vv (B (b==13)) (wln (cn g (fun d0 g=>?_) (fun d0 g=>?_))))
  ·refine W.skip (nrm ?_);obtain rfl:=si g;exact jn e ⟨k,rfl⟩
  refine W.region (vv (B (b==11)) (wln ?_));obtain rfl:=si g;exact jn e ⟨k,rfl⟩
 rintro z D ⟨s,q0,_,rfl,v0,rfl,q,rfl⟩;refine cn h (fun e0 h=>?_) (fun e0 h=>?_)
 ·refine sr (va (I a) (vv (B (a==11)) (wln (W.ret (bkr (thr ?_))))));obtain rfl:=si h;exact r1 (qq s ⟨q,rfl⟩)
 refine W.skip (bkn (nrm (sr (va (B false) (wln (W.ret ?_))))));obtain rfl:=si h;exact r1 (qq s ⟨q,rfl⟩)
def fW (p0:Int) (p1:Int):Option (Int):=
 (iZ p0).bind fun b=>
 (iZ p1).bind fun a=>
 (bV (b==1) (some (a==2))).bind fun e=>
 if e=true then
 some 1
 else
 (lK b).bind fun i=>
 (orE i ((lK a).bind fun j=>
 some j)).bind fun f=>
 if f=true then
 some 0
 else
 ((mx b a).bind fun d=>
 if d=true then
 some (d)
 else
 if (a==4)=true then
 some (a==4)
 else
 if (a==5)=true then
 some (a==5)
 else
 if (a==8)=true then
 some (a==8)
 else
 some (b==7)).bind fun k=>
 if k=true then
 some 1
 else
 ((bV (a==0) ((orE (b==5) (some (b==4))).bind fun g=>
 some g)).bind fun c=>
 if c=true then
 some (c)
 else
 (bV (b==6) (some (a==6))).bind fun h=>
 some (h)).bind fun l=>
 if l=true then
 some 2
 else
 some 0
theorem xx (O0:Own c0 G F) (E:Int) (M:Int) {r:Int} (H:fW E M=some r): Calls prog 269 #[I E,I M] c0.w (aO c0 fun c v=>Own c G (F)∧v=I r):=by
 unfold fW at H;refine en func269 rfl rfl (sr (va (I 0) (wln (sr (va (I E) (bn H fun b h1 H=>cl (rI O0 E h1) ?_))))));rintro v7 c6 l6 ⟨O3,rfl⟩;refine va (I M) (bn H fun a h8 H=>cl (rI O3 M h8) ?_);rintro v14 y c2 ⟨N,rfl⟩;refine va (I b) (va (I a) (wln (W.seq (W.block (W.seq (bn H fun g0 a0 H=>W.join (Jn y fun c l=>Own c G (F)∧l= [(0,I b),(1,I a),(9,B g0)]) ?_ ?_))))))
 ·clear H;refine W.region (va (I b) (va (B (b==1)) ?_));rcases bo (b==1) with k | k
  ·have q0:=anT k a0;refine vb k (wa (I a) (wa (B (a==2)) ?_));obtain rfl:=si q0;exact vv (B (a==2)) (wln (jn y ⟨N,rfl⟩))
  obtain rfl:=anF k a0;exact vb k (pz (vv (B false) (wln (jn y ⟨N,rfl⟩))))
 rintro z A ⟨U,v1,_,rfl,d2,rfl,P,rfl⟩;refine nrm (cn H (fun z0 H=>?_) (fun z0 H=>?_))
 ·refine sr (va (I 1) (wln (W.ret (bkr (thr ?_)))));obtain rfl:=si H;exact r1 (qq U ⟨P,rfl⟩)
 refine W.seq (bn H fun k0 a1 H=>bn H fun h0 b0 H=>W.join (Jn U fun c l=>Own c G (F)∧l= [(0,I b),(1,I a),(16,B h0)]) ?_ ?_)
 ·clear H;refine W.region (va (I b) (cl (qC P b a1) ?_));rintro v32 w0 e2 ⟨R,rfl⟩;rcases bo (k0) with m | m
  ·obtain rfl:=orT m b0;exact vb m (pz (vv (B true) (wln (jn w0 ⟨R,rfl⟩))))
  have u:=orF m b0;refine vb m (wa (I a) (wn (bn u fun D b1 u=>cl (qC R a b1) ?_)));rintro v41 x0 f2 ⟨u0,rfl⟩;obtain rfl:=si u;exact vv (B D) (wln (jn x0 ⟨u0,rfl⟩))
 rintro z A ⟨X,w1,_,rfl,g2,rfl,S,rfl⟩;refine nrm (cn H (fun c1 H=>?_) (fun c1 H=>?_))
 ·refine sr (va (I 0) (wln (W.ret (bkr (thr ?_)))));obtain rfl:=si H;exact r1 (qq X ⟨S,rfl⟩)
 refine bn H fun m0 d g=>W.seqJ (Jn X fun c l=>Own c G (F)∧l= [(0,I b),(1,I a),(23,B m0)]) ?_ ?_
 ·refine sr (va (I b) (va (I a) (bn d fun l0 d1 d=>cl (tX S b a d1) ?_)));rintro v57 j h2 ⟨i,rfl⟩;refine va (B l0) (wln (cn d (fun e1 d=>?_) (fun e1 d=>?_)))
  ·refine W.skip (nrm ?_);obtain rfl:=si d;exact jn j ⟨i,rfl⟩
  refine sr (va (I a) (vv (B (a==4)) (wln (cn d (fun f1 d=>?_) (fun f1 d=>?_)))))
  ·refine W.skip (nrm ?_);obtain rfl:=si d;exact jn j ⟨i,rfl⟩
  refine sr (va (I a) (vv (B (a==5)) (wln (cn d (fun g1 d=>?_) (fun g1 d=>?_)))))
  ·refine W.skip (nrm ?_);obtain rfl:=si d;exact jn j ⟨i,rfl⟩
  refine sr (va (I a) (vv (B (a==8)) (wln (cn d (fun i1 d=>?_) (fun i1 d=>?_)))))
  ·refine W.skip (nrm ?_);obtain rfl:=si d;exact jn j ⟨i,rfl⟩
  refine W.region (va (I b) (vv (B (b==7)) (wln ?_)));obtain rfl:=si d;exact jn j ⟨i,rfl⟩
 rintro z A ⟨f,x1,_,rfl,i2,rfl,s,rfl⟩;refine cn g (fun j1 g=>?_) (fun j1 g=>?_)
 ·refine sr (va (I 1) (wln (W.ret (bkr (thr ?_)))));obtain rfl:=si g;exact r1 (qq f ⟨s,rfl⟩)
 refine bn g fun o0 e h=>W.seqJ (Jn f fun c l=>Own c G (F)∧l= [(35,B o0)]) ?_ ?_
 ·refine W.seq (bn e fun i0 d0 e=>W.join (Jn f fun c l=>Own c G (F)∧l= [(0,I b),(1,I a),(35,B i0)]) ?_ ?_)
  ·clear e;refine W.region (va (I a) (va (B (a==0)) ?_));rcases bo (a==0) with n | n
   ·have q:=anT n d0;refine vb n (wa (I b) (wa (B (b==5)) (wn (bn q fun s1 e0 q=>?_))));rcases bo (b==5) with o | o
    ·obtain rfl:=orT o e0;refine vb o (pz (wa (B true) ?_));obtain rfl:=si q;exact vv (B true) (wln (jn f ⟨s,rfl⟩))
    have s0:=orF o e0;refine vb o (wa (I b) (wa (B (b==4)) (wn ?_)));obtain rfl:=si s0;refine va (B (b==4)) ?_;obtain rfl:=si q;exact vv (B (b==4)) (wln (jn f ⟨s,rfl⟩))
   obtain rfl:=anF n d0;exact vb n (pz (pz (pz (vv (B false) (wln (jn f ⟨s,rfl⟩))))))
  rintro z A ⟨t,y1,_,rfl,j2,rfl,x,rfl⟩;refine nrm (cn e (fun k1 e=>?_) (fun k1 e=>?_))
  ·refine W.skip (nrm ?_);obtain rfl:=si e;exact jn t ⟨x,rfl⟩
  refine bn e fun j0 f0 e=>W.join (Jn t fun c l=>Own c G (F)∧l= [(35,B j0)]) ?_ ?_
  ·clear e;refine W.region (va (I b) (va (B (b==6)) ?_));rcases bo (b==6) with p | p
   ·have t0:=anT p f0;refine vb p (wa (I a) (wa (B (a==6)) ?_));obtain rfl:=si t0;exact vv (B (a==6)) (wln (jn t ⟨x,rfl⟩))
   obtain rfl:=anF p f0;exact vb p (pz (vv (B false) (wln (jn t ⟨x,rfl⟩))))
  rintro z A ⟨y0,z1,_,rfl,k2,rfl,v0,rfl⟩;refine nrm ?_;obtain rfl:=si e;exact jn y0 ⟨v0,rfl⟩
 rintro z A ⟨Z,b2,_,rfl,l2,rfl,T,rfl⟩;refine cn h (fun m1 h=>?_) (fun m1 h=>?_)
 ·refine sr (va (I 2) (wln (W.ret (bkr (thr ?_)))));obtain rfl:=si h;exact r1 (qq Z ⟨T,rfl⟩)
 refine W.skip (bkn (nrm (sr (va (I 0) (wln (W.ret ?_))))));obtain rfl:=si h;exact r1 (qq Z ⟨T,rfl⟩)
def dE (p0:cJ):Option (cJ):=
 if true=true then
 some (⟨false,0,0,0,false⟩:cJ)
 else
 some p0
theorem lV {a:Nat} {r0_0:Value} {r0_1:Value} {r0_2:Value} {r0_3:Value} {r0_4:Value} {r0_5:Value} {r0_11:Value} (b:cJ) (e:Own c0 G ((Eb a 184 [r0_0,r0_1,r0_2,r0_3,r0_4,r0_5,B b.some,I b.last,I b.pict,I b.conj,B b.odd,r0_11]) :: F)) {r:cJ} (H:dE b=some r):
    Calls prog 168 #[.pointer (some ⟨a,6,none⟩)] c0.w (aO c0 fun c v=>Own c G ((Eb a 184 [r0_0,r0_1,r0_2,r0_3,r0_4,r0_5,B r.some,I r.last,I r.pict,I r.conj,B r.odd,r0_11]) :: F)∧v= .tuple #[]):=by
 unfold dE at H
 refine en func168 rfl rfl (sr (va (Qo a 6) (va (B true) (wln (W.cond (t:=true) (by kernel_rfl) (fun d=>?_) (fun d=>?_))))))
 ·have H:=it d H
  refine W.region (va (Qo a 6) (va (.agg #[B false,I 0,I 0,I 0,B false]) (va (Qo a 6) (md (sB 181 6 [B false,I 0,I 0,I 0,B false] [r0_0,r0_1,r0_2,r0_3,r0_4,r0_5,B false,I 0,I 0,I 0,B false,r0_11] 0 e ⟨rfl,rfl,rfl,rfl,rfl,trivial⟩) ?_))))
  rintro g h f
  refine WL.nil ?_
  obtain rfl:=si H
  exact n0 (qq g ⟨f,rfl⟩)
 cases d
def dg (sg:Sto) (p0:Option Nat):Option (Sto):=
 if (!p0.isNone)=true then
 (p0).bind fun c=>
 (sg.feed_Feeder[c]?).bind fun a=>
 (sg.set_feed_Feeder c (⟨a.pen,a.dec,a.seg,(none:Option Nat)⟩:bD)).bind fun d=>
 (dE a.seg).bind fun e=>
 (d.set_feed_Feeder c (⟨a.pen,a.dec,e,(none:Option Nat)⟩:bD)).bind fun b=>
 some b
 else
 some sg
theorem jj (n:Own c0 G F) (i:Rel c0 sg G) (k:Option Nat) {r:Sto} (M:Pt 4 c0 v1 k) (H:dg sg k=some r): Calls prog 109 #[v1] c0.w (aO c0 fun c v=>∃G_:Gm,Own c G_ (F)∧Rel c r G_∧v= .tuple #[]):=by
 unfold dg at H;refine en func109 rfl rfl (sr (va (v1) (vr (B (!k.isNone)) (by rcases (M).cs with ⟨f,g⟩ | ⟨b_,f,g⟩ <;> (subst f; rw [g]; kernel_rfl)) (wln (cn H (fun T H=>?_) (fun T H=>?_))))))
 ·refine sr (va (v1) (bn H fun g0 U H=>?_));obtain ⟨d,rfl,j⟩:=(M).get U;refine va (Q d) (va (Qo d 11) (bn H fun a X H=>?_));obtain ⟨v8,v10,A,R,e0⟩:=Rel.open_feed_Feeder i X j;refine md (gC 182 11 (.pointer none) [v8,I a.dec.held,I a.dec.needs,.int .u8 a.dec.lo,.int .u8 a.dec.hi,I a.dec.bits,B a.seg.some,I a.seg.last,I a.seg.pict,I a.seg.conj,B a.seg.odd,.pointer none] 0 n A ⟨rfl,trivial⟩) ?_;rintro d0 e o;refine bn H fun S E H=>?_;obtain ⟨Z,p,x,D,a0⟩:=Rel.put_feed_Feeder o (i.mono e) (E':=[(Eb d 184 [v8,I a.dec.held,I a.dec.needs,.int .u8 a.dec.lo,.int .u8 a.dec.hi,I a.dec.bits,B a.seg.some,I a.seg.last,I a.seg.pict,I a.seg.conj,B a.seg.odd,.pointer none])]) E ⟨d,v8,(.pointer none),(tm j),rfl,(R.mono e),rfl⟩;refine wln (W.region (vv (Q d) (va (Qo d 6) ?_)));have q:=p.borrow 0 D rfl;refine bn H fun b N H=>cl (lV a.seg q N) ?_;rintro v29 z h ⟨s,rfl⟩;have t:=s.giveB 0 rfl;refine bn H fun l P H=>?_;obtain ⟨m,u,y,f0,b0⟩:=Rel.put_feed_Feeder t (x.mono h) (E':=[(Eb d 184 [v8,I a.dec.held,I a.dec.needs,.int .u8 a.dec.lo,.int .u8 a.dec.hi,I a.dec.bits,B b.some,I b.last,I b.pict,I b.conj,B b.odd,.pointer none])]) P ⟨d,v8,(.pointer none),(tm j),rfl,(R.mono (e.trans h)),rfl⟩;refine WL.nil ?_;obtain rfl:=si H;exact n0 (qq z ⟨m,u,y,rfl⟩)
 refine W.skip ?_;obtain rfl:=si H;exact n0 (qq c0 ⟨G,n,i,rfl⟩)
def cW (p0:cJ) (p1:aw):Option (Bool):=
 if (!p0.some)=true then
 some false
 else
 ((bV (p1.Conj==1) (some (p0.conj==2))).bind fun a=>
 if a=true then
 some (a)
 else
 (bV p1.Pict (some (p0.pict==2))).bind fun c=>
 some (c)).bind fun e=>
 if e=true then
 some true
 else
 (fW p0.last p1.Break).bind fun b=>
 if (b==1)=true then
 some true
 else
 if (b==2)=true then
 (bV (p0.last==6) (some p0.odd)).bind fun d=>
 some d
 else
 some false
theorem lU {b:Nat} {r0_0:Value} {r0_1:Value} {r0_2:Value} {r0_3:Value} {r0_4:Value} {r0_5:Value} {r0_11:Value} (a:cJ) (e:aw) (O0:Own c0 G ((Eb b 184 [r0_0,r0_1,r0_2,r0_3,r0_4,r0_5,B a.some,I a.last,I a.pict,I a.conj,B a.odd,r0_11]) :: F)) {r:Bool} (H:cW a e=some r): Calls prog 224 #[.pointer (some ⟨b,6,none⟩),.agg #[I e.Break,B e.Pict,I e.Conj,I e.East]] c0.w (aO c0 fun c v=>Own c G ((Eb b 184 [r0_0,r0_1,r0_2,r0_3,r0_4,r0_5,B a.some,I a.last,I a.pict,I a.conj,B a.odd,r0_11]) :: F)∧v=B r):=by
 unfold cW at H;refine en func224 rfl rfl (sr (me (bx 238 [I e.Break,B e.Pict,I e.Conj,I e.East] O0) ?_));rintro v5 s l4 ⟨p,rfl,q,M⟩;refine va (B false) (wln (W.seq (sr (vv (Qo b 6) (va (Qo b 6) (vx (le1 6 u_4 (q.on 0 rfl)) (va (B (!a.some)) (wln (cn H (fun h6 H=>?_) (fun h6 H=>?_))))))))))
 ·refine sr (va (B false) (wln (W.ret (thr ?_))));obtain rfl:=si H;exact r1 (qq s ⟨q,rfl⟩)
 refine W.skip (nrm (W.seq (W.block (bn H fun P f d=>W.seqJ (Jn s fun c l=>Own c G ((Eb b 184 [r0_0,r0_1,r0_2,r0_3,r0_4,r0_5,B a.some,I a.last,I a.pict,I a.conj,B a.odd,r0_11]) :: F)∧l= [(0,.pointer (some ⟨b,6,none⟩)),(3,Q p),(10,B P)]) ?_ ?_))))
 ·refine W.seq (bn f fun z h9 f=>W.join (Jn s fun c l=>Own c G ((Eb b 184 [r0_0,r0_1,r0_2,r0_3,r0_4,r0_5,B a.some,I a.last,I a.pict,I a.conj,B a.odd,r0_11]) :: F)∧l= [(0,.pointer (some ⟨b,6,none⟩)),(3,Q p),(10,B z)]) ?_ ?_)
  ·clear f;refine W.region (va (Qo p (0+2)) (vx (l1 u_3 (M 2 _ rfl)) (va (B (e.Conj==1)) ?_)));rcases bo (e.Conj==1) with j | j
   ·have R:=anT j h9;refine vb j (wa (Qo b 6) (wa (Qo b 6) (wa (Qo b 9) (wn (vx (le1 9 u_3 (q.on 0 rfl)) (wa (B (a.conj==2)) ?_))))));obtain rfl:=si R;exact vv (B (a.conj==2)) (wln (jn s ⟨q,rfl⟩))
   obtain rfl:=anF j h9;exact vb j (pz (pz (ps (vv (B false) (wln (jn s ⟨q,rfl⟩))))))
  rintro E N ⟨o,u0,_,rfl,y0,rfl,n,rfl⟩;refine nrm (cn f (fun e0 f=>?_) (fun e0 f=>?_))
  ·refine W.skip (nrm ?_);obtain rfl:=si f;exact jn o ⟨n,rfl⟩
  refine bn f fun A x f=>W.join (Jn o fun c l=>Own c G ((Eb b 184 [r0_0,r0_1,r0_2,r0_3,r0_4,r0_5,B a.some,I a.last,I a.pict,I a.conj,B a.odd,r0_11]) :: F)∧l= [(0,.pointer (some ⟨b,6,none⟩)),(3,Q p),(10,B A)]) ?_ ?_
  ·clear f;refine W.region (va (Qo p (0+1)) (vx (l1 u_4 ((mm M) 1 _ rfl)) ?_));rcases bo (e.Pict) with k | k
   ·have S:=anT k x;refine vb k (wa (Qo b 6) (wa (Qo b 6) (wa (Qo b 8) (wn (vx (le1 8 u_3 (n.on 0 rfl)) (wa (B (a.pict==2)) ?_))))));obtain rfl:=si S;exact vv (B (a.pict==2)) (wln (jn o ⟨n,rfl⟩))
   obtain rfl:=anF k x;exact vb k (pz (pz (ps (vv (B false) (wln (jn o ⟨n,rfl⟩))))))
  rintro E N ⟨Z,v0,_,rfl,z0,rfl,U,rfl⟩;refine nrm ?_;obtain rfl:=si f;exact jn Z ⟨U,rfl⟩
 rintro E N ⟨a0,w0,_,rfl,a1,rfl,t,rfl⟩;refine cn d (fun f0 d=>?_) (fun f0 d=>?_)
 ·refine sr (va (B true) (wln (W.ret (bkr (thr ?_)))));obtain rfl:=si d;exact r1 (qq a0 ⟨t,rfl⟩)
 refine W.skip (bkn (nrm (W.seq (W.seq (rD [] (Kp G0 [(Eb b 184 [r0_0,r0_1,r0_2,r0_3,r0_4,r0_5,B a.some,I a.last,I a.pict,I a.conj,B a.odd,r0_11])]) t ?_)))));intro b0 c1 u;have l0:Kp G0 [(Eb b 184 [r0_0,r0_1,r0_2,r0_3,r0_4,r0_5,B a.some,I a.last,I a.pict,I a.conj,B a.odd,r0_11])] b0:=(Kp.cons (u.on 0 rfl) Kp.nil0);refine ta 0 (.pointer (some ⟨b,6,none⟩)) (ta 1 (Qo b 6) (ta 2 (Qo b 7) (tkx 3 l0 (fun c' k0 hk=>le1 7 u_3 (hk.on 0 rfl)) (ta 4 (Q p) (tx 5 (fun c' k0=>l1 u_3 ((mm M) 0 _ rfl)) (bn d fun i g0 d=>o1 6 (gc 6 (xx u a.last e.Break g0) ?_)))))));rintro v44 h d1 ⟨g,rfl⟩;have m0:Kp G0 [(Eb b 184 [r0_0,r0_1,r0_2,r0_3,r0_4,r0_5,B a.some,I a.last,I a.pict,I a.conj,B a.odd,r0_11])] h:=(Kp.cons (g.on 0 rfl) Kp.nil0);refine ⟨.inr m0,dn (nrm (W.block (sr (vv (B (i==1)) (wln (cn d (fun h0 d=>?_) (fun h0 d=>?_)))))))⟩
 ·refine sr (va (B true) (wln (W.ret (bkr (thr ?_)))));obtain rfl:=si d;exact r1 (qq h ⟨g,rfl⟩)
 refine sr (vv (B (i==2)) (wln (cn d (fun i0 d=>?_) (fun i0 d=>?_))))
 ·refine W.seq (bn d fun D y d=>W.join (Jn h fun c l=>Own c G ((Eb b 184 [r0_0,r0_1,r0_2,r0_3,r0_4,r0_5,B a.some,I a.last,I a.pict,I a.conj,B a.odd,r0_11]) :: F)∧l= [(4,B D)]) ?_ ?_)
  ·clear d;refine W.region (vv (Qo b 6) (va (Qo b 7) (vx (le1 7 u_3 (g.on 0 rfl)) (va (B (a.last==6)) ?_))));rcases bo (a.last==6) with m | m
   ·have T:=anT m y;refine vb m (wa (Qo b 6) (wa (Qo b 6) (wa (Qo b 10) (wn (vx (le1 10 u_4 (g.on 0 rfl)) ?_)))));obtain rfl:=si T;exact vv (B a.odd) (wln (jn h ⟨g,rfl⟩))
   obtain rfl:=anF m y;exact vb m (pz (pz (vv (B false) (wln (jn h ⟨g,rfl⟩)))))
  rintro E N ⟨d0,x0,_,rfl,e1,rfl,X,rfl⟩;refine nrm (W.ret (bkr (thr ?_)));obtain rfl:=si d;exact r1 (qq d0 ⟨X,rfl⟩)
 refine W.skip (bkn (nrm (sr (va (B false) (wln (W.ret ?_))))));obtain rfl:=si d;exact r1 (qq h ⟨g,rfl⟩)
def cN (p0:cJ) (p1:aw):Option (Int):=
 if p1.Pict=true then
 some 1
 else
 (bV (p0.pict==1) (some (p1.Break==4))).bind fun a=>
 if a=true then
 some 1
 else
 (bV (p0.pict==1) (some (p1.Break==5))).bind fun b=>
 if b=true then
 some 2
 else
 some 0
theorem lq {b:Nat} {r0_0:Value} {r0_1:Value} {r0_2:Value} {r0_3:Value} {r0_4:Value} {r0_5:Value} {r0_11:Value} (a:cJ) (d:aw) (A:Own c0 G ((Eb b 184 [r0_0,r0_1,r0_2,r0_3,r0_4,r0_5,B a.some,I a.last,I a.pict,I a.conj,B a.odd,r0_11]) :: F)) {r:Int} (H:cN a d=some r): Calls prog 225 #[.pointer (some ⟨b,6,none⟩),.agg #[I d.Break,B d.Pict,I d.Conj,I d.East]] c0.w (aO c0 fun c v=>Own c G ((Eb b 184 [r0_0,r0_1,r0_2,r0_3,r0_4,r0_5,B a.some,I a.last,I a.pict,I a.conj,B a.odd,r0_11]) :: F)∧v=I r):=by
 unfold cN at H;refine en func225 rfl rfl (sr (me (bx 238 [I d.Break,B d.Pict,I d.Conj,I d.East] A) ?_));rintro v5 k T ⟨j,rfl,i,s⟩;refine va (I 0) (wln (W.seq (W.block (sr (va (Qo j (0+1)) (vx (l1 u_4 (s 1 _ rfl)) (va (B d.Pict) (wln (cn H (fun E H=>?_) (fun E H=>?_))))))))))
 ·refine sr (va (I 1) (wln (W.ret (bkr (thr ?_)))));obtain rfl:=si H;exact r1 (qq k ⟨i,rfl⟩)
 refine W.seq (bn H fun p y H=>W.join (Jn k fun c l=>Own c G ((Eb b 184 [r0_0,r0_1,r0_2,r0_3,r0_4,r0_5,B a.some,I a.last,I a.pict,I a.conj,B a.odd,r0_11]) :: F)∧l= [(0,.pointer (some ⟨b,6,none⟩)),(3,Q j),(8,B p)]) ?_ ?_)
 ·clear H;refine W.region (vv (Qo b 6) (va (Qo b 8) (vx (le1 8 u_3 (i.on 0 rfl)) (va (B (a.pict==1)) ?_))));rcases bo (a.pict==1) with h | h
  ·have z:=anT h y;refine vb h (wa (Q j) (wn (vx (l1 u_3 (s 0 _ rfl)) (wa (B (d.Break==4)) ?_))));obtain rfl:=si z;exact vv (B (d.Break==4)) (wln (jn k ⟨i,rfl⟩))
  obtain rfl:=anF h y;exact vb h (pz (ps (vv (B false) (wln (jn k ⟨i,rfl⟩)))))
 rintro D M ⟨g,N,_,rfl,R,rfl,f,rfl⟩;refine nrm (cn H (fun u H=>?_) (fun u H=>?_))
 ·refine sr (va (I 1) (wln (W.ret (bkr (thr ?_)))));obtain rfl:=si H;exact r1 (qq g ⟨f,rfl⟩)
 refine W.seq (bn H fun q o H=>W.join (Jn g fun c l=>Own c G ((Eb b 184 [r0_0,r0_1,r0_2,r0_3,r0_4,r0_5,B a.some,I a.last,I a.pict,I a.conj,B a.odd,r0_11]) :: F)∧l= [(19,B q)]) ?_ ?_)
 ·clear H;refine W.region (vv (Qo b 6) (va (Qo b 8) (vx (le1 8 u_3 (f.on 0 rfl)) (va (B (a.pict==1)) ?_))));rcases bo (a.pict==1) with e | e
  ·have t:=anT e o;refine vb e (wa (Q j) (wn (vx (l1 u_3 ((mm s) 0 _ rfl)) (wa (B (d.Break==5)) ?_))));obtain rfl:=si t;exact vv (B (d.Break==5)) (wln (jn g ⟨f,rfl⟩))
  obtain rfl:=anF e o;exact vb e (pz (ps (vv (B false) (wln (jn g ⟨f,rfl⟩)))))
 rintro D M ⟨n,P,_,rfl,S,rfl,m,rfl⟩;refine nrm (cn H (fun x H=>?_) (fun x H=>?_))
 ·refine sr (va (I 2) (wln (W.ret (bkr (thr ?_)))));obtain rfl:=si H;exact r1 (qq n ⟨m,rfl⟩)
 refine W.skip (bkn (nrm (sr (va (I 0) (wln (W.ret ?_))))));obtain rfl:=si H;exact r1 (qq n ⟨m,rfl⟩)
def cI (p0:cJ) (p1:aw):Option (Int):=
 if (p1.Conj==1)=true then
 some 1
 else
 if (p0.conj==0)=true then
 some 0
 else
 if (p1.Conj==2)=true then
 some 2
 else
 if (p1.Conj==3)=true then
 some p0.conj
 else
 some 0
theorem kZ {b:Nat} {r0_0:Value} {r0_1:Value} {r0_2:Value} {r0_3:Value} {r0_4:Value} {r0_5:Value} {r0_11:Value} (d:cJ) (a:aw) (i:Own c0 G ((Eb b 184 [r0_0,r0_1,r0_2,r0_3,r0_4,r0_5,B d.some,I d.last,I d.pict,I d.conj,B d.odd,r0_11]) :: F)) {r:Int} (H:cI d a=some r): Calls prog 226 #[.pointer (some ⟨b,6,none⟩),.agg #[I a.Break,B a.Pict,I a.Conj,I a.East]] c0.w (aO c0 fun c v=>Own c G ((Eb b 184 [r0_0,r0_1,r0_2,r0_3,r0_4,r0_5,B d.some,I d.last,I d.pict,I d.conj,B d.odd,r0_11]) :: F)∧v=I r):=by
 unfold cI at H;refine en func226 rfl rfl (sr (me (bx 238 [I a.Break,B a.Pict,I a.Conj,I a.East] i) ?_));rintro v5 f n ⟨g,rfl,e,h⟩;refine va (I 0) (wln (W.seq (W.block (sr (va (Qo g (0+2)) (vx (l1 u_3 (h 2 _ rfl)) (vv (B (a.Conj==1)) (wln (cn H (fun j H=>?_) (fun j H=>?_))))))))))
 ·refine sr (va (I 1) (wln (W.ret (bkr (thr ?_)))));obtain rfl:=si H;exact r1 (qq f ⟨e,rfl⟩)
 refine sr (vv (Qo b 6) (va (Qo b 9) (vx (le1 9 u_3 (e.on 0 rfl)) (vv (B (d.conj==0)) (wln (cn H (fun k H=>?_) (fun k H=>?_)))))))
 ·refine sr (va (I 0) (wln (W.ret (bkr (thr ?_)))));obtain rfl:=si H;exact r1 (qq f ⟨e,rfl⟩)
 refine sr (va (Qo g (0+2)) (vx (l1 u_3 (h 2 _ rfl)) (vv (B (a.Conj==2)) (wln (cn H (fun l H=>?_) (fun l H=>?_))))))
 ·refine sr (va (I 2) (wln (W.ret (bkr (thr ?_)))));obtain rfl:=si H;exact r1 (qq f ⟨e,rfl⟩)
 refine sr (va (Qo g (0+2)) (vx (l1 u_3 (h 2 _ rfl)) (vv (B (a.Conj==3)) (wln (cn H (fun m H=>?_) (fun m H=>?_))))))
 ·refine sr (vv (Qo b 6) (va (Qo b 9) (vx (le1 9 u_3 (e.on 0 rfl)) (va (I d.conj) (wln (W.ret (bkr (thr ?_))))))));obtain rfl:=si H;exact r1 (qq f ⟨e,rfl⟩)
 refine W.skip (bkn (nrm (sr (va (I 0) (wln (W.ret ?_))))));obtain rfl:=si H;exact r1 (qq f ⟨e,rfl⟩)
def de (p0:cJ) (p1:aw):Option (cJ×Bool):=
 if false=true then
 some (p0,false)
 else
 (cW p0 p1).bind fun d=>
 (cN p0 p1).bind fun e=>
 (cI p0 p1).bind fun f=>
 (bV (p1.Break==6) ((bV p0.some (some (p0.last==6))).bind fun b=>
 (bV b (some p0.odd)).bind fun c=>
 some (!c))).bind fun a=>
 some ((⟨true,p1.Break,e,f,a⟩:cJ),d)
theorem mg {a:Nat} {r0_0:Value} {r0_1:Value} {r0_2:Value} {r0_3:Value} {r0_4:Value} {r0_5:Value} {r0_11:Value} (b:cJ) (f:aw) (O0:Own c0 G ((Eb a 184 [r0_0,r0_1,r0_2,r0_3,r0_4,r0_5,B b.some,I b.last,I b.pict,I b.conj,B b.odd,r0_11]) :: F)) {r:cJ×Bool} (H:de b f=some r): Calls prog 173 #[.pointer (some ⟨a,6,none⟩),.agg #[I f.Break,B f.Pict,I f.Conj,I f.East]] c0.w (aO c0 fun c v=>Own c G ((Eb a 184 [r0_0,r0_1,r0_2,r0_3,r0_4,r0_5,B r.1.some,I r.1.last,I r.1.pict,I r.1.conj,B r.1.odd,r0_11]) :: F)∧v=B r.2):=by
 unfold de at H;refine en func173 rfl rfl (sr (me (bx 238 [I f.Break,B f.Pict,I f.Conj,I f.East] O0) ?_));rintro v5 c4 l4 ⟨A,rfl,O2,o⟩;refine va (B false) (wln (W.seq (sr (va (Qo a 6) (va (B false) (wln (W.cond (t:=false) (by kernel_rfl) (fun E=>?_) (fun E=>?_))))))))
 ·cases E
 have H:=ie E H;refine W.skip (nrm (sr (va (Qo a 6) (vx (lN 238 o) (bn H fun i h8 H=>cl (lU b f O2 h8) ?_)))));rintro v14 j1 n1 ⟨P,rfl⟩;refine va (B i) (wln (W.seq (rD [] (Kp G0 []) P ?_)));intro i0 q1 R;have f2:Kp G0 [] i0:=Kp.nil0;refine ta 0 (.pointer (some ⟨a,6,none⟩)) (ta 1 (Qo a 6) (ta 2 (Qo a 6) (tx 3 (fun c' z=>lN 238 (mm o)) (ta 5 (Qo a 6) (tx 6 (fun c' z=>lN 238 (mm o)) (bn H fun d v0 H=>o1 4 (gc 4 (lq b f R v0) ?_)))))));rintro v25 j0 s1 ⟨S,rfl⟩;have y0:Kp G0 [] j0:=Kp.nil0;refine ⟨.inr y0,bn H fun e w0 H=>o1 7 (gc 7 (kZ b f S w0) ?_)⟩;rintro v34 k0 t1 ⟨T,rfl⟩;have z0:Kp G0 [] k0:=Kp.nil0;refine ⟨.inr z0,ta 8 (.pointer (some ⟨a,6,none⟩)) (ta 9 (Qo a 8) (o1 10 (gD 10 (sC 3 8 (I d) [r0_0,r0_1,r0_2,r0_3,r0_4,r0_5,B b.some,I b.last,I d,I b.conj,B b.odd,r0_11] 0 T ⟨rfl,trivial⟩) ?_)))⟩;rintro l0 u1 U;have a1:Kp G0 [] l0:=Kp.nil0;refine ⟨.inr a1,ta 11 (.pointer (some ⟨a,6,none⟩)) (ta 12 (Qo a 9) (o1 13 (gD 13 (sC 3 9 (I e) [r0_0,r0_1,r0_2,r0_3,r0_4,r0_5,B b.some,I b.last,I d,I e,B b.odd,r0_11] 0 U ⟨rfl,trivial⟩) ?_)))⟩;rintro p v1 h;have c1:Kp G0 [] p:=Kp.nil0;refine ⟨.inr c1,dn (nrm (W.seq (bn H fun n s H=>W.join (Jn p fun c l=>Own c G ((Eb a 184 [r0_0,r0_1,r0_2,r0_3,r0_4,r0_5,B b.some,I b.last,I d,I e,B n,r0_11]) :: F)∧l= [(0,.pointer (some ⟨a,6,none⟩)),(3,Q A),(5,B i)]) ?_ ?_)))⟩
 ·clear H;refine W.region (va (Qo a 6) (va (Q A) (vx (l1 u_3 ((mm o) 0 _ rfl)) (va (B (f.Break==6)) ?_))));rcases bo (f.Break==6) with j | j
  ·have g:=anT j s;refine vb j (wa (Qo a 6) (wa (Qo a 6) (wa (Qo a 6) (wn (vx (le1 6 u_4 (h.on 0 rfl)) (wn (bn g fun h1 u g=>?_)))))));rcases bo (b.some) with k | k
   ·have M:=anT k u;refine vb k (wa (Qo a 6) (wa (Qo a 6) (wa (Qo a 7) (wn (vx (le1 7 u_3 (h.on 0 rfl)) (wa (B (b.last==6)) (wn ?_)))))));obtain rfl:=si M;refine va (B (b.last==6)) (wn (bn g fun D x g=>?_));rcases bo (b.last==6) with m | m
    ·have N:=anT m x;refine vb m (wa (Qo a 6) (wa (Qo a 6) (wa (Qo a 10) (wn (vx (le1 10 u_4 (h.on 0 rfl)) (wn ?_))))));obtain rfl:=si N;refine va (B b.odd) (wa (B (!b.odd)) ?_);obtain rfl:=si g;refine va (B (!b.odd)) (va (Qo a 6) (va (Qo a 10) (md (sC 4 10 (B (!b.odd)) [r0_0,r0_1,r0_2,r0_3,r0_4,r0_5,B b.some,I b.last,I d,I e,B (!b.odd),r0_11] 0 h ⟨rfl,trivial⟩) ?_)));rintro m0 w1 X;exact wln (jn m0 ⟨X,rfl⟩)
    obtain rfl:=anF m x;refine vb m (pz (pz (wa (B false) (wa (B (!false)) ?_))));obtain rfl:=si g;refine va (B (!false)) (va (Qo a 6) (va (Qo a 10) (md (sC 4 10 (B (!false)) [r0_0,r0_1,r0_2,r0_3,r0_4,r0_5,B b.some,I b.last,I d,I e,B (!false),r0_11] 0 h ⟨rfl,trivial⟩) ?_)));rintro o0 x1 Z;exact wln (jn o0 ⟨Z,rfl⟩)
   obtain rfl:=anF k u;refine vb k (pz (pz (ps (wa (B false) (wn (bn g fun D x0 g=>?_))))));have y:false=false:=rfl;obtain rfl:=anF y x0;refine vb y (pz (pz (wa (B false) (wa (B (!false)) ?_))));obtain rfl:=si g;refine va (B (!false)) (va (Qo a 6) (va (Qo a 10) (md (sC 4 10 (B (!false)) [r0_0,r0_1,r0_2,r0_3,r0_4,r0_5,B b.some,I b.last,I d,I e,B (!false),r0_11] 0 h ⟨rfl,trivial⟩) ?_)));rintro q0 y1 a0;exact wln (jn q0 ⟨a0,rfl⟩)
  obtain rfl:=anF j s;refine vb j (pz (pz (pz (pz (pz (pz (pz (pz (pz (va (B false) (va (Qo a 6) (va (Qo a 10) (md (sC 4 10 (B false) [r0_0,r0_1,r0_2,r0_3,r0_4,r0_5,B b.some,I b.last,I d,I e,B false,r0_11] 0 h ⟨rfl,trivial⟩) ?_)))))))))))));rintro s0 z1 b0;exact wln (jn s0 ⟨b0,rfl⟩)
 rintro e_ w_ ⟨k1,m1,_,rfl,b2,rfl,d0,rfl⟩;refine nrm (W.seq (rD [] (Kp G0 []) d0 ?_));intro t0 c2 e0;have g2:Kp G0 [] t0:=Kp.nil0;refine ta 0 (.pointer (some ⟨a,6,none⟩)) (ta 1 (Qo a 6) (ta 2 (Q A) (tx 3 (fun c' z=>l1 u_3 ((mm o) 0 _ rfl)) (ta 4 (Qo a 6) (ta 5 (Qo a 6) (o1 6 (gD 6 (sC 4 6 (B true) [r0_0,r0_1,r0_2,r0_3,r0_4,r0_5,B true,I b.last,I d,I e,B n,r0_11] 0 e0 ⟨rfl,trivial⟩) ?_)))))));rintro u0 d2 f0;have d1:Kp G0 [] u0:=Kp.nil0;refine ⟨.inr d1,ta 7 (.pointer (some ⟨a,6,none⟩)) (ta 8 (Qo a 7) (o1 9 (gD 9 (sC 3 7 (I f.Break) [r0_0,r0_1,r0_2,r0_3,r0_4,r0_5,B true,I f.Break,I d,I e,B n,r0_11] 0 f0 ⟨rfl,trivial⟩) ?_)))⟩;rintro q e2 g0;have e1:Kp G0 [] q:=Kp.nil0;refine ⟨.inr e1,dn (nrm (sr (vv (B i) (wln (W.ret ?_)))))⟩;obtain rfl:=si H;exact r1 (qq q ⟨g0,rfl⟩)
def gI (sg:Sto) (p0:Option Nat) (p1:Int):Option (Sto):=
 (jv p1).bind fun s=>
 if s=true then
 (dg sg p0).bind fun k=>
 (p0).bind fun r=>
 (k.feed_Feeder[r]?).bind fun n=>
 (oz k n.pen p1).bind fun p=>
 some p.1
 else
 (qu p1).bind fun e=>
 (p0).bind fun h=>
 (sg.feed_Feeder[h]?).bind fun a=>
 (de a.seg e).bind fun j=>
 (sg.set_feed_Feeder h (⟨a.pen,a.dec,j.1,a.open_⟩:bD)).bind fun b=>
 (bV j.2 (some (!a.open_.isNone))).bind fun l=>
 if l=true then
 (p0).bind fun m=>
 (b.feed_Feeder[m]?).bind fun i=>
 (dG b i.open_ i.pen p1 e).bind fun q=>
 some q.1
 else
 (p0).bind fun c=>
 (b.feed_Feeder[c]?).bind fun o=>
 (kU b o.pen p1 e).bind fun f=>
 (f.1.feed_Feeder[c]?).bind fun d=>
 (f.1.set_feed_Feeder c (⟨d.pen,d.dec,d.seg,f.2⟩:bD)).bind fun g=>
 some g
theorem rq (O0:Own c0 G F) (R0:Rel c0 sg G) (hG:Gl [2,4] c0) (p0:Option Nat) (f:Int) {r:Sto} (U:Pt 4 c0 v1 p0) (H:gI sg p0 f=some r): Calls prog 221 #[v1,J f] c0.w (aO c0 fun c v=>∃G_:Gm,Own c G_ (F)∧Rel c r G_∧v= .tuple #[]):=by
 unfold gI at H;refine en func221 rfl rfl (W.seq (sr (va (J f) (bn H fun f5 h3 H=>cl (qK O0 f h3) ?_))));rintro v9 c8 N ⟨O5,rfl⟩;refine wln (cn H (fun x2 H=>?_) (fun x2 H=>?_))
 ·refine sr (va (v1) (bn H fun g5 y2 H=>cl (jj O5 R0.m p0 U.m y2) ?_));rintro v17 u4 l16 ⟨s4,g0,j0,rfl⟩;refine wln (sr (va (v1) (bn H fun a5 a3 H=>?_)));obtain ⟨l0,rfl,z2⟩:=((U.mono (N.trans l16))).get a3;refine vv (Q l0) (bn H fun z1 b3 H=>?_);obtain ⟨v22,v24,d3,c3,z4⟩:=Rel.open_feed_Feeder j0 b3 z2;refine vx (le1 0 uf (g0.gon d3 0 rfl)) (va (J f) (bn H fun p4 e3 H=>cl (BM g0 j0 z1.pen f c3 e3) ?_));rintro v33 t2 b5 ⟨e2,i2,s2,rfl⟩;refine wln (W.ret (thr ?_));obtain rfl:=si H;exact r0 (qq t2 ⟨e2,i2,s2,rfl⟩)
 refine W.skip (nrm (sr (va (J f) (bn H fun a f3 H=>cl (Df O5 f f3) ?_))));rintro v40 v4 s ⟨j2,rfl⟩;refine me (al 238 [I 0,B false,I 0,I 0] j2) ?_;rintro v44 w4 t ⟨h,rfl,k2⟩;refine md (sA 238 [I a.Break,B a.Pict,I a.Conj,I a.East] 0 k2 ⟨rfl,rfl,rfl,rfl,trivial⟩) ?_;rintro u2 u l2;refine wln (W.seq (W.seq (bn H fun f4 g3 H=>bn H fun d i3 H=>bn H fun g j3 H=>bn H fun P k3 H=>bn H fun k1 s0 H=>W.join (Jn u2 fun c l=>∃G_,Own c G_ ((Eb h 238 [I a.Break,B a.Pict,I a.Conj,I a.East]) :: F)∧l= [(0,v1),(1,J f),(4,Q h),(28,B k1)]∧Rel c P G_) ?_ ?_)))
 ·clear H;refine rD [4,9] (Kp G0 [(Eb h 238 [I a.Break,B a.Pict,I a.Conj,I a.East])]) l2 ?_;intro v2 Z h0;have w3:Kp G0 [(Eb h 238 [I a.Break,B a.Pict,I a.Conj,I a.East])] v2:=(Kp.cons (h0.on 0 rfl) Kp.nil0);refine ta 0 (v1) ?_;obtain ⟨j,rfl,t0⟩:=((U.mono (N.trans (s.trans (t.trans (u.trans Z)))))).get g3;refine ta 1 (Q j) (ta 2 (Qo j 6) (tkx 3 w3 (fun p i k=>leN 238 0 [I a.Break,B a.Pict,I a.Conj,I a.East] (k.on 0 rfl)) ?_));obtain ⟨v57,v59,m3,l3,u0⟩:=Rel.open_feed_Feeder (R0.mono (N.trans (s.trans (t.trans (u.trans Z))))) i3 t0;have n2:=h0.borrow 0 m3 rfl;refine o1 4 (gc 4 (mg d.seg a n2 j3) ?_);rintro c5 m0 a0 ⟨o2,rfl⟩;have p2:=o2.giveB 0 rfl;obtain ⟨f0,R,k0,n3,t4⟩:=Rel.put_feed_Feeder p2 (R0.mono (N.trans (s.trans (t.trans (u.trans (Z.trans a0)))))) (E':=[(Eb j 184 [v57,I d.dec.held,I d.dec.needs,.int .u8 d.dec.lo,.int .u8 d.dec.hi,I d.dec.bits,B g.1.some,I g.1.last,I g.1.pict,I g.1.conj,B g.1.odd,v59])]) k3 ⟨j,v57,v59,(tm t0),rfl,(l3.mono a0),(u0.mono a0)⟩;refine ⟨.inl rfl,?_⟩;rcases bo (g.2) with q | q
  ·have g2:=anT q s0;refine AC.takeb 5 q rfl (by kernel_rfl) (by kernel_rfl) (fun p i=>(by kernel_rfl)) (ta 6 (Q j) (ta 7 (Q j) (ta 8 (Qo j 11) (o1 9 (gl 9 (le1 11 underlying182 (R.gon n3 0 rfl)) (AC.take 10 (B (!d.open_.isNone)) rfl (by kernel_rfl) (by kernel_rfl) (fun p i=>(by rcases u0.m.cs with ⟨o0,q0⟩ | ⟨b_,o0,q0⟩ <;> (subst o0; rw [q0]; kernel_rfl))) ?_))))));obtain rfl:=si g2;exact ta 11 (B (!d.open_.isNone)) (dn (nrm (jn m0 ⟨f0,R,rfl,k0⟩)))
  obtain rfl:=anF q s0;exact AC.takeb 5 q rfl (by kernel_rfl) (by kernel_rfl) (fun p i=>(by kernel_rfl)) (tp 6 (tp 7 (tp 8 (tp 9 (tp 10 (ta 11 (B false) (dn (nrm (jn m0 ⟨f0,R,rfl,k0⟩)))))))))
 rintro e_ w_ ⟨x4,y4,_,rfl,w0,rfl,E,i0,rfl,M⟩;refine nrm (cn H (fun o3 H=>?_) (fun o3 H=>?_))
 ·refine W.seq (rD [10] (Kp E [(Eb h 238 [I a.Break,B a.Pict,I a.Conj,I a.East])]) i0 ?_);intro w2 x0 S;have e0:Kp E [(Eb h 238 [I a.Break,B a.Pict,I a.Conj,I a.East])] w2:=(Kp.cons (S.on 0 rfl) (Kp.nil S));refine ta 0 (v1) (bn H fun g4 q3 H=>?_);obtain ⟨o,rfl,p3⟩:=((U.mono (N.trans (s.trans (t.trans (u.trans (w0.trans x0))))))).get q3;refine ta 1 (Q o) (ta 2 (Qo o 11) (bn H fun b0 s3 H=>?_));obtain ⟨d5,e5,v0,t3,u3⟩:=Rel.open_feed_Feeder (M.mono x0) s3 p3;refine tkx 3 e0 (fun p i k=>le1 11 underlying182 (k.gon v0 0 rfl)) (ta 4 (Q o) (ta 5 (Q o) (ta 6 (Q o) (tkx 7 e0 (fun p i k=>le1 0 uf (k.gon v0 0 rfl)) (ta 8 (J f) (tkx 9 e0 (fun p i k=>leN 238 0 [I a.Break,B a.Pict,I a.Conj,I a.East] (k.on 0 rfl)) (bn H fun q4 v3 H=>o1 10 (gc 10 (qy S M.m (hG.m.le (by decide)) b0.open_ b0.pen f a u3 t3 v3) ?_))))))));rintro k4 h1 i4 ⟨f2,q2,f1,rfl⟩;refine ⟨.inl rfl,dn (nrm (W.ret (thr ?_)))⟩;obtain rfl:=si H;have z0:=q2.sD 1 [];exact r0 (qq h1 ⟨f2,z0,f1,rfl⟩)
 refine W.skip (nrm (rD [7,10] (Kp E [(Eb h 238 [I a.Break,B a.Pict,I a.Conj,I a.East])]) i0 ?_));intro i1 X x;have d0:Kp E [(Eb h 238 [I a.Break,B a.Pict,I a.Conj,I a.East])] i1:=(Kp.cons (x.on 0 rfl) (Kp.nil x));refine ta 0 (v1) (ta 1 (v1) (bn H fun h4 m1 H=>?_));obtain ⟨e,rfl,y⟩:=((U.mono (N.trans (s.trans (t.trans (u.trans (w0.trans X))))))).get m1;refine ta 2 (Q e) (ta 3 (Q e) (bn H fun b2 n1 H=>?_));obtain ⟨l4,m4,s1,q1,b4⟩:=Rel.open_feed_Feeder (M.mono X) n1 y;refine tkx 4 d0 (fun p i k=>le1 0 uf (k.gon s1 0 rfl)) (ta 5 (J f) (tkx 6 d0 (fun p i k=>leN 238 0 [I a.Break,B a.Pict,I a.Conj,I a.East] (k.on 0 rfl)) (bn H fun r4 t1 H=>o1 7 (gc 7 (vZ x M.m (hG.m.le (by decide)) b2.pen f a q1 t1) ?_))));rintro n4 a4 j4 ⟨_,x3,a1,T,rfl,z⟩;refine ⟨.inl rfl,ta 8 (Q e) (ta 9 (Qo e 11) ?_)⟩;obtain ⟨n,rfl⟩:=(z).form;refine bn H fun b u1 H=>?_;obtain ⟨D,o4,x1,w1,c4⟩:=Rel.open_feed_Feeder T u1 (tm y);refine o1 10 (gD 10 (gC 182 11 (.pointer n) [D,I b.dec.held,I b.dec.needs,.int .u8 b.dec.lo,.int .u8 b.dec.hi,I b.dec.bits,B b.seg.some,I b.seg.last,I b.seg.pict,I b.seg.conj,B b.seg.odd,.pointer n] 0 a1 x1 ⟨z.one,trivial⟩) ?_);rintro j1 A b1;refine bn H fun d2 y1 H=>?_;obtain ⟨y0,c1,g1,d4,z3⟩:=Rel.put_feed_Feeder b1 (T.mono A) (E':=[(Eb e 184 [D,I b.dec.held,I b.dec.needs,.int .u8 b.dec.lo,.int .u8 b.dec.hi,I b.dec.bits,B b.seg.some,I b.seg.last,I b.seg.pict,I b.seg.conj,B b.seg.odd,.pointer n])]) y1 ⟨e,D,(.pointer n),(tm y),rfl,(w1.mono A),(z.mono A)⟩;refine ⟨.inl rfl,dn ?_⟩;obtain rfl:=si H;have d1:=c1.sD 1 [];exact n0 (qq j1 ⟨y0,d1,g1,rfl⟩)
def gq (sg:Sto) (p0:Option Nat) (p1:List Int):Option (Sto):=
 (cM (σ:=Int×Sto) (τ:=Sto) (((p1.length:Int) - 0).toNat+1) (fun a=>
 if (decide (a.1 < (p1.length:Int)))=true then
 (idx p1 a.1).bind fun d=>
 (gI a.2 p0 d).bind fun b=>
 some (.inl ((w64 (a.1+1)),b))
 else
 some (.inr (a.2))) (0,sg)).bind fun c=>
 some c
theorem nJ (S:Own c0 G F) (T:Rel c0 sg G) (hG:Gl [2,4] c0) (j:Option Nat) (d:List Int) {r:Sto} (Z:Pt 4 c0 v1 j) (h:Sl (RI .i32) c0 v3 d) (H:gq sg j d=some r): Calls prog 165 #[v1,v3] c0.w (aO c0 fun c v=>∃G_:Gm,Own c G_ (F)∧Rel c r G_∧v= .tuple #[]):=by
 unfold gq at H;refine en func165 rfl rfl (sr (va (v3) (vx (ln 3 dS h) (va (I 0) (wln (W.block (bn H fun i0 N p=>lp N (fun a=>Jn c0 fun c l=>∃G_,Own c G_ (F)∧l= [(0,v1),(6,v3),(7,I (d.length:Int)),(8,I a.1)]∧Rel c a.2 G_) (fun i ex e w=>ex= .exit 0∧(Jn c0 fun c l=>∃G_,Own c G_ (F)∧l= []∧Rel c i G_) e w) ?_ ?_ ?_)))))))
 ·clear p N;intro a j0 A R H;revert A R;rintro X w_ ⟨U,g8,_,rfl,l7,rfl,k,t,rfl,f⟩;refine sr (va (B (decide (a.1 < (d.length:Int)))) (wln (W.seq (cn H (fun D H=>?_) (fun D H=>?_)))))
  ·refine W.skip (nrm (W.seq (W.block (sr (bn H fun b g H=>?_)))));obtain ⟨b0,E,P⟩:=Sl.at (h.mono l7) (aX g);obtain rfl:=E;refine vx (ix dS h.m g) (vx (l1 nc (P 0 _ rfl)) (va (J b) (wln (W.region (va (v1) (va (J b) (bn H fun e0 M H=>cl (rq t f (hG.m.le (by decide)) j b Z.m M) ?_)))))));rintro v24 y g0 ⟨n,q,u,rfl⟩;refine WL.nil (bkn (nrm (W.region (vv (I (w64 (a.1+1))) (WL.nil ?_)))));obtain rfl:=si H;exact ⟨_,rfl,jn y ⟨n,q,rfl,u⟩⟩
  refine W.exit (thx ?_);obtain rfl:=si H;exact ⟨_,rfl,rfl,jn U ⟨k,t,rfl,f⟩⟩
 ·exact jn c0 ⟨G,S,rfl,T⟩
 rintro _ X w_ ⟨rfl,z,f0,_,rfl,h0,rfl,o,s,rfl,x⟩;refine bke ?_;obtain rfl:=si p;exact n0 (qq z ⟨o,s,x,rfl⟩)
def jC (p0:Int):Option (Int):=
 ((bV (decide (p0≥240)) (some (decide (p0≤244)))).bind fun a=>
 if a=true then
 some ((w64 ((w64 ((w64 ((w64 (0+1))+1))+1))+1)))
 else
 (bV (decide (p0≥224)) (some (decide (p0 < 240)))).bind fun b=>
 if b=true then
 some ((w64 ((w64 ((w64 (0+1))+1))+1)))
 else
 (bV (decide (p0≥194)) (some (decide (p0 < 224)))).bind fun c=>
 if c=true then
 some ((w64 ((w64 (0+1))+1)))
 else
 if (decide (p0 < 128))=true then
 some ((w64 (0+1)))
 else
 some (0)).bind fun d=>
 some d
theorem pf (A:Own c0 G F) (a:Int) {r:Int} (H:jC a=some r): Calls prog 219 #[.int .u8 a] c0.w (aO c0 fun c v=>Own c G (F)∧v=I r):=by
 unfold jC at H;refine en func219 rfl rfl (sr (va (I 0) (wln (sr (va (I 0) (wln (bn H fun k b T=>W.seqJ (Jn c0 fun c l=>Own c G (F)∧l= [(3,I k)]) ?_ ?_)))))))
 ·refine W.block (W.seq (W.block (W.seq (W.block (W.seq (W.block (W.seq (W.block (W.seq (W.seq (W.seq (bn b fun q P b=>W.join (Jn c0 fun c l=>Own c G (F)∧l= [(0,.int .u8 a),(3,I 0),(4,B q)]) ?_ ?_))))))))))))
  ·clear b;refine W.region (va (.int .u8 a) (va (B (decide (a≥240))) ?_));rcases bo (decide (a≥240)) with j | j
   ·have U:=anT j P;refine vb j (wa (.int .u8 a) (wa (B (decide (a≤244))) ?_));obtain rfl:=si U;exact vv (B (decide (a≤244))) (wln (jn c0 ⟨A,rfl⟩))
   obtain rfl:=anF j P;exact vb j (pz (vv (B false) (wln (jn c0 ⟨A,rfl⟩))))
  rintro u x ⟨m,g7,_,rfl,l6,rfl,p,rfl⟩;refine nrm (cn b (fun M b=>?_) (fun M b=>?_))
  ·refine W.exit (thx (thx (bke (nrm (W.region (va (I 0) (vv (I (w64 (0+1))) (WL.nil (bkn (nrm (W.region (va (I (w64 (0+1))) (vv (I (w64 ((w64 (0+1))+1))) (WL.nil (bkn (nrm (W.region (va (I (w64 ((w64 (0+1))+1))) (vv (I (w64 ((w64 ((w64 (0+1))+1))+1))) (WL.nil (bkn (nrm (sr (va (I (w64 ((w64 ((w64 (0+1))+1))+1))) (vv (I (w64 ((w64 ((w64 ((w64 (0+1))+1))+1))+1))) (wln (W.exit (bke (nrm ?_)))))))))))))))))))))))))))));obtain rfl:=si b;exact jn m ⟨p,rfl⟩
  refine W.skip (nrm (W.seq (W.seq (bn b fun s n b=>W.join (Jn m fun c l=>Own c G (F)∧l= [(0,.int .u8 a),(3,I 0),(11,B s)]) ?_ ?_))))
  ·clear b;refine W.region (va (.int .u8 a) (va (B (decide (a≥224))) ?_));rcases bo (decide (a≥224)) with d | d
   ·have y:=anT d n;refine vb d (wa (.int .u8 a) (wa (B (decide (a < 240))) ?_));obtain rfl:=si y;exact vv (B (decide (a < 240))) (wln (jn m ⟨p,rfl⟩))
   obtain rfl:=anF d n;exact vb d (pz (vv (B false) (wln (jn m ⟨p,rfl⟩))))
  rintro u x ⟨f,X,_,rfl,l16,rfl,g,rfl⟩;refine nrm (cn b (fun N b=>?_) (fun N b=>?_))
  ·refine W.exit (thx (thx (bko rfl (thx (bke (nrm (W.region (va (I 0) (vv (I (w64 (0+1))) (WL.nil (bkn (nrm (W.region (va (I (w64 (0+1))) (vv (I (w64 ((w64 (0+1))+1))) (WL.nil (bkn (nrm (sr (va (I (w64 ((w64 (0+1))+1))) (vv (I (w64 ((w64 ((w64 (0+1))+1))+1))) (wln (W.exit (bke (nrm ?_)))))))))))))))))))))))));obtain rfl:=si b;exact jn f ⟨g,rfl⟩
  refine W.skip (nrm (W.seq (W.seq (bn b fun t o b=>W.join (Jn f fun c l=>Own c G (F)∧l= [(0,.int .u8 a),(3,I 0),(18,B t)]) ?_ ?_))))
  ·clear b;refine W.region (va (.int .u8 a) (va (B (decide (a≥194))) ?_));rcases bo (decide (a≥194)) with e | e
   ·have z:=anT e o;refine vb e (wa (.int .u8 a) (wa (B (decide (a < 224))) ?_));obtain rfl:=si z;exact vv (B (decide (a < 224))) (wln (jn f ⟨g,rfl⟩))
   obtain rfl:=anF e o;exact vb e (pz (vv (B false) (wln (jn f ⟨g,rfl⟩))))
  rintro u x ⟨i,Z,_,rfl,b0,rfl,h,rfl⟩;refine nrm (cn b (fun R b=>?_) (fun R b=>?_))
  ·refine W.exit (thx (thx (bko rfl (thx (bko rfl (thx (bke (nrm (W.region (va (I 0) (vv (I (w64 (0+1))) (WL.nil (bkn (nrm (sr (va (I (w64 (0+1))) (vv (I (w64 ((w64 (0+1))+1))) (wln (W.exit (bke (nrm ?_)))))))))))))))))))));obtain rfl:=si b;exact jn i ⟨h,rfl⟩
  refine W.skip (nrm (sr (va (.int .u8 a) (vv (B (decide (a < 128))) (wln (cn b (fun S b=>?_) (fun S b=>?_)))))))
  ·refine W.exit (thx (bko rfl (thx (bko rfl (thx (bko rfl (thx (bke (nrm (sr (va (I 0) (vv (I (w64 (0+1))) (wln (W.exit (bke (nrm ?_))))))))))))))));obtain rfl:=si b;exact jn i ⟨h,rfl⟩
  refine W.skip (nrm (W.exit (bko rfl (thx (bko rfl (thx (bko rfl (thx (bko rfl (thx (bke (nrm ?_))))))))))));obtain rfl:=si b;exact jn i ⟨h,rfl⟩
 rintro u x ⟨E,a0,_,rfl,d0,rfl,D,rfl⟩;refine sr (vv (I k) (wln (W.ret ?_)));obtain rfl:=si T;exact r1 (qq E ⟨D,rfl⟩)
def lL (p0:Int):Option (Int):=
 (jC p0).bind fun a=>
 if (a==0)=true then
 some 0
 else
 if (a==1)=true then
 some (w64 p0)
 else
 (shn (w64 (7 - a))).bind fun b=>
 some (kT .i64 (w64 p0) (w64 ((w64 (1 * 2 ^ (min b 64))) - 1)))
theorem xy (j:Own c0 G F) (e:Int) {r:Int} (H:lL e=some r): Calls prog 266 #[.int .u8 e] c0.w (aO c0 fun c v=>Own c G (F)∧v=I r):=by
 unfold lL at H;refine en func266 rfl rfl (sr (va (I 0) (wln (sr (va (.int .u8 e) (bn H fun d k H=>cl (pf j e k) ?_))))));rintro v7 h n ⟨g,rfl⟩;refine va (I d) (wln (sr (va (I d) (wln (W.block (sr (vv (B (d==0)) (wln (cn H (fun l H=>?_) (fun l H=>?_))))))))))
 ·refine sr (va (I 0) (wln (W.ret (bkr ?_))));obtain rfl:=si H;exact r1 (qq h ⟨g,rfl⟩)
 refine sr (vv (B (d==1)) (wln (cn H (fun m H=>?_) (fun m H=>?_))))
 ·refine sr (va (.int .u8 e) (vv (I (w64 e)) (wln (W.ret (bkr ?_)))));obtain rfl:=si H;exact r1 (qq h ⟨g,rfl⟩)
 refine sr (va (.int .u8 e) (va (I (w64 e)) (va (I d) (va (I (w64 (7 - d))) (bn H fun f i H=>vr (I (w64 (1 * 2 ^ (min f 64)))) (DR (k':= .i64) (a:=1) (b:=(w64 (7 - d))) i (by kernel_rfl) _) (va (I (w64 ((w64 (1 * 2 ^ (min f 64))) - 1))) (vv (I (kT .i64 (w64 e) (w64 ((w64 (1 * 2 ^ (min f 64))) - 1)))) (wln (W.ret (bkr ?_))))))))));obtain rfl:=si H;exact r1 (qq h ⟨g,rfl⟩)
def kf (p0:Int):Option (Int×Int):=
 (jC p0).bind fun b=>
 if (decide (b < 2))=true then
 some (0,0)
 else
 (if (p0==224)=true then
 some (160,191)
 else
 if (p0==240)=true then
 some (144,191)
 else
 if (p0==244)=true then
 some (128,(IntKind.u8.wrap ((IntKind.u8.wrap (191 - 16)) - 32)))
 else
 if (p0==237)=true then
 some (128,(IntKind.u8.wrap (191 - 32)))
 else
 some (128,191)).bind fun a=>
 some (a.1,a.2)
theorem vG (p:Own c0 G F) (b:Int) {r:Int×Int} (H:kf b=some r): Calls prog 220 #[.int .u8 b] c0.w (aO c0 fun c v=>Own c G (F)∧v= .tuple #[.int .u8 r.1,.int .u8 r.2]):=by
 unfold kf at H;refine en func220 rfl rfl (sr (vv (.int .u8 0) (wln (W.seq (sr (va (.int .u8 b) (bn H fun o q H=>cl (pf p b q) ?_)))))));rintro v7 e y ⟨f,rfl⟩;refine va (B (decide (o < 2))) (wln (cn H (fun s H=>?_) (fun s H=>?_)))
 ·refine sr (vv (.int .u8 0) (wln (W.ret (thr ?_))));obtain rfl:=si H;exact r2 (qq e ⟨f,rfl⟩)
 refine W.skip (nrm (sr (va (.int .u8 128) (va (.int .u8 191) (wln (bn H fun d a g=>W.seqJ (Jn e fun c l=>Own c G (F)∧l= [(2,.int .u8 d.1),(3,.int .u8 d.2)]) ?_ ?_))))))
 ·refine sr (va (.int .u8 b) (wln (W.block (W.seq (W.block (W.seq (W.block (W.seq (W.block (W.seq (W.block (W.seq (W.seq (sr (vv (B (b==224)) (wln (cn a (fun j a=>?_) (fun j a=>?_))))))))))))))))))
  ·refine W.exit (thx (thx (bke (nrm (sr (va (.int .u8 160) (wln (W.exit (bko rfl (thx (bko rfl (thx (bko rfl (thx (bke (nrm ?_))))))))))))))));obtain rfl:=si a;exact jn e ⟨f,rfl⟩
  refine W.skip (nrm (W.seq (sr (vv (B (b==240)) (wln (cn a (fun k a=>?_) (fun k a=>?_)))))))
  ·refine W.exit (thx (thx (bko rfl (thx (bke (nrm (sr (va (.int .u8 144) (wln (W.exit (bko rfl (thx (bko rfl (thx (bke (nrm ?_))))))))))))))));obtain rfl:=si a;exact jn e ⟨f,rfl⟩
  refine W.skip (nrm (W.seq (sr (vv (B (b==244)) (wln (cn a (fun m a=>?_) (fun m a=>?_)))))))
  ·refine W.exit (thx (thx (bko rfl (thx (bko rfl (thx (bke (nrm (W.region (va (.int .u8 191) (vv (.int .u8 (IntKind.u8.wrap (191 - 16))) (WL.nil (bkn (nrm (sr (va (.int .u8 (IntKind.u8.wrap (191 - 16))) (vv (.int .u8 (IntKind.u8.wrap ((IntKind.u8.wrap (191 - 16)) - 32))) (wln (W.exit (bke (nrm ?_)))))))))))))))))))));obtain rfl:=si a;exact jn e ⟨f,rfl⟩
  refine W.skip (nrm (sr (vv (B (b==237)) (wln (cn a (fun n a=>?_) (fun n a=>?_))))))
  ·refine W.exit (thx (bko rfl (thx (bko rfl (thx (bko rfl (thx (bke (nrm (sr (va (.int .u8 191) (vv (.int .u8 (IntKind.u8.wrap (191 - 32))) (wln (W.exit (bke (nrm ?_))))))))))))))));obtain rfl:=si a;exact jn e ⟨f,rfl⟩
  refine W.skip (nrm (W.exit (bko rfl (thx (bko rfl (thx (bko rfl (thx (bko rfl (thx (bke (nrm ?_))))))))))));obtain rfl:=si a;exact jn e ⟨f,rfl⟩
 rintro x z ⟨i,t,_,rfl,u,rfl,h,rfl⟩;refine sr (va (.int .u8 d.1) (va (.int .u8 d.2) (va (.int .u8 d.1) (va (.int .u8 d.2) (wln (W.ret ?_))))));obtain rfl:=si g;exact r2 (qq i ⟨h,rfl⟩)
def cx (p0:bC):Option (Int):=
 if false=true then
 some 0
 else
 some p0.held
theorem lT {b:Nat} {r0_0:Value} {r0_6:Value} {r0_7:Value} {r0_8:Value} {r0_9:Value} {r0_10:Value} {r0_11:Value} (a:bC) (e:Own c0 G ((Eb b 184 [r0_0,I a.held,I a.needs,.int .u8 a.lo,.int .u8 a.hi,I a.bits,r0_6,r0_7,r0_8,r0_9,r0_10,r0_11]) :: F)) {r:Int} (H:cx a=some r): Calls prog 223 #[.pointer (some ⟨b,1,none⟩)] c0.w (aO c0 fun c v=>Own c G ((Eb b 184 [r0_0,I a.held,I a.needs,.int .u8 a.lo,.int .u8 a.hi,I a.bits,r0_6,r0_7,r0_8,r0_9,r0_10,r0_11]) :: F)∧v=I r):=by
 unfold cx at H;refine en func223 rfl rfl (sr (va (I 0) (wln (W.seq (sr (va (Qo b 1) (va (B false) (wln (W.cond (t:=false) (by kernel_rfl) (fun d=>?_) (fun d=>?_))))))))))
 ·cases d
 have H:=ie d H;refine W.skip (nrm (sr (vv (Qo b 1) (va (Qo b 1) (vx (le1 1 u_3 (e.on 0 rfl)) (va (I a.held) (wln (W.ret ?_))))))));obtain rfl:=si H;exact r1 (qq c0 ⟨e,rfl⟩)
def bI (p0:bC):Option (bC×(List Int)):=
 (cx p0).bind fun a=>
 if (a==0)=true then
 some (p0,([]:List Int))
 else
 some ((⟨0,0,0,0,0⟩:bC),([65533]:List Int))
theorem iO {a:Nat} {r0_0:Value} {r0_6:Value} {r0_7:Value} {r0_8:Value} {r0_9:Value} {r0_10:Value} {r0_11:Value} (b:bC) (q:Own c0 G ((Eb a 184 [r0_0,I b.held,I b.needs,.int .u8 b.lo,.int .u8 b.hi,I b.bits,r0_6,r0_7,r0_8,r0_9,r0_10,r0_11]) :: F)) {r:bC×(List Int)} (H:bI b=some r): Calls prog 167 #[.pointer (some ⟨a,1,none⟩)] c0.w (aO c0 fun c v=>∃d p,Own c G (es true (RI .i32) d 21 p r.2 :: (Eb a 184 [r0_0,I r.1.held,I r.1.needs,.int .u8 r.1.lo,.int .u8 r.1.hi,I r.1.bits,r0_6,r0_7,r0_8,r0_9,r0_10,r0_11]) :: F)∧v=d∧OA (RI .i32) c d p r.2):=by
 unfold bI at H;refine en func167 rfl rfl (sr (va (Y) (wln (W.seq (sr (va (Qo a 1) (bn H fun o s H=>cl (lT b q s) ?_)))))));rintro v8 k z ⟨i,rfl⟩;refine va (B (o==0)) (wln (cn H (fun t H=>?_) (fun t H=>?_)))
 ·refine sr (va (Y) (wln (W.ret (thr ?_))));obtain rfl:=si H;have l:OA (RI .i32) k (Y) [] []:=OA.nil (aM _);have f:=i.addHole (e:=es true (RI .i32) (Y) 21 [] ([]:List Int)) rfl;exact r1 (qq k ⟨(Y),[],f,rfl,l⟩)
 refine W.skip (nrm (sr (va (Qo a 1) (va (.agg #[I 0,I 0,.int .u8 0,.int .u8 0,I 0]) (va (Qo a 1) (md (sB 179 1 [I 0,I 0,.int .u8 0,.int .u8 0,I 0] [r0_0,I 0,I 0,.int .u8 0,.int .u8 0,I 0,r0_6,r0_7,r0_8,r0_9,r0_10,r0_11] 0 i ⟨rfl,rfl,rfl,rfl,rfl,trivial⟩) ?_))))));rintro u x g;refine wln (sr (me (sl (RI .i32) 21 [[J 65533]] ([65533]:List Int) g ⟨rfl,trivial⟩) ?_));rintro v18 j y ⟨n,h,m⟩;refine va (v18) (wln (W.ret ?_));obtain rfl:=si H;exact r1 (qq j ⟨v18,n,h,rfl,m⟩)
def cu (p0:bC) (p1:Int):Option (bC×(List Int)):=
 (jC p1).bind fun a=>
 if (a==0)=true then
 some (p0,([65533]:List Int))
 else
 if (a==1)=true then
 some (p0,([(w32 p1)]:List Int))
 else
 (lL p1).bind fun c=>
 (kf p1).bind fun b=>
 some ((⟨1,(w64 (a - 1)),b.1,b.2,c⟩:bC),([]:List Int))
theorem iN {a:Nat} {r0_0:Value} {r0_6:Value} {r0_7:Value} {r0_8:Value} {r0_9:Value} {r0_10:Value} {r0_11:Value} (f:bC) (g:Int) (T:Own c0 G ((Eb a 184 [r0_0,I f.held,I f.needs,.int .u8 f.lo,.int .u8 f.hi,I f.bits,r0_6,r0_7,r0_8,r0_9,r0_10,r0_11]) :: F)) {r:bC×(List Int)} (H:cu f g=some r): Calls prog 222 #[.pointer (some ⟨a,1,none⟩),.int .u8 g] c0.w (aO c0 fun c v=>∃k S,Own c G (es true (RI .i32) k 21 S r.2 :: (Eb a 184 [r0_0,I r.1.held,I r.1.needs,.int .u8 r.1.lo,.int .u8 r.1.hi,I r.1.bits,r0_6,r0_7,r0_8,r0_9,r0_10,r0_11]) :: F)∧v=k∧OA (RI .i32) c k S r.2):=by
 unfold cu at H;refine en func222 rfl rfl (sr (va (Y) (wln (W.seq (sr (va (.int .u8 g) (bn H fun b X H=>cl (pf T g X) ?_)))))));rintro v7 c6 l6 ⟨j,rfl⟩;refine va (I b) (wln (sr (va (I b) (wln (W.block (sr (vv (B (b==0)) (wln (cn H (fun Z H=>?_) (fun Z H=>?_))))))))))
 ·refine sr (me (sl (RI .i32) 21 [[J 65533]] ([65533]:List Int) j ⟨rfl,trivial⟩) ?_);rintro v13 x h0 ⟨P,U,z⟩;refine va (v13) (wln (W.ret (bkr (thr ?_))));obtain rfl:=si H;exact r1 (qq x ⟨v13,P,U,rfl,z⟩)
 refine sr (vv (B (b==1)) (wln (cn H (fun A H=>?_) (fun A H=>?_))))
 ·refine sr (va (.int .u8 g) (va (J (w32 g)) (me (sl (RI .i32) 21 [[J (w32 g)]] ([(w32 g)]:List Int) j ⟨rfl,trivial⟩) ?_)));rintro v19 y i0 ⟨R,l,D⟩;refine va (v19) (wln (W.ret (bkr (thr ?_))));obtain rfl:=si H;exact r1 (qq y ⟨v19,R,l,rfl,D⟩)
 refine sr (vv (Qo a 1) (va (Qo a 1) (va (I b) (va (I (w64 (b - 1))) (va (.int .u8 g) (bn H fun h E H=>cl (xy j g E) ?_))))));rintro v26 a0 j0 ⟨m,rfl⟩;refine va (.pointer (some ⟨a,1,none⟩)) (va (Qo a 1) (md (sC 3 1 (I 1) [r0_0,I 1,I f.needs,.int .u8 f.lo,.int .u8 f.hi,I f.bits,r0_6,r0_7,r0_8,r0_9,r0_10,r0_11] 0 m ⟨rfl,trivial⟩) ?_));rintro b0 k0 n;refine va (.pointer (some ⟨a,1,none⟩)) (va (Qo a 2) (md (sC 3 2 (I (w64 (b - 1))) [r0_0,I 1,I (w64 (b - 1)),.int .u8 f.lo,.int .u8 f.hi,I f.bits,r0_6,r0_7,r0_8,r0_9,r0_10,r0_11] 0 n ⟨rfl,trivial⟩) ?_));rintro d0 l0 o;refine va (.pointer (some ⟨a,1,none⟩)) (va (Qo a 5) (md (sC 3 5 (I h) [r0_0,I 1,I (w64 (b - 1)),.int .u8 f.lo,.int .u8 f.hi,I h,r0_6,r0_7,r0_8,r0_9,r0_10,r0_11] 0 o ⟨rfl,trivial⟩) ?_));rintro e0 m0 p;refine wln (W.region (vv (Qo a 1) (va (.int .u8 g) (bn H fun d M H=>cl (vG p g M) ?_))));rintro v39 f0 o0 ⟨q,rfl⟩;refine va (.tuple #[.int .u8 d.1,.int .u8 d.2]) (va (.int .u8 d.1) (va (.int .u8 d.2) (va (Qo a 1) (va (Qo a 3) (md (sC 5 3 (.int .u8 d.1) [r0_0,I 1,I (w64 (b - 1)),.int .u8 d.1,.int .u8 f.hi,I h,r0_6,r0_7,r0_8,r0_9,r0_10,r0_11] 0 q ⟨rfl,trivial⟩) ?_)))));rintro g0 q0 s;refine va (.pointer (some ⟨a,1,none⟩)) (va (Qo a 4) (md (sC 5 4 (.int .u8 d.2) [r0_0,I 1,I (w64 (b - 1)),.int .u8 d.1,.int .u8 d.2,I h,r0_6,r0_7,r0_8,r0_9,r0_10,r0_11] 0 s ⟨rfl,trivial⟩) ?_));rintro i s0 t;refine WL.nil (bkn (nrm (sr (va (Y) (wln (W.ret ?_))))));obtain rfl:=si H;have N:OA (RI .i32) i (Y) [] []:=OA.nil (aM _);have u:=t.addHole (e:=es true (RI .i32) (Y) 21 [] ([]:List Int)) rfl;exact r1 (qq i ⟨(Y),[],u,rfl,N⟩)
def cV (p0:bC) (p1:Int):Option (bC×(List Int)):=
 if false=true then
 some (p0,([]:List Int))
 else
 if (p0.held==0)=true then
 (cu p0 p1).bind fun a=>
 some (a.1,a.2)
 else
 (orE (decide (p1 < p0.lo)) (some (decide (p1 > p0.hi)))).bind fun d=>
 if d=true then
 (bI p0).bind fun b=>
 (cu b.1 p1).bind fun c=>
 (app b.2 c.2).bind fun e=>
 some (c.1,e)
 else
 if (decide ((w64 (p0.needs - 1)) > 0))=true then
 some ((⟨(w64 (p0.held+1)),(w64 (p0.needs - 1)),128,191,(qY .i64 (w64 (p0.bits * 2 ^ 6)) (w64 (kT .u8 p1 63)))⟩:bC),([]:List Int))
 else
 some ((⟨0,0,0,0,0⟩:bC),([(w32 (qY .i64 (w64 (p0.bits * 2 ^ 6)) (w64 (kT .u8 p1 63))))]:List Int))
theorem lS {a:Nat} {r0_0:Value} {r0_6:Value} {r0_7:Value} {r0_8:Value} {r0_9:Value} {r0_10:Value} {r0_11:Value} (b:bC) (d:Int) (h:Own c0 G ((Eb a 184 [r0_0,I b.held,I b.needs,.int .u8 b.lo,.int .u8 b.hi,I b.bits,r0_6,r0_7,r0_8,r0_9,r0_10,r0_11]) :: F)) {r:bC×(List Int)} (H:cV b d=some r): Calls prog 166 #[.pointer (some ⟨a,1,none⟩),.int .u8 d] c0.w (aO c0 fun c v=>∃x y2,Own c G (es true (RI .i32) x 21 y2 r.2 :: (Eb a 184 [r0_0,I r.1.held,I r.1.needs,.int .u8 r.1.lo,.int .u8 r.1.hi,I r.1.bits,r0_6,r0_7,r0_8,r0_9,r0_10,r0_11]) :: F)∧v=x∧OA (RI .i32) c x y2 r.2):=by
 unfold cV at H;refine en func166 rfl rfl (sr (va (Y) (wln (W.seq (W.block (sr (va (Qo a 1) (vv (B false) (wln (W.cond (t:=false) (by kernel_rfl) (fun s=>?_) (fun s=>?_)))))))))))
 ·cases s
 have H:=ie s H;refine sr (vv (Qo a 1) (va (Qo a 1) (vx (le1 1 u_3 (h.on 0 rfl)) (vv (B (b.held==0)) (wln (cn H (fun h2 H=>?_) (fun h2 H=>?_)))))))
 ·refine sr (va (Qo a 1) (va (.int .u8 d) (bn H fun z0 h4 H=>cl (iN b d h h4) ?_)));rintro v5 X q1 ⟨_,u6,O9,rfl,h7⟩;refine va (v5) (wln (W.ret (bkr (thr ?_))));obtain rfl:=si H;exact r1 (qq X ⟨v5,u6,O9,rfl,h7⟩)
 refine W.seq (bn H fun q o H=>W.join (Jn c0 fun c l=>Own c G ((Eb a 184 [r0_0,I b.held,I b.needs,.int .u8 b.lo,.int .u8 b.hi,I b.bits,r0_6,r0_7,r0_8,r0_9,r0_10,r0_11]) :: F)∧l= [(0,.pointer (some ⟨a,1,none⟩)),(1,.int .u8 d),(18,B q)]) ?_ ?_)
 ·clear H;refine W.region (va (.int .u8 d) (vv (Qo a 1) (va (Qo a 3) (vx (le1 3 u_5 (h.on 0 rfl)) (va (B (decide (d < b.lo))) ?_)))));rcases bo (decide (d < b.lo)) with f | f
  ·obtain rfl:=orT f o;exact vb f (pz (pz (pz (vv (B true) (wln (jn c0 ⟨h,rfl⟩))))))
  have y:=orF f o;refine vb f (wa (.int .u8 d) (wa (Qo a 1) (wa (Qo a 1) (wa (Qo a 4) (wn (vx (le1 4 u_5 (h.on 0 rfl)) (wa (B (decide (d > b.hi))) ?_)))))));obtain rfl:=si y;exact vv (B (decide (d > b.hi))) (wln (jn c0 ⟨h,rfl⟩))
 rintro e_ w_ ⟨c1,n1,_,rfl,s1,rfl,i,rfl⟩;refine nrm (cn H (fun b0 H=>?_) (fun b0 H=>?_))
 ·refine sr (va (Qo a 1) (bn H fun u d0 H=>cl (iO b i d0) ?_));rintro v26 d1 t1 ⟨_,g2,z,rfl,e0⟩;refine va (.pointer (some ⟨a,1,none⟩)) (va (.int .u8 d) ?_);have A:=z.sD 2 [1,0];refine bn H fun a1 f0 H=>cl (iN u.1 d A f0) ?_;rintro v37 e1 u1 ⟨_,i2,D,rfl,g0⟩;obtain ⟨f1,i0,v1,E,h0⟩:=D.frz 0 rfl g0;refine WL.gh i0 (bn H fun b1 j0 H=>me (ap (RI .i32) (J 0) 4 32 2 E e0.m h0 j0 dS) ?_);rintro v55 Z w1 ⟨q0,M,k0⟩;refine va (v55) (wln (W.ret (bkr (thr ?_))));obtain rfl:=si H;have N:=M.sD 3 [2,1];exact r1 (qq Z ⟨v55,q0,N,rfl,k0⟩)
 refine W.skip (bkn (nrm (sr (vv (Qo a 1) (va (Qo a 1) (va (Qo a 5) (vx (le1 5 u_3 (i.on 0 rfl)) (va (I (w64 (b.bits * 2 ^ 6))) (va (.int .u8 d) (va (.int .u8 (kT .u8 d 63)) (va (I (w64 (kT .u8 d 63))) (va (I (qY .i64 (w64 (b.bits * 2 ^ 6)) (w64 (kT .u8 d 63)))) (va (Qo a 1) (va (Qo a 5) (md (sC 3 5 (I (qY .i64 (w64 (b.bits * 2 ^ 6)) (w64 (kT .u8 d 63)))) [r0_0,I b.held,I b.needs,.int .u8 b.lo,.int .u8 b.hi,I (qY .i64 (w64 (b.bits * 2 ^ 6)) (w64 (kT .u8 d 63))),r0_6,r0_7,r0_8,r0_9,r0_10,r0_11] 0 i ⟨rfl,trivial⟩) ?_)))))))))))))));rintro g1 x1 P;refine wln (sr (vv (Qo a 1) (va (Qo a 1) (va (Qo a 3) (md (sC 5 3 (.int .u8 128) [r0_0,I b.held,I b.needs,.int .u8 128,.int .u8 b.hi,I (qY .i64 (w64 (b.bits * 2 ^ 6)) (w64 (kT .u8 d 63))),r0_6,r0_7,r0_8,r0_9,r0_10,r0_11] 0 P ⟨rfl,trivial⟩) ?_)))));rintro i1 z1 R;refine va (.pointer (some ⟨a,1,none⟩)) (va (Qo a 4) (md (sC 5 4 (.int .u8 191) [r0_0,I b.held,I b.needs,.int .u8 128,.int .u8 191,I (qY .i64 (w64 (b.bits * 2 ^ 6)) (w64 (kT .u8 d 63))),r0_6,r0_7,r0_8,r0_9,r0_10,r0_11] 0 R ⟨rfl,trivial⟩) ?_));rintro j1 b2 j;refine wln (sr (vv (Qo a 1) (va (Qo a 1) (vx (le1 1 u_3 (j.on 0 rfl)) (va (I (w64 (b.held+1))) (vv (Qo a 1) (md (sC 3 1 (I (w64 (b.held+1))) [r0_0,I (w64 (b.held+1)),I b.needs,.int .u8 128,.int .u8 191,I (qY .i64 (w64 (b.bits * 2 ^ 6)) (w64 (kT .u8 d 63))),r0_6,r0_7,r0_8,r0_9,r0_10,r0_11] 0 j ⟨rfl,trivial⟩) ?_)))))));rintro k1 c2 k;refine wln (sr (vv (Qo a 1) (va (Qo a 2) (vx (le1 2 u_3 (k.on 0 rfl)) (va (I (w64 (b.needs - 1))) (va (Qo a 1) (va (Qo a 2) (md (sC 3 2 (I (w64 (b.needs - 1))) [r0_0,I (w64 (b.held+1)),I (w64 (b.needs - 1)),.int .u8 128,.int .u8 191,I (qY .i64 (w64 (b.bits * 2 ^ 6)) (w64 (kT .u8 d 63))),r0_6,r0_7,r0_8,r0_9,r0_10,r0_11] 0 k ⟨rfl,trivial⟩) ?_))))))));rintro n d2 g;refine wln (W.seq (sr (vv (Qo a 1) (va (Qo a 2) (vx (le1 2 u_3 (g.on 0 rfl)) (va (B (decide ((w64 (b.needs - 1)) > 0))) (wln (cn H (fun l0 H=>?_) (fun l0 H=>?_)))))))))
 ·refine sr (va (Y) (wln (W.ret (thr ?_))));obtain rfl:=si H;have m0:OA (RI .i32) n (Y) [] []:=OA.nil (aM _);have S:=g.addHole (e:=es true (RI .i32) (Y) 21 [] ([]:List Int)) rfl;exact r1 (qq n ⟨(Y),[],S,rfl,m0⟩)
 refine W.skip (nrm (sr (vv (Qo a 1) (va (Qo a 5) (vx (le1 5 u_3 (g.on 0 rfl)) (vv (J (w32 (qY .i64 (w64 (b.bits * 2 ^ 6)) (w64 (kT .u8 d 63))))) (wln (sr (va (Qo a 1) (va (.agg #[I 0,I 0,.int .u8 0,.int .u8 0,I 0]) (va (Qo a 1) (md (sB 179 1 [I 0,I 0,.int .u8 0,.int .u8 0,I 0] [r0_0,I 0,I 0,.int .u8 0,.int .u8 0,I 0,r0_6,r0_7,r0_8,r0_9,r0_10,r0_11] 0 g ⟨rfl,rfl,rfl,rfl,rfl,trivial⟩) ?_))))))))))));rintro m1 e2 T;refine wln (sr (va (J (w32 (qY .i64 (w64 (b.bits * 2 ^ 6)) (w64 (kT .u8 d 63))))) (me (sl (RI .i32) 21 [[J (w32 (qY .i64 (w64 (b.bits * 2 ^ 6)) (w64 (kT .u8 d 63))))]] ([(w32 (qY .i64 (w64 (b.bits * 2 ^ 6)) (w64 (kT .u8 d 63))))]:List Int) T ⟨rfl,trivial⟩) ?_)));rintro p a0 f2 ⟨s0,U,o0⟩;refine va (p) (wln (W.ret ?_));obtain rfl:=si H;exact r1 (qq a0 ⟨p,s0,U,rfl,o0⟩)
def gK (sg:Sto) (p0:Option Nat) (p1:List Int):Option (Sto):=
 if p0.isNone=true then
 some sg
 else
 (cM (σ:=Int×Sto) (τ:=Sto) (((p1.length:Int) - 0).toNat+1) (fun b=>
 if (decide (b.1 < (p1.length:Int)))=true then
 (idx p1 b.1).bind fun f=>
 (p0).bind fun d=>
 (b.2.feed_Feeder[d]?).bind fun a=>
 (cV a.dec f).bind fun e=>
 (b.2.set_feed_Feeder d (⟨a.pen,e.1,a.seg,a.open_⟩:bD)).bind fun c=>
 (gq c p0 e.2).bind fun g=>
 some (.inl ((w64 (b.1+1)),g))
 else
 some (.inr (b.2))) (0,sg)).bind fun h=>
 some h
theorem ry (M:Own c0 G F) (R0:Rel c0 sg G) (hG:Gl [2,4] c0) (j:Option Nat) (k:List Int) {r:Sto} (t:Pt 4 c0 v1 j) (u:Sl (RI .u8) c0 v3 k) (H:gK sg j k=some r): Calls prog 107 #[v1,v3] c0.w (aO c0 fun c v=>∃G_:Gm,Own c G_ (F)∧Rel c r G_∧v= .tuple #[]):=by
 unfold gK at H;refine en func107 rfl rfl (W.seq (sr (va (v1) (vr (B j.isNone) (by rcases (t).cs with ⟨p,s⟩ | ⟨b_,p,s⟩ <;> (subst p; rw [s]; kernel_rfl)) (wln (cn H (fun h5 H=>?_) (fun h5 H=>?_)))))))
 ·refine W.ret (thr ?_);obtain rfl:=si H;exact r0 (qq c0 ⟨G,M,R0,rfl⟩)
 refine W.skip (nrm (sr (va (v3) (vx (ln 3 lG u) (va (I 0) (wln (W.block (bn H fun y1 h6 E=>lp h6 (fun d=>Jn c0 fun c l=>∃G_,Own c G_ (F)∧l= [(0,v1),(8,v3),(9,I (k.length:Int)),(10,I d.1)]∧Rel c d.2 G_) (fun x ex e w=>ex= .exit 0∧(Jn c0 fun c l=>∃G_,Own c G_ (F)∧l= []∧Rel c x G_) e w) ?_ ?_ ?_))))))))
 ·clear E h6;intro d b2 i0 c1 H;revert i0 c1;rintro e_ w_ ⟨c8,g9,_,rfl,l8,rfl,z,n,rfl,h⟩;refine sr (va (B (decide (d.1 < (k.length:Int)))) (wln (W.seq (cn H (fun j0 H=>?_) (fun j0 H=>?_)))))
  ·refine W.skip (nrm (W.seq (W.block (sr (bn H fun f o H=>?_)))));obtain ⟨h1,k0,b1⟩:=Sl.at (u.mono l8) (aX o);obtain rfl:=k0;refine vx (ix lG u.m o) (vx (l1 u_5 (b1 0 _ rfl)) (va (.int .u8 f) (wln (W.region (vv (v1) (bn H fun g1 l0 H=>?_))))));obtain ⟨g,rfl,q⟩:=((t.mono l8)).get l0;refine va (Q g) (va (Qo g 1) (va (.int .u8 f) (bn H fun a m0 H=>?_)));obtain ⟨v23,v25,s0,o0,q0⟩:=Rel.open_feed_Feeder h m0 q;have N:=n.borrow 0 s0 rfl;refine bn H fun b t0 H=>cl (lS a.dec f N t0) ?_;rintro v31 n1 i ⟨_,z1,P,rfl,u0⟩;have S:=P.sD 2 [1,0];have R:=S.giveB 0 rfl;refine bn H fun y v0 H=>?_;obtain ⟨k1,T,d0,t1,m1⟩:=Rel.put_feed_Feeder R (h.mono i) (E':=[(Eb g 184 [v23,I b.1.held,I b.1.needs,.int .u8 b.1.lo,.int .u8 b.1.hi,I b.1.bits,B a.seg.some,I a.seg.last,I a.seg.pict,I a.seg.conj,B a.seg.odd,v25])]) v0 ⟨g,v23,v25,(tm q),rfl,(o0.mono i),(q0.mono i)⟩;obtain ⟨q1,x0,u1,U,w0⟩:=T.frz 0 rfl u0;refine WL.gh x0 (bn H fun j1 y0 H=>cl (nJ U d0.m (hG.m.le (by decide)) j b.2 t.m w0 y0) ?_);rintro v58 g0 w1 ⟨A,X,e0,rfl⟩;refine WL.nil (bkn (nrm (W.region (vv (I (w64 (d.1+1))) (WL.nil ?_)))));obtain rfl:=si H;refine ⟨_,rfl,?_⟩;have Z:=X.sD 1 [];exact jn g0 ⟨A,Z,rfl,e0⟩
  refine W.exit (thx ?_);obtain rfl:=si H;exact ⟨_,rfl,rfl,jn c8 ⟨z,n,rfl,h⟩⟩
 ·exact jn c0 ⟨G,M,rfl,R0⟩
 rintro _ e_ w_ ⟨rfl,h0,s1,_,rfl,x1,rfl,D,a0,rfl,f0⟩;refine bke ?_;obtain rfl:=si E;exact n0 (qq h0 ⟨D,a0,f0,rfl⟩)
def gJ (sg:Sto) (p0:Option Nat):Option (Sto):=
 if p0.isNone=true then
 some sg
 else
 (p0).bind fun c=>
 (sg.feed_Feeder[c]?).bind fun a=>
 (bI a.dec).bind fun d=>
 (sg.set_feed_Feeder c (⟨a.pen,d.1,a.seg,a.open_⟩:bD)).bind fun b=>
 (gq b p0 d.2).bind fun f=>
 (dg f p0).bind fun e=>
 some e
theorem ru (l:Own c0 G F) (j:Rel c0 sg G) (hG:Gl [2,4] c0) (f:Option Nat) {r:Sto} (g:Pt 4 c0 v1 f) (H:gJ sg f=some r): Calls prog 108 #[v1] c0.w (aO c0 fun c v=>∃G_:Gm,Own c G_ (F)∧Rel c r G_∧v= .tuple #[]):=by
 unfold gJ at H;refine en func108 rfl rfl (W.seq (sr (va (v1) (vr (B f.isNone) (by rcases (g).cs with ⟨h,i⟩ | ⟨b_,h,i⟩ <;> (subst h; rw [i]; kernel_rfl)) (wln (cn H (fun h3 H=>?_) (fun h3 H=>?_)))))))
 ·refine W.ret (thr ?_);obtain rfl:=si H;exact r0 (qq c0 ⟨G,l,j,rfl⟩)
 refine W.skip (nrm (sr (vv (v1) (bn H fun s0 h6 H=>?_))));obtain ⟨d,rfl,h5⟩:=(g).get h6;refine va (Q d) (va (Qo d 1) (bn H fun a h7 H=>?_));obtain ⟨v8,v10,N,h9,M⟩:=Rel.open_feed_Feeder j h7 h5;have n:=l.borrow 0 N rfl;refine bn H fun b P H=>cl (iO a.dec n P) ?_;rintro v16 l0 e ⟨_,w0,o,rfl,R⟩;have q:=o.sD 2 [1,0];have p:=q.giveB 0 rfl;refine bn H fun b0 S H=>?_;obtain ⟨i0,s,z,q0,k0⟩:=Rel.put_feed_Feeder p (j.mono e) (E':=[(Eb d 184 [v8,I b.1.held,I b.1.needs,.int .u8 b.1.lo,.int .u8 b.1.hi,I b.1.bits,B a.seg.some,I a.seg.last,I a.seg.pict,I a.seg.conj,B a.seg.odd,v10])]) S ⟨d,v8,v10,(tm h5),rfl,(h9.mono e),(M.mono e)⟩;obtain ⟨m0,U,t0,t,T⟩:=s.frz 0 rfl R;refine WL.gh U (bn H fun x0 X H=>cl (nJ t z.m (hG.m.le (by decide)) f b.2 g.m T X) ?_);rintro v43 o0 u0 ⟨j0,u,A,rfl⟩;refine wln (W.region (va (Q d) (bn H fun h0 Z H=>cl (jj u A f g.m Z) ?_)));rintro v50 E v0 ⟨k,x,D,rfl⟩;refine WL.nil ?_;obtain rfl:=si H;have y:=x.sD 1 [];exact n0 (qq E ⟨k,y,D,rfl⟩)
end Go.Proofs.YtclmdpamofdoiaaGreatDoor
