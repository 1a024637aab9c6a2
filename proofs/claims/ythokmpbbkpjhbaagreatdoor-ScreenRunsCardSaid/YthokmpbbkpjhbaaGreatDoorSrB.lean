/- Parts of the proofs of ScreenRuns: the walk through the code, and plain Lean. No condition. -/
import Derived.Test.YthokmpbbkpjhbaaGreatDoorSrA
import Derived.Test.YthokmpbbkpjhbaaGreatDoorProg
import Derived.Shelf.Spec.SlicesInsertGrow
import Derived.Shelf.Slices.Delete
set_option linter.unusedVariables false
set_option linter.unusedSimpArgs false
namespace Go.Proofs.YthokmpbbkpjhbaaGreatDoor
open Go Go.Lt
set_option maxRecDepth 10000
set_option linter.unusedVariables false
attribute [local irreducible] W WL AC
open Tryz
variable {c0:Cx} {G:Gm} {F:List En} {sg:Sto} {v1 v2 v3 v4 v5 v6 v7 v8 v9 v10 v11 v12 v13 v14 v15 v16 v17 v18 v19 v20 v21 v22 v23 v24 v25 v26 v27 v28 v29 v30 v31 v32 v33 v34 v35 v36 v37 v38 v39 v40 v41 v42 v43 v44 v45 v46 v47 v48 v49 v50 v51 v52 v53 v54 v55 v56 v57 v58 v59 v60:Value}
def fS (p0:Int) (p1:Int) (p2:Int):Option (Int):=
 some (aE p1 (aB p0 p2))
theorem lV (e:Own c0 G F) (a:Int) (d:Int) (b:Int) {r:Int} (H:fS a d b=some r): Calls prog 214 #[I a,I d,I b] c0.w (aN c0 fun c v=>Own c G (F)∧v=I r):=by
 unfold fS at H;refine en func214 rfl rfl (sr (va (I 0) (wln (sr (va (I d) (va (I a) (va (I b) (va (I (aB a b)) (vv (I (aE d (aB a b))) (wln (W.ret ?_)))))))))));obtain rfl:=si H;exact r1 (qq c0 ⟨e,rfl⟩)
def gO (sg:Sto) (p0:Option Nat) (p1:Int) (p2:Int):Option (Sto):=
 (bD sg p0).bind fun e=>
 (fS p1 0 e).bind fun a=>
 (bD sg p0).bind fun f=>
 (fS p2 0 f).bind fun b=>
 if (decide (a < b))=true then
 (ey (w64 (b - a))).bind fun c=>
 (dP sg p0 a c).bind fun d=>
 some d.1
 else
 some sg
theorem mz (U:Own c0 G F) (e:Rel c0 sg G) (hG:Gl [0,4] c0) (d:Option Nat) (f:Int) (g:Int) {r:Sto} (i:Pt 0 c0 v1 d) (H:gO sg d f g=some r): Calls prog 215 #[v1,I f,I g] c0.w (aN c0 fun c v=>∃G_:Gm,Own c G_ (F)∧Rel c r G_∧v= .tuple #[]):=by
 unfold gO at H;refine en func215 rfl rfl (sr (va (I f) (va (v1) (bn H fun S Z H=>cl (cy U e d i Z) ?_))));rintro v9 c8 l8 ⟨X,rfl⟩;refine bn H fun a y H=>cl (lV X f 0 S y) ?_;rintro v16 b0 h0 ⟨l,rfl⟩;refine va (I g) (va (v1) (bn H fun T z H=>cl (cy l e.m d i.m z) ?_));rintro v23 d0 i0 ⟨n,rfl⟩;refine bn H fun b A H=>cl (lV n g 0 T A) ?_;rintro v30 u j0 ⟨h,rfl⟩;refine va (I a) (va (I b) (wln (sr (va (I a) (va (I b) (va (B (decide (a < b))) (wln (cn H (fun D H=>?_) (fun D H=>?_)))))))))
 ·refine W.region (va (v1) (va (I a) (va (I b) (va (I a) (va (I (w64 (b - a))) (bn H fun j E H=>cl (jU h (w64 (b - a)) E) ?_))))));rintro v33 e0 k0 ⟨_,o0,o,rfl,M⟩;obtain ⟨f0,P,l0,p,N⟩:=o.frz 0 rfl M;refine WL.gh P (bn H fun a0 R H=>cl (jP p e.m (hG.m.le (by decide)) d a j i.m N R) ?_);rintro v47 x m0 ⟨_,k,q,t,rfl,g0⟩;refine WL.nil ?_;obtain rfl:=si H;have s:=q.sD 1 [];exact n0 (qq x ⟨k,s,t,rfl⟩)
 refine W.skip ?_;obtain rfl:=si H;exact n0 (qq u ⟨G,h,e.m,rfl⟩)
def jT (sg:Sto) (p0:Option Nat) (p1:Int) (p2:Int):Option (Sto):=
 (bI (decide (p1≥0)) (some (decide (p2 > 0)))).bind fun f=>
 if f=true then
 (bD sg p0).bind fun b=>
 (fS p1 0 b).bind fun a=>
 (bD sg p0).bind fun c=>
 (fS p2 0 c).bind fun d=>
 (gO sg p0 a (w64 (a+d))).bind fun e=>
 some e
 else
 some sg
theorem wt (o:Own c0 G F) (h:Rel c0 sg G) (hG:Gl [0,4] c0) (f:Option Nat) (b:Int) (d:Int) {r:Sto} (i:Pt 0 c0 v1 f) (H:jT sg f b d=some r): Calls prog 176 #[v1,I b,I d] c0.w (aN c0 fun c v=>∃G_:Gm,Own c G_ (F)∧Rel c r G_∧v= .tuple #[]):=by
 unfold jT at H;refine en func176 rfl rfl (W.seq (bn H fun A P H=>W.join (Jn c0 fun c l=>Own c G (F)∧l= [(0,v1),(1,I b),(2,I d),(11,B A)]) ?_ ?_))
 ·clear H;refine W.region (va (I b) (va (B (decide (b≥0))) ?_));rcases bo (decide (b≥0)) with e | e
  ·have T:=anT e P;refine vb e (wa (I d) (wa (B (decide (d > 0))) ?_));obtain rfl:=si T;exact va (B (decide (d > 0))) (wln (jn c0 ⟨o,rfl⟩))
  obtain rfl:=anF e P;exact vb e (pz (va (B false) (wln (jn c0 ⟨o,rfl⟩))))
 rintro e_ w_ ⟨U,g7,_,rfl,l6,rfl,x,rfl⟩;refine nrm (cn H (fun D H=>?_) (fun D H=>?_))
 ·refine sr (va (I b) (va (v1) (bn H fun j E H=>cl (cy x h.m f i.m E) ?_)));rintro v19 Z e0 ⟨p,rfl⟩;refine bn H fun a M H=>cl (lV p b 0 j M) ?_;rintro v26 a0 f0 ⟨q,rfl⟩;refine va (I a) (wln (W.region (va (v1) (vv (I a) (va (I d) (va (v1) (bn H fun k N H=>cl (cy q h.m f i.m N) ?_)))))));rintro v33 b0 g0 ⟨s,rfl⟩;refine bn H fun g R H=>cl (lV s d 0 k R) ?_;rintro v40 d0 h0 ⟨t,rfl⟩;refine va (I (w64 (a+g))) (bn H fun X S H=>cl (mz t h.m (hG.m.le (by decide)) f a (w64 (a+g)) i.m S) ?_);rintro v47 z i0 ⟨n,u,y,rfl⟩;refine WL.nil ?_;obtain rfl:=si H;exact n0 (qq z ⟨n,u,y,rfl⟩)
 refine W.skip ?_;obtain rfl:=si H;exact n0 (qq U ⟨G,x,h.m,rfl⟩)
def kR (sg:Sto) (p0:Option Nat) (p1:Int):Option (Sto):=
 (bD sg p0).bind fun a=>
 (gO sg p0 p1 a).bind fun b=>
 some b
theorem ws (l:Own c0 G F) (f:Rel c0 sg G) (hG:Gl [0,4] c0) (a:Option Nat) (b:Int) {r:Sto} (j:Pt 0 c0 v1 a) (H:kR sg a b=some r): Calls prog 211 #[v1,I b] c0.w (aN c0 fun c v=>∃G_:Gm,Own c G_ (F)∧Rel c r G_∧v= .tuple #[]):=by
 unfold kR at H;refine en func211 rfl rfl (W.region (va (v1) (va (I b) (va (v1) (bn H fun k o H=>cl (cy l f a j o) ?_)))));rintro v9 s t ⟨n,rfl⟩;refine bn H fun q i H=>cl (mz n f.m (hG.m.le (by decide)) a b k j.m i) ?_;rintro v16 h p ⟨d,e,g,rfl⟩;refine WL.nil ?_;obtain rfl:=si H;exact n0 (qq h ⟨d,e,g,rfl⟩)
def lL (sg:Sto) (p0:Option Nat) (p1:Int):Option (Sto):=
 (bD sg p0).bind fun a=>
 (fS p1 (-1) a).bind fun b=>
 (gO sg p0 0 (w64 (b+1))).bind fun c=>
 some c
theorem xJ (p:Own c0 G F) (h:Rel c0 sg G) (hG:Gl [0,4] c0) (a:Option Nat) (b:Int) {r:Sto} (n:Pt 0 c0 v1 a) (H:lL sg a b=some r): Calls prog 212 #[v1,I b] c0.w (aN c0 fun c v=>∃G_:Gm,Own c G_ (F)∧Rel c r G_∧v= .tuple #[]):=by
 unfold lL at H;refine en func212 rfl rfl (W.region (va (v1) (va (I b) (va (v1) (bn H fun o s H=>cl (cy p h a n s) ?_)))));rintro v9 z A ⟨q,rfl⟩;refine bn H fun d k H=>cl (lV q b (-1) o k) ?_;rintro v16 t u ⟨f,rfl⟩;refine va (I (w64 (d+1))) (bn H fun y l H=>cl (mz f h.m (hG.m.le (by decide)) a 0 (w64 (d+1)) n.m l) ?_);rintro v23 j x ⟨e,g,i,rfl⟩;refine WL.nil ?_;obtain rfl:=si H;exact n0 (qq j ⟨e,g,i,rfl⟩)
def km (sg:Sto) (p0:Option Nat):Option (Sto):=
 (bD sg p0).bind fun a=>
 (gO sg p0 0 a).bind fun b=>
 (dD b p0 false).bind fun c=>
 some c
theorem uu (o:Own c0 G F) (g:Rel c0 sg G) (hG:Gl [0,4] c0) (a:Option Nat) {r:Sto} (b:Pt 0 c0 v1 a) (H:km sg a=some r): Calls prog 213 #[v1] c0.w (aN c0 fun c v=>∃G_:Gm,Own c G_ (F)∧Rel c r G_∧v= .tuple #[]):=by
 unfold km at H;refine en func213 rfl rfl (sr (vv (v1) (bn H fun n q H=>cl (cy o g a b q) ?_)));rintro v9 A D ⟨p,rfl⟩;refine bn H fun y k H=>cl (mz p g.m (hG.m.le (by decide)) a 0 n b.m k) ?_;rintro v16 t u ⟨s,e,h,rfl⟩;refine wln (W.region (va (v1) (bn H fun z l H=>cl (lT e h a false b.m l) ?_)));rintro v23 j x ⟨d,f,i,rfl⟩;refine WL.nil ?_;obtain rfl:=si H;exact n0 (qq j ⟨d,f,i,rfl⟩)
def cL (p0:List ab) (p1:Bool) (p2:Int) (p3:Int):Option ((List ab)×Bool):=
 if (decide ((aE 0 (aB p2 (p0.length:Int)))≥(aE 0 (aB p3 (p0.length:Int)))))=true then
 some (p0,p1)
 else
 (rep (w64 ((aE 0 (aB p3 (p0.length:Int))) - (aE 0 (aB p2 (p0.length:Int))))) (⟨0,([]:List Int)⟩:ab)).bind fun b=>
 (ek p0 p1 (aE 0 (aB p2 (p0.length:Int))) b).bind fun a=>
 some (a.1,a.2)
theorem fC (k:Own c0 G F) (a:List ab) (e:Bool) (b:Int) (d:Int) {r:(List ab)×Bool} (g:Sl ah c0 v1 a) (H:cL a e b d=some r): Calls prog 206 #[v1,B e,I b,I d] c0.w (aN c0 fun c v=>∃M,Own c G (F)∧v= .tuple #[M,B r.2]∧Sl ah c M r.1):=by
 unfold cL at H;refine en func206 rfl rfl (sr (va (Y) (va (B false) (wln (sr (va (I b) (va (v1) (vx (ln 3 ck g) (va (I (aB b (a.length:Int))) (vv (I (aE 0 (aB b (a.length:Int)))) (wln (sr (va (I d) (va (v1) (vx (ln 3 ck g) (va (I (aB d (a.length:Int))) (vv (I (aE 0 (aB d (a.length:Int)))) (wln (W.seq (sr (va (I (aE 0 (aB b (a.length:Int)))) (va (I (aE 0 (aB d (a.length:Int)))) (va (B (decide ((aE 0 (aB b (a.length:Int)))≥(aE 0 (aB d (a.length:Int)))))) (wln (cn H (fun P H=>?_) (fun P H=>?_))))))))))))))))))))))))))
 ·refine sr (va (v1) (va (B e) (va (v1) (va (B e) (wln (W.ret (thr ?_)))))));obtain rfl:=si H;exact r2 (qq c0 ⟨v1,k,rfl,g⟩)
 refine W.skip (nrm (sr (va (v1) (va (B e) (va (I (aE 0 (aB b (a.length:Int)))) (va (I (aE 0 (aB d (a.length:Int)))) (va (I (aE 0 (aB b (a.length:Int)))) (va (I (w64 ((aE 0 (aB d (a.length:Int))) - (aE 0 (aB b (a.length:Int)))))) (bn H fun h E H=>me (Own.mkS (kl:= .i64) (kc:= .i64) (R:=ah) (z:= .agg #[I 0,Y]) (lz:=[I 0,Y]) (x:=(⟨0,([]:List Int)⟩:ab)) (by_:=32) (i:=(w64 ((aE 0 (aB d (a.length:Int))) - (aE 0 (aB b (a.length:Int)))))) (j:=(w64 ((aE 0 (aB d (a.length:Int))) - (aE 0 (aB b (a.length:Int)))))) true k (aM _) E (oY _) (rW E) ck (by kernel_rfl) rfl rfl (fun _=>⟨(Y),rfl,(Sl.nl _ _)⟩) (by kernel_rfl) (by kernel_rfl)) ?_)))))))));rintro v9 c8 l8 ⟨u6,N,S⟩;obtain ⟨T,t,X,l,s⟩:=N.frz 0 rfl S;refine WL.gh t (bn H fun f u H=>cl (mh l a e (aE 0 (aB b (a.length:Int))) h g.m s u) ?_);rintro v23 U Z ⟨v15,b0,n,rfl,y⟩;refine va (v15) (va (B f.2) (va (v15) (va (B f.2) (wln (W.ret ?_)))));obtain rfl:=si H;obtain ⟨q,D,a0,o,A⟩:=n.frz 0 rfl y;have p:=o.sD 2 [];exact Aj D (r2 (qq q ⟨v15,p,rfl,A⟩))
def gE (p0:List ab) (p1:Bool) (p2:Int) (p3:Int) (p4:Int):Option ((List ab)×Bool):=
 if (p2==0)=true then
 (cL p0 p1 p3 p4).bind fun b=>
 some (b.1,b.2)
 else
 if (p2==1)=true then
 if (decide (p3 < 0))=true then
 some (p0,p1)
 else
 (cL p0 p1 0 (w64 ((aB p3 (p0.length:Int))+1))).bind fun c=>
 some (c.1,c.2)
 else
 if (p2==2)=true then
 (cL p0 p1 p3 (p0.length:Int)).bind fun d=>
 some (d.1,d.2)
 else
 if (p2==3)=true then
 (cL p0 p1 0 (p0.length:Int)).bind fun g=>
 some (g.1,false)
 else
 (orE (decide (p3 < 0)) (some (decide (p4 < 1)))).bind fun e=>
 (orE e (some (decide (p3≥(p0.length:Int))))).bind fun f=>
 if f=true then
 some (p0,p1)
 else
 (cL p0 p1 p3 (w64 (p3+(aB p4 (p0.length:Int))))).bind fun a=>
 some (a.1,a.2)
theorem ru (g:Own c0 G F) (a:List ab) (d:Bool) (f:Int) (b:Int) (e:Int) {r:(List ab)×Bool} (h:Sl ah c0 v1 a) (H:gE a d f b e=some r): Calls prog 164 #[v1,B d,I f,I b,I e] c0.w (aN c0 fun c v=>∃y1,Own c G (F)∧v= .tuple #[y1,B r.2]∧Sl ah c y1 r.1):=by
 unfold gE at H;refine en func164 rfl rfl (sr (va (Y) (va (B false) (wln (sr (va (v1) (vx (ln 3 ck h) (va (I (a.length:Int)) (wln (W.seq (sr (va (I f) (wln (W.block (sr (vv (B (f==0)) (wln (cn H (fun h3 H=>?_) (fun h3 H=>?_)))))))))))))))))))
 ·refine sr (va (v1) (va (B d) (va (I b) (va (I e) (bn H fun p h4 H=>cl (fC g a d b e h h4) ?_)))));rintro v12 P x0 ⟨v5,O8,rfl,h6⟩;refine va (v5) (va (B p.2) (va (v5) (va (B p.2) (wln (W.ret (bkr (thr ?_)))))));obtain rfl:=si H;exact r2 (qq P ⟨v5,O8,rfl,h6⟩)
 refine sr (vv (B (f==1)) (wln (cn H (fun Z H=>?_) (fun Z H=>?_))))
 ·refine W.seq (sr (va (I b) (va (B (decide (b < 0))) (wln (cn H (fun a0 H=>?_) (fun a0 H=>?_))))))
  ·refine sr (va (v1) (va (B d) (va (v1) (va (B d) (wln (W.ret (thr (bkr (thr ?_)))))))));obtain rfl:=si H;exact r2 (qq c0 ⟨v1,g,rfl,h⟩)
  refine W.skip (nrm (sr (va (v1) (va (B d) (va (I b) (va (I (a.length:Int)) (va (I (aB b (a.length:Int))) (va (I (w64 ((aB b (a.length:Int))+1))) (bn H fun q b0 H=>cl (fC g a d 0 (w64 ((aB b (a.length:Int))+1)) h b0) ?_)))))))));rintro v23 R y0 ⟨v16,D,rfl,d0⟩;refine va (v16) (va (B q.2) (va (v16) (va (B q.2) (wln (W.ret (bkr (thr ?_)))))));obtain rfl:=si H;exact r2 (qq R ⟨v16,D,rfl,d0⟩)
 refine sr (vv (B (f==2)) (wln (cn H (fun e0 H=>?_) (fun e0 H=>?_))))
 ·refine sr (va (v1) (va (B d) (va (I b) (va (I (a.length:Int)) (bn H fun s f0 H=>cl (fC g a d b (a.length:Int) h f0) ?_)))));rintro v33 S z0 ⟨v26,E,rfl,g0⟩;refine va (v26) (va (B s.2) (va (v26) (va (B s.2) (wln (W.ret (bkr (thr ?_)))))));obtain rfl:=si H;exact r2 (qq S ⟨v26,E,rfl,g0⟩)
 refine sr (vv (B (f==3)) (wln (cn H (fun h0 H=>?_) (fun h0 H=>?_))))
 ·refine sr (va (v1) (va (B d) (va (I (a.length:Int)) (bn H fun k i0 H=>cl (fC g a d 0 (a.length:Int) h i0) ?_))));rintro v43 T a1 ⟨v36,M,rfl,j0⟩;refine va (.tuple #[v36,B k.2]) (va (v36) (va (B k.2) (va (v36) (va (B k.2) (wln (sr (vv (v36) (va (B false) (wln (W.ret (bkr (thr ?_))))))))))));obtain rfl:=si H;exact r2 (qq T ⟨v36,M,rfl,j0⟩)
 refine W.skip (bkn (nrm (W.seq (W.seq (bn H fun s0 u H=>bn H fun y o H=>W.join (Jn c0 fun c l=>Own c G (F)∧l= [(0,v1),(1,B d),(3,I b),(4,I e),(12,I (a.length:Int)),(71,B y)]) ?_ ?_)))))
 ·clear H;refine W.region (va (I b) (va (B (decide (b < 0))) ?_));rcases bo (decide (b < 0)) with i | i
  ·obtain rfl:=orT i u;refine vb i (pz (va (B true) ?_));have x:true=true:=rfl;obtain rfl:=orT x o;exact vb x (pz (ps (va (B true) (wln (jn c0 ⟨g,rfl⟩)))))
  have z:=orF i u;refine vb i (wa (I e) (wa (B (decide (e < 1))) ?_));obtain rfl:=si z;refine va (B (decide (e < 1))) ?_;rcases bo (decide (e < 1)) with j | j
  ·obtain rfl:=orT j o;exact vb j (pz (ps (va (B true) (wln (jn c0 ⟨g,rfl⟩)))))
  have A:=orF j o;refine vb j (wa (I b) (wa (I (a.length:Int)) (wa (B (decide (b≥(a.length:Int)))) ?_)));obtain rfl:=si A;exact va (B (decide (b≥(a.length:Int)))) (wln (jn c0 ⟨g,rfl⟩))
 rintro e_ w_ ⟨U,w0,_,rfl,b1,rfl,t,rfl⟩;refine nrm (cn H (fun k0 H=>?_) (fun k0 H=>?_))
 ·refine sr (va (v1) (va (B d) (va (v1) (va (B d) (wln (W.ret (thr ?_)))))));obtain rfl:=si H;exact r2 (qq U ⟨v1,t,rfl,h.m⟩)
 refine W.skip (nrm (sr (va (v1) (va (B d) (vv (I b) (va (I e) (va (I (a.length:Int)) (va (I (aB e (a.length:Int))) (va (I (w64 (b+(aB e (a.length:Int))))) (bn H fun n l0 H=>cl (fC t a d b (w64 (b+(aB e (a.length:Int)))) h.m l0) ?_))))))))));rintro d1 X c1 ⟨v59,N,rfl,m0⟩;refine va (v59) (va (B n.2) (va (v59) (va (B n.2) (wln (W.ret ?_)))));obtain rfl:=si H;exact r2 (qq X ⟨v59,N,rfl,m0⟩)
def bO (sg:Sto) (p0:Option Nat):Option (Int):=
 if p0.isNone=true then
 some 0
 else
 (p0).bind fun b=>
 (sg.grid_Grid[b]?).bind fun a=>
 some (a.rows.length:Int)
theorem bJ (d:Own c0 G F) (k:Rel c0 sg G) (f:Option Nat) {r:Int} (j:Pt 1 c0 v1 f) (H:bO sg f=some r): Calls prog 34 #[v1] c0.w (aN c0 fun c v=>Own c G (F)∧v=I r):=by
 unfold bO at H;refine en func34 rfl rfl (sr (va (I 0) (wln (W.seq (sr (va (v1) (vr (B f.isNone) (by rcases (j).cs with ⟨a,b⟩ | ⟨q,a,b⟩ <;> (subst a; rw [b]; kernel_rfl)) (wln (cn H (fun l H=>?_) (fun l H=>?_))))))))))
 ·refine sr (va (I 0) (wln (W.ret (thr ?_))));obtain rfl:=si H;exact r1 (qq c0 ⟨d,rfl⟩)
 refine W.skip (nrm (sr (va (v1) (bn H fun p n H=>?_))));obtain ⟨g,rfl,m⟩:=(j).get n;refine vv (Q g) (bn H fun e o H=>?_);obtain ⟨v8,s,i,h⟩:=Rel.open_grid_Grid k o m;refine vx (le1 0 mf (d.gon i 0 rfl)) (vx (lnO 3 mf h) (va (I (e.rows.length:Int)) (wln (W.ret ?_))));obtain rfl:=si H;exact r1 (qq c0 ⟨d,rfl⟩)
def lx (sg:Sto) (p0:Option Nat) (p1:Int) (p2:Int) (p3:Int):Option (gV×Bool):=
 (bO sg p0).bind fun b=>
 (bO sg p0).bind fun a=>
 (bI (decide ((aE 0 (aB p1 b)) < (aE 0 (aB p2 a)))) (some (decide (p3 > 0)))).bind fun c=>
 some ((⟨(aE 0 (aB p1 b)),(aE 0 (aB p2 a)),(aB p3 (w64 ((aE 0 (aB p2 a)) - (aE 0 (aB p1 b)))))⟩:gV),c)
theorem ut (S:Own c0 G F) (z:Rel c0 sg G) (j:Option Nat) (d:Int) (e:Int) (f:Int) {r:gV×Bool} (R:Pt 1 c0 v1 j) (H:lx sg j d e f=some r): Calls prog 207 #[v1,I d,I e,I f] c0.w (aN c0 fun c v=>Own c G (F)∧v= .tuple #[.agg #[I r.1.from_,I r.1.to_,I r.1.n],B r.2]):=by
 unfold lx at H;refine en func207 rfl rfl (sr (me (al 261 [I 0,I 0,I 0] S) ?_));rintro v6 c5 l5 ⟨D,rfl,T⟩;refine va (B false) (wln (sr (va (I d) (va (v1) (bn H fun b X H=>cl (bJ T z.m j R.m X) ?_)))));rintro v13 Z e0 ⟨U,rfl⟩;refine va (I (aB d b)) (va (I (aE 0 (aB d b))) (va (I e) (va (v1) (bn H fun a P H=>cl (bJ U z.m j R.m P) ?_))));rintro v20 a0 f0 ⟨s,rfl⟩;refine va (I (aB e a)) (va (I (aE 0 (aB e a))) (va (I (aE 0 (aB d b))) (va (I (aE 0 (aB e a))) (wln (sr (va (I (aE 0 (aB d b))) (va (I (aE 0 (aB e a))) (va (I f) (va (I (aE 0 (aB e a))) (va (I (aE 0 (aB d b))) (va (I (w64 ((aE 0 (aB e a)) - (aE 0 (aB d b))))) (va (I (aB f (w64 ((aE 0 (aB e a)) - (aE 0 (aB d b)))))) (va (.agg #[I (aE 0 (aB d b)),I (aE 0 (aB e a)),I (aB f (w64 ((aE 0 (aB e a)) - (aE 0 (aB d b)))))]) (me (al 261 [I 0,I 0,I 0] s) ?_))))))))))))));rintro v24 b0 g0 ⟨A,rfl,t⟩;refine md (sA 261 [I (aE 0 (aB d b)),I (aE 0 (aB e a)),I (aB f (w64 ((aE 0 (aB e a)) - (aE 0 (aB d b)))))] 0 t ⟨rfl,rfl,rfl,trivial⟩) ?_;rintro E h0 h;refine wln (W.seq (bn H fun i p H=>W.join (Jn E fun c l=>Own c G ((Eb A 261 [I (aE 0 (aB d b)),I (aE 0 (aB e a)),I (aB f (w64 ((aE 0 (aB e a)) - (aE 0 (aB d b)))))]) :: (Eb D 261 [I (aE 0 (aB d b)),I (aE 0 (aB e a)),I (aB f (w64 ((aE 0 (aB e a)) - (aE 0 (aB d b)))))]) :: F)∧l= [(8,Q D),(9,B i)]) ?_ ?_))
 ·clear H;refine W.region (vx (leN 261 0 [I (aE 0 (aB d b)),I (aE 0 (aB e a)),I (aB f (w64 ((aE 0 (aB e a)) - (aE 0 (aB d b)))))] (h.on 0 rfl)) (va (I (aE 0 (aB d b))) (va (I (aE 0 (aB e a))) (va (B (decide ((aE 0 (aB d b)) < (aE 0 (aB e a))))) ?_))));rcases bo (decide ((aE 0 (aB d b)) < (aE 0 (aB e a)))) with g | g
  ·have q:=anT g p;refine vb g (wa (I f) (wa (B (decide (f > 0))) ?_));obtain rfl:=si q;refine va (B (decide (f > 0))) (md (sA 261 [I (aE 0 (aB d b)),I (aE 0 (aB e a)),I (aB f (w64 ((aE 0 (aB e a)) - (aE 0 (aB d b)))))] 1 h ⟨rfl,rfl,rfl,trivial⟩) ?_);rintro M i0 u;exact va (B (decide (f > 0))) (wln (jn M ⟨u,rfl⟩))
  obtain rfl:=anF g p;refine vb g (pz (va (B false) (md (sA 261 [I (aE 0 (aB d b)),I (aE 0 (aB e a)),I (aB f (w64 ((aE 0 (aB e a)) - (aE 0 (aB d b)))))] 1 h ⟨rfl,rfl,rfl,trivial⟩) ?_)));rintro N j0 x;exact va (B false) (wln (jn N ⟨x,rfl⟩))
 rintro e_ w_ ⟨o,d0,_,rfl,k0,rfl,k,rfl⟩;refine nrm (W.ret ?_);obtain rfl:=si H;have y:=k.sD 2 [];exact rJ (c:=o) (vs:=[I (aE 0 (aB d b)),I (aE 0 (aB e a)),I (aB f (w64 ((aE 0 (aB e a)) - (aE 0 (aB d b)))))]) (v:=B i) rfl (by kernel_rfl) (by kernel_rfl) (by kernel_rfl) (by kernel_rfl) (k.on 1 rfl _ rfl).1 ⟨_,o,rfl,rfl,pt,y,rfl⟩
def bw (sg:Sto) (p0:Option Nat) (p1:Int):Option (Option Nat):=
 (orE (decide (p1 < 0)) ((bO sg p0).bind fun e=>
 some (decide (p1≥e)))).bind fun d=>
 if d=true then
 some (none:Option Nat)
 else
 (p0).bind fun a=>
 (sg.grid_Grid[a]?).bind fun b=>
 (idx b.rows p1).bind fun c=>
 some c
theorem cQ (p:Own c0 G F) (q:Rel c0 sg G) (o:Option Nat) (a:Int) {r:Option Nat} (x:Pt 1 c0 v1 o) (H:bw sg o a=some r): Calls prog 72 #[v1,I a] c0.w (aN c0 fun c v=>∃P,Own c G (F)∧v=P∧Pt 0 c P r):=by
 unfold bw at H;refine en func72 rfl rfl (sr (va (.pointer none) (wln (W.seq (W.seq (bn H fun t D H=>W.join (Jn c0 fun c l=>Own c G (F)∧l= [(0,v1),(1,I a),(12,B t)]) ?_ ?_))))))
 ·clear H;refine W.region (va (I a) (va (B (decide (a < 0))) ?_));rcases bo (decide (a < 0)) with f | f
  ·obtain rfl:=orT f D;exact vb f (pz (pz (va (B true) (wln (jn c0 ⟨p,rfl⟩)))))
  have n:=orF f D;refine vb f (wa (I a) (wa (v1) (wn (bn n fun m S n=>cl (bJ p q o x S) ?_))));rintro v12 s b0 ⟨R,rfl⟩;refine wa (B (decide (a≥m))) ?_;obtain rfl:=si n;exact va (B (decide (a≥m))) (wln (jn s ⟨R,rfl⟩))
 rintro e_ w_ ⟨h,a0,_,rfl,k,rfl,b,rfl⟩;refine nrm (cn H (fun u H=>?_) (fun u H=>?_))
 ·refine sr (va (.pointer none) (wln (W.ret (thr ?_))));obtain rfl:=si H;exact r1 (qq h ⟨(.pointer none),b,rfl,rfl⟩)
 refine W.skip (nrm (sr (va (v1) (bn H fun T z H=>?_))));obtain ⟨g,rfl,y⟩:=((x.mono k)).get z;refine vv (Q g) (bn H fun X A H=>?_);obtain ⟨v24,d0,i,d⟩:=Rel.open_grid_Grid (q.mono k) A y;refine vx (le1 0 mf (b.gon i 0 rfl)) (va (I a) (bn H fun Z e H=>vx (ixO mf d e) ?_));obtain ⟨U,E,N⟩:=OA.at d e;obtain ⟨v32,rfl,M⟩:=E;refine vr v32 (rx (by kernel_rfl) (lF Aw rfl (b.gon i 1 rfl) (d.blk e) (at1 (j:=0) N rfl))) (va (v32) (wln (W.ret ?_)));obtain rfl:=si H;exact r1 (qq h ⟨v32,b,rfl,M⟩)
def eE (sg:Sto) (p0:Option Nat) (p1:Int) (p2:Option Nat):Option (Sto×Bool):=
 (orE p2.isNone ((bw sg p0 p1).bind fun h=>
 (bD sg h).bind fun e=>
 (bD sg p2).bind fun f=>
 some (e != f))).bind fun g=>
 if g=true then
 some (sg,false)
 else
 (p0).bind fun b=>
 (sg.grid_Grid[b]?).bind fun c=>
 (idx c.rows p1).bind fun i=>
 (pb c.rows p1 p2).bind fun d=>
 (sg.set_grid_Grid b (⟨d⟩:bF)).bind fun a=>
 some (a,true)
theorem pI (M:Own c0 G F) (e:Rel c0 sg G) (z:Option Nat) (f:Int) (g:Option Nat) {r:Sto×Bool} (h2:Pt 1 c0 v1 z) (j:Pt 0 c0 v3 g) (H:eE sg z f g=some r): Calls prog 189 #[v1,I f,v3] c0.w (aN c0 fun c v=>∃G_:Gm,Own c G_ (F)∧Rel c r.1 G_∧v=B r.2):=by
 unfold eE at H;refine en func189 rfl rfl (sr (va (B false) (wln (W.seq (W.seq (bn H fun g0 h5 H=>W.join (Jn c0 fun c l=>Own c G (F)∧l= [(0,v1),(1,I f),(2,v3),(17,B g0)]) ?_ ?_))))))
 ·clear H;refine W.region (va (v3) (vr (B g.isNone) (by rcases (j).cs with ⟨p,q⟩ | ⟨b_,p,q⟩ <;> (subst p; rw [q]; kernel_rfl)) ?_));rcases bo (g.isNone) with k | k
  ·obtain rfl:=orT k h5;exact vb k (pz (pz (pz (ps (va (B true) (wln (jn c0 ⟨M,rfl⟩)))))))
  have a:=orF k h5;refine vb k (wa (v1) (wa (I f) (wn (bn a fun x0 h8 a=>cl (cQ M e z f h2 h8) ?_))));rintro v9 d1 h1 ⟨_,N,rfl,h0⟩;refine wn (bn a fun n i0 a=>cl (cy N e.m x0 h0 i0) ?_);rintro v23 e1 i1 ⟨P,rfl⟩;refine wa (v3) (wn (bn a fun o k0 a=>cl (cy P e.m g j.m k0) ?_));rintro v30 d0 j1 ⟨S,rfl⟩;refine wa (B (n != o)) ?_;obtain rfl:=si a;exact va (B (n != o)) (wln (jn d0 ⟨S,rfl⟩))
 rintro e_ w_ ⟨e0,f1,_,rfl,d,rfl,h,rfl⟩;refine nrm (cn H (fun l0 H=>?_) (fun l0 H=>?_))
 ·refine sr (va (B false) (wln (W.ret (thr ?_))));obtain rfl:=si H;exact r1 (qq e0 ⟨G,h,e.m,rfl⟩)
 refine W.skip (nrm (sr (va (v1) (bn H fun z0 m0 H=>?_))));obtain ⟨b,rfl,s⟩:=((h2.mono d)).get m0;refine vv (Q b) (bn H fun a1 o0 H=>?_);obtain ⟨v42,k1,x,t⟩:=Rel.open_grid_Grid (e.mono d) o0 s;refine vx (le1 0 mf (h.gon x 0 rfl)) (va (I f) (va (v3) (bn H fun b1 q0 H=>vx (ixO mf t q0) ?_)));obtain ⟨i,rfl⟩:=((j.mono d)).form;have U:=h.borrow 1 x rfl;refine bn H fun A s0 H=>md (Own.stW (R:=(RP 0)) (T:=116) (us:=[.pointer i]) (x':=g) (u:= .pointer i) 0 U (by kernel_rfl) rfl t s0 rfl (by kernel_rfl) ⟨j.m.one,trivial⟩ rfl ⟨(.pointer i),rfl,j.m⟩) ?_;rintro f0 w0 ⟨y,X,u0⟩;have Z:=X.giveB 1 rfl;refine bn H fun D v0 H=>?_;obtain ⟨E,a0,b0,g1,c1⟩:=Rel.put_grid_Grid Z (e.mono (d.trans w0)) (E':=[(Eb b 122 [v42]),es true (RP 0) v42 116 y A]) v0 ⟨b,v42,y,(tm s),rfl,u0⟩;refine wln (sr (va (B true) (wln (W.ret ?_))));obtain rfl:=si H;exact r1 (qq f0 ⟨E,a0,b0,rfl⟩)
def eM (sg:Sto) (p0:gV) (p1:Option Nat) (p2:List (Option Nat)):Option (Sto):=
 (cE (σ:=Int×Sto) (τ:=Sto) (((p2.length:Int) - 0).toNat+1) (fun a=>
 if (decide (a.1 < (p2.length:Int)))=true then
 (idx p2 a.1).bind fun c=>
 (eE a.2 p1 (w64 (p0.from_+a.1)) c).bind fun d=>
 some (.inl ((w64 (a.1+1)),d.1))
 else
 some (.inr (a.2))) (0,sg)).bind fun b=>
 (bw b p1 (w64 (p0.from_ - 1))).bind fun e=>
 (dD b e false).bind fun f=>
 some f
theorem mP (O0:Own c0 G F) (R0:Rel c0 sg G) (b:gV) (g:Option Nat) (h:List (Option Nat)) {r:Sto} (h2:Pt 1 c0 v1 g) (s:Sl (RP 0) c0 v3 h) (H:eM sg b g h=some r): Calls prog 208 #[.agg #[I b.from_,I b.to_,I b.n],v1,v3] c0.w (aN c0 fun c v=>∃G_:Gm,Own c G_ (F)∧Rel c r G_∧v= .tuple #[]):=by
 unfold eM at H;refine en func208 rfl rfl (sr (me (bx 261 [I b.from_,I b.to_,I b.n] O0) ?_));rintro v9 q l8 ⟨f,rfl,O6,m7⟩;refine wln (W.seq (sr (va (v3) (vx (ln 3 mf s.m) (va (I 0) (wln (W.block (bn H fun h1 o d=>lp o (fun a=>Jn q fun c l=>∃G_,Own c G_ (F)∧l= [(1,v1),(3,Q f),(8,v3),(9,I (h.length:Int)),(10,I a.1)]∧Rel c a.2 G_) (fun t ex e w=>ex= .exit 0∧(Jn q fun c l=>∃G_,Own c G_ (F)∧l= [(1,v1),(3,Q f)]∧Rel c t G_) e w) ?_ ?_ ?_))))))))
 ·clear d o;intro a i1 X l0 H;revert X l0;rintro e_ w_ ⟨S,b1,_,rfl,i0,rfl,y,i,rfl,j⟩;refine sr (va (B (decide (a.1 < (h.length:Int)))) (wln (W.seq (cn H (fun Z H=>?_) (fun Z H=>?_)))))
  ·refine W.skip (nrm (W.seq (W.block (sr (va (I a.1) (bn H fun u p H=>?_))))));obtain ⟨u0,b0,j0⟩:=Sl.at (s.mono (l8.trans i0)) (aT p);obtain ⟨v23,rfl,d0⟩:=b0;refine vx (ix mf s.m p) (vx (l1 Aw (j0 0 _ rfl)) (va (I a.1) (va (v23) (wln (W.region (va (v1) (va (Q f) (vx (l1 u_3 ((mm m7) 0 _ rfl)) (va (I a.1) (va (I (w64 (b.from_+a.1))) (va (v23) (bn H fun w0 e0 H=>cl (pI i j g (w64 (b.from_+a.1)) u h2.m d0 e0) ?_))))))))))));rintro v31 T d1 ⟨z,D,P,rfl⟩;refine WL.nil (bkn (nrm (W.region (vv (I (w64 (a.1+1))) (WL.nil ?_)))));obtain rfl:=si H;exact ⟨_,rfl,jn T ⟨z,D,rfl,P⟩⟩
  refine W.exit (thx ?_);obtain rfl:=si H;exact ⟨_,rfl,rfl,jn S ⟨y,i,rfl,j⟩⟩
 ·exact jn q ⟨G,O6,rfl,R0.m⟩
 rintro _ e_ w_ ⟨rfl,z0,c1,_,rfl,e1,rfl,y0,E,rfl,k⟩;refine bke (nrm (W.region (va (v1) (va (Q f) (vx (l1 u_3 ((mm m7) 0 _ rfl)) (va (I (w64 (b.from_ - 1))) (bn d fun x f0 d=>cl (cQ E k g (w64 (b.from_ - 1)) h2.m f0) ?_)))))));rintro v39 a1 f1 ⟨_,M,rfl,g0⟩;refine bn d fun x0 h0 d=>cl (lT M k.m x false g0 h0) ?_;rintro v53 U g1 ⟨A,N,R,rfl⟩;refine WL.nil ?_;obtain rfl:=si d;exact n0 (qq U ⟨A,N,R,rfl⟩)
def jR (sg:Sto) (p0:Option Nat) (p1:Int) (p2:Int):Option (List (Option Nat)):=
 (cE (σ:=(List (Option Nat))×Int) (τ:=(List (Option Nat))) ((p2 - p1).toNat+1) (fun a=>
 if (decide (a.2 < p2))=true then
 (bw sg p0 a.2).bind fun b=>
 (app a.1 ([b]:List (Option Nat))).bind fun c=>
 some (.inl (c,(w64 (a.2+1))))
 else
 some (.inr (a.1))) (([]:List (Option Nat)),p1)).bind fun d=>
 some d
theorem rM (O0:Own c0 G F) (R0:Rel c0 sg G) (o:Option Nat) (f:Int) (d:Int) {r:List (Option Nat)} (h2:Pt 1 c0 v1 o) (H:jR sg o f d=some r): Calls prog 209 #[v1,I f,I d] c0.w (aN c0 fun c v=>∃q y2,Own c G (es true (RP 0) q 116 y2 r :: F)∧v=q∧OA (RP 0) c q y2 r):=by
 unfold jR at H;refine en func209 rfl rfl (sr (va (Y) (wln (sr (va (Y) (wln (W.seq (sr (vv (I f) (wln (W.block (bn H fun b1 T s=>lp T (fun a=>Jn c0 fun c l=>∃v5 g,Own c G (es true (RP 0) v5 116 g a.1 :: F)∧l= [(0,v1),(2,I d),(7,v5),(8,I a.2)]∧OA (RP 0) c v5 g a.1) (fun b ex e w=>ex= .exit 0∧(Jn c0 fun c l=>∃v7 h,Own c G (es true (RP 0) v7 116 h b :: F)∧l= [(7,v7)]∧OA (RP 0) c v7 h b) e w) ?_ ?_ ?_))))))))))))
 ·clear s T;intro a d1 N f0 H;revert N f0;rintro e_ w_ ⟨c9,u0,_,rfl,l9,rfl,v5,g,i,rfl,k⟩;refine W.seq (sr (va (I a.2) (va (I d) (va (B (decide (a.2 < d))) (wln (cn H (fun P H=>?_) (fun P H=>?_)))))))
  ·refine W.skip (nrm (W.seq (W.block (W.region (va (v5) (va (v1) (va (I a.2) (bn H fun p R H=>cl (cQ i R0.m o a.2 h2.m R) ?_))))))));rintro v18 q0 w0 ⟨_,t,rfl,n⟩;obtain ⟨j,rfl⟩:=(n).form;refine me (sl (RP 0) 116 [[.pointer j]] ([p]:List (Option Nat)) t ⟨⟨(.pointer j),rfl,n⟩,trivial⟩) ?_;rintro v31 s0 x0 ⟨c1,u,S⟩;obtain ⟨t0,X,y0,x,U⟩:=u.frz 0 rfl S;refine WL.gh X (bn H fun o0 Z H=>me (ap (RP 0) (.pointer none) 8 120 1 x k.m U Z mf) ?_);rintro v41 E z0 ⟨e0,y,a0⟩;refine va (v41) (WL.nil (bkn (nrm (W.region (va (I a.2) (vv (I (w64 (a.2+1))) (WL.nil ?_)))))));obtain rfl:=si H;refine ⟨_,rfl,?_⟩;have z:=y.sD 2 [1];exact jn E ⟨v41,e0,z,rfl,a0⟩
  refine W.exit (thx ?_);obtain rfl:=si H;exact ⟨_,rfl,rfl,jn c9 ⟨v5,g,i,rfl,k⟩⟩
 ·have b0:OA (RP 0) c0 (Y) [] []:=OA.nil (aM _);have A:=O0.addHole (e:=es true (RP 0) (Y) 116 [] ([]:List (Option Nat))) rfl;exact jn c0 ⟨(Y),[],A,rfl,b0⟩
 rintro _ e_ w_ ⟨rfl,M,v0,_,rfl,a1,rfl,v7,h,D,rfl,d0⟩;refine bke (nrm (sr (vv (v7) (wln (W.ret ?_)))));obtain rfl:=si s;exact r1 (qq M ⟨v7,h,D,rfl,d0⟩)
def cg (sg:Sto) (p0:Option Nat):Option (Int):=
 (bw sg p0 0).bind fun a=>
 (bD sg a).bind fun b=>
 some b
theorem cF (i:Own c0 G F) (d:Rel c0 sg G) (a:Option Nat) {r:Int} (k:Pt 1 c0 v1 a) (H:cg sg a=some r): Calls prog 33 #[v1] c0.w (aN c0 fun c v=>Own c G (F)∧v=I r):=by
 unfold cg at H;refine en func33 rfl rfl (sr (va (I 0) (wln (sr (va (v1) (bn H fun g l H=>cl (cQ i d a 0 k l) ?_))))));rintro v4 o p ⟨_,j,rfl,n⟩;refine bn H fun h f H=>cl (cy j d.m g n f) ?_;rintro v18 e q ⟨b,rfl⟩;refine va (I h) (wln (W.ret ?_));obtain rfl:=si H;exact r1 (qq e ⟨b,rfl⟩)
def iO (sg:Sto) (p0:Option Nat) (p1:Int):Option (Sto×(List (Option Nat))):=
 (cE (σ:=(List (Option Nat))×Int×Sto) (τ:=((List (Option Nat))×Sto)) ((p1 - 0).toNat+1) (fun a=>
 if (decide (a.2.1 < p1))=true then
 (cg a.2.2 p0).bind fun d=>
 (kC a.2.2 d).bind fun b=>
 (app a.1 ([b.2]:List (Option Nat))).bind fun e=>
 some (.inl (e,(w64 (a.2.1+1)),b.1))
 else
 some (.inr (a.1,a.2.2))) (([]:List (Option Nat)),0,sg)).bind fun c=>
 some (c.2,c.1)
theorem pG (O0:Own c0 G F) (R0:Rel c0 sg G) (p:Option Nat) (f:Int) {r:Sto×(List (Option Nat))} (h2:Pt 1 c0 v1 p) (H:iO sg p f=some r): Calls prog 210 #[v1,I f] c0.w (aN c0 fun c v=>∃t y2,∃G_:Gm,Own c G_ (es true (RP 0) t 116 y2 r.2 :: F)∧Rel c r.1 G_∧eJ G G_∧v=t∧OA (RP 0) c t y2 r.2):=by
 unfold iO at H;refine en func210 rfl rfl (sr (va (Y) (wln (sr (va (Y) (wln (W.seq (sr (va (I f) (va (I 0) (wln (W.block (bn H fun t1 h3 z=>lp h3 (fun a=>Jn c0 fun c l=>∃v5 g G_,Own c G_ (es true (RP 0) v5 116 g a.1 :: F)∧l= [(0,v1),(5,v5),(6,I f),(7,I a.2.1)]∧Rel c a.2.2 G_∧eJ G G_∧OA (RP 0) c v5 g a.1) (fun b ex e w=>ex= .exit 0∧(Jn c0 fun c l=>∃v7 h G_,Own c G_ (es true (RP 0) v7 116 h b.1 :: F)∧l= [(5,v7)]∧Rel c b.2 G_∧eJ G G_∧OA (RP 0) c v7 h b.1) e w) ?_ ?_ ?_)))))))))))))
 ·clear z h3;intro a w1 e0 u0 H;revert e0 u0;rintro e_ w_ ⟨c9,h1,_,rfl,l9,rfl,v5,g,u,i,rfl,d,j,n⟩;refine sr (va (B (decide (a.2.1 < f))) (wln (W.seq (cn H (fun f0 H=>?_) (fun f0 H=>?_)))))
  ·refine W.skip (nrm (W.seq (W.block (W.region (va (v5) (va (v1) (bn H fun q g0 H=>cl (cF i d p h2.m g0) ?_)))))));rintro v23 d1 j1 ⟨A,rfl⟩;refine bn H fun s h0 H=>cl (ue A d.m q h0) ?_;rintro v25 e1 k1 ⟨_,x,D,T,X,rfl,o⟩;have Z:=j.trans X;obtain ⟨k,rfl⟩:=(o).form;refine me (sl (RP 0) 116 [[.pointer k]] ([s.2]:List (Option Nat)) D ⟨⟨(.pointer k),rfl,o⟩,trivial⟩) ?_;rintro v39 f1 m1 ⟨u1,E,j0⟩;obtain ⟨g1,l0,n1,M,k0⟩:=E.frz 0 rfl j0;refine WL.gh l0 (bn H fun c1 m0 H=>me (ap (RP 0) (.pointer none) 8 120 1 M n.m k0 m0 mf) ?_);rintro v49 b0 q1 ⟨t0,N,o0⟩;refine va (v49) (WL.nil (bkn (nrm (W.region (vv (I (w64 (a.2.1+1))) (WL.nil ?_))))));obtain rfl:=si H;refine ⟨_,rfl,?_⟩;have P:=N.sD 2 [1];exact jn b0 ⟨v49,t0,x,P,rfl,T.m,Z,o0⟩
  refine W.exit (thx ?_);obtain rfl:=si H;exact ⟨_,rfl,rfl,jn c9 ⟨v5,g,u,i,rfl,d,j,n⟩⟩
 ·have q0:OA (RP 0) c0 (Y) [] []:=OA.nil (aM _);have R:=O0.addHole (e:=es true (RP 0) (Y) 116 [] ([]:List (Option Nat))) rfl;exact jn c0 ⟨(Y),[],G,R,rfl,R0,(eJ.refl _),q0⟩
 rintro _ e_ w_ ⟨rfl,d0,i1,_,rfl,s1,rfl,v7,h,y,S,rfl,U,a0,s0⟩;refine bke (nrm (sr (vv (v7) (wln (W.ret ?_)))));obtain rfl:=si z;exact r1 (qq d0 ⟨v7,h,y,S,U,a0,rfl,s0⟩)
def kg (sg:Sto) (p0:Option Nat) (p1:Int) (p2:Int) (p3:Int):Option (Sto):=
 (lx sg p0 p1 p2 p3).bind fun a=>
 if a.2=true then
 (jR sg p0 (w64 (a.1.from_+a.1.n)) a.1.to_).bind fun c=>
 (iO sg p0 a.1.n).bind fun b=>
 (app c b.2).bind fun d=>
 (eM b.1 a.1 p0 d).bind fun e=>
 some e
 else
 some sg
theorem qC (O0:Own c0 G F) (h:Rel c0 sg G) (g:Option Nat) (k:Int) (l:Int) (o:Int) {r:Sto} (j:Pt 1 c0 v1 g) (H:kg sg g k l o=some r): Calls prog 170 #[v1,I k,I l,I o] c0.w (aN c0 fun c v=>∃G_:Gm,Own c G_ (F)∧Rel c r G_∧v= .tuple #[]):=by
 unfold kg at H;refine en func170 rfl rfl (sr (va (v1) (va (I k) (va (I l) (va (I o) (bn H fun a h3 H=>cl (ut O0 h g k l o j h3) ?_))))));rintro v9 c8 l8 ⟨O5,rfl⟩;refine va (.tuple #[.agg #[I a.1.from_,I a.1.to_,I a.1.n],B a.2]) (va (.agg #[I a.1.from_,I a.1.to_,I a.1.n]) (va (B a.2) (me (al 261 [I 0,I 0,I 0] O5) ?_)));rintro v13 j1 k1 ⟨b,rfl,M⟩;refine md (sA 261 [I a.1.from_,I a.1.to_,I a.1.n] 0 M ⟨rfl,rfl,rfl,trivial⟩) ?_;rintro T m1 p;refine va (B a.2) (wln (sr (va (B a.2) (wln (cn H (fun e0 H=>?_) (fun e0 H=>?_))))))
 ·refine rD [] (Kp G0 [(Eb b 261 [I a.1.from_,I a.1.to_,I a.1.n])]) p ?_;intro U n1 q;have e:Kp G0 [(Eb b 261 [I a.1.from_,I a.1.to_,I a.1.n])] U:=(Kp.cons (q.on 0 rfl) Kp.nil0);refine tkx 0 e (fun i f d=>leN 261 0 [I a.1.from_,I a.1.to_,I a.1.n] (d.on 0 rfl)) (ta 1 (v1) (ta 2 (v1) (ta 3 (Q b) (tkx 4 e (fun i f d=>le1 0 u_3 (d.on 0 rfl)) (ta 5 (Qo b 2) (tkx 6 e (fun i f d=>le1 2 u_3 (d.on 0 rfl)) (ta 7 (I (w64 (a.1.from_+a.1.n))) (ta 8 (Qo b 1) (tkx 9 e (fun i f d=>le1 1 u_3 (d.on 0 rfl)) (ta 11 (v1) (ta 12 (Qo b 2) (tkx 13 e (fun i f d=>le1 2 u_3 (d.on 0 rfl)) (bn H fun e1 f0 H=>o1 10 (gc 10 (rM q h.m g (w64 (a.1.from_+a.1.n)) a.1.to_ j.m f0) ?_))))))))))))));rintro v21 X q1 ⟨_,w1,s,rfl,g0⟩;have v0:Kp G0 [(Eb b 261 [I a.1.from_,I a.1.to_,I a.1.n])] X:=(Kp.cons (s.on 1 rfl) Kp.nil0);refine ⟨.inr v0,bn H fun f1 h0 H=>o1 14 (gc 14 (pG s h.m g a.1.n j.m h0) ?_)⟩;rintro v32 Z s1 ⟨_,x1,h1,t,R,i1,rfl,i0⟩;have w0:Kp G0 [(Eb b 261 [I a.1.from_,I a.1.to_,I a.1.n])] Z:=(Kp.cons (t.on 2 rfl) Kp.nil0);refine ⟨.inr w0,?_⟩;obtain ⟨a0,k0,t0,u,j0⟩:=t.frz 0 rfl i0;have x0:Kp G0 [(Eb b 261 [I a.1.from_,I a.1.to_,I a.1.n])] a0:=(Kp.cons (u.on 2 rfl) Kp.nil0);refine AC.gh k0 t0 (fun _=>x0) (bn H fun D l0 H=>o1 15 (gm 15 (ap (RP 0) (.pointer none) 8 120 1 u g0.m j0 l0 mf) ?_));rintro v52 b0 t1 ⟨y1,x,m0⟩;have y0:Kp G0 [(Eb b 261 [I a.1.from_,I a.1.to_,I a.1.n])] b0:=(Kp.cons (x.on 2 rfl) Kp.nil0);refine ⟨.inr y0,?_⟩;obtain ⟨d0,q0,u0,y,o0⟩:=x.frz 1 rfl m0;have z0:Kp G0 [(Eb b 261 [I a.1.from_,I a.1.to_,I a.1.n])] d0:=(Kp.cons (y.on 2 rfl) Kp.nil0);refine AC.gh q0 u0 (fun _=>z0) (bn H fun g1 s0 H=>o1 16 (gc 16 (mP y R.m a.1 g D j.m o0 s0) ?_));rintro z1 A u1 ⟨E,z,S,rfl⟩;have a1:Kp G0 [(Eb b 261 [I a.1.from_,I a.1.to_,I a.1.n])] A:=(Kp.cons (z.on 2 rfl) Kp.nil0);refine ⟨.inr a1,dn ?_⟩;obtain rfl:=si H;have N:=z.sD 3 [];exact n0 (qq A ⟨E,N,S,rfl⟩)
 refine W.skip ?_;obtain rfl:=si H;have P:=p.sD 1 [];exact n0 (qq T ⟨G,P,h.m,rfl⟩)
def jS (sg:Sto) (p0:Option Nat) (p1:Int) (p2:Int) (p3:Int):Option (Sto):=
 (lx sg p0 p1 p2 p3).bind fun a=>
 if a.2=true then
 (iO sg p0 a.1.n).bind fun b=>
 (jR b.1 p0 a.1.from_ (w64 (a.1.to_ - a.1.n))).bind fun d=>
 (app b.2 d).bind fun e=>
 (eM b.1 a.1 p0 e).bind fun c=>
 (bw c p0 (w64 (a.1.to_ - 1))).bind fun f=>
 (dD c f false).bind fun g=>
 some g
 else
 some sg
theorem rN (O0:Own c0 G F) (D:Rel c0 sg G) (f:Option Nat) (k:Int) (l:Int) (o:Int) {r:Sto} (i:Pt 1 c0 v1 f) (H:jS sg f k l o=some r): Calls prog 171 #[v1,I k,I l,I o] c0.w (aN c0 fun c v=>∃G_:Gm,Own c G_ (F)∧Rel c r G_∧v= .tuple #[]):=by
 unfold jS at H;refine en func171 rfl rfl (sr (va (v1) (va (I k) (va (I l) (va (I o) (bn H fun a h3 H=>cl (ut O0 D f k l o i h3) ?_))))));rintro v9 c8 l8 ⟨O5,rfl⟩;refine va (.tuple #[.agg #[I a.1.from_,I a.1.to_,I a.1.n],B a.2]) (va (.agg #[I a.1.from_,I a.1.to_,I a.1.n]) (va (B a.2) (me (al 261 [I 0,I 0,I 0] O5) ?_)));rintro v13 y1 a2 ⟨b,rfl,P⟩;refine md (sA 261 [I a.1.from_,I a.1.to_,I a.1.n] 0 P ⟨rfl,rfl,rfl,trivial⟩) ?_;rintro Z b2 p;refine va (B a.2) (wln (sr (va (B a.2) (wln (cn H (fun j0 H=>?_) (fun j0 H=>?_))))))
 ·refine W.seq (rD [] (Kp G0 [(Eb b 261 [I a.1.from_,I a.1.to_,I a.1.n])]) p ?_);intro a0 c2 q;have e:Kp G0 [(Eb b 261 [I a.1.from_,I a.1.to_,I a.1.n])] a0:=(Kp.cons (q.on 0 rfl) Kp.nil0);refine tkx 0 e (fun j g d=>leN 261 0 [I a.1.from_,I a.1.to_,I a.1.n] (d.on 0 rfl)) (ta 1 (v1) (ta 2 (v1) (ta 3 (Qo b 2) (tkx 4 e (fun j g d=>le1 2 u_3 (d.on 0 rfl)) (ta 6 (v1) (ta 7 (Q b) (tkx 8 e (fun j g d=>le1 0 u_3 (d.on 0 rfl)) (ta 9 (Qo b 1) (tkx 10 e (fun j g d=>le1 1 u_3 (d.on 0 rfl)) (ta 11 (Qo b 2) (tkx 12 e (fun j g d=>le1 2 u_3 (d.on 0 rfl)) (ta 13 (I (w64 (a.1.to_ - a.1.n))) (bn H fun n1 k0 H=>o1 5 (gc 5 (pG q D.m f a.1.n i.m k0) ?_))))))))))))));rintro v21 b0 d2 ⟨_,k2,u1,s,z,x1,rfl,l0⟩;have d1:Kp G0 [(Eb b 261 [I a.1.from_,I a.1.to_,I a.1.n])] b0:=(Kp.cons (s.on 1 rfl) Kp.nil0);refine ⟨.inr d1,bn H fun q1 m0 H=>o1 14 (gc 14 (rM s z f a.1.from_ (w64 (a.1.to_ - a.1.n)) i.m m0) ?_)⟩;rintro v32 d0 e2 ⟨_,l2,t,rfl,o0⟩;have e1:Kp G0 [(Eb b 261 [I a.1.from_,I a.1.to_,I a.1.n])] d0:=(Kp.cons (t.on 2 rfl) Kp.nil0);refine ⟨.inr e1,?_⟩;obtain ⟨e0,s0,b1,u,q0⟩:=t.frz 0 rfl o0;have f1:Kp G0 [(Eb b 261 [I a.1.from_,I a.1.to_,I a.1.n])] e0:=(Kp.cons (u.on 2 rfl) Kp.nil0);refine AC.gh s0 b1 (fun _=>f1) (bn H fun E t0 H=>o1 15 (gm 15 (ap (RP 0) (.pointer none) 8 120 1 u l0.m q0 t0 mf) ?_));rintro v52 f0 f2 ⟨m2,x,u0⟩;have g1:Kp G0 [(Eb b 261 [I a.1.from_,I a.1.to_,I a.1.n])] f0:=(Kp.cons (x.on 2 rfl) Kp.nil0);refine ⟨.inr g1,?_⟩;obtain ⟨g0,w0,c1,y,v0⟩:=x.frz 1 rfl u0;have h1:Kp G0 [(Eb b 261 [I a.1.from_,I a.1.to_,I a.1.n])] g0:=(Kp.cons (y.on 2 rfl) Kp.nil0);refine AC.gh w0 c1 (fun _=>h1) (bn H fun s1 x0 H=>o1 16 (gc 16 (mP y z.m a.1 f E i.m v0 x0) ?_));rintro n2 h0 g2 ⟨w1,h,A,rfl⟩;have i1:Kp G0 [(Eb b 261 [I a.1.from_,I a.1.to_,I a.1.n])] h0:=(Kp.cons (h.on 2 rfl) Kp.nil0);refine ⟨.inr i1,dn (nrm (W.region (va (v1) (va (Qo b 1) (vx (le1 1 u_3 (h.on 2 rfl)) (va (I (w64 (a.1.to_ - 1))) (bn H fun M y0 H=>cl (cQ h A f (w64 (a.1.to_ - 1)) i.m y0) ?_)))))))⟩;rintro o2 z1 i2 ⟨_,R,rfl,z0⟩;refine bn H fun t1 a1 H=>cl (lT R A.m M false z0 a1) ?_;rintro q2 i0 j2 ⟨N,S,X,rfl⟩;refine WL.nil ?_;obtain rfl:=si H;have T:=S.sD 3 [];exact n0 (qq i0 ⟨N,T,X,rfl⟩)
 refine W.skip ?_;obtain rfl:=si H;have U:=p.sD 1 [];exact n0 (qq Z ⟨G,U,D.m,rfl⟩)
def wY (sg:Sto) (p0:List ak):Option (Sto×(Option Nat)×Er):=
 (orE ((p0.length:Int)==0) (some (decide ((p0.length:Int) > 1024)))).bind fun o=>
 if o=true then
 some (sg,(none:Option Nat),(Er.sent 0))
 else
 (some (sg.add_grid_Grid (⟨([]:List (Option Nat))⟩:bF))).bind fun d=>
 (cE (σ:=Int×Sto) (τ:=(Sto×(Option Nat)×Er) ⊕ Sto) (((p0.length:Int) - 0).toNat+1) (fun b=>
 if (decide (b.1 < (p0.length:Int)))=true then
 (idx p0 b.1).bind fun f=>
 (np b.2 f.Cells).bind fun a=>
 ((bI a.2.2.isNil ((idx p0 0).bind fun k=>
 (bD a.1 a.2.1).bind fun l=>
 some (l != (k.Cells.length:Int)))).bind fun i=>
 if i=true then
 some ((Er.sent 0))
 else
 some (a.2.2)).bind fun h=>
 if (!h.isNil)=true then
 (nN b.1 h).bind fun m=>
 some (.inr (.inl (a.1,(none:Option Nat),m)))
 else
 (dD a.1 a.2.1 f.Wrap).bind fun g=>
 (g.grid_Grid[sg.grid_Grid.length]?).bind fun j=>
 (app j.rows ([a.2.1]:List (Option Nat))).bind fun n=>
 (g.set_grid_Grid sg.grid_Grid.length (⟨n⟩:bF)).bind fun e=>
 some (.inl ((w64 (b.1+1)),e))
 else
 some (.inr (.inr (b.2)))) (0,d)).bind fun c=>
 match c with
 | .inl c=>
 some c
 | .inr c=>
 some (c,(some sg.grid_Grid.length),Er.nil)
def iW (sg:Sto) (p0:Option Nat):Option (List ak):=
 (bO sg p0).bind fun c=>
 (cE (σ:=(List ak)×Int) (τ:=(List ak)) ((c - 0).toNat+1) (fun a=>
 if (decide (a.2 < c))=true then
 (p0).bind fun d=>
 (sg.grid_Grid[d]?).bind fun b=>
 (idx b.rows a.2).bind fun e=>
 (idx b.rows a.2).bind fun f=>
 (eD sg e).bind fun g=>
 (jr sg f).bind fun h=>
 (app a.1 ([(⟨g,h⟩:ak)]:List ak)).bind fun i=>
 some (.inl (i,(w64 (a.2+1))))
 else
 some (.inr (a.1))) (([]:List ak),0)).bind fun j=>
 some j
theorem tq (O0:Own c0 G F) (z:Rel c0 sg G) (p0:Option Nat) {r:List ak} (h2:Pt 1 c0 v1 p0) (H:iW sg p0=some r): Calls prog 35 #[v1] c0.w (aN c0 fun c v=>∃y1 y2,Own c G (es true am y1 71 y2 r :: F)∧v=y1∧OA am c y1 y2 r):=by
 unfold iW at H;refine en func35 rfl rfl (sr (va (Y) (wln (sr (va (Y) (wln (W.seq (sr (va (v1) (bn H fun g0 h3 H=>cl (bJ O0 z p0 h2 h3) ?_))))))))));rintro v9 A l8 ⟨O5,rfl⟩;refine va (I 0) (wln (W.block (bn H fun i3 Z D=>lp Z (fun a=>Jn A fun c l=>∃v12 n,Own c G (es true am v12 71 n a.1 :: F)∧l= [(0,v1),(3,v12),(6,I g0),(7,I a.2)]∧OA am c v12 n a.1) (fun y ex e w=>ex= .exit 0∧(Jn A fun c l=>∃v14 o,Own c G (es true am v14 71 o y :: F)∧l= [(3,v14)]∧OA am c v14 o y) e w) ?_ ?_ ?_)))
 ·clear D Z;intro a o3 a1 n2 H;revert a1 n2;rintro e_ w_ ⟨s0,b3,_,rfl,l16,rfl,v12,n,E,rfl,a0⟩;refine sr (va (B (decide (a.2 < g0))) (wln (W.seq (cn H (fun c1 H=>?_) (fun c1 H=>?_)))))
  ·refine W.skip (nrm (W.seq (W.block (sr (vv (I a.2) (wln (rD [] (Kp G []) E ?_)))))));intro t0 d0 M;have k:Kp G [] t0:=(Kp.nil M);refine ta 0 (v12) (ta 1 (v1) (bn H fun u2 e1 H=>?_));obtain ⟨d,rfl,d1⟩:=((h2.mono (l8.trans (l16.trans d0)))).get e1;refine ta 2 (Q d) (ta 3 (Q d) (bn H fun x2 f1 H=>?_));obtain ⟨v31,j3,i,b⟩:=Rel.open_grid_Grid (z.mono (l8.trans (l16.trans d0))) f1 d1;refine tkx 4 k (fun t f g=>le1 0 mf (g.gon i 0 rfl)) (ta 5 (I a.2) (bn H fun i0 u H=>tx 6 (fun t f=>ixO mf b u) ?_));obtain ⟨v2,g1,d2⟩:=OA.at b u;obtain ⟨v39,rfl,h1⟩:=g1;refine AC.takeK 7 (v39) k rfl (by kernel_rfl) (by kernel_rfl) (by kernel_rfl) (fun t f g=>(rx (by kernel_rfl) (lF Aw rfl (g.gon i 1 rfl) (b.blk u) (at1 (j:=0) d2 rfl)))) (ta 9 (Q d) (ta 10 (Q d) (ta 11 (Q d) (tkx 12 k (fun t f g=>le1 0 mf (g.gon i 0 rfl)) (ta 13 (I a.2) (bn H fun j0 x H=>tx 14 (fun t f=>ixO mf b x) ?_))))));obtain ⟨w2,i1,e2⟩:=OA.at b x;obtain ⟨v45,rfl,j1⟩:=i1;refine AC.takeK 15 (v45) k rfl (by kernel_rfl) (by kernel_rfl) (by kernel_rfl) (fun t f g=>(rx (by kernel_rfl) (lF Aw rfl (g.gon i 1 rfl) (b.blk x) (at1 (j:=0) e2 rfl)))) (bn H fun k0 k1 H=>o1 8 (gc 8 (lc M z.m i0 h1 k1) ?_));rintro v48 u0 d3 ⟨_,k3,N,rfl,b0⟩;have f2:Kp G [] u0:=(Kp.nil N);refine ⟨.inr f2,bn H fun h m1 H=>o1 16 (gc 16 (vL N z.m j0 j1.m m1) ?_)⟩;rintro m3 v0 e0 ⟨P,rfl⟩;have g2:Kp G [] v0:=(Kp.nil P);refine ⟨.inr g2,?_⟩;obtain ⟨p,q,s,rfl⟩:=((b0.mono e0)).form;refine ta 17 (.agg #[.slice p q s,B h]) ?_;obtain ⟨w0,p1,a2,R,n1⟩:=P.frz 0 rfl (b0.mono e0);have i2:Kp G [] w0:=(Kp.nil R);refine AC.gh p1 a2 (fun _=>i2) (o1 18 (gm 18 (sl am 71 [[.slice p q s,B h]] ([(⟨k0,h⟩:ak)]:List ak) R ⟨⟨(.slice p q s),rfl,n1⟩,trivial⟩) ?_));rintro n3 x0 e3 ⟨l3,S,q1⟩;have j2:Kp G [] x0:=(Kp.nil S);refine ⟨.inr j2,?_⟩;obtain ⟨y0,t1,c2,T,s1⟩:=S.frz 0 rfl q1;have k2:Kp G [] y0:=(Kp.nil T);refine AC.gh t1 c2 (fun _=>k2) (bn H fun a3 u1 H=>o1 19 (gm 19 (ap am (.agg #[Y,B false]) 32 22 2 T a0.m s1 u1 dX) ?_));rintro f0 X f3 ⟨m2,U,w1⟩;have l2:Kp G [] X:=(Kp.nil U);refine ⟨.inr l2,ta 20 (f0) (dn (bkn (nrm (W.region (vv (I (w64 (a.2+1))) (WL.nil ?_))))))⟩;obtain rfl:=si H;refine ⟨_,rfl,?_⟩;have m0:=U.sD 3 [2];exact jn X ⟨f0,m2,m0,rfl,w1⟩
  refine W.exit (thx ?_);obtain rfl:=si H;exact ⟨_,rfl,rfl,jn s0 ⟨v12,n,E,rfl,a0⟩⟩
 ·have x1:OA am A (Y) [] []:=OA.nil (aM _);have o0:=O5.addHole (e:=es true am (Y) 71 [] ([]:List ak)) rfl;exact jn A ⟨(Y),[],o0,rfl,x1⟩
 rintro _ e_ w_ ⟨rfl,z0,c3,_,rfl,g3,rfl,v14,o,q0,rfl,z1⟩;refine bke (nrm (sr (vv (v14) (wln (W.ret ?_)))));obtain rfl:=si D;exact r1 (qq z0 ⟨v14,o,q0,rfl,z1⟩)
def eN (p0:List ak) (p1:List ak):Option (Bool):=
 if ((p0.length:Int) != (p1.length:Int))=true then
 some false
 else
 (cE (σ:=Int) (τ:=Bool ⊕ Unit) (((p0.length:Int) - 0).toNat+1) (fun a=>
 if (decide (a < (p0.length:Int)))=true then
 (idx p0 a).bind fun d=>
 (idx p1 a).bind fun e=>
 (orE (!(d.Wrap==e.Wrap)) ((idx p0 a).bind fun f=>
 (idx p1 a).bind fun g=>
 (dI f.Cells g.Cells).bind fun h=>
 some (!h))).bind fun c=>
 if c=true then
 some (.inr (.inl false))
 else
 some (.inl ((w64 (a+1))))
 else
 some (.inr (.inr ()))) (0)).bind fun b=>
 match b with
 | .inl b=>
 some b
 | .inr b=>
 some true
theorem qK (O0:Own c0 G F) (s:List ak) (X:List ak) {r:Bool} (j:Sl am c0 v1 s) (k:Sl am c0 v3 X) (H:eN s X=some r): Calls prog 89 #[v1,v3] c0.w (aN c0 fun c v=>Own c G (F)∧v=B r):=by
 unfold eN at H;refine en func89 rfl rfl (sr (va (B false) (wln (W.seq (sr (va (v1) (vx (ln 3 dX j) (va (v3) (vx (ln 3 dX k) (va (B ((s.length:Int) != (X.length:Int))) (wln (cn H (fun h5 H=>?_) (fun h5 H=>?_)))))))))))))
 ·refine sr (va (B false) (wln (W.ret (thr ?_))));obtain rfl:=si H;exact r1 (qq c0 ⟨O0,rfl⟩)
 refine W.skip (nrm (W.seq (sr (va (I 0) (wln (W.block (bn H fun h h6 S=>lp h6 (fun a=>Jn c0 fun c l=>Own c G (F)∧l= [(0,v1),(1,v3),(5,I a)]) (fun t=>match t with | .inl x_=>(fun f1 ex e w=>ex= .ret∧(Jn c0 fun c l=>Own c G (F)∧l= [(4,B f1)]) e w) x_ | .inr x_=>(fun h1 ex e w=>ex= .exit 0∧(Jn c0 fun c l=>Own c G (F)∧l= []) e w) x_) ?_ ?_ ?_)))))))
 ·clear S h6;intro a c2 l0 g1 H;revert l0 g1;rintro U Z ⟨c8,g9,_,rfl,q,rfl,u,rfl⟩;refine W.seq (sr (va (I a) (va (v1) (vx (ln 3 dX j.m) (va (B (decide (a < (s.length:Int)))) (wln (cn H (fun o0 H=>?_) (fun o0 H=>?_))))))))
  ·refine W.skip (nrm (W.seq (W.block (W.seq (bn H fun n E H=>bn H fun o M H=>bn H fun T N H=>W.join (Jn c8 fun c l=>Own c G (F)∧l= [(0,v1),(1,v3),(5,I a),(41,B T)]) ?_ ?_)))))
   ·clear H;refine rD [] (Kp G0 []) u ?_;intro z i x;have b2:Kp G0 [] z:=Kp.nil0;refine ta 0 (v1) (ta 1 (I a) ?_);obtain ⟨j1,q0,a1⟩:=Sl.at (j.mono (q.trans i)) (aT E);obtain ⟨v24,rfl,u1⟩:=q0;refine tx 2 (fun f b=>ix dX j.m E) (ta 3 (Qo (sb v1) (so v1+a.toNat * 2+1)) (tx 4 (fun f b=>l1 u_4 ((mm a1) 1 _ rfl)) (ta 5 (v3) (ta 6 (I a) ?_))));obtain ⟨k1,s0,b1⟩:=Sl.at (k.mono (q.trans i)) (aT M);obtain ⟨v29,rfl,w1⟩:=s0;refine tx 7 (fun f b=>ix dX k.m M) (ta 8 (Qo (sb v3) (so v3+a.toNat * 2+1)) (tx 9 (fun f b=>l1 u_4 ((mm b1) 1 _ rfl)) (ta 10 (B (!(n.Wrap==o.Wrap))) ?_)));rcases bo (!(n.Wrap==o.Wrap)) with g | g
    ·obtain rfl:=orT g N;exact AC.takeb 11 g rfl (by kernel_rfl) (by kernel_rfl) (fun f b=>(by kernel_rfl)) (tp 12 (tp 13 (tp 14 (tp 15 (tp 16 (tp 17 (tp 18 (tp 19 (tp 20 (tp 21 (tp 22 (tp 23 (ta 24 (B true) (dn (nrm (jn z ⟨x,rfl⟩))))))))))))))))
    have d:=orF g N;refine bn d fun b0 P d=>bn d fun d0 R d=>bn d fun p t0 d=>AC.takeb 11 g rfl (by kernel_rfl) (by kernel_rfl) (fun f b=>(by kernel_rfl)) (ta 12 (v1) (ta 13 (I a) ?_));obtain ⟨m1,u0,c1⟩:=Sl.at (j.mono (q.trans i)) (aT P);obtain ⟨v39,rfl,v0⟩:=u0;refine tx 14 (fun f b=>ix dX j.m P) (ta 15 (Qo (sb v1) (so v1+a.toNat * 2)) (tx 16 (fun f b=>l1 ck ((mm c1) 0 _ rfl)) (ta 17 (v3) (ta 18 (I a) ?_))));obtain ⟨n1,w0,d1⟩:=Sl.at (k.mono (q.trans i)) (aT R);obtain ⟨v44,rfl,x0⟩:=w0;refine tx 19 (fun f b=>ix dX k.m R) (ta 20 (Qo (sb v3) (so v3+a.toNat * 2)) (tx 21 (fun f b=>l1 ck ((mm d1) 0 _ rfl)) (o1 22 (gc 22 (qL x b0.Cells d0.Cells v0 x0 t0) ?_))));rintro v51 A x1 ⟨f0,rfl⟩;have e1:Kp G0 [] A:=Kp.nil0;refine ⟨.inr e1,ta 23 (B (!p)) ?_⟩;obtain rfl:=si d;exact ta 24 (B (!p)) (dn (nrm (jn A ⟨f0,rfl⟩)))
   rintro U Z ⟨D,q1,_,rfl,y1,rfl,y,rfl⟩;refine nrm (cn H (fun y0 H=>?_) (fun y0 H=>?_))
   ·refine sr (va (B false) (wln (W.ret (bkr (thr ?_)))));obtain rfl:=si H;exact ⟨_,rfl,⟨rfl,jn D ⟨y,rfl⟩⟩⟩
   refine W.skip (bkn (nrm (W.region (va (I a) (vv (I (w64 (a+1))) (WL.nil ?_))))));obtain rfl:=si H;exact ⟨_,rfl,jn D ⟨y,rfl⟩⟩
  refine W.exit (thx ?_);obtain rfl:=si H;exact ⟨_,rfl,rfl,jn c8 ⟨u,rfl⟩⟩
 ·exact jn c0 ⟨O0,rfl⟩
 rcases h with h | h
 ·intro m0; revert m0;rintro _ U Z ⟨rfl,i0,s1,_,rfl,z1,rfl,g0,rfl⟩;refine bkr (thr ?_);obtain rfl:=si S;exact r1 (qq i0 ⟨g0,rfl⟩)
 rintro _ U Z ⟨rfl,j0,t1,_,rfl,a2,rfl,h0,rfl⟩;refine bke (nrm (sr (va (B true) (wln (W.ret ?_)))));obtain rfl:=si S;exact r1 (qq j0 ⟨h0,rfl⟩)
def dG (p0:List ak) (p1:Int) (p2:Int) (p3:Int) (p4:Bool):Option (List ak):=
 (orE (decide ((aE 0 (aB p1 (p0.length:Int)))≥(aE 0 (aB p2 (p0.length:Int))))) (some (decide (p3 < 1)))).bind fun j=>
 if j=true then
 some p0
 else
 (cE (σ:=(List ak)×Int) (τ:=(List ak)) (((p0.length:Int) - 0).toNat+1) (fun a=>
 if (decide (a.2 < (p0.length:Int)))=true then
 (idx p0 a.2).bind fun c=>
 ((bI (decide (a.2≥(aE 0 (aB p1 (p0.length:Int))))) (some (decide (a.2 < (aE 0 (aB p2 (p0.length:Int))))))).bind fun k=>
 if k=true then
 (if (!p4)=true then
 some ((w64 (a.2 - (aB p3 (w64 ((aE 0 (aB p2 (p0.length:Int))) - (aE 0 (aB p1 (p0.length:Int)))))))))
 else
 some ((w64 (a.2+(aB p3 (w64 ((aE 0 (aB p2 (p0.length:Int))) - (aE 0 (aB p1 (p0.length:Int)))))))))).bind fun b=>
 (idx p0 a.2).bind fun n=>
 (rep (n.Cells.length:Int) (⟨0,([]:List Int)⟩:ab)).bind fun o=>
 (bI (decide (b≥(aE 0 (aB p1 (p0.length:Int))))) (some (decide (b < (aE 0 (aB p2 (p0.length:Int))))))).bind fun l=>
 if l=true then
 (idx p0 b).bind fun d=>
 some (d.Cells,d.Wrap)
 else
 some (o,false)
 else
 some (c.Cells,c.Wrap)).bind fun e=>
 ((orE ((w64 (a.2+1))==(aE 0 (aB p1 (p0.length:Int)))) ((bI (!p4) (some ((w64 (a.2+1))==(aE 0 (aB p2 (p0.length:Int)))))).bind fun g=>
 some g)).bind fun f=>
 if f=true then
 some (false)
 else
 some (e.2)).bind fun i=>
 (app a.1 ([(⟨e.1,i⟩:ak)]:List ak)).bind fun h=>
 some (.inl (h,(w64 (a.2+1))))
 else
 some (.inr (a.1))) (([]:List ak),0)).bind fun m=>
 some m
theorem kr (O0:Own c0 G F) (a:List ak) (f:Int) (d:Int) (g:Int) (q:Bool) {r:List ak} (U:Sl am c0 v1 a) (H:dG a f d g q=some r): Calls prog 97 #[v1,I f,I d,I g,B q] c0.w (aN c0 fun c v=>∃y1,Own c G (F)∧v=y1∧Sl am c y1 r):=by
 unfold dG at H;refine en func97 rfl rfl (sr (va (Y) (wln (sr (va (v1) (vx (ln 3 dX U) (va (I (a.length:Int)) (wln (sr (va (I f) (va (I (a.length:Int)) (va (I (aB f (a.length:Int))) (vv (I (aE 0 (aB f (a.length:Int)))) (wln (sr (va (I d) (va (I (a.length:Int)) (va (I (aB d (a.length:Int))) (vv (I (aE 0 (aB d (a.length:Int)))) (wln (W.seq (W.seq (bn H fun i3 h3 H=>W.join (Jn c0 fun c l=>Own c G (F)∧l= [(0,v1),(1,I (aE 0 (aB f (a.length:Int)))),(2,I (aE 0 (aB d (a.length:Int)))),(3,I g),(4,B q),(11,I (a.length:Int)),(32,B i3)]) ?_ ?_)))))))))))))))))))))))
 ·clear H;refine W.region (va (I (aE 0 (aB f (a.length:Int)))) (va (I (aE 0 (aB d (a.length:Int)))) (va (B (decide ((aE 0 (aB f (a.length:Int)))≥(aE 0 (aB d (a.length:Int)))))) ?_)));rcases bo (decide ((aE 0 (aB f (a.length:Int)))≥(aE 0 (aB d (a.length:Int))))) with h4 | h4
  ·obtain rfl:=orT h4 h3;exact vb h4 (pz (va (B true) (wln (jn c0 ⟨O0,rfl⟩))))
  have H5:=orF h4 h3;refine vb h4 (wa (I g) (wa (B (decide (g < 1))) ?_));obtain rfl:=si H5;exact va (B (decide (g < 1))) (wln (jn c0 ⟨O0,rfl⟩))
 rintro T w_ ⟨c6,g7,_,rfl,l6,rfl,O8,rfl⟩;refine nrm (cn H (fun q4 H=>?_) (fun q4 H=>?_))
 ·refine sr (vv (v1) (wln (W.ret (thr ?_))));obtain rfl:=si H;exact r1 (qq c6 ⟨v1,O8,rfl,U.m⟩)
 refine W.skip (nrm (sr (va (I g) (va (I (aE 0 (aB d (a.length:Int)))) (va (I (aE 0 (aB f (a.length:Int)))) (va (I (w64 ((aE 0 (aB d (a.length:Int))) - (aE 0 (aB f (a.length:Int)))))) (vv (I (aB g (w64 ((aE 0 (aB d (a.length:Int))) - (aE 0 (aB f (a.length:Int))))))) (wln (sr (va (Y) (wln (W.seq (sr (va (I 0) (wln (W.block (bn H fun g6 w1 j1=>lp w1 (fun b=>Jn c6 fun c l=>∃v15 p,Own c G (es true am v15 71 p b.1 :: F)∧l= [(0,v1),(1,I (aE 0 (aB f (a.length:Int)))),(2,I (aE 0 (aB d (a.length:Int)))),(3,I (aB g (w64 ((aE 0 (aB d (a.length:Int))) - (aE 0 (aB f (a.length:Int))))))),(4,B q),(11,I (a.length:Int)),(12,v15),(13,I b.2)]∧OA am c v15 p b.1) (fun k0 ex e w=>ex= .exit 0∧(Jn c6 fun c l=>∃v17 f1,Own c G (es true am v17 71 f1 k0 :: F)∧l= [(12,v17)]∧OA am c v17 f1 k0) e w) ?_ ?_ ?_)))))))))))))))))
 ·clear j1 w1;intro b v6 o4 f5 H;revert o4 f5;rintro T w_ ⟨n4,o6,_,rfl,d1,rfl,v15,p,k1,rfl,x1⟩;refine W.seq (sr (va (I b.2) (va (I (a.length:Int)) (va (B (decide (b.2 < (a.length:Int)))) (wln (cn H (fun r4 H=>?_) (fun r4 H=>?_)))))))
  ·refine W.skip (nrm (W.seq (W.block (sr (va (v1) (va (I b.2) (bn H fun e0 z1 H=>?_)))))));obtain ⟨d6,s4,b5⟩:=Sl.at (U.mono (l6.trans d1)) (aT z1);obtain ⟨v31,rfl,z0⟩:=s4;refine vx (ix dX U.m z1) (vx (lN 71 b5) (me (al 71 [Y,B false] k1) ?_));rintro v36 j6 e1 ⟨k,rfl,j4⟩;obtain ⟨f0,g0,h0,rfl⟩:=((z0.mono e1)).form;refine md (sA 71 [.slice f0 g0 h0,B e0.Wrap] 0 j4 ⟨z0.m.one,rfl,trivial⟩) ?_;rintro i0 f2 m1;refine wln (bn H fun E s e4=>W.seqJ (Jn i0 fun c l=>∃v44,Own c G ((Eb k 71 [v44,B E.2]) :: es true am v15 71 p b.1 :: F)∧l= [(0,v1),(1,I (aE 0 (aB f (a.length:Int)))),(2,I (aE 0 (aB d (a.length:Int)))),(3,I (aB g (w64 ((aE 0 (aB d (a.length:Int))) - (aE 0 (aB f (a.length:Int))))))),(4,B q),(11,I (a.length:Int)),(12,v15),(13,I b.2),(14,Q k)]∧Sl ah c v44 E.1) ?_ ?_)
   ·refine W.seq (bn s fun j3 a2 s=>W.join (Jn i0 fun c l=>Own c G ((Eb k 71 [.slice f0 g0 h0,B e0.Wrap]) :: es true am v15 71 p b.1 :: F)∧l= [(0,v1),(1,I (aE 0 (aB f (a.length:Int)))),(2,I (aE 0 (aB d (a.length:Int)))),(3,I (aB g (w64 ((aE 0 (aB d (a.length:Int))) - (aE 0 (aB f (a.length:Int))))))),(4,B q),(11,I (a.length:Int)),(12,v15),(13,I b.2),(14,Q k),(55,B j3)]) ?_ ?_)
    ·clear s;refine W.region (va (I b.2) (va (I (aE 0 (aB f (a.length:Int)))) (va (B (decide (b.2≥(aE 0 (aB f (a.length:Int)))))) ?_)));rcases bo (decide (b.2≥(aE 0 (aB f (a.length:Int))))) with X | X
     ·have f4:=anT X a2;refine vb X (wa (I b.2) (wa (I (aE 0 (aB d (a.length:Int)))) (wa (B (decide (b.2 < (aE 0 (aB d (a.length:Int)))))) ?_)));obtain rfl:=si f4;exact va (B (decide (b.2 < (aE 0 (aB d (a.length:Int)))))) (wln (jn i0 ⟨m1,rfl⟩))
     obtain rfl:=anF X a2;exact vb X (pz (ps (va (B false) (wln (jn i0 ⟨m1,rfl⟩)))))
    rintro T w_ ⟨j0,p6,_,rfl,g2,rfl,o0,rfl⟩;refine nrm (cn s (fun u4 s=>?_) (fun u4 s=>?_))
    ·refine sr (va (I b.2) (va (I (aB g (w64 ((aE 0 (aB d (a.length:Int))) - (aE 0 (aB f (a.length:Int))))))) (vv (I (w64 (b.2+(aB g (w64 ((aE 0 (aB d (a.length:Int))) - (aE 0 (aB f (a.length:Int))))))))) (wln (bn s fun n M h=>W.seqJ (Jn j0 fun c l=>Own c G ((Eb k 71 [.slice f0 g0 h0,B e0.Wrap]) :: es true am v15 71 p b.1 :: F)∧l= [(0,v1),(1,I (aE 0 (aB f (a.length:Int)))),(2,I (aE 0 (aB d (a.length:Int)))),(3,I (aB g (w64 ((aE 0 (aB d (a.length:Int))) - (aE 0 (aB f (a.length:Int))))))),(4,B q),(11,I (a.length:Int)),(12,v15),(13,I b.2),(14,Q k),(15,I n)]) ?_ ?_)))))
     ·refine sr (va (B q) (va (B (!q)) (wln (cn M (fun v4 M=>?_) (fun v4 M=>?_)))))
      ·refine W.region (va (I b.2) (va (I (aB g (w64 ((aE 0 (aB d (a.length:Int))) - (aE 0 (aB f (a.length:Int))))))) (vv (I (w64 (b.2 - (aB g (w64 ((aE 0 (aB d (a.length:Int))) - (aE 0 (aB f (a.length:Int))))))))) (wln ?_))));obtain rfl:=si M;exact jn j0 ⟨o0,rfl⟩
      refine W.skip (nrm ?_);obtain rfl:=si M;exact jn j0 ⟨o0,rfl⟩
     rintro T w_ ⟨k6,q6,_,rfl,i2,rfl,k4,rfl⟩;refine sr (va (v1) (va (I b.2) (bn h fun h1 b2 h=>?_)));obtain ⟨e6,w4,c5⟩:=Sl.at (U.mono (l6.trans (d1.trans (e1.trans (f2.trans (g2.trans i2)))))) (aT b2);obtain ⟨s6,rfl,x4⟩:=w4;refine vx (ix dX U.m b2) (va (Qo (sb v1) (so v1+b.2.toNat * 2)) (vx (l1 ck (c5 0 _ rfl)) (vx (ln 3 ck x4) (bn h fun c4 c2 h=>me (Own.mkS (kl:= .i64) (kc:= .i64) (R:=ah) (z:= .agg #[I 0,Y]) (lz:=[I 0,Y]) (x:=(⟨0,([]:List Int)⟩:ab)) (by_:=32) (i:=(h1.Cells.length:Int)) (j:=(h1.Cells.length:Int)) true k4 (aM _) c2 (oY _) (rW c2) ck (by kernel_rfl) rfl rfl (fun _=>⟨(Y),rfl,(Sl.nl _ _)⟩) (by kernel_rfl) (by kernel_rfl)) ?_))));rintro t6 m6 a5 ⟨e5,l4,b1⟩;obtain ⟨N,P,S,rfl⟩:=(b1).form;refine va (.agg #[.slice N P S,B false]) (md (sA 71 [.slice N P S,B false] 1 l4 ⟨(b1).one,rfl,trivial⟩) ?_);rintro v0 j2 n1;refine wln (W.seq (bn h fun k3 d2 h=>W.join (Jn v0 fun c l=>Own c G (es true ah (.slice N P S) 101 e5 c4 :: (Eb k 71 [.slice N P S,B false]) :: es true am v15 71 p b.1 :: F)∧l= [(0,v1),(1,I (aE 0 (aB f (a.length:Int)))),(2,I (aE 0 (aB d (a.length:Int)))),(3,I (aB g (w64 ((aE 0 (aB d (a.length:Int))) - (aE 0 (aB f (a.length:Int))))))),(4,B q),(11,I (a.length:Int)),(12,v15),(13,I b.2),(14,Q k),(15,I n),(79,B k3)]) ?_ ?_))
     ·clear h;refine W.region (va (I n) (va (I (aE 0 (aB f (a.length:Int)))) (va (B (decide (n≥(aE 0 (aB f (a.length:Int)))))) ?_)));rcases bo (decide (n≥(aE 0 (aB f (a.length:Int))))) with Z | Z
      ·have g4:=anT Z d2;refine vb Z (wa (I n) (wa (I (aE 0 (aB d (a.length:Int)))) (wa (B (decide (n < (aE 0 (aB d (a.length:Int)))))) ?_)));obtain rfl:=si g4;exact va (B (decide (n < (aE 0 (aB d (a.length:Int)))))) (wln (jn v0 ⟨n1,rfl⟩))
      obtain rfl:=anF Z d2;exact vb Z (pz (ps (va (B false) (wln (jn v0 ⟨n1,rfl⟩)))))
     rintro T w_ ⟨n6,r6,_,rfl,k2,rfl,q1,rfl⟩;refine nrm (cn h (fun y4 h=>?_) (fun y4 h=>?_))
     ·refine W.region (va (v1) (va (I n) (bn h fun d4 e2 h=>?_)));obtain ⟨f6,z4,d5⟩:=Sl.at (U.mono (l6.trans (d1.trans (e1.trans (f2.trans (g2.trans (i2.trans (a5.trans (j2.trans k2))))))))) (aT e2);obtain ⟨u6,rfl,c1⟩:=z4;refine vx (ix dX U.m e2) (vx (lN 71 d5) ?_);obtain ⟨s1,t1,u1,rfl⟩:=(c1).form;refine md (sA 71 [.slice s1 t1 u1,B d4.Wrap] 1 q1 ⟨c1.one,rfl,trivial⟩) ?_;rintro b3 s5 m2;refine wln ?_;obtain rfl:=si h;have n2:=m2.sD 3 [1,2];exact jn b3 ⟨(.slice s1 t1 u1),n2,rfl,c1.m⟩
     refine W.skip (nrm ?_);obtain rfl:=si h;obtain ⟨c3,m3,t5,o2,l3⟩:=q1.frz 0 rfl (b1.mono (j2.trans k2));have q2:=o2.sD 3 [1,2];exact ⟨c3,_,_,m3.symm,pt,us,(.slice N P S),q2,rfl,l3⟩
    refine W.skip (nrm ?_);obtain rfl:=si s;exact jn j0 ⟨(.slice f0 g0 h0),o0,rfl,z0.m⟩
   rintro T w_ ⟨u,o5,_,rfl,u5,rfl,v44,d0,rfl,w0⟩;refine bn e4 fun t o b0=>W.seqJ (Jn u fun c l=>Own c G ((Eb k 71 [v44,B t]) :: es true am v15 71 p b.1 :: F)∧l= [(0,v1),(1,I (aE 0 (aB f (a.length:Int)))),(2,I (aE 0 (aB d (a.length:Int)))),(3,I (aB g (w64 ((aE 0 (aB d (a.length:Int))) - (aE 0 (aB f (a.length:Int))))))),(4,B q),(11,I (a.length:Int)),(12,v15),(13,I b.2),(14,Q k)]) ?_ ?_
   ·refine W.seq (bn o fun i1 x0 o=>W.join (Jn u fun c l=>Own c G ((Eb k 71 [v44,B E.2]) :: es true am v15 71 p b.1 :: F)∧l= [(0,v1),(1,I (aE 0 (aB f (a.length:Int)))),(2,I (aE 0 (aB d (a.length:Int)))),(3,I (aB g (w64 ((aE 0 (aB d (a.length:Int))) - (aE 0 (aB f (a.length:Int))))))),(4,B q),(11,I (a.length:Int)),(12,v15),(13,I b.2),(14,Q k),(97,B i1)]) ?_ ?_)
    ·clear o;refine W.region (va (I b.2) (va (I (w64 (b.2+1))) (va (I (aE 0 (aB f (a.length:Int)))) (va (B ((w64 (b.2+1))==(aE 0 (aB f (a.length:Int))))) ?_))));rcases bo ((w64 (b.2+1))==(aE 0 (aB f (a.length:Int)))) with y | y
     ·obtain rfl:=orT y x0;exact vb y (pz (pz (pz (pz (va (B true) (wln (jn u ⟨d0,rfl⟩)))))))
     have D:=orF y x0;refine vb y (wa (B q) (wa (B (!q)) (wn (bn D fun h5 y0 D=>?_))));rcases bo (!q) with A | A
     ·have l2:=anT A y0;refine vb A (wa (I b.2) (wa (I (w64 (b.2+1))) (wa (I (aE 0 (aB d (a.length:Int)))) (wa (B ((w64 (b.2+1))==(aE 0 (aB d (a.length:Int))))) (wn ?_)))));obtain rfl:=si l2;refine va (B ((w64 (b.2+1))==(aE 0 (aB d (a.length:Int))))) ?_;obtain rfl:=si D;exact va (B ((w64 (b.2+1))==(aE 0 (aB d (a.length:Int))))) (wln (jn u ⟨d0,rfl⟩))
     obtain rfl:=anF A y0;refine vb A (pz (pz (wa (B false) ?_)));obtain rfl:=si D;exact va (B false) (wln (jn u ⟨d0,rfl⟩))
    rintro T w_ ⟨d3,p5,_,rfl,v5,rfl,l0,rfl⟩;refine nrm (cn o (fun n3 o=>?_) (fun n3 o=>?_))
    ·refine W.region (va (Qo k 1) (md (sC 4 1 (B false) [v44,B false] 0 l0 ⟨rfl,trivial⟩) ?_));rintro e3 w5 s2;refine wln ?_;obtain rfl:=si o;exact jn e3 ⟨s2,rfl⟩
    refine W.skip (nrm ?_);obtain rfl:=si o;exact jn d3 ⟨l0,rfl⟩
   rintro T w_ ⟨k5,q5,_,rfl,z3,rfl,m0,rfl⟩;refine W.region (va (v15) (vx (leN 71 0 [v44,B t] (m0.on 0 rfl)) ?_));obtain ⟨q0,s0,t0,rfl⟩:=((w0.mono z3)).form;refine me (sl am 71 [[.slice q0 s0 t0,B t]] ([(⟨E.1,t⟩:ak)]:List ak) m0 ⟨⟨(.slice q0 s0 t0),rfl,w0.m⟩,trivial⟩) ?_;rintro i6 l5 x5 ⟨h6,t2,o3⟩;obtain ⟨m5,s3,y5,u2,q3⟩:=t2.frz 0 rfl o3;refine WL.gh s3 (bn b0 fun i5 t3 b0=>me (ap am (.agg #[Y,B false]) 32 22 2 u2 x1.m q3 t3 dX) ?_);rintro g1 f3 z5 ⟨b4,v2,u3⟩;refine va (g1) (WL.nil (bkn (nrm (W.region (va (I b.2) (vv (I (w64 (b.2+1))) (WL.nil ?_)))))));obtain rfl:=si b0;refine ⟨_,rfl,?_⟩;have w2:=v2.sD 3 [2];exact jn f3 ⟨g1,b4,w2,rfl,u3⟩
  refine W.exit (thx ?_);obtain rfl:=si H;exact ⟨_,rfl,rfl,jn n4 ⟨v15,p,k1,rfl,x1⟩⟩
 ·have v3:OA am c6 (Y) [] []:=OA.nil (aM _);have x2:=O8.addHole (e:=es true am (Y) 71 [] ([]:List ak)) rfl;exact jn c6 ⟨(Y),[],x2,rfl,v3⟩
 rintro _ T w_ ⟨rfl,n5,r5,_,rfl,a6,rfl,v17,f1,y2,rfl,w3⟩;refine bke (nrm (sr (vv (v17) (wln (W.ret ?_)))));obtain rfl:=si j1;obtain ⟨g3,y3,b6,z2,x3⟩:=y2.frz 0 rfl w3;have a3:=z2.sD 1 [];exact Aj y3 (r1 (qq g3 ⟨v17,a3,rfl,x3⟩))
def jq (p0:List Int):Option (List Int):=
 (rep 0 0).bind fun g=>
 (rep (p0.length:Int) 0).bind fun h=>
 (cE (σ:=(List Int)×Int) (τ:=(List Int)) (((p0.length:Int) - 0).toNat+1) (fun a=>
 if (decide (a.2 < (p0.length:Int)))=true then
 (idx p0 a.2).bind fun b=>
 ((eZ b).bind fun d=>
 if (!d)=true then
 some (65533)
 else
 some (b)).bind fun f=>
 (app a.1 ([f]:List Int)).bind fun e=>
 some (.inl (e,(w64 (a.2+1))))
 else
 some (.inr (a.1))) (g,0)).bind fun c=>
 some c
theorem ud (O0:Own c0 G F) (n:List Int) {r:List Int} (p:Sl (RI .i32) c0 v1 n) (H:jq n=some r): Calls prog 245 #[v1] c0.w (aN c0 fun c v=>∃P y2,Own c G (es true (RI .i32) P 21 y2 r :: F)∧v=P∧OA (RI .i32) c P y2 r):=by
 unfold jq at H;refine en func245 rfl rfl (sr (va (Y) (wln (sr (va (v1) (vx (ln 3 dh p) (bn H fun a2 h3 H=>bn H fun c2 h4 H=>me (Own.mkS (kl:= .i64) (kc:= .i64) (R:=(RI .i32)) (z:=J 0) (lz:=[J 0]) (x:=0) (by_:=4) (i:=0) (j:=(n.length:Int)) true O0 (aM _) h3 (FL h4) (rW h4) dh (by kernel_rfl) rfl rfl (fun _=>rfl) (by kernel_rfl) (by kernel_rfl)) ?_)))))));rintro v9 M l8 ⟨u6,O5,h7⟩;refine va (v9) (wln (W.seq (sr (va (v1) (vx (ln 3 dh p.m) (va (I 0) (wln (W.block (bn H fun f1 A q=>lp A (fun a=>Jn M fun c l=>∃v12 f,Own c G (es true (RI .i32) v12 21 f a.1 :: F)∧l= [(3,v12),(9,v1),(10,I (n.length:Int)),(11,I a.2)]∧OA (RI .i32) c v12 f a.1) (fun h ex e w=>ex= .exit 0∧(Jn M fun c l=>∃v14 k,Own c G (es true (RI .i32) v14 21 k h :: F)∧l= [(3,v14)]∧OA (RI .i32) c v14 k h) e w) ?_ ?_ ?_)))))))))
 ·clear q A;intro a b2 f0 x0 H;revert f0 x0;rintro e_ w_ ⟨u,m1,_,rfl,l16,rfl,v12,f,s,rfl,D⟩;refine sr (va (B (decide (a.2 < (n.length:Int)))) (wln (W.seq (cn H (fun g0 H=>?_) (fun g0 H=>?_)))))
  ·refine W.skip (nrm (W.seq (W.block (sr (bn H fun g E H=>?_)))));obtain ⟨e1,h0,u0⟩:=Sl.at (p.mono (l8.trans l16)) (aT E);obtain rfl:=h0;refine vx (ix dh p.m E) (vx (l1 mC (u0 0 _ rfl)) (va (J g) (wln (bn H fun d b o=>W.seqJ (Jn u fun c l=>Own c G (es true (RI .i32) v12 21 f a.1 :: F)∧l= [(3,v12),(5,J d),(9,v1),(10,I (n.length:Int)),(11,I a.2)]) ?_ ?_))))
   ·refine sr (va (J g) (bn b fun N i0 b=>cl (nx s g i0) ?_));rintro v36 y q1 ⟨t,rfl⟩;refine va (B (!N)) (wln (cn b (fun j0 b=>?_) (fun j0 b=>?_)))
    ·refine W.region (va (J 65533) (wln ?_));obtain rfl:=si b;exact jn y ⟨t,rfl⟩
    refine W.skip (nrm ?_);obtain rfl:=si b;exact jn y ⟨t,rfl⟩
   rintro e_ w_ ⟨i1,n1,_,rfl,s1,rfl,S,rfl⟩;refine W.region (va (v12) (va (J d) (me (sl (RI .i32) 21 [[J d]] ([d]:List Int) S ⟨rfl,trivial⟩) ?_)));rintro v48 j1 t1 ⟨z1,T,l0⟩;obtain ⟨k1,o0,u1,U,m0⟩:=T.frz 0 rfl l0;refine WL.gh o0 (bn o fun h1 q0 o=>me (ap (RI .i32) (J 0) 4 27 1 U D.m m0 q0 dh) ?_);rintro v58 b0 w1 ⟨v0,X,s0⟩;refine va (v58) (WL.nil (bkn (nrm (W.region (vv (I (w64 (a.2+1))) (WL.nil ?_))))));obtain rfl:=si o;refine ⟨_,rfl,?_⟩;have Z:=X.sD 2 [1];exact jn b0 ⟨v58,v0,Z,rfl,s0⟩
  refine W.exit (thx ?_);obtain rfl:=si H;exact ⟨_,rfl,rfl,jn u ⟨v12,f,s,rfl,D⟩⟩
 ·exact jn M ⟨v9,u6,O5,rfl,h7⟩
 rintro _ e_ w_ ⟨rfl,d0,p1,_,rfl,x1,rfl,v14,k,a0,rfl,t0⟩;refine bke (nrm (sr (vv (v14) (wln (W.ret ?_)))));obtain rfl:=si q;exact r1 (qq d0 ⟨v14,k,a0,rfl,t0⟩)
def oL (p0:Int) (p1:List Int):Option (List ab):=
 (if (decide (p0≥2))=true then
 (app ([(⟨0,([]:List Int)⟩:ab)]:List ab) ([(⟨0,([]:List Int)⟩:ab)]:List ab)).bind fun e=>
 some (e)
 else
 some (([(⟨0,([]:List Int)⟩:ab)]:List ab))).bind fun c=>
 if ((p1.length:Int)==0)=true then
 some c
 else
 (slc p1 0 (aB (p1.length:Int) 16)).bind fun f=>
 (jq f).bind fun g=>
 (idx c 0).bind fun k=>
 (pb c 0 (⟨1,g⟩:ab)).bind fun a=>
 (if (decide (p0≥2))=true then
 (idx a 0).bind fun h=>
 (pb a 0 (⟨2,h.Text⟩:ab)).bind fun b=>
 (idx b 1).bind fun i=>
 (pb b 1 (⟨3,i.Text⟩:ab)).bind fun d=>
 some (d)
 else
 some (a)).bind fun j=>
 some j
theorem B7 (O0:Own c0 G F) (i:Int) (A:List Int) {r:List ab} (h2:Sl (RI .i32) c0 v1 A) (H:oL i A=some r): Calls prog 200 #[I i,v1] c0.w (aN c0 fun c v=>∃y1 y2,Own c G (es true ah y1 101 y2 r :: F)∧v=y1∧OA ah c y1 y2 r):=by
 unfold oL at H;refine en func200 rfl rfl (sr (va (Y) (wln (sr (va (.agg #[I 0,Y]) (me (sl ah 101 [[I 0,Y]] ([(⟨0,([]:List Int)⟩:ab)]:List ab) O0 ⟨⟨(Y),rfl,(Sl.nl _ _)⟩,trivial⟩) ?_))))));rintro v7 c6 l6 ⟨u4,O3,h5⟩;refine va (v7) (wln (bn H fun a0 h b=>W.seqJ (Jn c6 fun c l=>∃v10 n,Own c G (es true ah v10 101 n a0 :: F)∧l= [(0,I i),(1,v1),(5,v10)]∧OA ah c v10 n a0) ?_ ?_))
 ·refine sr (va (I i) (va (B (decide (i≥2))) (wln (cn h (fun b1 h=>?_) (fun b1 h=>?_)))))
  ·refine W.region (va (v7) (va (.agg #[I 0,Y]) (me (sl ah 101 [[I 0,Y]] ([(⟨0,([]:List Int)⟩:ab)]:List ab) O3 ⟨⟨(Y),rfl,(Sl.nl _ _)⟩,trivial⟩) ?_)));rintro v17 c3 l16 ⟨s3,h0,c1⟩;obtain ⟨d3,e1,j3,i0,d1⟩:=h0.frz 0 rfl c1;refine WL.gh e1 (bn h fun a3 f1 h=>me (ap ah (.agg #[I 0,Y]) 32 69 1 i0 h5.m d1 f1 ck) ?_);rintro v27 w0 k3 ⟨j2,j0,g1⟩;refine va (v27) (wln ?_);obtain rfl:=si h;have k0:=j0.sD 2 [1];exact jn w0 ⟨v27,j2,k0,rfl,g1⟩
  refine W.skip (nrm ?_);obtain rfl:=si h;exact jn c6 ⟨v7,u4,O3,rfl,h5⟩
 rintro e_ w_ ⟨x0,h3,_,rfl,f2,rfl,v10,n,D,rfl,p⟩;refine W.seq (sr (va (v1) (vx (ln 3 dh h2.m) (va (B ((A.length:Int)==0)) (wln (cn b (fun h1 b=>?_) (fun h1 b=>?_)))))))
 ·refine sr (vv (v10) (wln (W.ret (thr ?_))));obtain rfl:=si b;exact r1 (qq x0 ⟨v10,n,D,rfl,p⟩)
 refine W.skip (nrm (sr (va (v10) (vv (v1) (vx (ln 3 dh h2.m) (va (I (aB (A.length:Int) 16)) (bn b fun e0 i1 b=>?_)))))));obtain ⟨v38,j1,k1⟩:=vf (k':= .i64) dh (by kernel_rfl) (h2.mono (l6.trans f2)) i1;refine vr v38 (rx (by kernel_rfl) (j1 _)) (bn b fun s m1 b=>cl (ud D e0 k1 m1) ?_);rintro v42 e3 l3 ⟨_,k2,m0,rfl,N⟩;obtain ⟨e,f,g,rfl⟩:=(N).form;refine va (.agg #[I 1,.slice e f g]) (bn b fun b3 q1 b=>vx (ixO ck p.m q1) ?_);obtain ⟨f3,s1,m3,o0,P⟩:=m0.frz 0 rfl N;refine WL.gh s1 (bn b fun w2 t1 b=>md (Own.stW (R:=ah) (T:=101) (us:=[I 1,.slice e f g]) (x':=(⟨1,s⟩:ab)) (u:= .agg #[I 1,.slice e f g]) 1 o0 (by kernel_rfl) rfl p.m t1 rfl (by kernel_rfl) ⟨rfl,P.one,trivial⟩ rfl ⟨(.slice e f g),rfl,P⟩) ?_);rintro M n3 ⟨l2,E,k⟩;refine wln (bn b fun z a g0=>W.seqJ (Jn M fun c l=>∃d o,Own c G (es true ah d 101 o z :: es false (RI .i32) (.slice e f g) 21 k2 s :: F)∧l= [(5,d)]∧OA ah c d o z) ?_ ?_)
 ·refine sr (va (I i) (va (B (decide (i≥2))) (wln (cn a (fun u1 a=>?_) (fun u1 a=>?_)))))
  ·refine W.region (vv (v10) (bn a fun t S a=>vx (ixO ck k S) (va (Qo (sb v10) ((0:Int).toNat * 2)) ?_)));obtain ⟨s2,w1,g2⟩:=OA.at k S;obtain ⟨X,rfl,x1⟩:=w1;refine bn a fun x2 z1 a=>md (Own.stO (R:=ah) (T:=3) (us:=[I 2]) (x':=(⟨2,t.Text⟩:ab)) (u:=I 2) (x:=(⟨2,t.Text⟩:ab)) (j:=0) (l':=[I 2,X]) 1 E (by kernel_rfl) rfl k z1 g2 rfl (by kernel_rfl) ⟨rfl,trivial⟩ (by kernel_rfl) rfl ⟨X,rfl,x1⟩) ?_;rintro g3 o3 ⟨t3,q0,q⟩;refine bn a fun y U a=>vx (ixO ck q U) (va (Qo (sb v10) ((1:Int).toNat * 2)) ?_);obtain ⟨t2,a2,i2⟩:=OA.at q U;obtain ⟨Z,rfl,b2⟩:=a2;refine bn a fun z2 c2 a=>md (Own.stO (R:=ah) (T:=3) (us:=[I 3]) (x':=(⟨3,y.Text⟩:ab)) (u:=I 3) (x:=(⟨3,y.Text⟩:ab)) (j:=0) (l':=[I 3,Z]) 1 q0 (by kernel_rfl) rfl q c2 i2 rfl (by kernel_rfl) ⟨rfl,trivial⟩ (by kernel_rfl) rfl ⟨Z,rfl,b2⟩) ?_;rintro z0 p3 ⟨m2,s0,d2⟩;refine wln ?_;obtain rfl:=si a;have t0:=s0.sD 2 [1,0];exact jn z0 ⟨v10,m2,t0,rfl,d2⟩
  refine W.skip (nrm ?_);obtain rfl:=si a;have u0:=E.sD 2 [1,0];exact jn M ⟨v10,l2,u0,rfl,k⟩
 rintro e_ w_ ⟨a1,i3,_,rfl,q3,rfl,d,o,v0,rfl,e2⟩;refine sr (vv (d) (wln (W.ret ?_)));obtain rfl:=si g0;have b0:=v0.sD 2 [0];exact r1 (qq a1 ⟨d,o,b0,rfl,e2⟩)
def lf (sg:Sto) (p0:Option Nat) (p1:Int) (p2:Int) (p3:List Int):Option (Sto×Er):=
 (oL p2 p3).bind fun b=>
 (dP sg p0 p1 b).bind fun a=>
 some (a.1,a.2)
theorem vN (u:Own c0 G F) (x:Rel c0 sg G) (hG:Gl [0,4] c0) (d:Option Nat) (a:Int) (b:Int) (e:List Int) {r:Sto×Er} (y:Pt 0 c0 v1 d) (z:Sl (RI .i32) c0 v3 e) (H:lf sg d a b e=some r): Calls prog 129 #[v1,I a,I b,v3] c0.w (aN c0 fun c v=>∃t,∃G_:Gm,Own c G_ (F)∧Rel c r.1 G_∧v=t∧RE 305 179 c t r.2):=by
 unfold lf at H;refine en func129 rfl rfl (sr (va (.nilIface) (wln (sr (va (v1) (va (I a) (va (I b) (va (v3) (bn H fun s A H=>cl (B7 u b e z A) ?_)))))))));rintro v6 E N ⟨_,T,g,rfl,D⟩;obtain ⟨M,o,P,h,n⟩:=g.frz 0 rfl D;refine WL.gh o (bn H fun S p H=>cl (jP h x.m (hG.m.le (by decide)) d a s y.m n p) ?_);rintro v20 l R ⟨_,f,i,k,rfl,q⟩;refine va (v20) (wln (W.ret ?_));obtain rfl:=si H;have j:=i.sD 1 [];exact r1 (qq l ⟨v20,f,j,k,rfl,q⟩)
def oE (sg:Sto) (p0:Option Nat) (p1:Int):Option (Int×nI×Bool):=
 (fY sg p0 p1).bind fun b=>
 ((bI b.2 (some (b.1.Kind==3))).bind fun d=>
 if d=true then
 (fY sg p0 (w64 (p1 - 1))).bind fun c=>
 some ((w64 (p1 - 1)),c.2,c.1.Kind,c.1.Text)
 else
 some (p1,b.2,b.1.Kind,b.1.Text)).bind fun a=>
 (bI a.2.1 (some (a.2.2.1==1))).bind fun e=>
 if e=true then
 some (a.1,(⟨1,a.2.2.2⟩:nI),true)
 else
 (bI a.2.1 (some (a.2.2.1==2))).bind fun f=>
 if f=true then
 some (a.1,(⟨2,a.2.2.2⟩:nI),true)
 else
 some (0,(⟨0,([]:List Int)⟩:nI),false)
theorem B1 (O0:Own c0 G F) (R0:Rel c0 sg G) (p0:Option Nat) (j:Int) {r:Int×nI×Bool} (h2:Pt 0 c0 v1 p0) (H:oE sg p0 j=some r): Calls prog 155 #[v1,I j] c0.w (aN c0 fun c v=>∃y1 y2,Own c G (es true (RI .i32) y1 21 y2 r.2.1.Text :: F)∧v= .tuple #[I r.1,.agg #[I r.2.1.Wide,y1],B r.2.2]∧OA (RI .i32) c y1 y2 r.2.1.Text):=by
 unfold oE at H;refine en func155 rfl rfl (sr (va (I 0) (me (al 197 [I 0,Y] O0) ?_)));rintro v6 c5 l5 ⟨u,rfl,O4⟩;refine va (B false) (wln (sr (va (v1) (va (I j) (bn H fun f h7 H=>cl (qG O4 R0.m p0 j h2.m h7) ?_)))));rintro v16 c3 k3 ⟨v8,u9,k1,rfl,e0⟩;refine va (.tuple #[.agg #[I f.1.Kind,v8],B f.2]) (va (.agg #[I f.1.Kind,v8]) (va (B f.2) (me (al 101 [I 0,Y] k1) ?_)));rintro v20 d3 j2 ⟨b,rfl,m1⟩;obtain ⟨N,P,R,rfl⟩:=((e0.mono j2)).form;refine md (sA 101 [I f.1.Kind,.slice N P R] 0 m1 ⟨rfl,e0.m.one,trivial⟩) ?_;rintro S l3 U;refine va (B f.2) (wln (bn H fun a g d=>W.seqJ (Jn S fun c l=>∃v28 i,Own c G (es true (RI .i32) v28 21 i a.2.2.2 :: (Eb b 101 [I a.2.2.1,v28]) :: (Eb u 197 [I 0,Y]) :: F)∧l= [(1,I a.1),(5,Q u),(6,B a.2.1),(7,Q b)]∧OA (RI .i32) c v28 i a.2.2.2) ?_ ?_))
 ·refine W.seq (bn g fun y0 q0 g=>W.join (Jn S fun c l=>Own c G ((Eb b 101 [I f.1.Kind,.slice N P R]) :: es true (RI .i32) (.slice N P R) 21 u9 f.1.Text :: (Eb u 197 [I 0,Y]) :: F)∧l= [(0,v1),(1,I j),(5,Q u),(6,B f.2),(7,Q b),(19,B y0)]) ?_ ?_)
  ·clear g;refine W.region (va (B f.2) ?_);rcases bo (f.2) with x | x
   ·have h1:=anT x q0;refine vb x (wa (Q b) (wn (vx (le1 0 u_3 (U.on 0 rfl)) (wa (B (f.1.Kind==3)) ?_))));obtain rfl:=si h1;exact va (B (f.1.Kind==3)) (wln (jn S ⟨U,rfl⟩))
   obtain rfl:=anF x q0;exact vb x (pz (ps (va (B false) (wln (jn S ⟨U,rfl⟩)))))
  rintro e_ w_ ⟨x1,g3,_,rfl,m3,rfl,h0,rfl⟩;refine nrm (cn g (fun d2 g=>?_) (fun d2 g=>?_))
  ·refine sr (va (I j) (vv (I (w64 (j - 1))) (wln (W.region (va (v1) (va (I (w64 (j - 1))) (bn g fun h e2 g=>cl (qG h0 R0.m p0 (w64 (j - 1)) h2.m e2) ?_)))))));rintro v49 e3 n3 ⟨v41,q2,n1,rfl,f0⟩;refine va (.tuple #[.agg #[I h.1.Kind,v41],B h.2]) (va (.agg #[I h.1.Kind,v41]) (va (B h.2) ?_));obtain ⟨l0,m0,o0,rfl⟩:=(f0).form;refine md (sA 101 [I h.1.Kind,.slice l0 m0 o0] 1 n1 ⟨rfl,(f0).one,trivial⟩) ?_;rintro z1 o3 q1;refine va (B h.2) (wln ?_);obtain rfl:=si g;have s1:=q1.sD 4 [0,1,3];exact jn z1 ⟨(.slice l0 m0 o0),q2,s1,rfl,f0.m⟩
  refine W.skip (nrm ?_);obtain rfl:=si g;have t1:=h0.sD 3 [1,0,2];exact jn x1 ⟨(.slice N P R),u9,t1,rfl,e0.m⟩
 rintro e_ w_ ⟨a0,h3,_,rfl,p3,rfl,v28,i,X,rfl,k⟩;refine W.seq (W.block (W.seq (bn d fun z0 s0 d=>W.join (Jn a0 fun c l=>Own c G (es true (RI .i32) v28 21 i a.2.2.2 :: (Eb b 101 [I a.2.2.1,v28]) :: (Eb u 197 [I 0,Y]) :: F)∧l= [(1,I a.1),(5,Q u),(6,B a.2.1),(7,Q b),(28,B z0)]) ?_ ?_)))
 ·clear d;refine W.region (va (B a.2.1) ?_);rcases bo (a.2.1) with y | y
  ·have i1:=anT y s0;refine vb y (wa (Q b) (wn (vx (le1 0 u_3 (X.on 1 rfl)) (wa (B (a.2.2.1==1)) ?_))));obtain rfl:=si i1;exact vv (B (a.2.2.1==1)) (wln (jn a0 ⟨X,rfl⟩))
  obtain rfl:=anF y s0;exact vb y (pz (ps (vv (B false) (wln (jn a0 ⟨X,rfl⟩)))))
 rintro e_ w_ ⟨b0,i3,_,rfl,u0,rfl,M,rfl⟩;refine nrm (cn d (fun f2 d=>?_) (fun f2 d=>?_))
 ·refine W.seq (rD [] (Kp G0 [(Eb b 101 [I a.2.2.1,v28])]) M ?_);intro a2 k2 i0;have n2:Kp G0 [(Eb b 101 [I a.2.2.1,v28])] a2:=(Kp.cons (i0.on 1 rfl) Kp.nil0);refine ta 0 (I a.1) (ta 1 (Qo b 1) (tkx 2 n2 (fun c' i2 hk=>le1 1 dh (hk.on 0 rfl)) ?_));obtain ⟨n,o,p,rfl⟩:=((k.mono (u0.trans k2))).form;refine ta 3 (.agg #[I 1,.slice n o p]) (ta 4 (I a.1) (o1 5 (gD 5 (sA 197 [I 1,.slice n o p] 2 i0 ⟨rfl,k.m.one,trivial⟩) ?_)));rintro d0 q3 Z;have o2:Kp G0 [(Eb b 101 [I a.2.2.1,(.slice n o p)])] d0:=(Kp.cons (Z.on 1 rfl) Kp.nil0);refine ⟨.inr o2,ta 6 (B true) (dn (nrm (W.ret (bkr (thr ?_)))))⟩;obtain rfl:=si d;have u1:=Z.sD 3 [0];exact zI (c:=d0) (vs:=[I 1,.slice n o p]) (v:=B true) (v':=I a.1) rfl (by kernel_rfl) (by kernel_rfl) (by kernel_rfl) (by kernel_rfl) (by kernel_rfl) (Z.on 2 rfl _ rfl).1 ⟨_,d0,rfl,rfl,pt,(.slice n o p),i,u1,rfl,k.m⟩
 refine W.seq (bn d fun a1 t0 d=>W.join (Jn b0 fun c l=>Own c G (es true (RI .i32) v28 21 i a.2.2.2 :: (Eb b 101 [I a.2.2.1,v28]) :: (Eb u 197 [I 0,Y]) :: F)∧l= [(1,I a.1),(5,Q u),(7,Q b),(39,B a1)]) ?_ ?_)
 ·clear d;refine W.region (va (B a.2.1) ?_);rcases bo (a.2.1) with z | z
  ·have j1:=anT z t0;refine vb z (wa (Q b) (wn (vx (le1 0 u_3 (M.on 1 rfl)) (wa (B (a.2.2.1==2)) ?_))));obtain rfl:=si j1;exact vv (B (a.2.2.1==2)) (wln (jn b0 ⟨M,rfl⟩))
  obtain rfl:=anF z t0;exact vb z (pz (ps (vv (B false) (wln (jn b0 ⟨M,rfl⟩)))))
 rintro e_ w_ ⟨f3,j3,_,rfl,l2,rfl,j0,rfl⟩;refine nrm (cn d (fun g2 d=>?_) (fun g2 d=>?_))
 ·refine W.seq (rD [] (Kp G0 [(Eb b 101 [I a.2.2.1,v28])]) j0 ?_);intro b2 m2 k0;have p2:Kp G0 [(Eb b 101 [I a.2.2.1,v28])] b2:=(Kp.cons (k0.on 1 rfl) Kp.nil0);refine ta 0 (I a.1) (ta 1 (Qo b 1) (tkx 2 p2 (fun c' i2 hk=>le1 1 dh (hk.on 0 rfl)) ?_));obtain ⟨q,s,t,rfl⟩:=((k.mono (u0.trans (l2.trans m2)))).form;refine ta 3 (.agg #[I 2,.slice q s t]) (ta 4 (I a.1) (o1 5 (gD 5 (sA 197 [I 2,.slice q s t] 2 k0 ⟨rfl,k.m.one,trivial⟩) ?_)));rintro D z2 A;have e1:Kp G0 [(Eb b 101 [I a.2.2.1,(.slice q s t)])] D:=(Kp.cons (A.on 1 rfl) Kp.nil0);refine ⟨.inr e1,ta 6 (B true) (dn (nrm (W.ret (bkr (thr ?_)))))⟩;obtain rfl:=si d;have v0:=A.sD 3 [0];exact zI (c:=D) (vs:=[I 2,.slice q s t]) (v:=B true) (v':=I a.1) rfl (by kernel_rfl) (by kernel_rfl) (by kernel_rfl) (by kernel_rfl) (by kernel_rfl) (A.on 2 rfl _ rfl).1 ⟨_,D,rfl,rfl,pt,(.slice q s t),i,v0,rfl,k.m⟩
 refine W.skip (bkn (nrm (sr (va (.agg #[I 0,Y]) (va (I 0) (md (sA 197 [I 0,Y] 2 j0 ⟨rfl,rfl,trivial⟩) ?_))))));rintro E a3 w0;refine va (B false) (wln (W.ret ?_));obtain rfl:=si d;have c1:OA (RI .i32) E (Y) [] []:=OA.nil (aM _);have T:=w0.addHole (e:=es true (RI .i32) (Y) 21 [] ([]:List Int)) rfl;have x0:=T.sD 4 [0];exact zI (c:=E) (vs:=[I 0,Y]) (v:=B false) (v':=I 0) rfl (by kernel_rfl) (by kernel_rfl) (by kernel_rfl) (by kernel_rfl) (by kernel_rfl) (T.on 3 rfl _ rfl).1 ⟨_,E,rfl,rfl,pt,(Y),[],x0,rfl,c1⟩
def nq (sg:Sto) (p0:Option Nat) (p1:Int) (p2:Int):Option (Sto×Bool):=
 (oE sg p0 p1).bind fun a=>
 (orE (!a.2.2) (some (decide ((a.2.1.Text.length:Int)≥16)))).bind fun c=>
 if c=true then
 some (sg,false)
 else
 (app a.2.1.Text ([p2]:List Int)).bind fun d=>
 (lf sg p0 a.1 a.2.1.Wide d).bind fun b=>
 some (b.1,b.2.isNil)
theorem Af (O0:Own c0 G F) (R:Rel c0 sg G) (hG:Gl [0,4] c0) (q:Option Nat) (s:Int) (h:Int) {r:Sto×Bool} (h2:Pt 0 c0 v1 q) (H:nq sg q s h=some r): Calls prog 85 #[v1,I s,J h] c0.w (aN c0 fun c v=>∃G_:Gm,Own c G_ (F)∧Rel c r.1 G_∧v=B r.2):=by
 unfold nq at H;refine en func85 rfl rfl (sr (va (B false) (wln (sr (va (v1) (va (I s) (bn H fun a h3 H=>cl (B1 O0 R q s h2 h3) ?_)))))));rintro v12 q1 u1 ⟨v4,u5,O8,rfl,p⟩;refine va (.tuple #[I a.1,.agg #[I a.2.1.Wide,v4],B a.2.2]) (va (I a.1) (va (.agg #[I a.2.1.Wide,v4]) (va (B a.2.2) (me (al 197 [I 0,Y] O8) ?_))));rintro v16 s1 a1 ⟨b,rfl,a0⟩;refine va (I a.1) ?_;obtain ⟨d,e,f,rfl⟩:=((p.mono a1)).form;refine md (sA 197 [I a.2.1.Wide,.slice d e f] 0 a0 ⟨rfl,p.m.one,trivial⟩) ?_;rintro j w1 i;refine va (B a.2.2) (wln (W.seq (W.seq (bn H fun S M H=>W.join (Jn j fun c l=>Own c G ((Eb b 197 [I a.2.1.Wide,.slice d e f]) :: es true (RI .i32) (.slice d e f) 21 u5 a.2.1.Text :: F)∧l= [(0,v1),(2,J h),(7,I a.1),(8,Q b),(24,B S)]) ?_ ?_))))
 ·clear H;refine W.region (va (B a.2.2) (va (B (!a.2.2)) ?_));rcases bo (!a.2.2) with g | g
  ·obtain rfl:=orT g M;exact vb g (pz (pz (va (B true) (wln (jn j ⟨i,rfl⟩)))))
  have Z:=orF g M;refine vb g (wa (Qo b 1) (wn (vx (le1 1 dh (i.on 0 rfl)) (wn (vx (lnO 3 dh p.m) (wa (B (decide ((a.2.1.Text.length:Int)≥16))) ?_))))));obtain rfl:=si Z;exact va (B (decide ((a.2.1.Text.length:Int)≥16))) (wln (jn j ⟨i,rfl⟩))
 rintro e_ w_ ⟨g0,t1,_,rfl,x1,rfl,t,rfl⟩;refine nrm (cn H (fun o0 H=>?_) (fun o0 H=>?_))
 ·refine sr (va (B false) (wln (W.ret (thr ?_))));obtain rfl:=si H;have b0:=t.sD 2 [];exact r1 (qq g0 ⟨G,b0,R.m,rfl⟩)
 refine W.skip (nrm (W.seq (rD [] (Kp G0 [(Eb b 197 [I a.2.1.Wide,.slice d e f])]) t ?_)));intro h0 y1 u;have P:Kp G0 [(Eb b 197 [I a.2.1.Wide,.slice d e f])] h0:=(Kp.cons (u.on 0 rfl) Kp.nil0);refine ta 0 (v1) (ta 1 (I a.1) (ta 2 (Q b) (tkx 3 P (fun c' N T=>le1 0 u_3 (T.on 0 rfl)) (ta 4 (Qo b 1) (tkx 5 P (fun c' N T=>le1 1 dh (T.on 0 rfl)) (ta 6 (J h) (o1 7 (gm 7 (sl (RI .i32) 21 [[J h]] ([h]:List Int) u ⟨rfl,trivial⟩) ?_))))))));rintro v40 i0 z1 ⟨c2,x,q0⟩;have d1:Kp G0 [(Eb b 197 [I a.2.1.Wide,.slice d e f])] i0:=(Kp.cons (x.on 1 rfl) Kp.nil0);refine ⟨.inr d1,?_⟩;obtain ⟨j0,t0,b1,y,s0⟩:=x.frz 0 rfl q0;have e1:Kp G0 [(Eb b 197 [I a.2.1.Wide,.slice d e f])] j0:=(Kp.cons (y.on 1 rfl) Kp.nil0);refine AC.gh t0 b1 (fun _=>e1) (bn H fun U u0 H=>o1 8 (gm 8 (ap (RI .i32) (J 0) 4 27 2 y p.m s0 u0 dh) ?_));rintro v52 k0 a2 ⟨d2,z,v0⟩;have f1:Kp G0 [(Eb b 197 [I a.2.1.Wide,.slice d e f])] k0:=(Kp.cons (z.on 1 rfl) Kp.nil0);refine ⟨.inr f1,?_⟩;obtain ⟨l0,x0,c1,A,w0⟩:=z.frz 2 rfl v0;have g1:Kp G0 [(Eb b 197 [I a.2.1.Wide,.slice d e f])] l0:=(Kp.cons (A.on 1 rfl) Kp.nil0);refine AC.gh x0 c1 (fun _=>g1) (bn H fun o y0 H=>o1 9 (gc 9 (vN A R.m (hG.m.le (by decide)) q a.1 a.2.1.Wide U h2.m w0 y0) ?_));rintro v60 E b2 ⟨_,X,D,e0,rfl,z0⟩;have h1:Kp G0 [(Eb b 197 [I a.2.1.Wide,.slice d e f])] E:=(Kp.cons (D.on 1 rfl) Kp.nil0);refine ⟨.inr h1,AC.take 10 (B o.2.isNil) rfl (by kernel_rfl) (by kernel_rfl) (fun c' N=>(by rcases (z0).cs with ⟨k,n⟩ | ⟨b_,k,n⟩ | ⟨b_,k,n⟩ <;> (subst k; rw [n]; kernel_rfl))) (ta 11 (B o.2.isNil) (dn (nrm (W.ret ?_))))⟩;obtain rfl:=si H;have d0:=D.sD 3 [];exact r1 (qq E ⟨X,d0,e0,rfl⟩)
def mt (sg:Sto) (p0:Int) (p1:Int):Option (Sto×(Option Nat)):=
 (some (sg.add_grid_Grid (⟨([]:List (Option Nat))⟩:bF))).bind fun c=>
 (cE (σ:=Int×Sto) (τ:=Sto) (((aE 1 (aB p1 1024)) - 0).toNat+1) (fun a=>
 if (decide (a.1 < (aE 1 (aB p1 1024))))=true then
 (a.2.grid_Grid[sg.grid_Grid.length]?).bind fun f=>
 (kC a.2 p0).bind fun d=>
 (app f.rows ([d.2]:List (Option Nat))).bind fun g=>
 (d.1.set_grid_Grid sg.grid_Grid.length (⟨g⟩:bF)).bind fun b=>
 some (.inl ((w64 (a.1+1)),b))
 else
 some (.inr (a.2))) (0,c)).bind fun e=>
 some (e,(some sg.grid_Grid.length))
theorem vP (O0:Own c0 G F) (R0:Rel c0 sg G) (y:Int) (n:Int) {r:Sto×(Option Nat)} (H:mt sg y n=some r): Calls prog 114 #[I y,I n] c0.w (aN c0 fun c v=>∃y1,∃G_:Gm,Own c G_ (F)∧Rel c r.1 G_∧eJ G G_∧v=y1∧Pt 1 c y1 r.2):=by
 unfold mt at H;refine en func114 rfl rfl (sr (va (.pointer none) (wln (sr (va (.agg #[Y]) ?_)))));have h2:OA (RP 0) c0 (Y) [] []:=OA.nil (aM _);have O1:=O0.addHole (e:=es true (RP 0) (Y) 116 [] ([]:List (Option Nat))) rfl;refine me (al 122 [(Y)] O1) ?_;rintro v6 c5 l5 ⟨a,rfl,O4⟩;have O7:=O4.sD 2 [0,1];refine bn H fun p2 h8 H=>?_;obtain ⟨z,l0,t1,l9,p,q0,U,k3,u1,a16⟩:=Rel.new_grid_Grid (E:=[(Eb a 122 [(Y)]),es true (RP 0) (Y) 116 [] ([]:List (Option Nat))]) (F:=F) (x:=(⟨([]:List (Option Nat))⟩:bF)) (b:=a) O7 (R0.mono l5) (fun c_ hle_=>⟨a,(Y),[],rfl,rfl,((h2.mono l5).mono hle_)⟩);rw [be h8] at U;refine WL.gh t1.1 ?_;have v1:=eJ.nil (eJ.refl _) u1;have c1:=(eJ.refl _).trans a16;have w1:Pt 1 z (Q a) (some sg.grid_Grid.length):=⟨a,rfl,p⟩;refine va (Q a) (wln (W.seq (sr (va (I n) (va (I (aB n 1024)) (va (I (aE 1 (aB n 1024))) (va (I 0) (wln (W.block (bn H fun d3 a0 D=>lp a0 (fun d=>Jn z fun c l=>∃G_,Own c G_ (F)∧l= [(0,I y),(5,Q a),(10,I (aE 1 (aB n 1024))),(11,I d.1)]∧Rel c d.2 G_∧eJ G G_) (fun A ex e w=>ex= .exit 0∧(Jn z fun c l=>∃G_,Own c G_ (F)∧l= [(5,Q a)]∧Rel c A G_∧eJ G G_) e w) ?_ ?_ ?_))))))))))
 ·clear D a0;intro d s3 s1 q2 H;revert s1 q2;rintro e_ w_ ⟨h1,i3,_,rfl,i2,rfl,f,M,rfl,o,X⟩;refine sr (va (B (decide (d.1 < (aE 1 (aB n 1024))))) (wln (W.seq (cn H (fun x1 H=>?_) (fun x1 H=>?_)))))
  ·refine W.skip (nrm (W.seq (W.block (rD [8,11] (Kp f []) M ?_))));intro i1 e0 N;have l2:Kp f [] i1:=(Kp.nil N);refine ta 0 (Q a) (ta 1 (Q a) (ta 2 (Q a) (ta 3 (Q a) (bn H fun e3 z1 H=>?_))));obtain ⟨v35,o3,b0,a2⟩:=Rel.open_grid_Grid (o.mono e0) z1 (tm p);refine tkx 4 l2 (fun c' m3 hk=>le1 0 mf (hk.gon b0 0 rfl)) (ta 5 (I y) (bn H fun i0 b2 H=>o1 6 (gc 6 (ue N o.m y b2) ?_)));rintro v40 j1 j2 ⟨_,g3,P,z0,k,rfl,d0⟩;have d1:=X.trans k;have m2:Kp f [] j1:=(Kp.adds P k);refine ⟨.inr m2,?_⟩;obtain ⟨Z,rfl⟩:=(d0).form;refine o1 7 (gm 7 (sl (RP 0) 116 [[.pointer Z]] ([i0.2]:List (Option Nat)) P ⟨⟨(.pointer Z),rfl,d0⟩,trivial⟩) ?_);rintro v55 k1 f0 ⟨p3,R,c2⟩;have n2:Kp f [] k1:=(Kp.adds R k);refine ⟨.inr n2,?_⟩;obtain ⟨m1,e2,s,S,d2⟩:=R.frz 0 rfl c2;have o2:Kp f [] m1:=(Kp.adds S k);refine AC.gh e2 s (fun _=>o2) (bn H fun j0 f2 H=>?_);have s0:=S.borrow 1 (k.get b0) rfl;refine o1 8 (gm 8 (ap (RP 0) (.pointer none) 8 120 0 s0 a2.m d2 f2 mf) ?_);rintro q3 h3 g0 ⟨h0,t0,q⟩;have u0:=t0.giveB 1 rfl;refine ⟨.inl rfl,ta 9 (Q a) (ta 10 (Q a) ?_)⟩;obtain ⟨g,h,i,rfl⟩:=(q).form;refine o1 11 (gD 11 (Own.stGB (T:=120) (j:=0) (us:=[.slice g h i]) (nw:=[.slice g h i]) (v:= .slice g h i) 0 u0 (by kernel_rfl) rfl rfl rfl rfl (by kernel_rfl) ⟨(q).one,trivial⟩ (by kernel_rfl) rfl) ?_);rintro n1 u v0;refine bn H fun k0 g2 H=>?_;obtain ⟨m0,w0,a1,l3,e1⟩:=Rel.put_grid_Grid v0 (z0.mono (f0.trans (s.trans (g0.trans u)))) (E':=[(Eb a 122 [.slice g h i]),es true (RP 0) (.slice g h i) 116 h0 j0]) g2 ⟨a,(.slice g h i),h0,((i2.trans (e0.trans (j2.trans (f0.trans (s.trans (g0.trans u)))))).t _ _ _ p),rfl,(q.mono u)⟩;have f1:=e1 _ d1 v1;refine ⟨.inl rfl,dn (bkn (nrm (W.region (vv (I (w64 (d.1+1))) (WL.nil ?_)))))⟩;obtain rfl:=si H;refine ⟨_,rfl,?_⟩;have x0:=w0.sD 1 [];exact jn n1 ⟨m0,x0,rfl,a1,f1⟩
  refine W.exit (thx ?_);obtain rfl:=si H;exact ⟨_,rfl,rfl,jn h1 ⟨f,M,rfl,o,X⟩⟩
 ·exact jn z ⟨l0,q0,rfl,U,c1⟩
 rintro _ e_ w_ ⟨rfl,q1,j3,_,rfl,n3,rfl,o0,y0,rfl,b1,g1⟩;refine bke (nrm (sr (vv (Q a) (wln (W.ret ?_)))));obtain rfl:=si D;exact r1 (qq q1 ⟨(Q a),o0,y0,b1,g1,rfl,w1.m⟩)
def mF (sg:Sto) (p0:Int) (p1:Int):Option (Sto×(Option Nat)):=
 (mt sg p0 p1).bind fun b=>
 (some (b.1.add_place_Pen (⟨b.2,(⟨0,0,false⟩:ai),true⟩:bi))).bind fun a=>
 some (a,(some b.1.place_Pen.length))
theorem zf (N:Own c0 G F) (R:Rel c0 sg G) (e:Int) (f:Int) {r:Sto×(Option Nat)} (H:mF sg e f=some r): Calls prog 45 #[I e,I f] c0.w (aN c0 fun c v=>∃M,∃G_:Gm,Own c G_ (F)∧Rel c r.1 G_∧eJ G G_∧v=M∧Pt 2 c M r.2):=by
 unfold mF at H;refine en func45 rfl rfl (sr (va (.pointer none) (wln (sr (va (I e) (va (I f) (bn H fun k U H=>cl (vP N R e f U) ?_)))))));rintro v2 c8 l8 ⟨_,G4,P,S,T,rfl,z⟩;have h:=(eJ.refl _).trans T;obtain ⟨d,rfl⟩:=(z).form;refine va (.agg #[.pointer d,I 0,I 0,B false,B true]) (me (al 42 [.pointer d,I 0,I 0,B false,B true] P) ?_);rintro v15 X j ⟨a,rfl,m⟩;have n:=m.sD 1 [0];refine bn H fun D s H=>?_;obtain ⟨i,l,t,b0,u,o,g,Z,y,p⟩:=Rel.new_place_Pen (E:=[(Eb a 42 [.pointer d,I 0,I 0,B false,B true])]) (F:=F) (x:=(⟨k.2,(⟨0,0,false⟩:ai),true⟩:bi)) (b:=a) n (S.mono j) (fun c_ hle_=>⟨a,(.pointer d),rfl,rfl,(z.mono (j.trans hle_))⟩);rw [be s] at g;refine WL.gh t.1 ?_;have a0:=eJ.nil h y;have q:=h.trans p;have A:Pt 2 i (Q a) (some k.1.place_Pen.length):=⟨a,rfl,u⟩;refine va (Q a) (wln (W.ret ?_));obtain rfl:=si H;exact r1 (qq i ⟨(Q a),l,o,g,q,rfl,A⟩)
def gA (p0:Int) (p1:Int):Option (List ak):=
 (cE (σ:=(List ak)×Int) (τ:=(List ak)) ((p1 - 0).toNat+1) (fun a=>
 if (decide (a.2 < p1))=true then
 (rep p0 (⟨0,([]:List Int)⟩:ab)).bind fun b=>
 (app a.1 ([(⟨b,false⟩:ak)]:List ak)).bind fun c=>
 some (.inl (c,(w64 (a.2+1))))
 else
 some (.inr (a.1))) (([]:List ak),0)).bind fun d=>
 some d
theorem rt (O0:Own c0 G F) (b:Int) (k:Int) {r:List ak} (H:gA b k=some r): Calls prog 115 #[I b,I k] c0.w (aN c0 fun c v=>∃u y2,Own c G (es true am u 71 y2 r :: F)∧v=u∧OA am c u y2 r):=by
 unfold gA at H;refine en func115 rfl rfl (sr (va (Y) (wln (sr (va (Y) (wln (W.seq (sr (va (I 0) (wln (W.block (bn H fun k1 h1 y=>lp h1 (fun a=>Jn c0 fun c l=>∃v3 n,Own c G (es true am v3 71 n a.1 :: F)∧l= [(0,I b),(1,I k),(5,v3),(6,I a.2)]∧OA am c v3 n a.1) (fun h ex e w=>ex= .exit 0∧(Jn c0 fun c l=>∃v5 o,Own c G (es true am v5 71 o h :: F)∧l= [(5,v5)]∧OA am c v5 o h) e w) ?_ ?_ ?_))))))))))))
 ·clear y h1;intro a q1 a0 q0 H;revert a0 q0;rintro e_ w_ ⟨c7,g8,_,rfl,l7,rfl,v3,n,U,rfl,p⟩;refine W.seq (sr (va (I a.2) (va (I k) (va (B (decide (a.2 < k))) (wln (cn H (fun d0 H=>?_) (fun d0 H=>?_)))))))
  ·refine W.skip (nrm (W.seq (W.block (W.region (va (v3) (va (I b) (bn H fun t q H=>me (Own.mkS (kl:= .i64) (kc:= .i64) (R:=ah) (z:= .agg #[I 0,Y]) (lz:=[I 0,Y]) (x:=(⟨0,([]:List Int)⟩:ab)) (by_:=32) (i:=b) (j:=b) true U (aM _) q (oY _) (rW q) ck (by kernel_rfl) rfl rfl (fun _=>⟨(Y),rfl,(Sl.nl _ _)⟩) (by kernel_rfl) (by kernel_rfl)) ?_)))))));rintro v20 y0 d1 ⟨m1,A,s⟩;obtain ⟨d,f,g,rfl⟩:=(s).form;refine va (.agg #[.slice d f g,B false]) ?_;obtain ⟨z0,f0,e1,D,e0⟩:=A.frz 0 rfl s;refine WL.gh f0 (me (sl am 71 [[.slice d f g,B false]] ([(⟨t,false⟩:ak)]:List ak) D ⟨⟨(.slice d f g),rfl,e0⟩,trivial⟩) ?_);rintro v32 a1 f1 ⟨n1,E,g0⟩;obtain ⟨b1,i0,g1,M,h0⟩:=E.frz 0 rfl g0;refine WL.gh i0 (bn H fun x0 j0 H=>me (ap am (.agg #[Y,B false]) 32 22 2 M p.m h0 j0 dX) ?_);rintro v42 X i1 ⟨o0,N,k0⟩;refine va (v42) (WL.nil (bkn (nrm (W.region (va (I a.2) (vv (I (w64 (a.2+1))) (WL.nil ?_)))))));obtain rfl:=si H;refine ⟨_,rfl,?_⟩;have P:=N.sD 3 [2];exact jn X ⟨v42,o0,P,rfl,k0⟩
  refine W.exit (thx ?_);obtain rfl:=si H;exact ⟨_,rfl,rfl,jn c7 ⟨v3,n,U,rfl,p⟩⟩
 ·have l0:OA am c0 (Y) [] []:=OA.nil (aM _);have S:=O0.addHole (e:=es true am (Y) 71 [] ([]:List ak)) rfl;exact jn c0 ⟨(Y),[],S,rfl,l0⟩
 rintro _ e_ w_ ⟨rfl,Z,c1,_,rfl,j1,rfl,v5,o,T,rfl,m0⟩;refine bke (nrm (sr (vv (v5) (wln (W.ret ?_)))));obtain rfl:=si y;exact r1 (qq Z ⟨v5,o,T,rfl,m0⟩)
def gy (p0:Int) (p1:Int):Option (aa):=
 (gA p0 p1).bind fun a=>
 some (⟨a,(⟨0,0,false⟩:ai),true⟩:aa)
theorem rq (n:Own c0 G F) (d:Int) (e:Int) {r:aa} (H:gy d e=some r): Calls prog 46 #[I d,I e] c0.w (aN c0 fun c v=>∃i l,Own c G (es true am i 71 l r.L :: F)∧v= .agg #[i,I r.At.Row,I r.At.Col,B r.At.Pending,B r.Auto]∧OA am c i l r.L):=by
 unfold gy at H;refine en func46 rfl rfl (sr (me (al 43 [Y,I 0,I 0,B false,B false] n) ?_));rintro v4 z A ⟨y,rfl,o⟩;refine wln (sr (va (I d) (va (I e) (bn H fun x p H=>cl (rt o d e p) ?_))));rintro v6 s t ⟨_,q,j,rfl,h⟩;obtain ⟨a,a16,b,rfl⟩:=(h).form;refine va (.agg #[.slice a a16 b,I 0,I 0,B false,B true]) (md (sA 43 [.slice a a16 b,I 0,I 0,B false,B true] 1 j ⟨(h).one,rfl,rfl,rfl,rfl,trivial⟩) ?_);rintro g u f;refine wln (W.ret ?_);obtain rfl:=si H;have k:=f.sD 2 [0];exact jZ (c:=g) (vs:=[.slice a a16 b,I 0,I 0,B false,B true]) rfl (by kernel_rfl) (by kernel_rfl) (by kernel_rfl) (f.on 1 rfl _ rfl).1 ⟨_,g,rfl,rfl,pt,(.slice a a16 b),q,k,rfl,h.m⟩
def gP (p0:Int):Option (Int):=
 some (aE 1 (aB p0 1024))
theorem mB (b:Own c0 G F) (a:Int) {r:Int} (H:gP a=some r): Calls prog 168 #[I a] c0.w (aN c0 fun c v=>Own c G (F)∧v=I r):=by
 unfold gP at H;refine en func168 rfl rfl (sr (va (I 0) (wln (sr (va (I a) (va (I (aB a 1024)) (vv (I (aE 1 (aB a 1024))) (wln (W.ret ?_)))))))));obtain rfl:=si H;exact r1 (qq c0 ⟨b,rfl⟩)
def kS (p0:Int) (p1:Int):Option (Int):=
 some (aE 0 (aB p0 (w64 (p1 - 1))))
theorem rP (d:Own c0 G F) (b:Int) (a:Int) {r:Int} (H:kS b a=some r): Calls prog 169 #[I b,I a] c0.w (aN c0 fun c v=>Own c G (F)∧v=I r):=by
 unfold kS at H;refine en func169 rfl rfl (sr (va (I 0) (wln (sr (va (I b) (va (I a) (va (I (w64 (a - 1))) (va (I (aB b (w64 (a - 1)))) (vv (I (aE 0 (aB b (w64 (a - 1))))) (wln (W.ret ?_)))))))))));obtain rfl:=si H;exact r1 (qq c0 ⟨d,rfl⟩)
def fU (p0:ai) (p1:Int) (p2:Int):Option (ai):=
 (gP p1).bind fun a=>
 (gP p2).bind fun e=>
 (kS p0.Row e).bind fun c=>
 (kS p0.Col a).bind fun d=>
 (bI p0.Pending (some (p0.Col==(w64 (a - 1))))).bind fun b=>
 some (⟨c,d,b⟩:ai)
theorem ez (O0:Own c0 G F) (a:ai) (n:Int) (o:Int) {r:ai} (H:fU a n o=some r): Calls prog 100 #[.agg #[I a.Row,I a.Col,B a.Pending],I n,I o] c0.w (aN c0 fun c v=>Own c G (F)∧v= .agg #[I r.Row,I r.Col,B r.Pending]):=by
 unfold fU at H;refine en func100 rfl rfl (sr (me (bx 24 [I a.Row,I a.Col,B a.Pending] O0) ?_));rintro v5 c4 l4 ⟨k,rfl,O2,m⟩;refine me (al 24 [I 0,I 0,B false] O2) ?_;rintro v9 c8 l8 ⟨R,rfl,O7⟩;refine wln (sr (va (I n) (bn H fun b Z H=>cl (mB O7 n Z) ?_)));rintro v16 l0 o0 ⟨z,rfl⟩;refine va (I o) (bn H fun j a0 H=>cl (mB z o a0) ?_);rintro v23 S q0 ⟨A,rfl⟩;refine va (I b) (va (I j) (wln (W.seq (bn H fun d b0 H=>bn H fun e d0 H=>bn H fun i x H=>W.join (Jn S fun c l=>Own c G ((Eb R 24 [I d,I e,B i]) :: F)∧l= [(6,Q R)]) ?_ ?_))))
 ·clear H;refine rD [] (Kp G0 []) A ?_;intro T s0 D;have y0:Kp G0 [] T:=Kp.nil0;refine ta 0 (Q k) (tx 1 (fun h g=>l1 u_3 ((mm m) 0 _ rfl)) (ta 2 (I j) (ta 4 (Qo k (0+1)) (tx 5 (fun h g=>l1 u_3 ((mm m) 1 _ rfl)) (ta 6 (I b) (ta 8 (Qo k (0+2)) (tx 9 (fun h g=>l1 u_4 ((mm m) 2 _ rfl)) (o1 3 (gc 3 (rP D a.Row j b0) ?_)))))))));rintro v35 U t0 ⟨E,rfl⟩;have e0:Kp G0 [] U:=Kp.nil0;refine ⟨.inr e0,o1 7 (gc 7 (rP E a.Col b d0) ?_)⟩;rintro v42 X u0 ⟨p,rfl⟩;have f0:Kp G0 [] X:=Kp.nil0;refine ⟨.inr f0,?_⟩;rcases bo (a.Pending) with f | f
  ·have y:=anT f x;refine AC.takeb 10 f rfl (by kernel_rfl) (by kernel_rfl) (fun h g=>(by kernel_rfl)) (ta 11 (Qo k (0+1)) (tx 12 (fun h g=>l1 u_3 ((mm m) 1 _ rfl)) (ta 13 (I b) (ta 14 (I (w64 (b - 1))) (ta 15 (B (a.Col==(w64 (b - 1)))) ?_)))));obtain rfl:=si y;refine ta 16 (B (a.Col==(w64 (b - 1)))) (ta 17 (.agg #[I d,I e,B (a.Col==(w64 (b - 1)))]) (o1 18 (gD 18 (sA 24 [I d,I e,B (a.Col==(w64 (b - 1)))] 0 p ⟨rfl,rfl,rfl,trivial⟩) ?_)));rintro s v0 M;have g0:Kp G0 [] s:=Kp.nil0;exact ⟨.inr g0,dn (nrm (jn s ⟨M,rfl⟩))⟩
  obtain rfl:=anF f x;refine AC.takeb 10 f rfl (by kernel_rfl) (by kernel_rfl) (fun h g=>(by kernel_rfl)) (tp 11 (tp 12 (tp 13 (tp 14 (tp 15 (ta 16 (B false) (ta 17 (.agg #[I d,I e,B false]) (o1 18 (gD 18 (sA 24 [I d,I e,B false] 0 p ⟨rfl,rfl,rfl,trivial⟩) ?_)))))))));rintro t w0 N;have h0:Kp G0 [] t:=Kp.nil0;exact ⟨.inr h0,dn (nrm (jn t ⟨N,rfl⟩))⟩
 rintro e_ w_ ⟨u,m0,_,rfl,x0,rfl,q,rfl⟩;refine nrm (W.ret ?_);obtain rfl:=si H;have P:=q.sD 1 [];exact jZ (c:=u) (vs:=[I d,I e,B i]) rfl (by kernel_rfl) (by kernel_rfl) (by kernel_rfl) (q.on 0 rfl _ rfl).1 ⟨_,u,rfl,rfl,pt,P,rfl⟩
def gn (sg:Sto) (p0:Option Nat):Option (Sto×Bool):=
 (orE p0.isNone ((p0).bind fun i=>
 (sg.place_Pen[i]?).bind fun d=>
 some d.G.isNone)).bind fun h=>
 if h=true then
 some (sg,false)
 else
 (p0).bind fun c=>
 (sg.place_Pen[c]?).bind fun a=>
 (cg sg a.G).bind fun e=>
 (bO sg a.G).bind fun f=>
 (fU a.At e f).bind fun g=>
 (sg.set_place_Pen c (⟨a.G,g,a.Auto⟩:bi)).bind fun b=>
 some (b,true)
theorem nO (S:Own c0 G F) (h:Rel c0 sg G) (t:Option Nat) {r:Sto×Bool} (T:Pt 2 c0 v1 t) (H:gn sg t=some r): Calls prog 127 #[v1] c0.w (aN c0 fun c v=>∃G_:Gm,Own c G_ (F)∧Rel c r.1 G_∧v=B r.2):=by
 unfold gn at H;refine en func127 rfl rfl (sr (va (B false) (wln (W.seq (W.seq (bn H fun o0 h3 H=>W.join (Jn c0 fun c l=>Own c G (F)∧l= [(0,v1),(11,B o0)]) ?_ ?_))))))
 ·clear H;refine W.region (va (v1) (vr (B t.isNone) (by rcases (T).cs with ⟨e,f⟩ | ⟨b_,e,f⟩ <;> (subst e; rw [f]; kernel_rfl)) ?_));rcases bo (t.isNone) with k | k
  ·obtain rfl:=orT k h3;exact vb k (pz (pz (ps (va (B true) (wln (jn c0 ⟨S,rfl⟩))))))
  have i:=orF k h3;refine vb k (wa (v1) (wn (bn i fun n1 h8 i=>?_)));obtain ⟨b6,rfl,h7⟩:=(T).get h8;refine va (Q b6) (wa (Q b6) (wn (bn i fun q h9 i=>?_)));obtain ⟨v10,s0,q0⟩:=Rel.open_place_Pen h h9 h7;refine vx (le1 0 jA (S.gon s0 0 rfl)) (wn (vr (B q.G.isNone) (by rcases (q0).cs with ⟨e,f⟩ | ⟨b_,e,f⟩ <;> (subst e; rw [f]; kernel_rfl)) ?_));obtain rfl:=si i;exact va (B q.G.isNone) (wln (jn c0 ⟨S,rfl⟩))
 rintro e_ w_ ⟨h0,k1,_,rfl,o,rfl,u,rfl⟩;refine nrm (cn H (fun t0 H=>?_) (fun t0 H=>?_))
 ·refine sr (va (B false) (wln (W.ret (thr ?_))));obtain rfl:=si H;exact r1 (qq h0 ⟨G,u,h.m,rfl⟩)
 refine W.skip (nrm (W.seq (rD [18] (Kp G []) u ?_)));intro i0 p x;have s:Kp G [] i0:=(Kp.nil x);refine ta 0 (v1) (ta 1 (v1) (bn H fun i1 u0 H=>?_));obtain ⟨b,rfl,D⟩:=((T.mono (o.trans p))).get u0;refine ta 2 (Q b) (ta 3 (Qo b 1) (bn H fun d v0 H=>?_));obtain ⟨v27,g,j⟩:=Rel.open_place_Pen (h.mono (o.trans p)) v0 D;refine tkx 4 s (fun c' E n=>leN 24 1 [I d.At.Row,I d.At.Col,B d.At.Pending] (n.gon g 0 rfl)) (ta 5 (Q b) (ta 6 (Q b) (ta 7 (Q b) (tkx 8 s (fun c' E n=>le1 0 jA (n.gon g 0 rfl)) (ta 10 (Q b) (ta 11 (Q b) (ta 12 (Q b) (tkx 13 s (fun c' E n=>le1 0 jA (n.gon g 0 rfl)) (bn H fun U x0 H=>o1 9 (gc 9 (cF x h.m d.G j x0) ?_))))))))));rintro v36 j0 M ⟨y,rfl⟩;have b1:Kp G [] j0:=(Kp.nil y);refine ⟨.inr b1,bn H fun X y0 H=>o1 14 (gc 14 (bJ y h.m d.G j.m y0) ?_)⟩;rintro v44 k0 N ⟨z,rfl⟩;have c1:Kp G [] k0:=(Kp.nil z);refine ⟨.inr c1,bn H fun a z0 H=>o1 15 (gc 15 (ez z d.At U X z0) ?_)⟩;rintro v52 l0 P ⟨A,rfl⟩;have d1:Kp G [] l0:=(Kp.nil A);refine ⟨.inr d1,ta 16 (Q b) (ta 17 (Qo b 1) (o1 18 (gD 18 (gB 24 1 [I a.Row,I a.Col,B a.Pending] [v27,I a.Row,I a.Col,B a.Pending,B d.Auto] 0 A g ⟨rfl,rfl,rfl,trivial⟩) ?_)))⟩;rintro m0 R b0;refine bn H fun Z a1 H=>?_;obtain ⟨a0,d0,e0,m1,j1⟩:=Rel.put_place_Pen b0 (h.mono (o.trans (p.trans (M.trans (N.trans (P.trans R)))))) (E':=[(Eb b 42 [v27,I a.Row,I a.Col,B a.Pending,B d.Auto])]) a1 ⟨b,v27,(tm D),rfl,(j.mono (M.trans (N.trans (P.trans R))))⟩;refine ⟨.inl rfl,dn (nrm (sr (va (B true) (wln (W.ret ?_)))))⟩;obtain rfl:=si H;exact r1 (qq m0 ⟨a0,d0,e0,rfl⟩)
def dp (p0:ai):Option (ai):=
 some (⟨p0.Row,0,false⟩:ai)
theorem jQ (f:Own c0 G F) (a:ai) {r:ai} (H:dp a=some r): Calls prog 172 #[.agg #[I a.Row,I a.Col,B a.Pending]] c0.w (aN c0 fun c v=>Own c G (F)∧v= .agg #[I r.Row,I r.Col,B r.Pending]):=by
 unfold dp at H;refine en func172 rfl rfl (sr (me (bx 24 [I a.Row,I a.Col,B a.Pending] f) ?_));rintro v5 m o ⟨i,rfl,g,j⟩;refine me (al 24 [I 0,I 0,B false] g) ?_;rintro v9 n p ⟨l,rfl,h⟩;refine wln (sr (va (Q i) (vx (l1 u_3 ((mm j) 0 _ rfl)) (va (.agg #[I a.Row,I 0,B false]) (md (sA 24 [I a.Row,I 0,B false] 0 h ⟨rfl,rfl,rfl,trivial⟩) ?_)))));rintro d k b;refine wln (W.ret ?_);obtain rfl:=si H;have e:=b.sD 1 [];exact jZ (c:=d) (vs:=[I a.Row,I 0,B false]) rfl (by kernel_rfl) (by kernel_rfl) (by kernel_rfl) (b.on 0 rfl _ rfl).1 ⟨_,d,rfl,rfl,pt,e,rfl⟩
def my (p0:ai) (p1:Int):Option (ai×Bool):=
 (gP p1).bind fun a=>
 if (decide (p0.Row≥(w64 (a - 1))))=true then
 some ((⟨p0.Row,p0.Col,false⟩:ai),true)
 else
 some ((⟨(w64 (p0.Row+1)),p0.Col,false⟩:ai),false)
theorem oh (x:Own c0 G F) (a:ai) (f:Int) {r:ai×Bool} (H:my a f=some r): Calls prog 251 #[.agg #[I a.Row,I a.Col,B a.Pending],I f] c0.w (aN c0 fun c v=>Own c G (F)∧v= .tuple #[.agg #[I r.1.Row,I r.1.Col,B r.1.Pending],B r.2]):=by
 unfold my at H;refine en func251 rfl rfl (sr (me (al 24 [I a.Row,I a.Col,B a.Pending] x) ?_));rintro v4 c3 l3 ⟨d,rfl,y⟩;refine me (al 24 [I 0,I 0,B false] y) ?_;rintro v8 c7 l7 ⟨Z,rfl,z⟩;refine va (B false) (wln (sr (va (Qo d 2) (md (sC 4 2 (B false) [I a.Row,I a.Col,B false] 1 z ⟨rfl,trivial⟩) ?_))));rintro E P A;refine wln (W.seq (W.seq (rD [] (Kp G0 [(Eb d 24 [I a.Row,I a.Col,B false])]) A ?_)));intro o R g;have t:Kp G0 [(Eb d 24 [I a.Row,I a.Col,B false])] o:=(Kp.cons (g.on 1 rfl) Kp.nil0);refine ta 0 (Q d) (tkx 1 t (fun c' N D=>le1 0 u_3 (D.on 0 rfl)) (ta 2 (I f) (bn H fun e q H=>o1 3 (gc 3 (mB g f q) ?_))));rintro v20 p S ⟨b,rfl⟩;have u:Kp G0 [(Eb d 24 [I a.Row,I a.Col,B false])] p:=(Kp.cons (b.on 1 rfl) Kp.nil0);refine ⟨.inr u,ta 4 (I (w64 (e - 1))) (ta 5 (B (decide (a.Row≥(w64 (e - 1))))) (dn (nrm (cn H (fun s H=>?_) (fun s H=>?_)))))⟩
 ·refine sr (vx (leN 24 0 [I a.Row,I a.Col,B false] (b.on 1 rfl)) (md (sA 24 [I a.Row,I a.Col,B false] 0 b ⟨rfl,rfl,rfl,trivial⟩) ?_));rintro k T h;refine va (B true) (wln (W.ret (thr ?_)));obtain rfl:=si H;have m:=h.sD 2 [];exact rJ (c:=k) (vs:=[I a.Row,I a.Col,B false]) (v:=B true) rfl (by kernel_rfl) (by kernel_rfl) (by kernel_rfl) (by kernel_rfl) (h.on 0 rfl _ rfl).1 ⟨_,k,rfl,rfl,pt,m,rfl⟩
 refine W.skip (nrm (sr (va (Q d) (vx (le1 0 u_3 (b.on 1 rfl)) (va (I (w64 (a.Row+1))) (va (Q d) (md (sC 3 0 (I (w64 (a.Row+1))) [I (w64 (a.Row+1)),I a.Col,B false] 1 b ⟨rfl,trivial⟩) ?_)))))));rintro M U i;refine wln (sr (vx (leN 24 0 [I (w64 (a.Row+1)),I a.Col,B false] (i.on 1 rfl)) (md (sA 24 [I (w64 (a.Row+1)),I a.Col,B false] 0 i ⟨rfl,rfl,rfl,trivial⟩) ?_)));rintro l X j;refine va (B false) (wln (W.ret ?_));obtain rfl:=si H;have n:=j.sD 2 [];exact rJ (c:=l) (vs:=[I (w64 (a.Row+1)),I a.Col,B false]) (v:=B false) rfl (by kernel_rfl) (by kernel_rfl) (by kernel_rfl) (by kernel_rfl) (j.on 0 rfl _ rfl).1 ⟨_,l,rfl,rfl,pt,n,rfl⟩
def fj (sg:Sto) (p0:Option Nat):Option (Sto):=
 (gn sg p0).bind fun b=>
 if (!b.2)=true then
 some b.1
 else
 (p0).bind fun j=>
 (b.1.place_Pen[j]?).bind fun f=>
 (bO b.1 f.G).bind fun g=>
 (my f.At g).bind fun e=>
 (p0).bind fun d=>
 (b.1.place_Pen[d]?).bind fun c=>
 (b.1.set_place_Pen d (⟨c.G,e.1,c.Auto⟩:bi)).bind fun a=>
 if e.2=true then
 (bO a c.G).bind fun h=>
 (kg a c.G 0 h 1).bind fun i=>
 some i
 else
 some a
theorem na (O0:Own c0 G F) (R0:Rel c0 sg G) (p0:Option Nat) {r:Sto} (h2:Pt 2 c0 v1 p0) (H:fj sg p0=some r): Calls prog 225 #[v1] c0.w (aN c0 fun c v=>∃G_:Gm,Own c G_ (F)∧Rel c r G_∧v= .tuple #[]):=by
 unfold fj at H;refine en func225 rfl rfl (W.seq (sr (va (v1) (bn H fun x2 h3 H=>cl (nO O0 R0 p0 h2 h3) ?_))));rintro v9 c8 l8 ⟨d,O5,n,rfl⟩;refine va (B (!x2.2)) (wln (cn H (fun c2 H=>?_) (fun c2 H=>?_)))
 ·refine W.ret (thr ?_);obtain rfl:=si H;exact r0 (qq c8 ⟨d,O5,n,rfl⟩)
 refine W.skip (nrm (W.seq (bn H fun m3 d2 H=>bn H fun e e2 H=>bn H fun j h0 H=>bn H fun a x H=>W.join (Jn c8 fun c l=>∃t,Own c d ((Eb t 24 [I a.1.Row,I a.1.Col,B a.1.Pending]) :: F)∧l= [(0,v1),(2,Q t),(3,B a.2)]) ?_ ?_)))
 ·clear H;refine rD [] (Kp d []) O5 ?_;intro p1 l16 q;have m0:Kp d [] p1:=(Kp.nil q);refine ta 0 (v1) ?_;obtain ⟨g,rfl,f2⟩:=((h2.mono (l8.trans l16))).get d2;refine ta 1 (Q g) (ta 2 (Qo g 1) ?_);obtain ⟨v21,j0,i0⟩:=Rel.open_place_Pen (n.mono l16) e2 f2;refine tkx 3 m0 (fun c' z i=>leN 24 1 [I e.At.Row,I e.At.Col,B e.At.Pending] (i.gon j0 0 rfl)) (ta 4 (Q g) (ta 5 (Q g) (ta 6 (Q g) (tkx 7 m0 (fun c' z i=>le1 0 jA (i.gon j0 0 rfl)) (mn2 8 13 ?_ ?_)))))
  ·refine gc 8 (bJ q n.m e.G i0 h0) ?_;rintro v29 q1 n3 ⟨s,rfl⟩;have l2:Kp d [] q1:=(Kp.nil s);refine ⟨.inr l2,mn2 9 13 ?_ ?_⟩
   ·refine gc 9 (oh s e.At j x) ?_;rintro v36 s1 o3 ⟨M,rfl⟩;have m2:Kp d [] s1:=(Kp.nil M);refine ⟨.inr m2,ta 10 (.tuple #[.agg #[I a.1.Row,I a.1.Col,B a.1.Pending],B a.2]) (ta 11 (.agg #[I a.1.Row,I a.1.Col,B a.1.Pending]) (ta 12 (B a.2) (o1 13 (gm 13 (al 24 [I 0,I 0,B false] M) ?_))))⟩;rintro v41 t1 p3 ⟨k1,rfl,N⟩;have n2:Kp d [] t1:=(Kp.nil N);refine ⟨.inr n2,o1 14 (gD 14 (sA 24 [I a.1.Row,I a.1.Col,B a.1.Pending] 0 N ⟨rfl,rfl,rfl,trivial⟩) ?_)⟩;rintro e0 q3 P;have o2:Kp d [] e0:=(Kp.nil P);exact ⟨.inr o2,ta 15 (B a.2) (dn (nrm (jn e0 ⟨k1,P,rfl⟩)))⟩
   refine gm 13 (al 24 [I 0,I 0,B false] s) ?_;rintro v49 u1 s3 ⟨m1,rfl,R⟩;have p2:Kp d [] u1:=(Kp.nil R);refine ⟨.inr p2,o1 9 (gc 9 (oh R e.At j x) ?_)⟩;rintro v56 w1 t3 ⟨S,rfl⟩;have q2:Kp d [] w1:=(Kp.nil S);refine ⟨.inr q2,ta 10 (.tuple #[.agg #[I a.1.Row,I a.1.Col,B a.1.Pending],B a.2]) (ta 11 (.agg #[I a.1.Row,I a.1.Col,B a.1.Pending]) (ta 12 (B a.2) (o1 14 (gD 14 (sA 24 [I a.1.Row,I a.1.Col,B a.1.Pending] 0 S ⟨rfl,rfl,rfl,trivial⟩) ?_))))⟩;rintro f0 u3 T;have s2:Kp d [] f0:=(Kp.nil T);exact ⟨.inr s2,ta 15 (B a.2) (dn (nrm (jn f0 ⟨m1,T,rfl⟩)))⟩
  refine gm 13 (al 24 [I 0,I 0,B false] q) ?_;rintro z3 x1 v3 ⟨n1,rfl,U⟩;have t2:Kp d [] x1:=(Kp.nil U);refine ⟨.inr t2,o1 8 (gc 8 (bJ U n.m e.G i0.m h0) ?_)⟩;rintro a4 y1 w3 ⟨X,rfl⟩;have u2:Kp d [] y1:=(Kp.nil X);refine ⟨.inr u2,o1 9 (gc 9 (oh X e.At j x) ?_)⟩;rintro b4 z1 x3 ⟨Z,rfl⟩;have v2:Kp d [] z1:=(Kp.nil Z);refine ⟨.inr v2,ta 10 (.tuple #[.agg #[I a.1.Row,I a.1.Col,B a.1.Pending],B a.2]) (ta 11 (.agg #[I a.1.Row,I a.1.Col,B a.1.Pending]) (ta 12 (B a.2) (o1 14 (gD 14 (sA 24 [I a.1.Row,I a.1.Col,B a.1.Pending] 0 Z ⟨rfl,rfl,rfl,trivial⟩) ?_))))⟩;rintro g0 y3 a0;have w2:Kp d [] g0:=(Kp.nil a0);exact ⟨.inr w2,ta 15 (B a.2) (dn (nrm (jn g0 ⟨n1,a0,rfl⟩)))⟩
 rintro e_ w_ ⟨k3,l3,_,rfl,A,rfl,t,b0,rfl⟩;refine nrm (sr (va (v1) (vx (leN 24 0 [I a.1.Row,I a.1.Col,B a.1.Pending] (b0.on 0 rfl)) (bn H fun c3 g2 H=>?_))));obtain ⟨b,rfl,k0⟩:=((h2.mono (l8.trans A))).get g2;refine va (Q b) (va (Qo b 1) (bn H fun f i2 H=>?_));obtain ⟨E,j2,y⟩:=Rel.open_place_Pen (n.mono A) i2 k0;refine md (gB 24 1 [I a.1.Row,I a.1.Col,B a.1.Pending] [E,I a.1.Row,I a.1.Col,B a.1.Pending,B f.Auto] 0 b0 j2 ⟨rfl,rfl,rfl,trivial⟩) ?_;rintro b2 l0 j1;refine bn H fun h1 z0 H=>?_;obtain ⟨k,d0,h,u,a3⟩:=Rel.put_place_Pen j1 (n.mono (A.trans l0)) (E':=[(Eb b 42 [E,I a.1.Row,I a.1.Col,B a.1.Pending,B f.Auto])]) z0 ⟨b,E,(tm k0),rfl,(y.mono l0)⟩;refine wln (sr (va (B a.2) (wln (cn H (fun a1 H=>?_) (fun a1 H=>?_)))))
 ·refine rD [9] (Kp k []) d0 ?_;intro w0 d3 o;have D:Kp k [] w0:=(Kp.nil o);refine ta 0 (Q b) (ta 1 (Q b) (ta 2 (Q b) (tkx 3 D (fun c' z i=>le1 0 jA (i.gon u 0 rfl)) (ta 4 (Q b) (ta 5 (Q b) (ta 6 (Q b) (tkx 7 D (fun c' z i=>le1 0 jA (i.gon u 0 rfl)) (bn H fun g1 b1 H=>o1 8 (gc 8 (bJ o h.m f.G y.m b1) ?_)))))))));rintro g3 x0 e3 ⟨p,rfl⟩;have f1:Kp k [] x0:=(Kp.nil p);refine ⟨.inr f1,bn H fun j3 c1 H=>o1 9 (gc 9 (qC p h.m f.G 0 g1 1 y.m c1) ?_)⟩;rintro i3 y0 f3 ⟨o0,q0,u0,rfl⟩;refine ⟨.inl rfl,dn ?_⟩;obtain rfl:=si H;have s0:=q0.sD 1 [];exact n0 (qq y0 ⟨o0,s0,u0,rfl⟩)
 refine W.skip ?_;obtain rfl:=si H;have t0:=d0.sD 1 [];exact n0 (qq b2 ⟨k,t0,h,rfl⟩)
def fF (sg:Sto) (p0:Option Nat):Option (Sto):=
 (p0).bind fun c=>
 (sg.place_Pen[c]?).bind fun e=>
 (bw sg e.G e.At.Row).bind fun f=>
 (dD sg f true).bind fun d=>
 (d.place_Pen[c]?).bind fun a=>
 (dp a.At).bind fun g=>
 (d.set_place_Pen c (⟨a.G,g,a.Auto⟩:bi)).bind fun b=>
 (fj b p0).bind fun h=>
 some h
theorem oP (O0:Own c0 G F) (n:Rel c0 sg G) (q:Option Nat) {r:Sto} (U:Pt 2 c0 v1 q) (H:fF sg q=some r): Calls prog 197 #[v1] c0.w (aN c0 fun c v=>∃G_:Gm,Own c G_ (F)∧Rel c r G_∧v= .tuple #[]):=by
 unfold fF at H;refine en func197 rfl rfl (W.seq (rD [10] (Kp G []) O0 ?_));intro c3 l3 y;have p5:Kp G [] c3:=(Kp.nil y);refine ta 0 (v1) (bn H fun a1 h8 H=>?_);obtain ⟨b,rfl,o⟩:=((U.mono l3)).get h8;refine ta 1 (Q b) (ta 2 (Q b) (bn H fun l h9 H=>?_));obtain ⟨v10,h,R⟩:=Rel.open_place_Pen (n.mono l3) h9 o;refine tkx 3 p5 (fun c' f0 p=>le1 0 jA (p.gon h 0 rfl)) (ta 4 (Q b) (ta 5 (Q b) (ta 6 (Qo b 1) (ta 7 (Qo b 1) (tkx 8 p5 (fun c' f0 p=>le1 1 u_3 (p.gon h 0 rfl)) (bn H fun s S H=>o1 9 (gc 9 (cQ y n.m l.G l.At.Row R S) ?_)))))));rintro v14 N b1 ⟨_,e,rfl,T⟩;have h0:Kp G [] N:=(Kp.nil e);refine ⟨.inr h0,bn H fun q0 X H=>o1 10 (gc 10 (lT e n.m s true T X) ?_)⟩;rintro v29 w0 c1 ⟨t0,f,g,rfl⟩;refine ⟨.inl rfl,dn (nrm (sr (vv (Q b) (va (Q b) (va (Qo b 1) (bn H fun d Z H=>?_))))))⟩;obtain ⟨v31,i,a0⟩:=Rel.open_place_Pen g Z (tm o);refine vx (leN 24 1 [I d.At.Row,I d.At.Col,B d.At.Pending] (f.gon i 0 rfl)) (bn H fun a b0 H=>cl (jQ f d.At b0) ?_);rintro v40 x0 j ⟨x,rfl⟩;refine va (Q b) (va (Qo b 1) (md (gB 24 1 [I a.Row,I a.Col,B a.Pending] [v31,I a.Row,I a.Col,B a.Pending,B d.Auto] 0 x i ⟨rfl,rfl,rfl,trivial⟩) ?_));rintro y0 k z;refine bn H fun t d0 H=>?_;obtain ⟨u0,A,E,z0,v0⟩:=Rel.put_place_Pen z (g.mono (j.trans k)) (E':=[(Eb b 42 [v31,I a.Row,I a.Col,B a.Pending,B d.Auto])]) d0 ⟨b,v31,(tm o),rfl,(a0.mono (j.trans k))⟩;refine wln (W.region (va (Q b) (bn H fun s0 e0 H=>cl (na A E q U.m e0) ?_)));rintro v55 P d1 ⟨u,D,M,rfl⟩;refine WL.nil ?_;obtain rfl:=si H;exact n0 (qq P ⟨u,D,M,rfl⟩)
def js (sg:Sto) (p0:Option Nat) (p1:Int):Option (Sto):=
 ((p0).bind fun k=>
 (sg.place_Pen[k]?).bind fun l=>
 if l.At.Pending=true then
 (fF sg p0).bind fun m=>
 some (m)
 else
 some (sg)).bind fun b=>
 (p0).bind fun d=>
 (b.place_Pen[d]?).bind fun a=>
 (cg b a.G).bind fun e=>
 (orE (p1==1) (some (decide (a.At.Col < (w64 (e - 1)))))).bind fun f=>
 if f=true then
 some b
 else
 if a.Auto=true then
 (bw b a.G a.At.Row).bind fun g=>
 (ey 1).bind fun h=>
 (dP b g (w64 (e - 1)) h).bind fun i=>
 (fF i.1 p0).bind fun j=>
 some j
 else
 (b.set_place_Pen d (⟨a.G,(⟨a.At.Row,(w64 (a.At.Col - 1)),a.At.Pending⟩:ai),a.Auto⟩:bi)).bind fun c=>
 some c
theorem uf (T:Own c0 G F) (X:Rel c0 sg G) (hG:Gl [0,4] c0) (u:Option Nat) (n:Int) {r:Sto} (t:Pt 2 c0 v1 u) (H:js sg u n=some r): Calls prog 128 #[v1,I n] c0.w (aN c0 fun c v=>∃G_:Gm,Own c G_ (F)∧Rel c r G_∧v= .tuple #[]):=by
 unfold js at H;refine en func128 rfl rfl (bn H fun f2 g d=>W.seqJ (Jn c0 fun c l=>∃G_,Own c G_ (F)∧l= [(0,v1),(1,I n)]∧Rel c f2 G_) ?_ ?_)
 ·refine sr (va (v1) (bn g fun a3 h7 g=>?_));obtain ⟨s,rfl,h6⟩:=(t).get h7;refine va (Q s) (va (Qo s 1) (va (Qo s 3) (bn g fun h3 h8 g=>?_)));obtain ⟨v9,e1,y2⟩:=Rel.open_place_Pen X h8 h6;refine vx (le1 3 u_4 (T.gon e1 0 rfl)) (wln (cn g (fun f1 g=>?_) (fun f1 g=>?_)))
  ·refine W.region (va (Q s) (bn g fun m3 g1 g=>cl (oP T X u t g1) ?_));rintro v19 w0 b3 ⟨h0,l0,t0,rfl⟩;refine wln ?_;obtain rfl:=si g;exact jn w0 ⟨h0,l0,rfl,t0⟩
  refine W.skip (nrm ?_);obtain rfl:=si g;exact jn c0 ⟨G,T,rfl,X⟩
 rintro e_ w_ ⟨u2,w2,_,rfl,a2,rfl,f,x,rfl,i⟩;refine sr (va (v1) (bn d fun o2 h1 d=>?_));obtain ⟨a,rfl,E⟩:=((t.mono a2)).get h1;refine vv (Q a) (bn d fun b i1 d=>?_);obtain ⟨v30,h,q⟩:=Rel.open_place_Pen i i1 E;refine vx (le1 0 jA (x.gon h 0 rfl)) (bn d fun e j1 d=>cl (cF x i b.G q j1) ?_);rintro v39 p N ⟨o,rfl⟩;refine vv (I (w64 (e - 1))) (wln (W.block (W.seq (bn d fun a0 M d=>W.join (Jn p fun c l=>Own c f (F)∧l= [(0,Q a),(4,I (w64 (e - 1))),(27,B a0)]) ?_ ?_))))
 ·clear d;refine W.region (va (I n) (va (B (n==1)) ?_));rcases bo (n==1) with k | k
  ·obtain rfl:=orT k M;exact vb k (pz (pz (pz (ps (vv (B true) (wln (jn p ⟨o,rfl⟩)))))))
  have k0:=orF k M;refine vb k (wa (Q a) (wa (Q a) (wa (Qo a 1) (wa (Qo a 2) (wn (vx (le1 2 u_3 (o.gon h 0 rfl)) (wa (I (w64 (e - 1))) (wa (B (decide (b.At.Col < (w64 (e - 1))))) ?_))))))));obtain rfl:=si k0;exact vv (B (decide (b.At.Col < (w64 (e - 1))))) (wln (jn p ⟨o,rfl⟩))
 rintro e_ w_ ⟨x0,x2,_,rfl,P,rfl,j,rfl⟩;refine nrm (cn d (fun k1 d=>?_) (fun k1 d=>?_))
 ·refine W.ret (bkr ?_);obtain rfl:=si d;exact r0 (qq x0 ⟨f,j,i.m,rfl⟩)
 refine sr (vv (Q a) (va (Qo a 4) (vx (le1 4 u_4 (j.gon h 0 rfl)) (va (B b.Auto) (wln (cn d (fun m1 d=>?_) (fun m1 d=>?_)))))))
 ·refine W.seq (rD [12] (Kp f []) j ?_);intro y0 c3 y;have S:Kp f [] y0:=(Kp.nil y);refine ta 0 (Q a) (ta 1 (Q a) (ta 2 (Q a) (tkx 3 S (fun c' z1 hk=>le1 0 jA (hk.gon h 0 rfl)) (ta 4 (Q a) (ta 5 (Q a) (ta 6 (Qo a 1) (ta 7 (Qo a 1) (tkx 8 S (fun c' z1 hk=>le1 1 u_3 (hk.gon h 0 rfl)) (ta 10 (I (w64 (e - 1))) (bn d fun e0 n1 d=>o1 9 (gc 9 (cQ y i.m b.G b.At.Row q.m n1) ?_)))))))))));rintro v55 z0 d3 ⟨_,z,rfl,q1⟩;have c2:Kp f [] z0:=(Kp.nil z);refine ⟨.inr c2,bn d fun f0 s1 d=>o1 11 (gc 11 (jU z 1 s1) ?_)⟩;rintro j3 a1 e3 ⟨_,i3,A,rfl,t1⟩;have d2:Kp f [] a1:=(Kp.nil A);refine ⟨.inr d2,?_⟩;obtain ⟨b1,w1,b2,D,u1⟩:=A.frz 0 rfl t1;have e2:Kp f [] b1:=(Kp.nil D);refine AC.gh w1 b2 (fun _=>e2) (bn d fun q2 x1 d=>o1 12 (gc 12 (jP D i.m (hG.m.le (by decide)) e0 (w64 (e - 1)) f0 q1.m u1 x1) ?_));rintro k3 v2 f3 ⟨_,t2,m0,u0,rfl,z2⟩;refine ⟨.inl rfl,dn (nrm (W.region (va (Q a) (bn d fun s2 y1 d=>cl (oP m0 u0 u t.m y1) ?_))))⟩;rintro l3 c1 g3 ⟨i0,o0,v0,rfl⟩;refine WL.nil (bkn ?_);obtain rfl:=si d;have q0:=o0.sD 1 [];exact n0 (qq c1 ⟨i0,q0,v0,rfl⟩)
 refine W.region (vv (Q a) (va (Qo a 1) (va (Qo a 2) (vx (le1 2 u_3 (j.gon h 0 rfl)) (va (I (w64 (b.At.Col - 1))) (va (Q a) (va (Qo a 1) (va (Qo a 2) (md (gC 3 2 (I (w64 (b.At.Col - 1))) [v30,I b.At.Row,I (w64 (b.At.Col - 1)),B b.At.Pending,B b.Auto] 0 j h ⟨rfl,trivial⟩) ?_)))))))));rintro d1 R s0;refine bn d fun g0 b0 d=>?_;obtain ⟨j0,U,Z,k2,g2⟩:=Rel.put_place_Pen s0 (i.mono (N.trans (P.trans R))) (E':=[(Eb a 42 [v30,I b.At.Row,I (w64 (b.At.Col - 1)),B b.At.Pending,B b.Auto])]) b0 ⟨a,v30,(tm E),rfl,(q.mono (N.trans (P.trans R)))⟩;refine WL.nil (bkn ?_);obtain rfl:=si d;exact n0 (qq d1 ⟨j0,U,Z,rfl⟩)
def ko (p0:ai) (p1:Int) (p2:Int) (p3:Bool):Option (ai):=
 (gP p2).bind fun a=>
 if (decide (p0.Col < (w64 (a - (aE 1 (aB p1 2))))))=true then
 some (⟨p0.Row,(w64 (p0.Col+(aE 1 (aB p1 2)))),false⟩:ai)
 else
 some (⟨p0.Row,(w64 (a - 1)),p3⟩:ai)
theorem vQ (s:Own c0 G F) (a:ai) (b:Int) (h:Int) (e:Bool) {r:ai} (H:ko a b h e=some r): Calls prog 130 #[.agg #[I a.Row,I a.Col,B a.Pending],I b,I h,B e] c0.w (aN c0 fun c v=>Own c G (F)∧v= .agg #[I r.Row,I r.Col,B r.Pending]):=by
 unfold ko at H;refine en func130 rfl rfl (sr (me (bx 24 [I a.Row,I a.Col,B a.Pending] s) ?_));rintro v5 E N ⟨f,rfl,t,g⟩;refine me (al 24 [I 0,I 0,B false] t) ?_;rintro v9 M P ⟨D,rfl,u⟩;refine wln (sr (va (I b) (va (I (aB b 2)) (va (I (aE 1 (aB b 2))) (va (I h) (bn H fun d p H=>cl (mB u h p) ?_))))));rintro v16 x y ⟨i,rfl⟩;refine va (I (aE 1 (aB b 2))) (va (I d) (wln (W.seq (sr (va (Qo f (0+1)) (vx (l1 u_3 ((mm g) 1 _ rfl)) (va (I d) (va (I (aE 1 (aB b 2))) (va (I (w64 (d - (aE 1 (aB b 2))))) (va (B (decide (a.Col < (w64 (d - (aE 1 (aB b 2))))))) (wln (cn H (fun q H=>?_) (fun q H=>?_)))))))))))))
 ·refine sr (va (Q f) (vx (l1 u_3 ((mm g) 0 _ rfl)) (va (Qo f (0+1)) (vx (l1 u_3 ((mm g) 1 _ rfl)) (va (I (aE 1 (aB b 2))) (va (I (w64 (a.Col+(aE 1 (aB b 2))))) (va (.agg #[I a.Row,I (w64 (a.Col+(aE 1 (aB b 2)))),B false]) (md (sA 24 [I a.Row,I (w64 (a.Col+(aE 1 (aB b 2)))),B false] 0 i ⟨rfl,rfl,rfl,trivial⟩) ?_))))))));rintro l z j;refine wln (W.ret (thr ?_));obtain rfl:=si H;have n:=j.sD 1 [];exact jZ (c:=l) (vs:=[I a.Row,I (w64 (a.Col+(aE 1 (aB b 2)))),B false]) rfl (by kernel_rfl) (by kernel_rfl) (by kernel_rfl) (j.on 0 rfl _ rfl).1 ⟨_,l,rfl,rfl,pt,n,rfl⟩
 refine W.skip (nrm (sr (va (Q f) (vx (l1 u_3 ((mm g) 0 _ rfl)) (va (I d) (va (I (w64 (d - 1))) (va (B e) (va (.agg #[I a.Row,I (w64 (d - 1)),B e]) (md (sA 24 [I a.Row,I (w64 (d - 1)),B e] 0 i ⟨rfl,rfl,rfl,trivial⟩) ?_)))))))));rintro m A k;refine wln (W.ret ?_);obtain rfl:=si H;have o:=k.sD 1 [];exact jZ (c:=m) (vs:=[I a.Row,I (w64 (d - 1)),B e]) rfl (by kernel_rfl) (by kernel_rfl) (by kernel_rfl) (k.on 0 rfl _ rfl).1 ⟨_,m,rfl,rfl,pt,o,rfl⟩
def iP (sg:Sto) (p0:Option Nat) (p1:Int) (p2:List Int):Option (Sto×ai):=
 (gn sg p0).bind fun d=>
 if (!d.2)=true then
 some (d.1,(⟨0,0,false⟩:ai))
 else
 ((p0).bind fun i=>
 (d.1.place_Pen[i]?).bind fun j=>
 (cg d.1 j.G).bind fun k=>
 if (decide ((aE 1 (aB p1 2)) > k))=true then
 some (1,([65533]:List Int))
 else
 some ((aE 1 (aB p1 2)),p2)).bind fun c=>
 (js d.1 p0 c.1).bind fun f=>
 (p0).bind fun e=>
 (f.place_Pen[e]?).bind fun a=>
 (bw f a.G a.At.Row).bind fun l=>
 (lf f l a.At.Col c.1 c.2).bind fun g=>
 (g.1.place_Pen[e]?).bind fun b=>
 (cg g.1 b.G).bind fun m=>
 (ko (⟨a.At.Row,a.At.Col,false⟩:ai) c.1 m b.Auto).bind fun n=>
 (g.1.set_place_Pen e (⟨b.G,n,b.Auto⟩:bi)).bind fun h=>
 some (h,(⟨a.At.Row,a.At.Col,false⟩:ai))
theorem pH (O0:Own c0 G F) (R0:Rel c0 sg G) (hG:Gl [0,4] c0) (p0:Option Nat) (o:Int) (p2:List Int) {r:Sto×ai} (h2:Pt 2 c0 v1 p0) (h4:Sl (RI .i32) c0 v3 p2) (H:iP sg p0 o p2=some r): Calls prog 71 #[v1,I o,v3] c0.w (aN c0 fun c v=>∃G_:Gm,Own c G_ (F)∧Rel c r.1 G_∧v= .agg #[I r.2.Row,I r.2.Col,B r.2.Pending]):=by
 unfold iP at H;refine en func71 rfl rfl (sr (me (al 24 [I 0,I 0,B false] O0) ?_));rintro v8 c7 l7 ⟨b5,rfl,O6⟩;refine wln (W.seq (sr (va (v1) (bn H fun t3 h9 H=>cl (nO O6 R0.m p0 h2.m h9) ?_))));rintro v15 d2 u0 ⟨j0,R,P,rfl⟩;refine va (B (!t3.2)) (wln (cn H (fun m2 H=>?_) (fun m2 H=>?_)))
 ·refine sr (va (.agg #[I 0,I 0,B false]) (md (sA 24 [I 0,I 0,B false] 0 R ⟨rfl,rfl,rfl,trivial⟩) ?_));rintro t0 r4 k0;refine wln (W.ret (thr ?_));obtain rfl:=si H;have u1:=k0.sD 1 [];exact jZ (c:=t0) (vs:=[I 0,I 0,B false]) rfl (by kernel_rfl) (by kernel_rfl) (by kernel_rfl) (k0.on 0 rfl _ rfl).1 ⟨_,t0,rfl,rfl,pt,j0,u1,P.m,rfl⟩
 refine W.skip (nrm (sr (va (I o) (va (I (aB o 2)) (vv (I (aE 1 (aB o 2))) (wln (bn H fun f g d=>W.seqJ (Jn d2 fun c l=>∃v22,Own c j0 ((Eb b5 24 [I 0,I 0,B false]) :: F)∧l= [(0,v1),(1,I f.1),(2,v22),(6,Q b5)]∧Sl (RI .i32) c v22 f.2) ?_ ?_)))))))
 ·refine sr (va (I (aE 1 (aB o 2))) (va (v1) (bn g fun e4 o2 g=>?_)));obtain ⟨s0,rfl,n2⟩:=((h2.mono (l7.trans u0))).get o2;refine vv (Q s0) (bn g fun j1 q2 g=>?_);obtain ⟨v27,t2,s2⟩:=Rel.open_place_Pen P q2 n2;refine vx (le1 0 jA (R.gon t2 0 rfl)) (bn g fun n1 u2 g=>cl (cF R P j1.G s2 u2) ?_);rintro v36 e2 s4 ⟨l0,rfl⟩;refine va (B (decide ((aE 1 (aB o 2)) > n1))) (wln (cn g (fun v2 g=>?_) (fun v2 g=>?_)))
  ·refine W.region (me (sl (RI .i32) 21 [[J 65533]] ([65533]:List Int) l0 ⟨rfl,trivial⟩) ?_);rintro v42 m4 t4 ⟨v4,w1,w2⟩;refine va (I 1) (va (v42) (wln ?_));obtain rfl:=si g;obtain ⟨f2,y2,u4,x1,x2⟩:=w1.frz 0 rfl w2;have y1:=x1.sD 2 [1];exact ⟨f2,_,_,y2.symm,pt,us,v42,y1,rfl,x2⟩
  refine W.skip (nrm ?_);obtain rfl:=si g;exact jn e2 ⟨v3,l0,rfl,h4.m⟩
 rintro e_ w_ ⟨n4,p4,_,rfl,h3,rfl,v22,z1,rfl,z2⟩;refine sr (va (v1) (va (I f.1) (bn d fun k4 a3 d=>cl (uf z1 P.m (hG.m.le (by decide)) p0 f.1 h2.m a3) ?_)));rintro w4 o4 i3 ⟨j,a2,Z,rfl⟩;refine wln (W.seq (rD [] (Kp j []) a2 ?_));intro g2 v0 m0;have w0:Kp j [] g2:=(Kp.nil m0);refine ta 0 (v1) (bn d fun f4 b3 d=>?_);obtain ⟨b,rfl,e0⟩:=((h2.mono (l7.trans (u0.trans (h3.trans (i3.trans v0)))))).get b3;refine ta 1 (Q b) (ta 2 (Qo b 1) (ta 3 (Qo b 1) (bn d fun a c3 d=>?_)));obtain ⟨x4,f0,d3⟩:=Rel.open_place_Pen (Z.mono v0) c3 e0;refine tkx 4 w0 (fun u k h=>le1 1 u_3 (h.gon f0 0 rfl)) (ta 5 (Q b) (ta 6 (Q b) (ta 7 (Qo b 1) (ta 8 (Qo b 2) (tkx 9 w0 (fun u k h=>le1 2 u_3 (h.gon f0 0 rfl)) (ta 10 (.agg #[I a.At.Row,I a.At.Col,B false]) (o1 11 (gm 11 (al 24 [I 0,I 0,B false] m0) ?_))))))));rintro y4 i2 k3 ⟨i,rfl,o0⟩;have p3:Kp j [] i2:=(Kp.nil o0);refine ⟨.inr p3,o1 12 (gD 12 (sA 24 [I a.At.Row,I a.At.Col,B false] 0 o0 ⟨rfl,rfl,rfl,trivial⟩) ?_)⟩;rintro j2 l3 q0;have q3:Kp j [] j2:=(Kp.nil q0);refine ⟨.inr q3,dn (nrm (W.seq (rD [11] (Kp j [(Eb i 24 [I a.At.Row,I a.At.Col,B false])]) q0 ?_)))⟩;intro k2 m3 U;have g0:Kp j [(Eb i 24 [I a.At.Row,I a.At.Col,B false])] k2:=(Kp.cons (U.on 0 rfl) (Kp.nil U));refine ta 0 (Q b) (ta 1 (Q b) (ta 2 (Q b) (tkx 3 g0 (fun u k h=>le1 0 jA (h.gon f0 0 rfl)) (ta 4 (Q i) (tkx 5 g0 (fun u k h=>le1 0 u_3 (h.on 0 rfl)) (ta 7 (Qo i 1) (tkx 8 g0 (fun u k h=>le1 1 u_3 (h.on 0 rfl)) (ta 9 (I f.1) (ta 10 (v22) (bn d fun q1 e3 d=>o1 6 (gc 6 (cQ U Z.m a.G a.At.Row d3.m e3) ?_)))))))))));rintro z4 l2 n3 ⟨_,X,rfl,f3⟩;have s3:Kp j [(Eb i 24 [I a.At.Row,I a.At.Col,B false])] l2:=(Kp.cons (X.on 0 rfl) (Kp.nil X));refine ⟨.inr s3,bn d fun l4 g3 d=>o1 11 (gc 11 (vN X Z.m (hG.m.le (by decide)) q1 a.At.Col f.1 f.2 f3 z2.m g3) ?_)⟩;rintro a5 z3 i1 ⟨_,N,b2,a0,rfl,q4⟩;refine ⟨.inl rfl,dn (nrm (W.seq (rD [15] (Kp N [(Eb i 24 [I a.At.Row,I a.At.Col,B false])]) b2 ?_)))⟩;intro b1 y p;have E:Kp N [(Eb i 24 [I a.At.Row,I a.At.Col,B false])] b1:=(Kp.cons (p.on 0 rfl) (Kp.nil p));refine ta 0 (Q b) (tkx 1 E (fun u k h=>leN 24 0 [I a.At.Row,I a.At.Col,B false] (h.on 0 rfl)) (ta 2 (I f.1) (ta 3 (Q b) (ta 4 (Q b) (ta 5 (Q b) (bn d fun n e1 d=>?_))))));obtain ⟨M,x,d0⟩:=Rel.open_place_Pen (a0.mono y) e1 (tm e0);refine tkx 6 E (fun u k h=>le1 0 jA (h.gon x 0 rfl)) (ta 8 (Q b) (ta 9 (Q b) (ta 10 (Qo b 4) (tkx 11 E (fun u k h=>le1 4 u_4 (h.gon x 0 rfl)) (bn d fun s1 f1 d=>o1 7 (gc 7 (cF p a0.m n.G d0 f1) ?_))))));rintro i4 c1 z ⟨q,rfl⟩;have k1:Kp N [(Eb i 24 [I a.At.Row,I a.At.Col,B false])] c1:=(Kp.cons (q.on 0 rfl) (Kp.nil q));refine ⟨.inr k1,bn d fun e g1 d=>o1 12 (gc 12 (vQ q (⟨a.At.Row,a.At.Col,false⟩:ai) f.1 s1 n.Auto g1) ?_)⟩;rintro j4 d1 A ⟨s,rfl⟩;have m1:Kp N [(Eb i 24 [I a.At.Row,I a.At.Col,B false])] d1:=(Kp.cons (s.on 0 rfl) (Kp.nil s));refine ⟨.inr m1,ta 13 (Q b) (ta 14 (Qo b 1) (o1 15 (gD 15 (gB 24 1 [I e.Row,I e.Col,B e.Pending] [M,I e.Row,I e.Col,B e.Pending,B n.Auto] 0 s x ⟨rfl,rfl,rfl,trivial⟩) ?_)))⟩;rintro a4 D y0;refine bn d fun t1 h1 d=>?_;obtain ⟨x0,S,a1,b4,y3⟩:=Rel.put_place_Pen y0 (a0.mono (y.trans (z.trans (A.trans D)))) (E':=[(Eb b 42 [M,I e.Row,I e.Col,B e.Pending,B n.Auto])]) h1 ⟨b,M,((k3.trans (l3.trans (m3.trans (n3.trans (i1.trans (y.trans (z.trans (A.trans D)))))))).t _ _ _ e0),rfl,(d0.mono (z.trans (A.trans D)))⟩;refine ⟨.inl rfl,dn (nrm (sr (vx (leN 24 0 [I a.At.Row,I a.At.Col,B false] (S.on 0 rfl)) (md (sA 24 [I a.At.Row,I a.At.Col,B false] 1 S ⟨rfl,rfl,rfl,trivial⟩) ?_))))⟩;rintro b0 g4 T;refine wln (W.ret ?_);obtain rfl:=si d;have z0:=T.sD 2 [];exact jZ (c:=b0) (vs:=[I a.At.Row,I a.At.Col,B false]) rfl (by kernel_rfl) (by kernel_rfl) (by kernel_rfl) (T.on 1 rfl _ rfl).1 ⟨_,b0,rfl,rfl,pt,x0,z0,a1.m,rfl⟩
def dS (p0:Int) (p1:Int):Option (Int):=
 if (decide (p0 < 0))=true then
 some 0
 else
 if (decide (p0≥p1))=true then
 some (w64 (p1 - 1))
 else
 some p0
theorem lU (d:Own c0 G F) (a:Int) (b:Int) {r:Int} (H:dS a b=some r): Calls prog 162 #[I a,I b] c0.w (aN c0 fun c v=>Own c G (F)∧v=I r):=by
 unfold dS at H;refine en func162 rfl rfl (sr (va (I 0) (wln (W.seq (sr (va (I a) (va (B (decide (a < 0))) (wln (cn H (fun e H=>?_) (fun e H=>?_))))))))))
 ·refine sr (va (I 0) (wln (W.ret (thr ?_))));obtain rfl:=si H;exact r1 (qq c0 ⟨d,rfl⟩)
 refine W.skip (nrm (W.seq (sr (va (I a) (va (I b) (va (B (decide (a≥b))) (wln (cn H (fun f H=>?_) (fun f H=>?_)))))))))
 ·refine sr (va (I b) (vv (I (w64 (b - 1))) (wln (W.ret (thr ?_)))));obtain rfl:=si H;exact r1 (qq c0 ⟨d,rfl⟩)
 refine W.skip (nrm (sr (vv (I a) (wln (W.ret ?_)))));obtain rfl:=si H;exact r1 (qq c0 ⟨d,rfl⟩)
def bY (p0:Int):Option (Int):=
 if (decide (p0 < 1))=true then
 some 1
 else
 if (decide (p0 > 1024))=true then
 some 1024
 else
 some p0
theorem dO (b:Own c0 G F) (a:Int) {r:Int} (H:bY a=some r): Calls prog 163 #[I a] c0.w (aN c0 fun c v=>Own c G (F)∧v=I r):=by
 unfold bY at H;refine en func163 rfl rfl (sr (va (I 0) (wln (W.seq (sr (va (I a) (va (B (decide (a < 1))) (wln (cn H (fun d H=>?_) (fun d H=>?_))))))))))
 ·refine sr (va (I 1) (wln (W.ret (thr ?_))));obtain rfl:=si H;exact r1 (qq c0 ⟨b,rfl⟩)
 refine W.skip (nrm (W.seq (sr (va (I a) (va (B (decide (a > 1024))) (wln (cn H (fun e H=>?_) (fun e H=>?_))))))))
 ·refine sr (va (I 1024) (wln (W.ret (thr ?_))));obtain rfl:=si H;exact r1 (qq c0 ⟨b,rfl⟩)
 refine W.skip (nrm (sr (vv (I a) (wln (W.ret ?_)))));obtain rfl:=si H;exact r1 (qq c0 ⟨b,rfl⟩)
def eO (p0:ai) (p1:Int) (p2:Int):Option (ai):=
 (bY p2).bind fun b=>
 (dS p0.Row b).bind fun c=>
 (bY p1).bind fun d=>
 (dS p0.Col d).bind fun e=>
 (bI p0.Pending ((bY p1).bind fun f=>
 some (p0.Col==(w64 (f - 1))))).bind fun a=>
 some (⟨c,e,a⟩:ai)
theorem mQ (O0:Own c0 G F) (a:ai) (h:Int) (o:Int) {r:ai} (H:eO a h o=some r): Calls prog 91 #[.agg #[I a.Row,I a.Col,B a.Pending],I h,I o] c0.w (aN c0 fun c v=>Own c G (F)∧v= .agg #[I r.Row,I r.Col,B r.Pending]):=by
 unfold eO at H;refine en func91 rfl rfl (sr (me (bx 24 [I a.Row,I a.Col,B a.Pending] O0) ?_));rintro v5 c4 l4 ⟨m,rfl,O2,n⟩;refine me (al 24 [I 0,I 0,B false] O2) ?_;rintro v9 c8 l8 ⟨T,rfl,O7⟩;refine wln (W.seq (bn H fun y e0 H=>bn H fun b f0 H=>bn H fun z g0 H=>bn H fun d h0 H=>bn H fun k x H=>W.join (Jn c8 fun c l=>Own c G ((Eb T 24 [I b,I d,B k]) :: F)∧l= [(6,Q T)]) ?_ ?_))
 ·clear H;refine rD [] (Kp G0 []) O7 ?_;intro U y0 A;have i1:Kp G0 [] U:=Kp.nil0;refine ta 0 (Q m) (tx 1 (fun j g=>l1 u_3 ((mm n) 0 _ rfl)) (ta 2 (I o) (ta 5 (Qo m (0+1)) (tx 6 (fun j g=>l1 u_3 ((mm n) 1 _ rfl)) (ta 7 (I h) (ta 10 (Qo m (0+2)) (tx 11 (fun j g=>l1 u_4 ((mm n) 2 _ rfl)) (o1 3 (gc 3 (dO A o e0) ?_)))))))));rintro v23 X z0 ⟨D,rfl⟩;have j0:Kp G0 [] X:=Kp.nil0;refine ⟨.inr j0,o1 4 (gc 4 (lU D a.Row y f0) ?_)⟩;rintro v30 Z a1 ⟨E,rfl⟩;have k0:Kp G0 [] Z:=Kp.nil0;refine ⟨.inr k0,o1 8 (gc 8 (dO E h g0) ?_)⟩;rintro v37 a0 c1 ⟨M,rfl⟩;have l0:Kp G0 [] a0:=Kp.nil0;refine ⟨.inr l0,o1 9 (gc 9 (lU M a.Col z h0) ?_)⟩;rintro v44 b0 d1 ⟨p,rfl⟩;have m0:Kp G0 [] b0:=Kp.nil0;refine ⟨.inr m0,?_⟩;rcases bo (a.Pending) with f | f
  ·have i:=anT f x;refine bn i fun e i0 i=>AC.takeb 12 f rfl (by kernel_rfl) (by kernel_rfl) (fun j g=>(by kernel_rfl)) (ta 13 (Qo m (0+1)) (tx 14 (fun j g=>l1 u_3 ((mm n) 1 _ rfl)) (ta 15 (I h) (o1 16 (gc 16 (dO p h i0) ?_)))));rintro v54 d0 e1 ⟨N,rfl⟩;have o0:Kp G0 [] d0:=Kp.nil0;refine ⟨.inr o0,ta 17 (I (w64 (e - 1))) (ta 18 (B (a.Col==(w64 (e - 1)))) ?_)⟩;obtain rfl:=si i;refine ta 19 (B (a.Col==(w64 (e - 1)))) (ta 20 (.agg #[I b,I d,B (a.Col==(w64 (e - 1)))]) (o1 21 (gD 21 (sA 24 [I b,I d,B (a.Col==(w64 (e - 1)))] 0 N ⟨rfl,rfl,rfl,trivial⟩) ?_)));rintro s f1 P;have q0:Kp G0 [] s:=Kp.nil0;exact ⟨.inr q0,dn (nrm (jn s ⟨P,rfl⟩))⟩
  obtain rfl:=anF f x;refine AC.takeb 12 f rfl (by kernel_rfl) (by kernel_rfl) (fun j g=>(by kernel_rfl)) (tp 13 (tp 14 (tp 15 (tp 16 (tp 17 (tp 18 (ta 19 (B false) (ta 20 (.agg #[I b,I d,B false]) (o1 21 (gD 21 (sA 24 [I b,I d,B false] 0 p ⟨rfl,rfl,rfl,trivial⟩) ?_))))))))));rintro t g1 R;have s0:Kp G0 [] t:=Kp.nil0;exact ⟨.inr s0,dn (nrm (jn t ⟨R,rfl⟩))⟩
 rintro e_ w_ ⟨u,x0,_,rfl,h1,rfl,q,rfl⟩;refine nrm (W.ret ?_);obtain rfl:=si H;have S:=q.sD 1 [];exact jZ (c:=u) (vs:=[I b,I d,B k]) rfl (by kernel_rfl) (by kernel_rfl) (by kernel_rfl) (q.on 0 rfl _ rfl).1 ⟨_,u,rfl,rfl,pt,S,rfl⟩
def cC (p0:aa):Option (Int):=
 (idx p0.L 0).bind fun a=>
 some (a.Cells.length:Int)
theorem fW (l:Own c0 G F) (a:aa) {r:Int} (g:Sl am c0 v1 a.L) (H:cC a=some r): Calls prog 92 #[.agg #[v1,I a.At.Row,I a.At.Col,B a.At.Pending,B a.Auto]] c0.w (aN c0 fun c v=>Own c G (F)∧v=I r):=by
 unfold cC at H;refine en func92 rfl rfl (sr ?_);obtain ⟨d,e,f,rfl⟩:=(g).form;refine me (bx 43 [.slice d e f,I a.At.Row,I a.At.Col,B a.At.Pending,B a.Auto] l) ?_;rintro v10 p q ⟨o,rfl,n,t⟩;refine va (I 0) (wln (sr (va (Q o) (vx (l1 dX (t 0 _ rfl)) (bn H fun k b H=>?_)))));obtain ⟨s,h,j⟩:=Sl.at (g.mono q) (aT b);obtain ⟨v15,rfl,i⟩:=h;refine vx (ix dX g.m b) (va (Qo (sb (.slice d e f)) (so (.slice d e f)+(0:Int).toNat * 2)) (vx (l1 ck (j 0 _ rfl)) (vx (ln 3 ck i) (va (I (k.Cells.length:Int)) (wln (W.ret ?_))))));obtain rfl:=si H;exact r1 (qq p ⟨n,rfl⟩)
def ce (p0:aa):Option (aa):=
 (cC p0).bind fun a=>
 (eO p0.At a (p0.L.length:Int)).bind fun b=>
 some (⟨p0.L,b,p0.Auto⟩:aa)
theorem dt (S:Own c0 G F) (a:aa) {r:aa} (h:Sl am c0 v1 a.L) (H:ce a=some r): Calls prog 90 #[.agg #[v1,I a.At.Row,I a.At.Col,B a.At.Pending,B a.Auto]] c0.w (aN c0 fun c v=>∃R,Own c G (F)∧v= .agg #[R,I r.At.Row,I r.At.Col,B r.At.Pending,B r.Auto]∧Sl am c R r.L):=by
 unfold ce at H;refine en func90 rfl rfl (sr ?_);obtain ⟨d,e,f,rfl⟩:=(h).form;refine me (al 43 [.slice d e f,I a.At.Row,I a.At.Col,B a.At.Pending,B a.Auto] S) ?_;rintro v9 c8 l8 ⟨g,rfl,T⟩;refine me (al 43 [Y,I 0,I 0,B false,B false] T) ?_;rintro v13 X a0 ⟨U,rfl,x⟩;refine wln (W.seq (rD [9] (Kp G0 [(Eb g 43 [.slice d e f,I a.At.Row,I a.At.Col,B a.At.Pending,B a.Auto])]) x ?_));intro z b0 l;have k:Kp G0 [(Eb g 43 [.slice d e f,I a.At.Row,I a.At.Col,B a.At.Pending,B a.Auto])] z:=(Kp.cons (l.on 1 rfl) Kp.nil0);refine ta 0 (.pointer (some ⟨g,1,none⟩)) (tkx 1 k (fun t j i=>leN 24 1 [I a.At.Row,I a.At.Col,B a.At.Pending] (i.on 0 rfl)) (tkx 2 k (fun t j i=>leN 43 0 [.slice d e f,I a.At.Row,I a.At.Col,B a.At.Pending,B a.Auto] (i.on 0 rfl)) (ta 4 (Q g) (tkx 5 k (fun t j i=>le1 0 dX (i.on 0 rfl)) (tx 6 (fun t j=>ln 3 dX h.m) (bn H fun u E H=>o1 3 (gc 3 (fW l a h.m E) ?_)))))));rintro v23 A d0 ⟨n,rfl⟩;have N:Kp G0 [(Eb g 43 [.slice d e f,I a.At.Row,I a.At.Col,B a.At.Pending,B a.Auto])] A:=(Kp.cons (n.on 1 rfl) Kp.nil0);refine ⟨.inr N,bn H fun b M H=>o1 7 (gc 7 (mQ n a.At u (a.L.length:Int) M) ?_)⟩;rintro v31 D e0 ⟨o,rfl⟩;have P:Kp G0 [(Eb g 43 [.slice d e f,I a.At.Row,I a.At.Col,B a.At.Pending,B a.Auto])] D:=(Kp.cons (o.on 1 rfl) Kp.nil0);refine ⟨.inr P,ta 8 (.pointer (some ⟨g,1,none⟩)) (o1 9 (gD 9 (sB 24 1 [I b.Row,I b.Col,B b.Pending] [.slice d e f,I b.Row,I b.Col,B b.Pending,B a.Auto] 1 o ⟨rfl,rfl,rfl,trivial⟩) ?_))⟩;rintro Z f0 p;refine ⟨.inl rfl,dn (nrm (sr (vx (leN 43 0 [.slice d e f,I b.Row,I b.Col,B b.Pending,B a.Auto] (p.on 1 rfl)) (md (sA 43 [.slice d e f,I b.Row,I b.Col,B b.Pending,B a.Auto] 0 p ⟨h.m.one,rfl,rfl,rfl,rfl,trivial⟩) ?_))))⟩;rintro s g0 q;refine wln (W.ret ?_);obtain rfl:=si H;have y:=q.sD 2 [];exact jZ (c:=s) (vs:=[.slice d e f,I b.Row,I b.Col,B b.Pending,B a.Auto]) rfl (by kernel_rfl) (by kernel_rfl) (by kernel_rfl) (q.on 0 rfl _ rfl).1 ⟨_,s,rfl,rfl,pt,(.slice d e f),y,rfl,h.m⟩
def cY (p0:aa):Option (aa):=
 (ce p0).bind fun a=>
 if (decide ((w64 (a.At.Row+1)) < (a.L.length:Int)))=true then
 some (⟨a.L,(⟨(w64 (a.At.Row+1)),a.At.Col,false⟩:ai),a.Auto⟩:aa)
 else
 (dG a.L 0 (a.L.length:Int) 1 true).bind fun b=>
 some (⟨b,(⟨a.At.Row,a.At.Col,false⟩:ai),a.Auto⟩:aa)
theorem jX (Z:Own c0 G F) (b:aa) {r:aa} (S:Sl am c0 v1 b.L) (H:cY b=some r): Calls prog 204 #[.agg #[v1,I b.At.Row,I b.At.Col,B b.At.Pending,B b.Auto]] c0.w (aN c0 fun c v=>∃X,Own c G (F)∧v= .agg #[X,I r.At.Row,I r.At.Col,B r.At.Pending,B r.Auto]∧Sl am c X r.L):=by
 unfold cY at H;refine en func204 rfl rfl (sr ?_);obtain ⟨M,N,P,rfl⟩:=(S).form;refine me (al 43 [.slice M N P,I b.At.Row,I b.At.Col,B b.At.Pending,B b.Auto] Z) ?_;rintro v9 c8 l8 ⟨d,rfl,O7⟩;refine me (al 43 [Y,I 0,I 0,B false,B false] O7) ?_;rintro v13 e0 l0 ⟨d0,rfl,o⟩;refine wln (sr (vx (leN 43 0 [.slice M N P,I b.At.Row,I b.At.Col,B b.At.Pending,B b.Auto] (o.on 1 rfl)) (bn H fun a R H=>cl (dt o b S.m R) ?_)));rintro v22 f0 m0 ⟨v15,y,rfl,i⟩;obtain ⟨f,g,h,rfl⟩:=(i).form;refine md (sA 43 [.slice f g h,I a.At.Row,I a.At.Col,B a.At.Pending,B a.Auto] 1 y ⟨i.one,rfl,rfl,rfl,rfl,trivial⟩) ?_;rintro g0 o0 z;refine wln (sr (va (Qo d 1) (va (Qo d 3) (md (sC 4 3 (B false) [.slice f g h,I a.At.Row,I a.At.Col,B false,B a.Auto] 1 z ⟨rfl,trivial⟩) ?_))));rintro h0 q0 e;refine wln (W.seq (sr (vv (Qo d 1) (vx (le1 1 u_3 (e.on 1 rfl)) (va (I (w64 (a.At.Row+1))) (va (Q d) (vx (le1 0 dX (e.on 1 rfl)) (vx (ln 3 dX i.m) (va (B (decide ((w64 (a.At.Row+1)) < (a.L.length:Int)))) (wln (cn H (fun T H=>?_) (fun T H=>?_))))))))))))
 ·refine sr (vv (Qo d 1) (vx (le1 1 u_3 (e.on 1 rfl)) (va (I (w64 (a.At.Row+1))) (vv (Qo d 1) (md (sC 3 1 (I (w64 (a.At.Row+1))) [.slice f g h,I (w64 (a.At.Row+1)),I a.At.Col,B false,B a.Auto] 1 e ⟨rfl,trivial⟩) ?_)))));rintro i0 s0 p;refine wln (sr (vx (leN 43 0 [.slice f g h,I (w64 (a.At.Row+1)),I a.At.Col,B false,B a.Auto] (p.on 1 rfl)) (md (sA 43 [.slice f g h,I (w64 (a.At.Row+1)),I a.At.Col,B false,B a.Auto] 0 p ⟨i.m.one,rfl,rfl,rfl,rfl,trivial⟩) ?_)));rintro u t0 q;refine wln (W.ret (thr ?_));obtain rfl:=si H;have A:=q.sD 2 [];exact jZ (c:=u) (vs:=[.slice f g h,I (w64 (a.At.Row+1)),I a.At.Col,B false,B a.Auto]) rfl (by kernel_rfl) (by kernel_rfl) (by kernel_rfl) (q.on 0 rfl _ rfl).1 ⟨_,u,rfl,rfl,pt,(.slice f g h),A,rfl,i.m⟩
 refine W.skip (nrm (sr (va (Q d) (vx (le1 0 dX (e.on 1 rfl)) (va (Q d) (vx (le1 0 dX (e.on 1 rfl)) (vx (ln 3 dX i.m) (bn H fun b0 U H=>cl (kr e a.L 0 (a.L.length:Int) 1 true i.m U) ?_))))))));rintro v37 j0 u0 ⟨_,D,rfl,n⟩;refine va (Q d) ?_;obtain ⟨j,k,l,rfl⟩:=(n).form;refine md (sC 22 0 (.slice j k l) [.slice j k l,I a.At.Row,I a.At.Col,B false,B a.Auto] 1 D ⟨n.one,trivial⟩) ?_;rintro k0 v0 s;refine wln (sr (vx (leN 43 0 [.slice j k l,I a.At.Row,I a.At.Col,B false,B a.Auto] (s.on 1 rfl)) (md (sA 43 [.slice j k l,I a.At.Row,I a.At.Col,B false,B a.Auto] 0 s ⟨n.m.one,rfl,rfl,rfl,rfl,trivial⟩) ?_)));rintro x w0 t;refine wln (W.ret ?_);obtain rfl:=si H;have E:=t.sD 2 [];exact jZ (c:=x) (vs:=[.slice j k l,I a.At.Row,I a.At.Col,B false,B a.Auto]) rfl (by kernel_rfl) (by kernel_rfl) (by kernel_rfl) (t.on 0 rfl _ rfl).1 ⟨_,x,rfl,rfl,pt,(.slice j k l),E,rfl,n.m⟩
def bZ (p0:aa) (p1:Int) (p2:ak):Option (aa):=
 (app ([]:List ak) p0.L).bind fun a=>
 (idx a p1).bind fun c=>
 (pb a p1 p2).bind fun b=>
 some (⟨b,p0.At,p0.Auto⟩:aa)
theorem fV (O0:Own c0 G F) (a:aa) (x:Int) (f:ak) {r:aa} (M:Sl am c0 v1 a.L) (t:Sl ah c0 v3 f.Cells) (H:bZ a x f=some r): Calls prog 98 #[.agg #[v1,I a.At.Row,I a.At.Col,B a.At.Pending,B a.Auto],I x,.agg #[v3,B f.Wrap]] c0.w (aN c0 fun c v=>∃y y2,Own c G (es true am y 71 y2 r.L :: F)∧v= .agg #[y,I r.At.Row,I r.At.Col,B r.At.Pending,B r.Auto]∧OA am c y y2 r.L):=by
 unfold bZ at H;refine en func98 rfl rfl (sr ?_);obtain ⟨a5,a6,a7,rfl⟩:=(M).form;refine me (al 43 [.slice a5 a6 a7,I a.At.Row,I a.At.Col,B a.At.Pending,B a.Auto] O0) ?_;rintro v11 m0 X ⟨s,rfl,O9⟩;obtain ⟨g,h,i,rfl⟩:=((t.mono X)).form;refine me (bx 71 [.slice g h i,B f.Wrap] O9) ?_;rintro v19 o0 w0 ⟨k0,rfl,z,Z⟩;refine me (al 43 [Y,I 0,I 0,B false,B false] z) ?_;rintro v23 q0 x0 ⟨l0,rfl,A⟩;refine wln (sr (me (sl am 71 [] ([]:List ak) A trivial) ?_));rintro v28 s0 y0 ⟨d1,k,N⟩;refine va (Q s) (vx (le1 0 dX (k.on 2 rfl)) (bn H fun f1 P H=>me (ap am (.agg #[Y,B false]) 32 22 0 k N M.m P dX) ?_));rintro v34 t0 z0 ⟨e1,D,j⟩;refine va (Q s) ?_;obtain ⟨b,d,e,rfl⟩:=(j).form;refine md (sC 22 0 (.slice b d e) [.slice b d e,I a.At.Row,I a.At.Col,B a.At.Pending,B a.Auto] 2 D ⟨(j).one,trivial⟩) ?_;rintro u0 a1 l;refine wln (sr (va (Q s) (vx (le1 0 dX (l.on 2 rfl)) (va (I x) (vx (lN 71 (mm Z)) (bn H fun j0 S H=>vx (ixO dX j.m S) (bn H fun i0 U H=>md (Own.stW (R:=am) (T:=71) (us:=[.slice g h i,B f.Wrap]) (x':=f) (u:= .agg #[.slice g h i,B f.Wrap]) 0 l (by kernel_rfl) rfl j.m U rfl (by kernel_rfl) ⟨t.m.one,rfl,trivial⟩ rfl ⟨(.slice g h i),rfl,t.m⟩) ?_)))))));rintro v0 b1 ⟨a0,n,q⟩;refine wln (sr (vx (leN 43 0 [.slice b d e,I a.At.Row,I a.At.Col,B a.At.Pending,B a.Auto] (n.on 2 rfl)) (md (sA 43 [.slice b d e,I a.At.Row,I a.At.Col,B a.At.Pending,B a.Auto] 1 n ⟨(q).one,rfl,rfl,rfl,rfl,trivial⟩) ?_)));rintro p c1 o;refine wln (W.ret ?_);obtain rfl:=si H;have E:=o.sD 3 [0];exact jZ (c:=p) (vs:=[.slice b d e,I a.At.Row,I a.At.Col,B a.At.Pending,B a.Auto]) rfl (by kernel_rfl) (by kernel_rfl) (by kernel_rfl) (o.on 1 rfl _ rfl).1 ⟨_,p,rfl,rfl,pt,(.slice b d e),a0,E,rfl,q.m⟩
def cr (p0:aa):Option (aa):=
 (idx p0.L p0.At.Row).bind fun b=>
 (bZ p0 p0.At.Row (⟨b.Cells,true⟩:ak)).bind fun a=>
 (cY (⟨a.L,(⟨a.At.Row,0,false⟩:ai),a.Auto⟩:aa)).bind fun c=>
 some c
theorem kW (O0:Own c0 G F) (a:aa) {r:aa} (y:Sl am c0 v1 a.L) (H:cr a=some r): Calls prog 157 #[.agg #[v1,I a.At.Row,I a.At.Col,B a.At.Pending,B a.Auto]] c0.w (aN c0 fun c v=>∃y1,Own c G (F)∧v= .agg #[y1,I r.At.Row,I r.At.Col,B r.At.Pending,B r.Auto]∧Sl am c y1 r.L):=by
 unfold cr at H;refine en func157 rfl rfl (sr ?_);obtain ⟨g,h,i,rfl⟩:=(y).form;refine me (al 43 [.slice g h i,I a.At.Row,I a.At.Col,B a.At.Pending,B a.Auto] O0) ?_;rintro v9 c8 l8 ⟨e,rfl,O7⟩;refine me (al 43 [Y,I 0,I 0,B false,B false] O7) ?_;rintro v13 a1 l0 ⟨z0,rfl,T⟩;refine wln (W.seq (rD [14] (Kp G0 [(Eb e 43 [.slice g h i,I a.At.Row,I a.At.Col,B a.At.Pending,B a.Auto])]) T ?_));intro e0 m0 z;have k:Kp G0 [(Eb e 43 [.slice g h i,I a.At.Row,I a.At.Col,B a.At.Pending,B a.Auto])] e0:=(Kp.cons (z.on 1 rfl) Kp.nil0);refine tkx 0 k (fun t f j=>leN 43 0 [.slice g h i,I a.At.Row,I a.At.Col,B a.At.Pending,B a.Auto] (j.on 0 rfl)) (ta 1 (Qo e 1) (ta 2 (Qo e 1) (tkx 3 k (fun t f j=>le1 1 u_3 (j.on 0 rfl)) (ta 4 (Q e) (tkx 5 k (fun t f j=>le1 0 dX (j.on 0 rfl)) (ta 6 (Qo e 1) (ta 7 (Qo e 1) (tkx 8 k (fun t f j=>le1 1 u_3 (j.on 0 rfl)) (bn H fun S P H=>?_)))))))));obtain ⟨y0,g0,s0⟩:=Sl.at (y.mono (l8.trans (l0.trans m0))) (aT P);obtain ⟨v21,rfl,R⟩:=g0;refine tx 9 (fun t f=>ix dX y.m P) (ta 10 (Qo (sb (.slice g h i)) (so (.slice g h i)+a.At.Row.toNat * 2)) (tx 11 (fun t f=>l1 ck ((mm s0) 0 _ rfl)) ?_));obtain ⟨a0,b0,d0,rfl⟩:=(R).form;refine ta 12 (.agg #[.slice a0 b0 d0,B true]) (bn H fun b h0 H=>o1 13 (gc 13 (fV z a a.At.Row (⟨S.Cells,true⟩:ak) y.m R h0) ?_));rintro v35 f0 f1 ⟨v27,j1,A,rfl,u⟩;have t0:Kp G0 [(Eb e 43 [.slice g h i,I a.At.Row,I a.At.Col,B a.At.Pending,B a.Auto])] f0:=(Kp.cons (A.on 2 rfl) Kp.nil0);refine ⟨.inr t0,?_⟩;obtain ⟨l,n,o,rfl⟩:=(u).form;refine o1 14 (gD 14 (sA 43 [.slice l n o,I b.At.Row,I b.At.Col,B b.At.Pending,B b.Auto] 2 A ⟨(u).one,rfl,rfl,rfl,rfl,trivial⟩) ?_);rintro b1 o0 D;refine ⟨.inl rfl,dn (nrm (sr (vv (Qo e 1) (vx (le1 1 u_3 (D.on 2 rfl)) (va (.agg #[I b.At.Row,I 0,B false]) (va (Qo e 1) (md (sB 24 1 [I b.At.Row,I 0,B false] [.slice l n o,I b.At.Row,I 0,B false,B b.Auto] 2 D ⟨rfl,rfl,rfl,trivial⟩) ?_)))))))⟩;rintro c1 q0 E;refine wln (sr (vx (leN 43 0 [.slice l n o,I b.At.Row,I 0,B false,B b.Auto] (E.on 2 rfl)) ?_));obtain ⟨d1,j0,g1,U,i0⟩:=E.frz 0 rfl (u.mono (o0.trans q0));refine WL.gh j0 (bn H fun d k0 H=>cl (jX U (⟨b.L,(⟨b.At.Row,0,false⟩:ai),b.Auto⟩:aa) i0 k0) ?_);rintro v56 e1 h1 ⟨v49,X,rfl,x⟩;obtain ⟨p,q,s,rfl⟩:=(x).form;refine md (sA 43 [.slice p q s,I d.At.Row,I d.At.Col,B d.At.Pending,B d.Auto] 1 X ⟨x.one,rfl,rfl,rfl,rfl,trivial⟩) ?_;rintro N i1 M;refine wln (W.ret ?_);obtain rfl:=si H;have Z:=M.sD 3 [];exact jZ (c:=N) (vs:=[.slice p q s,I d.At.Row,I d.At.Col,B d.At.Pending,B d.Auto]) rfl (by kernel_rfl) (by kernel_rfl) (by kernel_rfl) (M.on 1 rfl _ rfl).1 ⟨_,N,rfl,rfl,pt,(.slice p q s),Z,rfl,x.m⟩
def bX (p0:aa) (p1:Int) (p2:Int) (p3:List ab):Option (aa):=
 (idx p0.L p1).bind fun d=>
 (idx p0.L p1).bind fun b=>
 (ek d.Cells b.Wrap p2 p3).bind fun a=>
 (bZ p0 p1 (⟨a.1,a.2⟩:ak)).bind fun c=>
 some c
theorem kJ (O0:Own c0 G F) (d:aa) (f:Int) (s:Int) (M:List ab) {r:aa} (g:Sl am c0 v1 d.L) (h4:Sl ah c0 v3 M) (H:bX d f s M=some r): Calls prog 158 #[.agg #[v1,I d.At.Row,I d.At.Col,B d.At.Pending,B d.Auto],I f,I s,v3] c0.w (aN c0 fun c v=>∃P y2,Own c G (es true am P 71 y2 r.L :: F)∧v= .agg #[P,I r.At.Row,I r.At.Col,B r.At.Pending,B r.Auto]∧OA am c P y2 r.L):=by
 unfold bX at H;refine en func158 rfl rfl (sr ?_);obtain ⟨h,i,n,rfl⟩:=(g).form;refine me (bx 43 [.slice h i n,I d.At.Row,I d.At.Col,B d.At.Pending,B d.Auto] O0) ?_;rintro v12 d1 A ⟨b8,rfl,O9,q⟩;refine me (al 43 [Y,I 0,I 0,B false,B false] O9) ?_;rintro v16 e1 D ⟨c1,rfl,R⟩;refine wln (W.seq (rD [] (Kp G0 []) R ?_));intro f0 E S;have n1:Kp G0 [] f0:=Kp.nil0;refine ta 0 (Q b8) (tx 1 (fun o e=>l1 dX ((mm q) 0 _ rfl)) (ta 2 (I f) (bn H fun v0 x H=>?_)));obtain ⟨a1,h0,q0⟩:=Sl.at (g.mono (A.trans (D.trans E))) (aT x);obtain ⟨v24,rfl,i0⟩:=h0;refine tx 3 (fun o e=>ix dX g.m x) (ta 4 (Qo (sb (.slice h i n)) (so (.slice h i n)+f.toNat * 2)) (tx 5 (fun o e=>l1 ck ((mm q0) 0 _ rfl)) (ta 6 (Q b8) (tx 7 (fun o e=>l1 dX ((mm q) 0 _ rfl)) (ta 8 (I f) (bn H fun N y H=>?_))))));obtain ⟨b1,j0,s0⟩:=Sl.at (g.mono (A.trans (D.trans E))) (aT y);obtain ⟨v30,rfl,h1⟩:=j0;refine tx 9 (fun o e=>ix dX g.m y) (ta 10 (Qo (sb (.slice h i n)) (so (.slice h i n)+f.toNat * 2+1)) (tx 11 (fun o e=>l1 u_4 ((mm s0) 1 _ rfl)) (ta 12 (I s) (ta 13 (v3) (bn H fun b k0 H=>o1 14 (gc 14 (mh S v0.Cells N.Wrap s M i0 h4.m k0) ?_))))));rintro v41 g0 i1 ⟨v33,q1,T,rfl,z⟩;have t0:Kp G0 [] g0:=Kp.nil0;refine ⟨.inr t0,ta 15 (.tuple #[v33,B b.2]) (ta 16 (v33) (ta 17 (B b.2) (ta 18 (v33) (ta 19 (B b.2) (dn (nrm (sr (vx (lN 43 (mm q)) (va (I f) (va (v33) (va (B b.2) ?_)))))))))))⟩;obtain ⟨a0,b0,d0,rfl⟩:=(z).form;refine va (.agg #[.slice a0 b0 d0,B b.2]) ?_;obtain ⟨f1,m0,j1,U,l0⟩:=T.frz 0 rfl z;refine WL.gh m0 (bn H fun a o0 H=>cl (fV U d f (⟨b.1,b.2⟩:ak) g.m l0 o0) ?_);rintro v59 g1 k1 ⟨v51,u0,X,rfl,p⟩;obtain ⟨j,k,l,rfl⟩:=(p).form;refine md (sA 43 [.slice j k l,I a.At.Row,I a.At.Col,B a.At.Pending,B a.Auto] 2 X ⟨(p).one,rfl,rfl,rfl,rfl,trivial⟩) ?_;rintro u m1 t;refine wln (W.ret ?_);obtain rfl:=si H;have Z:=t.sD 3 [0];exact jZ (c:=u) (vs:=[.slice j k l,I a.At.Row,I a.At.Col,B a.At.Pending,B a.Auto]) rfl (by kernel_rfl) (by kernel_rfl) (by kernel_rfl) (t.on 2 rfl _ rfl).1 ⟨_,u,rfl,rfl,pt,(.slice j k l),u0,Z,rfl,p.m⟩
def fy (p0:ai) (p1:Int) (p2:Int) (p3:Bool):Option (ai):=
 (if (decide (p1 > 1))=true then
 some (2)
 else
 some (1)).bind fun a=>
 (bY p2).bind fun b=>
 if (decide (p0.Col≥(w64 (b - a))))=true then
 (bY p2).bind fun c=>
 some (⟨p0.Row,(w64 (c - 1)),p3⟩:ai)
 else
 some (⟨p0.Row,(w64 (p0.Col+a)),false⟩:ai)
theorem pM (O0:Own c0 G F) (a:ai) (n:Int) (g:Int) (h:Bool) {r:ai} (H:fy a n g h=some r): Calls prog 160 #[.agg #[I a.Row,I a.Col,B a.Pending],I n,I g,B h] c0.w (aN c0 fun c v=>Own c G (F)∧v= .agg #[I r.Row,I r.Col,B r.Pending]):=by
 unfold fy at H;refine en func160 rfl rfl (sr (me (bx 24 [I a.Row,I a.Col,B a.Pending] O0) ?_));rintro v5 c4 l4 ⟨i,rfl,O2,m⟩;refine me (al 24 [I 0,I 0,B false] O2) ?_;rintro v9 t l8 ⟨M,rfl,E⟩;refine wln (sr (va (I 1) (wln (bn H fun d f b=>W.seqJ (Jn t fun c l=>Own c G ((Eb M 24 [I 0,I 0,B false]) :: F)∧l= [(2,I g),(3,B h),(4,Q i),(8,Q M),(9,I d)]) ?_ ?_))))
 ·refine sr (va (I n) (va (B (decide (n > 1))) (wln (cn f (fun T f=>?_) (fun T f=>?_)))))
  ·refine W.region (va (I 2) (wln ?_));obtain rfl:=si f;exact jn t ⟨E,rfl⟩
  refine W.skip (nrm ?_);obtain rfl:=si f;exact jn t ⟨E,rfl⟩
 rintro e_ w_ ⟨i0,j0,_,rfl,k0,rfl,u,rfl⟩;refine W.seq (W.seq (rD [] (Kp G0 []) u ?_));intro N l0 x;have u0:Kp G0 [] N:=Kp.nil0;refine ta 0 (.pointer (some ⟨i,0+1,none⟩)) (tx 1 (fun c' a0=>l1 u_3 ((mm m) 1 _ rfl)) (ta 2 (I g) (ta 4 (I d) (bn b fun k U b=>o1 3 (gc 3 (dO x g U) ?_)))));rintro v28 P m0 ⟨o,rfl⟩;have b0:Kp G0 [] P:=Kp.nil0;refine ⟨.inr b0,ta 5 (I (w64 (k - d))) (ta 6 (B (decide (a.Col≥(w64 (k - d))))) (dn (nrm (cn b (fun X b=>?_) (fun X b=>?_)))))⟩
 ·refine W.seq (rD [] (Kp G0 []) o ?_);intro R o0 y;have v0:Kp G0 [] R:=Kp.nil0;refine ta 0 (Q i) (tx 1 (fun c' a0=>l1 u_3 ((mm m) 0 _ rfl)) (ta 2 (I g) (ta 5 (B h) (bn b fun e Z b=>o1 3 (gc 3 (dO y g Z) ?_)))));rintro v40 S q0 ⟨z,rfl⟩;have d0:Kp G0 [] S:=Kp.nil0;refine ⟨.inr d0,ta 4 (I (w64 (e - 1))) (ta 6 (.agg #[I a.Row,I (w64 (e - 1)),B h]) (o1 7 (gD 7 (sA 24 [I a.Row,I (w64 (e - 1)),B h] 0 z ⟨rfl,rfl,rfl,trivial⟩) ?_)))⟩;rintro j s0 p;have e0:Kp G0 [] j:=Kp.nil0;refine ⟨.inr e0,dn (nrm (W.ret (thr ?_)))⟩;obtain rfl:=si b;have A:=p.sD 1 [];exact jZ (c:=j) (vs:=[I a.Row,I (w64 (e - 1)),B h]) rfl (by kernel_rfl) (by kernel_rfl) (by kernel_rfl) (p.on 0 rfl _ rfl).1 ⟨_,j,rfl,rfl,pt,A,rfl⟩
 refine W.skip (nrm (sr (va (Q i) (vx (l1 u_3 ((mm m) 0 _ rfl)) (va (Qo i (0+1)) (vx (l1 u_3 ((mm m) 1 _ rfl)) (va (I d) (va (I (w64 (a.Col+d))) (va (.agg #[I a.Row,I (w64 (a.Col+d)),B false]) (md (sA 24 [I a.Row,I (w64 (a.Col+d)),B false] 0 o ⟨rfl,rfl,rfl,trivial⟩) ?_))))))))));rintro s t0 q;refine wln (W.ret ?_);obtain rfl:=si b;have D:=q.sD 1 [];exact jZ (c:=s) (vs:=[I a.Row,I (w64 (a.Col+d)),B false]) rfl (by kernel_rfl) (by kernel_rfl) (by kernel_rfl) (q.on 0 rfl _ rfl).1 ⟨_,s,rfl,rfl,pt,D,rfl⟩
def aW (p0:aa) (p1:Int) (p2:List Int):Option (aa×ai):=
 (ce p0).bind fun c=>
 (cC c).bind fun d=>
 (if (decide ((aE 1 (aB p1 2)) > d))=true then
 some (1,([65533]:List Int))
 else
 some ((aE 1 (aB p1 2)),p2)).bind fun g=>
 (if c.At.Pending=true then
 (cr c).bind fun e=>
 some (e.L,e.At.Row,e.At.Col,e.At.Pending,e.Auto)
 else
 some (c.L,c.At.Row,c.At.Col,c.At.Pending,c.Auto)).bind fun a=>
 ((bI (g.1==2) (some (a.2.2.1==(w64 (d - 1))))).bind fun i=>
 if i=true then
 if a.2.2.2.2=true then
 (rep 1 (⟨0,([]:List Int)⟩:ab)).bind fun j=>
 (bX (⟨a.1,(⟨a.2.1,a.2.2.1,a.2.2.2.1⟩:ai),a.2.2.2.2⟩:aa) a.2.1 (w64 (d - 1)) j).bind fun k=>
 (cr k).bind fun f=>
 some (f.L,f.At.Row,f.At.Col,f.At.Pending,f.Auto)
 else
 some (a.1,a.2.1,(w64 (d - 2)),a.2.2.2.1,a.2.2.2.2)
 else
 some (a.1,a.2.1,a.2.2.1,a.2.2.2.1,a.2.2.2.2)).bind fun b=>
 (gY g.1 g.2).bind fun l=>
 (bX (⟨b.1,(⟨b.2.1,b.2.2.1,b.2.2.2.1⟩:ai),b.2.2.2.2⟩:aa) b.2.1 b.2.2.1 l).bind fun h=>
 (fy (⟨b.2.1,b.2.2.1,false⟩:ai) g.1 d h.Auto).bind fun m=>
 some ((⟨h.L,m,h.Auto⟩:aa),(⟨b.2.1,b.2.2.1,false⟩:ai))
theorem oQ (O0:Own c0 G F) (u:aa) (p1:Int) (p2:List Int) {r:aa×ai} (h2:Sl am c0 v1 u.L) (h4:Sl (RI .i32) c0 v3 p2) (H:aW u p1 p2=some r): Calls prog 88 #[.agg #[v1,I u.At.Row,I u.At.Col,B u.At.Pending,B u.Auto],I p1,v3] c0.w (aN c0 fun c v=>∃y1 y2,Own c G (es true am y1 71 y2 r.1.L :: F)∧v= .tuple #[.agg #[y1,I r.1.At.Row,I r.1.At.Col,B r.1.At.Pending,B r.1.Auto],.agg #[I r.2.Row,I r.2.Col,B r.2.Pending]]∧OA am c y1 y2 r.1.L):=by
 unfold aW at H;refine en func88 rfl rfl (sr ?_);obtain ⟨a5,a6,a7,rfl⟩:=(h2).form;refine me (al 43 [.slice a5 a6 a7,I u.At.Row,I u.At.Col,B u.At.Pending,B u.Auto] O0) ?_;rintro v11 m7 w7 ⟨f,rfl,O9⟩;refine me (al 43 [Y,I 0,I 0,B false,B false] O9) ?_;rintro v15 n7 x7 ⟨D,rfl,u4⟩;refine me (al 24 [I 0,I 0,B false] u4) ?_;rintro v19 o7 y7 ⟨E,rfl,s1⟩;refine wln (sr (vx (leN 43 0 [.slice a5 a6 a7,I u.At.Row,I u.At.Col,B u.At.Pending,B u.Auto] (s1.on 2 rfl)) (bn H fun h j5 H=>cl (dt s1 u h2.m j5) ?_)));rintro v28 p7 z7 ⟨v21,v4,rfl,e0⟩;obtain ⟨a0,b0,d0,rfl⟩:=(e0).form;refine md (sA 43 [.slice a0 b0 d0,I h.At.Row,I h.At.Col,B h.At.Pending,B h.Auto] 2 v4 ⟨e0.one,rfl,rfl,rfl,rfl,trivial⟩) ?_;rintro q7 a8 t1;refine wln (sr (va (I p1) (va (I (aB p1 2)) (vv (I (aE 1 (aB p1 2))) (wln (sr (vx (leN 43 0 [.slice a0 b0 d0,I h.At.Row,I h.At.Col,B h.At.Pending,B h.Auto] (t1.on 2 rfl)) (bn H fun e k5 H=>cl (fW t1 h e0.m k5) ?_))))))));rintro v40 a2 c8 ⟨u1,rfl⟩;refine va (I e) (wln (bn H fun n Z r4=>W.seqJ (Jn a2 fun c l=>∃v43,Own c G ((Eb E 24 [I 0,I 0,B false]) :: (Eb D 43 [Y,I 0,I 0,B false,B false]) :: (Eb f 43 [.slice a0 b0 d0,I h.At.Row,I h.At.Col,B h.At.Pending,B h.Auto]) :: F)∧l= [(1,I n.1),(2,v43),(3,Q f),(6,Q D),(7,Q E),(8,I e)]∧Sl (RI .i32) c v43 n.2) ?_ ?_))
 ·refine sr (va (I (aE 1 (aB p1 2))) (va (I e) (va (B (decide ((aE 1 (aB p1 2)) > e))) (wln (cn Z (fun l5 Z=>?_) (fun l5 Z=>?_))))))
  ·refine sr (va (I 1) (wln (W.region (me (sl (RI .i32) 21 [[J 65533]] ([65533]:List Int) u1 ⟨rfl,trivial⟩) ?_))));rintro v49 r7 d8 ⟨k8,w4,m5⟩;refine va (v49) (wln ?_);obtain rfl:=si Z;obtain ⟨f5,o5,e8,x4,n5⟩:=w4.frz 0 rfl m5;have y4:=x4.sD 4 [1,2,3];exact ⟨f5,_,_,o5.symm,pt,us,v49,y4,rfl,n5⟩
  refine W.skip (nrm ?_);obtain rfl:=si Z;exact jn a2 ⟨v3,u1,rfl,h4.m⟩
 rintro e_ w_ ⟨b2,t7,_,rfl,f8,rfl,v43,v0,rfl,p5⟩;refine bn r4 fun b M s4=>W.seqJ (Jn b2 fun c l=>∃p,Own c G ((Eb E 24 [I 0,I 0,B false]) :: (Eb D 43 [Y,I 0,I 0,B false,B false]) :: (Eb f 43 [p,I b.2.1,I b.2.2.1,B b.2.2.2.1,B b.2.2.2.2]) :: F)∧l= [(1,I n.1),(2,v43),(3,Q f),(6,Q D),(7,Q E),(8,I e)]∧Sl am c p b.1) ?_ ?_
 ·refine sr (va (Qo f 1) (va (Qo f 3) (vx (le1 3 u_4 (v0.on 2 rfl)) (wln (cn M (fun q5 M=>?_) (fun q5 M=>?_))))))
  ·refine W.region (vx (leN 43 0 [.slice a0 b0 d0,I h.At.Row,I h.At.Col,B h.At.Pending,B h.Auto] (v0.on 2 rfl)) (bn M fun U r5 M=>cl (kW v0 h e0.m r5) ?_));rintro m8 s7 g8 ⟨l8,z4,rfl,k1⟩;obtain ⟨w1,x1,z1,rfl⟩:=(k1).form;refine md (sA 43 [.slice w1 x1 z1,I U.At.Row,I U.At.Col,B U.At.Pending,B U.Auto] 2 z4 ⟨k1.one,rfl,rfl,rfl,rfl,trivial⟩) ?_;rintro g5 h8 b5;refine wln ?_;obtain rfl:=si M;exact jn g5 ⟨(.slice w1 x1 z1),b5,rfl,k1.m⟩
  refine W.skip (nrm ?_);obtain rfl:=si M;exact jn b2 ⟨(.slice a0 b0 d0),v0,rfl,e0.m⟩
 rintro e_ w_ ⟨x0,u7,_,rfl,i8,rfl,p,f1,rfl,m1⟩;refine bn s4 fun a g N=>W.seqJ (Jn x0 fun c l=>∃y,Own c G ((Eb E 24 [I 0,I 0,B false]) :: (Eb D 43 [Y,I 0,I 0,B false,B false]) :: (Eb f 43 [y,I a.2.1,I a.2.2.1,B a.2.2.2.1,B a.2.2.2.2]) :: F)∧l= [(1,I n.1),(2,v43),(3,Q f),(6,Q D),(7,Q E),(8,I e)]∧Sl am c y a.1) ?_ ?_
 ·refine W.seq (bn g fun d3 c2 g=>W.join (Jn x0 fun c l=>Own c G ((Eb E 24 [I 0,I 0,B false]) :: (Eb D 43 [Y,I 0,I 0,B false,B false]) :: (Eb f 43 [p,I b.2.1,I b.2.2.1,B b.2.2.2.1,B b.2.2.2.2]) :: F)∧l= [(1,I n.1),(2,v43),(3,Q f),(6,Q D),(7,Q E),(8,I e),(35,B d3)]) ?_ ?_)
  ·clear g;refine W.region (va (I n.1) (va (B (n.1==2)) ?_));rcases bo (n.1==2) with f0 | f0
   ·have t4:=anT f0 c2;refine vb f0 (wa (Qo f 1) (wa (Qo f 2) (wn (vx (le1 2 u_3 (f1.on 2 rfl)) (wa (I e) (wa (I (w64 (e - 1))) (wa (B (b.2.2.1==(w64 (e - 1)))) ?_)))))));obtain rfl:=si t4;exact va (B (b.2.2.1==(w64 (e - 1)))) (wln (jn x0 ⟨f1,rfl⟩))
   obtain rfl:=anF f0 c2;exact vb f0 (pz (pz (pz (va (B false) (wln (jn x0 ⟨f1,rfl⟩))))))
  rintro e_ w_ ⟨h5,v7,_,rfl,j8,rfl,w0,rfl⟩;refine nrm (cn g (fun s5 g=>?_) (fun s5 g=>?_))
  ·refine sr (va (Qo f 4) (vx (le1 4 u_4 (w0.on 2 rfl)) (wln (cn g (fun f3 g=>?_) (fun f3 g=>?_)))))
   ·refine rD [9] (Kp G0 [(Eb f 43 [p,I b.2.1,I b.2.2.1,B b.2.2.2.1,B b.2.2.2.2])]) w0 ?_;intro m2 g6 z0;have n1:Kp G0 [(Eb f 43 [p,I b.2.1,I b.2.2.1,B b.2.2.2.1,B b.2.2.2.2])] m2:=(Kp.cons (z0.on 2 rfl) Kp.nil0);refine tkx 0 n1 (fun c' S A=>leN 43 0 [p,I b.2.1,I b.2.2.1,B b.2.2.2.1,B b.2.2.2.2] (A.on 0 rfl)) (ta 1 (Qo f 1) (ta 2 (Qo f 1) (tkx 3 n1 (fun c' S A=>le1 1 u_3 (A.on 0 rfl)) (ta 4 (I e) (ta 5 (I (w64 (e - 1))) (bn g fun n4 j1 g=>o1 6 (gm 6 (Own.mkS (kl:= .i64) (kc:= .i64) (R:=ah) (z:= .agg #[I 0,Y]) (lz:=[I 0,Y]) (x:=(⟨0,([]:List Int)⟩:ab)) (by_:=32) (i:=1) (j:=1) true z0 (aM _) j1 (oY _) (rW j1) ck (by kernel_rfl) rfl rfl (fun _=>⟨(Y),rfl,(Sl.nl _ _)⟩) (by kernel_rfl) (by kernel_rfl)) ?_)))))));rintro c7 n2 h6 ⟨y6,a1,g3⟩;have a4:Kp G0 [(Eb f 43 [p,I b.2.1,I b.2.2.1,B b.2.2.2.1,B b.2.2.2.2])] n2:=(Kp.cons (a1.on 3 rfl) Kp.nil0);refine ⟨.inr a4,?_⟩;obtain ⟨o2,i3,x3,b1,h3⟩:=a1.frz 0 rfl g3;have b4:Kp G0 [(Eb f 43 [p,I b.2.1,I b.2.2.1,B b.2.2.2.1,B b.2.2.2.2])] o2:=(Kp.cons (b1.on 3 rfl) Kp.nil0);refine AC.gh i3 x3 (fun _=>b4) (bn g fun o4 j3 g=>o1 7 (gc 7 (kJ b1 (⟨b.1,(⟨b.2.1,b.2.2.1,b.2.2.2.1⟩:ai),b.2.2.2.2⟩:aa) b.2.1 (w64 (e - 1)) n4 m1.m h3 j3) ?_));rintro e7 q2 i6 ⟨d7,z6,c1,rfl,k3⟩;have c4:Kp G0 [(Eb f 43 [p,I b.2.1,I b.2.2.1,B b.2.2.2.1,B b.2.2.2.2])] q2:=(Kp.cons (c1.on 4 rfl) Kp.nil0);refine ⟨.inr c4,?_⟩;obtain ⟨s2,m3,y3,d1,l3⟩:=c1.frz 0 rfl k3;have d4:Kp G0 [(Eb f 43 [p,I b.2.1,I b.2.2.1,B b.2.2.2.1,B b.2.2.2.2])] s2:=(Kp.cons (d1.on 4 rfl) Kp.nil0);refine AC.gh m3 y3 (fun _=>d4) (bn g fun X n3 g=>o1 8 (gc 8 (kW d1 o4 l3 n3) ?_));rintro g7 t2 j6 ⟨f7,e1,rfl,t0⟩;have e4:Kp G0 [(Eb f 43 [p,I b.2.1,I b.2.2.1,B b.2.2.2.1,B b.2.2.2.2])] t2:=(Kp.cons (e1.on 4 rfl) Kp.nil0);refine ⟨.inr e4,?_⟩;obtain ⟨g1,h1,i1,rfl⟩:=(t0).form;refine o1 9 (gD 9 (sA 43 [.slice g1 h1 i1,I X.At.Row,I X.At.Col,B X.At.Pending,B X.Auto] 4 e1 ⟨t0.one,rfl,rfl,rfl,rfl,trivial⟩) ?_);rintro u2 k6 d2;refine ⟨.inl rfl,dn (nrm ?_)⟩;obtain rfl:=si g;have e2:=d2.sD 5 [2,3,4];exact jn u2 ⟨(.slice g1 h1 i1),e2,rfl,t0.m⟩
   refine W.region (va (I e) (va (I (w64 (e - 2))) (va (Qo f 1) (va (Qo f 2) (md (sC 3 2 (I (w64 (e - 2))) [p,I b.2.1,I (w64 (e - 2)),B b.2.2.2.1,B b.2.2.2.2] 2 w0 ⟨rfl,trivial⟩) ?_)))));rintro v2 l6 f2;refine wln ?_;obtain rfl:=si g;exact jn v2 ⟨p,f2,rfl,m1.m⟩
  refine W.skip (nrm ?_);obtain rfl:=si g;exact jn h5 ⟨p,w0,rfl,m1.m⟩
 rintro e_ w_ ⟨x5,e6,_,rfl,m6,rfl,y,h0,rfl,o3⟩;refine sr (vv (Qo f 1) (vx (le1 1 u_3 (h0.on 2 rfl)) (va (Qo f 1) (va (Qo f 2) (vx (le1 2 u_3 (h0.on 2 rfl)) (va (.agg #[I a.2.1,I a.2.2.1,B false]) (me (al 24 [I 0,I 0,B false] h0) ?_)))))));rintro h7 y5 n6 ⟨o,rfl,g2⟩;refine md (sA 24 [I a.2.1,I a.2.2.1,B false] 0 g2 ⟨rfl,rfl,rfl,trivial⟩) ?_;rintro z5 o6 i2;refine wln (W.seq (rD [9] (Kp G0 [(Eb f 43 [y,I a.2.1,I a.2.2.1,B a.2.2.2.1,B a.2.2.2.2]),(Eb o 24 [I a.2.1,I a.2.2.1,B false])]) i2 ?_));intro w2 p6 i0;have u0:Kp G0 [(Eb f 43 [y,I a.2.1,I a.2.2.1,B a.2.2.2.1,B a.2.2.2.2]),(Eb o 24 [I a.2.1,I a.2.2.1,B false])] w2:=(Kp.cons (i0.on 3 rfl) (Kp.cons (i0.on 0 rfl) Kp.nil0));refine tkx 0 u0 (fun c' S A=>leN 43 0 [y,I a.2.1,I a.2.2.1,B a.2.2.2.1,B a.2.2.2.2] (A.on 0 rfl)) (ta 1 (Q o) (tkx 2 u0 (fun c' S A=>le1 0 u_3 (A.on 1 rfl)) (ta 3 (Qo o 1) (tkx 4 u0 (fun c' S A=>le1 1 u_3 (A.on 1 rfl)) (ta 5 (I n.1) (ta 6 (v43) (bn N fun p4 p3 N=>o1 7 (gc 7 (sa i0 n.1 n.2 p5.m p3) ?_))))))));rintro i7 x2 q6 ⟨_,b7,j0,rfl,q3⟩;have f4:Kp G0 [(Eb f 43 [y,I a.2.1,I a.2.2.1,B a.2.2.2.1,B a.2.2.2.2]),(Eb o 24 [I a.2.1,I a.2.2.1,B false])] x2:=(Kp.cons (j0.on 4 rfl) (Kp.cons (j0.on 1 rfl) Kp.nil0));refine ⟨.inr f4,?_⟩;obtain ⟨z2,t3,z3,k0,s3⟩:=j0.frz 0 rfl q3;have g4:Kp G0 [(Eb f 43 [y,I a.2.1,I a.2.2.1,B a.2.2.2.1,B a.2.2.2.2]),(Eb o 24 [I a.2.1,I a.2.2.1,B false])] z2:=(Kp.cons (k0.on 4 rfl) (Kp.cons (k0.on 1 rfl) Kp.nil0));refine AC.gh t3 z3 (fun _=>g4) (bn N fun k u3 N=>o1 8 (gc 8 (kJ k0 (⟨a.1,(⟨a.2.1,a.2.2.1,a.2.2.2.1⟩:ai),a.2.2.2.2⟩:aa) a.2.1 a.2.2.1 p4 o3.m s3 u3) ?_));rintro k7 a3 r6 ⟨j7,l4,l0,rfl,T⟩;have i4:Kp G0 [(Eb f 43 [y,I a.2.1,I a.2.2.1,B a.2.2.2.1,B a.2.2.2.2]),(Eb o 24 [I a.2.1,I a.2.2.1,B false])] a3:=(Kp.cons (l0.on 5 rfl) (Kp.cons (l0.on 2 rfl) Kp.nil0));refine ⟨.inr i4,?_⟩;obtain ⟨q,s,t,rfl⟩:=(T).form;refine o1 9 (gD 9 (sA 43 [.slice q s t,I k.At.Row,I k.At.Col,B k.At.Pending,B k.Auto] 5 l0 ⟨(T).one,rfl,rfl,rfl,rfl,trivial⟩) ?_);rintro b6 s6 m0;refine ⟨.inl rfl,dn (nrm (sr (vx (leN 24 0 [I a.2.1,I a.2.2.1,B false] (m0.on 2 rfl)) (va (I n.1) (va (I e) (va (Qo f 4) (vx (le1 4 u_4 (m0.on 5 rfl)) (bn N fun d w3 N=>cl (pM m0 (⟨a.2.1,a.2.2.1,false⟩:ai) n.1 e k.Auto w3) ?_))))))))⟩;rintro l7 c6 t6 ⟨j2,rfl⟩;refine va (.pointer (some ⟨f,1,none⟩)) (md (sB 24 1 [I d.Row,I d.Col,B d.Pending] [.slice q s t,I d.Row,I d.Col,B d.Pending,B k.Auto] 5 j2 ⟨rfl,rfl,rfl,trivial⟩) ?_);rintro d6 u6 k2;refine wln (W.seq (rD [] (Kp G0 [(Eb f 43 [.slice q s t,I d.Row,I d.Col,B d.Pending,B k.Auto]),(Eb o 24 [I a.2.1,I a.2.2.1,B false])]) k2 ?_));intro b3 v6 o0;have q1:Kp G0 [(Eb f 43 [.slice q s t,I d.Row,I d.Col,B d.Pending,B k.Auto]),(Eb o 24 [I a.2.1,I a.2.2.1,B false])] b3:=(Kp.cons (o0.on 5 rfl) (Kp.cons (o0.on 2 rfl) Kp.nil0));refine tkx 0 q1 (fun c' S A=>leN 43 0 [.slice q s t,I d.Row,I d.Col,B d.Pending,B k.Auto] (A.on 0 rfl)) (tkx 1 q1 (fun c' S A=>leN 24 0 [I a.2.1,I a.2.2.1,B false] (A.on 1 rfl)) (o1 2 (gD 2 (sA 43 [.slice q s t,I d.Row,I d.Col,B d.Pending,B k.Auto] 4 o0 ⟨T.m.one,rfl,rfl,rfl,rfl,trivial⟩) ?_)));rintro c3 w6 q0;have j4:Kp G0 [(Eb f 43 [.slice q s t,I d.Row,I d.Col,B d.Pending,B k.Auto]),(Eb o 24 [I a.2.1,I a.2.2.1,B false])] c3:=(Kp.cons (q0.on 5 rfl) (Kp.cons (q0.on 2 rfl) Kp.nil0));refine ⟨.inr j4,o1 3 (gD 3 (sA 24 [I a.2.1,I a.2.2.1,B false] 3 q0 ⟨rfl,rfl,rfl,trivial⟩) ?_)⟩;rintro s0 x6 P;have k4:Kp G0 [(Eb f 43 [.slice q s t,I d.Row,I d.Col,B d.Pending,B k.Auto]),(Eb o 24 [I a.2.1,I a.2.2.1,B false])] s0:=(Kp.cons (P.on 5 rfl) (Kp.cons (P.on 2 rfl) Kp.nil0));refine ⟨.inr k4,dn (nrm (W.ret ?_))⟩;obtain rfl:=si N;have l2:=P.sD 6 [0];exact GY (c:=s0) (vs:=[.slice q s t,I d.Row,I d.Col,B d.Pending,B k.Auto]) (vs':=[I a.2.1,I a.2.2.1,B false]) rfl (by kernel_rfl) (by kernel_rfl) (by kernel_rfl) (P.on 4 rfl _ rfl).1 (by kernel_rfl) (by kernel_rfl) (by kernel_rfl) (P.on 3 rfl _ rfl).1 ⟨_,s0,rfl,rfl,pt,(.slice q s t),l4,l2,rfl,T.m⟩
end Go.Proofs.YthokmpbbkpjhbaaGreatDoor
namespace Go.Proofs.YthokmpbbkpjhbaaGreatDoor
open Go Go.Lt
set_option maxRecDepth 10000
set_option linter.unusedVariables false
attribute [local irreducible] W WL AC
theorem th {Q:Program} (w:World) (dT sT ty E:TypeId) (g o dLen dCap:Nat) (a:Addr) (sLen sCap n size:Nat) (us vs:List Value) (T:TypeId)
  (hu:Q.underlying dT=some (.slice E)) (hs:(Q.info? E).map (·.size)=some size) (hn:Nat.min sLen dLen=n) (hul:us.length=n * size)
  (hsrc:∀j v,us[j]? = some v→w.cell? (a.add j)=some v) (hrow:w.heap[g]? = some (.cells vs.toArray T (0,0))) (hl:o+us.length≤vs.length) (h1:∀v∈us,v.oneCell'=true):
  (Builtin.copy_ #[dT,sT] ty #[.slice (some ⟨g,o,none⟩) dLen dCap,.slice (some a) sLen sCap]).run Q w= .ok (goInt n) (w.setRow g (vs.take o++us++vs.drop (o+us.length)).toArray):=by
 obtain ⟨i,hi,hsz⟩:=Option.map_eq_some_iff.1 hs;have hf:=HH (P:=Q) (w:=w) size n a sLen sCap us hul hsrc;have hst:=yp Q g o T us 0 vs.toArray w hrow (by simpa using hl) h1;simp only [qo] at hst;simp [Builtin.copy_,bP hu,Builtin.lenOf,sizeOf,typeInfo,hi,hsz,hn,hf,hst]
set_option maxHeartbeats 4000000 in
set_option maxRecDepth 100000 in
theorem BQ {w:World} {g n cap i vb m vc:Nat} {vs us vs2:List Value} {T T2:TypeId} (hrow:w.heap[g]? = some (.cells vs.toArray T (0,0))) (hrow2:w.heap[vb]? = some (.cells vs2.toArray T2 (0,0)))
  (hi:i < n) (hm:0 < m) (hroom:n+m≤cap) (hcap:cap * 2≤vs.length) (hc63:cap≤9223372036854775807) (hvb:vb≠g) (hul:us.length=m * 2) (hus:∀(j:Nat) (v:Value),us[j]? = some v→vs2[j]? = some v)
  (h1:∀v∈vs.take (n * 2),v.oneCell'=true) (h2:∀v∈us,v.oneCell'=true):
  Calls Tryz.prog 218 #[.slice (some ⟨g,0,none⟩) n cap,.int .i64 i,.slice (some ⟨vb,0,none⟩) m vc] w fun e w'=>
   e= .returned (.slice (some ⟨g,0,none⟩) (n+m) cap)∧w'=(w.drew.setRow g (vs.take ((i+m) * 2)++(vs.drop (i * 2)).take ((n - i) * 2)++vs.drop ((n+m) * 2)).toArray).setRow g (vs.take (i * 2)++us++(vs.drop (i * 2)).take ((n - i) * 2)++vs.drop ((n+m) * 2)).toArray:=by
 have hsz:(Tryz.prog.info? 101).map (·.size)=some 2:=by kernel_rfl
 have hov:∀lb cb,(callFunc 249 #[.slice (some ⟨vb,0,none⟩) m vc,.slice (some ⟨g,(i+m) * 2,none⟩) lb cb]).run Tryz.prog w= .ok (.value (.bool false)) w:=fun lb cb=>by
  rw [cH Tryz.func249 (by kernel_rfl) (by kernel_rfl) (by kernel_rfl) (e:=Extern.SlicesOverlaps.overlaps #[69,69] #[4]) (by kernel_rfl)];rw [Lib.run_overlaps_apart w 69 4 101 Tryz.underlying69 2 (fun w=>by kernel_rfl) ⟨vb,0,none⟩ ⟨g,(i+m) * 2,none⟩ m vc lb cb hvb T2 T vs2.length vs.length (by simp [World.shape?,hrow2]) (by simp [World.shape?,hrow]) (by omega) (by simp [World.frozen?,hrow2]) (by simp [World.frozen?,hrow2])];rfl
 have hdl:((vs.drop (i * 2)).take ((n - i) * 2)).length=(n - i) * 2:=by rw [ay,bu]; omega
 have hcp1:∀ty dc sc,(Builtin.copy_ #[69,69] ty #[.slice (some ⟨g,(i+m) * 2,none⟩) (n+m - (i+m)) dc,.slice (some ⟨g,i * 2,none⟩) (n+m - i) sc]).run Tryz.prog w.drew= .ok (goInt ((n - i:Nat):Int)) (w.drew.setRow g (vs.take ((i+m) * 2)++(vs.drop (i * 2)).take ((n - i) * 2)++vs.drop ((n+m) * 2)).toArray):=fun ty dc sc=>by
  have:=th (Q:=Tryz.prog) w.drew 69 69 ty 101 g ((i+m) * 2) (n+m - (i+m)) dc ⟨g,i * 2,none⟩ (n+m - i) sc (n - i) 2 ((vs.drop (i * 2)).take ((n - i) * 2)) vs T Tryz.underlying69 hsz (by simp only [A6]; split <;> omega) hdl
   (fun j v hj=>by
    rw [fq];rw [aS] at hj;split at hj
    ·rw [bM] at hj;rw [gp w.drew g (i * 2+j) vs.toArray T (0,0) hrow,bW];exact hj
    ·cases hj) hrow (by rw [hdl]; omega) (fun v hv=>h1 v (by rw [show (n - i) * 2=n * 2 - i * 2 by omega,←ip] at hv; exact fD hv))
  rw [hdl,show (i+m) * 2+(n - i) * 2=(n+m) * 2 by omega] at this;exact this
 obtain ⟨W1,hW1⟩:∃W1,W1=w.drew.setRow g (vs.take ((i+m) * 2)++(vs.drop (i * 2)).take ((n - i) * 2)++vs.drop ((n+m) * 2)).toArray:=⟨_,rfl⟩;have hr1:W1.heap[g]? = some (.cells (vs.take ((i+m) * 2)++(vs.drop (i * 2)).take ((n - i) * 2)++vs.drop ((n+m) * 2)).toArray T (0,0)):=by
  rw [hW1];exact Ay w.drew g vs.toArray _ T (0,0) hrow
 have hr2:W1.heap[vb]? = some (.cells vs2.toArray T2 (0,0)):=by
  rw [hW1,FH w.drew g vb _ hvb];exact hrow2
 have hA2:(vs.take ((i+m) * 2)++(vs.drop (i * 2)).take ((n - i) * 2)++vs.drop ((n+m) * 2)).take (i * 2)=vs.take (i * 2):=by
  rw [aK,cX (by rw [ay]; omega),fg,cp (by omega)]
 have hA3:(vs.take ((i+m) * 2)++(vs.drop (i * 2)).take ((n - i) * 2)++vs.drop ((n+m) * 2)).drop (i * 2+m * 2)=(vs.drop (i * 2)).take ((n - i) * 2)++vs.drop ((n+m) * 2):=by
  have hl:(vs.take ((i+m) * 2)).length=i * 2+m * 2:=by rw [ay]; omega
  rw [aK,←hl,kx]
 have hcp2:∀ty dc,(Builtin.copy_ #[69,69] ty #[.slice (some ⟨g,i * 2,none⟩) (n+m - i) dc,.slice (some ⟨vb,0,none⟩) m vc]).run Tryz.prog W1= .ok (goInt m) (W1.setRow g (vs.take (i * 2)++us++(vs.drop (i * 2)).take ((n - i) * 2)++vs.drop ((n+m) * 2)).toArray):=fun ty dc=>by
  have:=th (Q:=Tryz.prog) W1 69 69 ty 101 g (i * 2) (n+m - i) dc ⟨vb,0,none⟩ m vc m 2 us _ T Tryz.underlying69 hsz (by simp only [A6]; split <;> omega) hul
   (fun j v hj=>by
    rw [fq,gp W1 vb (0+j) vs2.toArray T2 (0,0) hr2,bW,jf];exact hus j v hj) hr1 (by simp only [aA,ay,bu]; omega) h2
  rw [hul,hA2,hA3,←aK] at this;exact this
 rw [←hW1] at hcp1⊢;have hw1:IntKind.i64.wrap ((i:Int)+(m:Int))=(i:Int)+(m:Int):=by rw [Au]; omega
 have hb1:(0:Int)≤(i:Int)+(m:Int):=by omega
 have hin:i≤n:=by omega
 have hz1:¬((m:Int)=0):=by omega
 have hz2:¬((i:Int)=(n:Int)):=by omega
 have htn:((i:Int)+(m:Int)).toNat=i+m:=by omega
 have hb2:¬(cap=i+m):=by omega
 have hb3:(i:Int)≤(n:Int)+(m:Int):=by omega
 have hb4:¬(cap=i):=by omega
 have mixed:Tryz.prog.follows Departure.mixedOrders=true:=by kernel_rfl
 clear hA2 hA3 hr1 hr2 hW1 hdl h1 h2 hus hul
 go_enter Tryz.func218,Tryz.ntmps218
 go_wp2_with (simp only [hov])
 go_region_law_o (refine step_copy_runI rfl _ _ 69 69 rfl _ _ (by simp [Act.eval,Act.put]) (by simp [Act.eval,Act.put]) (hcp1 _ _ _) ?_)
 go_wp2_with (at_builtin; refine wpList_copy_runI _ rfl _ _ 69 69 rfl _ _ rfl rfl (hcp2 _ _) ?_)
 go_ret
 exact ⟨rfl,by simp only [aK]⟩
def nJ (k:Nat):List Value:=(Builtin.zeroCells (Value.agg #[.int .i64 0,.slice none 0 0]).cells k).toList
theorem oC (k:Nat):(nJ k).length=k * 2:=by
 unfold nJ;rw [HJ,pE];rfl
set_option maxHeartbeats 4000000 in
set_option maxRecDepth 100000 in
theorem Df {w:World} {g n cap i vb m vc:Nat} {vs us vs2:List Value} {T T2:TypeId} (hrow:w.heap[g]? = some (.cells vs.toArray T (0,0))) (hrow2:w.heap[vb]? = some (.cells vs2.toArray T2 (0,0)))
  (hi:i < n) (hm:0 < m) (hnc:n≤cap) (hroom:cap < n+m) (hcap:cap * 2≤vs.length) (hbig:(n+m) * 128≤140737488355328) (hul:us.length=m * 2) (hus:∀(j:Nat) (v:Value),us[j]? = some v→vs2[j]? = some v)
  (h1:∀v∈vs.take (n * 2),v.oneCell'=true) (h2:∀v∈us,v.oneCell'=true):
  Calls Tryz.prog 218 #[.slice (some ⟨g,0,none⟩) n cap,.int .i64 i,.slice (some ⟨vb,0,none⟩) m vc] w fun e w'=>
   e= .returned (.slice (some ⟨w.heap.size,0,none⟩) (n+m) (grownCap w (n+m) cap 101))∧
   w'=(((w.drew.alloc (.cells (vs.take (i * 2)++nJ (n+m - i)++nJ (grownCap w (n+m) cap 101 - (n+m))).toArray 101)).setRow w.heap.size (vs.take (i * 2)++us++(nJ (n+m - i)++nJ (grownCap w (n+m) cap 101 - (n+m))).drop (m * 2)).toArray).drew).setRow w.heap.size
    (vs.take (i * 2)++us++(vs.drop (i * 2)).take ((n - i) * 2)++(nJ (n+m - i)++nJ (grownCap w (n+m) cap 101 - (n+m))).drop ((n+m - i) * 2)).toArray:=by
 have hsz:(Tryz.prog.info? 101).map (·.size)=some 2:=by kernel_rfl
 obtain ⟨ti,hti,hzz⟩:=Option.map_eq_some_iff.1 (show (Tryz.prog.info? 101).map (fun i=>(i.zero,i.size,i.bytes))=some (some (Value.agg #[.int .i64 0,.slice none 0 0]),2,32) by kernel_rfl);simp only [gS] at hzz;obtain ⟨hz0,hz3,hz4⟩:=hzz;have hold:(Builtin.firstCells ti.size i (.slice (some ⟨g,0,none⟩) i cap)).run Tryz.prog w.drew= .ok (vs.take (i * 2)).toArray w.drew:=by
  rw [hz3];exact HH w.drew 2 i ⟨g,0,none⟩ i cap (vs.take (i * 2)) (by rw [ay]; omega) (fun j v hj=>by
   rw [fq,jf,gp w.drew g j vs.toArray T (0,0) hrow,bW];rw [aS] at hj;split at hj
   ·exact hj
   ·cases hj)
 obtain ⟨N,hN⟩:∃N,N=w.heap.size:=⟨_,rfl⟩;obtain ⟨Gc,hGc⟩:∃Gc,Gc=grownCap w (n+m) cap 101:=⟨_,rfl⟩;obtain ⟨Zs,hZs⟩:∃Zs,Zs=nJ (n+m - i)++nJ (Gc - (n+m)):=⟨_,rfl⟩;have hZl:Zs.length=(n+m - i) * 2+(Gc - (n+m)) * 2:=by rw [hZs,aA,oC,oC]
 obtain ⟨W2,hW2⟩:∃W2,W2=w.drew.alloc (.cells (vs.take (i * 2)++Zs).toArray 101):=⟨_,rfl⟩;have hkk:(n:Int)+(m:Int) - (i:Int)=((n+m - i:Nat):Int):=by omega
 have hrz:∀ty,(Builtin.append_ #[69,3] ty #[.slice (some ⟨g,0,none⟩) i cap,.int .i64 ((n:Int)+(m:Int) - (i:Int))]).run Tryz.prog w= .ok (.slice (some ⟨N,0,none⟩) (n+m) Gc) W2:=fun ty=>by
  have h:=Lib.run_append_grow_zeros (P:=Tryz.prog) w 69 3 ty 101 ti _ .i64 .i64 Tryz.underlying69 Tryz.underlying3 hti hz0 (some ⟨g,0,none⟩) i cap (vs.take (i * 2)) hold (n+m - i) (by omega) (by omega) (by omega) (by omega) (by rw [hz4]; omega) (by rw [hz4,show i+(n+m - i)=n+m by omega]; exact growslice_fits hroom (by omega));rw [show i+(n+m - i)=n+m by omega] at h;rw [hkk,hN,hGc,hW2,h,hZs,←hGc]
  congr 3
  rw [←aK];apply Ig;simp [nJ]
 have hNg:g < N:=by rw [hN]; exact (Array.getElem?_eq_some_iff.1 hrow).1
 have hNv:vb < N:=by rw [hN]; exact (Array.getElem?_eq_some_iff.1 hrow2).1
 have r2N:W2.heap[N]? = some (.cells (vs.take (i * 2)++Zs).toArray 101 (0,0)):=by
  rw [hW2,hN];exact Dh w.drew _
 have r2g:W2.heap[g]? = some (.cells vs.toArray T (0,0)):=by
  rw [hW2,cW w.drew _ g (by rw [hN] at hNg; exact hNg)];exact hrow
 have r2v:W2.heap[vb]? = some (.cells vs2.toArray T2 (0,0)):=by
  rw [hW2,cW w.drew _ vb (by rw [hN] at hNv; exact hNv)];exact hrow2
 have ht:(vs.take (i * 2)).length=i * 2:=by rw [ay]; omega
 have hGe:n+m≤Gc:=by rw [hGc]; exact Hk w _ _ _
 obtain ⟨W3,hW3⟩:∃W3,W3=W2.setRow N (vs.take (i * 2)++us++Zs.drop (m * 2)).toArray:=⟨_,rfl⟩;have hcpA:∀ty dc,(Builtin.copy_ #[69,69] ty #[.slice (some ⟨N,i * 2,none⟩) (n+m - i) dc,.slice (some ⟨vb,0,none⟩) m vc]).run Tryz.prog W2= .ok (goInt m) W3:=fun ty dc=>by
  have:=th (Q:=Tryz.prog) W2 69 69 ty 101 N (i * 2) (n+m - i) dc ⟨vb,0,none⟩ m vc m 2 us _ 101 Tryz.underlying69 hsz (by simp only [A6]; split <;> omega) hul
   (fun j v hj=>by
    rw [fq,gp W2 vb (0+j) vs2.toArray T2 (0,0) r2v,bW,jf];exact hus j v hj) r2N (by simp only [aA,ht,hZl]; omega) h2
  rw [hul,cX (by omega),aC (by omega),←de,List.drop_left' ht] at this;rw [hW3];exact this
 have r3N:W3.heap[N]? = some (.cells (vs.take (i * 2)++us++Zs.drop (m * 2)).toArray 101 (0,0)):=by
  rw [hW3];exact Ay W2 N _ _ _ (0,0) r2N
 have r3g:W3.heap[g]? = some (.cells vs.toArray T (0,0)):=by
  rw [hW3,FH W2 N g _ (by omega)];exact r2g
 have hcpB:∀ty dc sc,(Builtin.copy_ #[69,69] ty #[.slice (some ⟨N,(i+m) * 2,none⟩) (n+m - (i+m)) dc,.slice (some ⟨g,i * 2,none⟩) (n - i) sc]).run Tryz.prog W3.drew= .ok (goInt ((n - i:Nat):Int)) (W3.drew.setRow N (vs.take (i * 2)++us++(vs.drop (i * 2)).take ((n - i) * 2)++Zs.drop ((n+m - i) * 2)).toArray):=fun ty dc sc=>by
  have hdl:((vs.drop (i * 2)).take ((n - i) * 2)).length=(n - i) * 2:=by rw [ay,bu]; omega
  have hau:(vs.take (i * 2)++us).length=(i+m) * 2:=by rw [aA,ht,hul]; omega
  have:=th (Q:=Tryz.prog) W3.drew 69 69 ty 101 N ((i+m) * 2) (n+m - (i+m)) dc ⟨g,i * 2,none⟩ (n - i) sc (n - i) 2 ((vs.drop (i * 2)).take ((n - i) * 2)) _ 101 Tryz.underlying69 hsz (by simp only [A6]; split <;> omega) hdl
   (fun j v hj=>by
    rw [fq];rw [aS] at hj;split at hj
    ·rw [bM] at hj;rw [gp W3.drew g (i * 2+j) vs.toArray T (0,0) r3g,bW];exact hj
    ·cases hj) r3N (by rw [hdl,aA,hau,bu,hZl]; omega) (fun v hv=>h1 v (by rw [show (n - i) * 2=n * 2 - i * 2 by omega,←ip] at hv; exact fD hv))
  rw [hdl] at this;rw [this]
  congr 3
  rw [←hau,DT,←de,kx,de,show m * 2+(n - i) * 2=(n+m - i) * 2 by omega]
 have hN2:w.heap.size=N:=hN.symm;have hG2:grownCap w (n+m) cap 101=Gc:=hGc.symm;rw [hG2,←hZs,show vs.take (i * 2)++nJ (n+m - i)++nJ (Gc - (n+m))=vs.take (i * 2)++Zs by rw [hZs,aK],hN2,←hW2,←hW3];have hG63:Gc≤9223372036854775807:=by
  have:=xB w (n+m) cap 101 (by unfold maxLen; omega);rw [←hGc] at this;unfold maxLen at this;omega
 have hGi:¬(Gc=i):=by omega
 have hGim:¬(Gc=i+m):=by omega
 have hci:¬(cap=i):=by omega
 have hw1:IntKind.i64.wrap ((i:Int)+(m:Int))=(i:Int)+(m:Int):=by rw [Au]; omega
 have hb1:(0:Int)≤(i:Int)+(m:Int):=by omega
 have hin:i≤n:=by omega
 have htn:((i:Int)+(m:Int)).toNat=i+m:=by omega
 have hb3:(i:Int)≤(n:Int):=by omega
 have hz1:¬((m:Int)=0):=by omega
 have hz2:¬((i:Int)=(n:Int)):=by omega
 have hz5:(cap:Int) < (n:Int)+(m:Int):=by omega
 have mixed:Tryz.prog.follows Departure.mixedOrders=true:=by kernel_rfl
 clear hkk hold hZs hZl hW2 hW3 r2N r2g r2v r3N r3g hN hN2 hG2 hGc ht hti hz0 hz3 hz4 h1 h2 hus hul hNg hNv hrow hrow2
 go_enter Tryz.func218,Tryz.ntmps218
 go_wp2_with (first
  | (at_builtin; refine Lib.wpList_append_run _ rfl _ _ _ _ rfl _ _ rfl rfl _ _ (hrz _) ?_)
  | (at_builtin; refine wpList_copy_runI _ rfl _ _ 69 69 rfl _ _ rfl rfl (hcpA _ _) ?_))
 go_region_law_o (refine step_copy_runI rfl _ _ 69 69 rfl (.slice (some ⟨N,(i+m) * 2,none⟩) (n+m - (i+m)) (Gc - (i+m))) (.slice (some ⟨g,i * 2,none⟩) (n - i) (cap - i)) (by simp [Act.eval,Act.put]) (by simp [Act.eval,Act.put]) (hcpB _ _ _) ?_)
 go_wp2
 go_ret
 exact ⟨rfl,by simp only [aK]⟩
section
variable {c c':Cx} {α:Type} {R:Rp α}
theorem _root_.Go.Lt.AR.take {vs:List Value} {xs:List α} (h:AR R c vs xs) (k:Nat):AR R c (vs.take (k * R.size)) (xs.take k):=fun i x hx=>by
 rw [aS] at hx;split at hx
 ·rename_i hik
  have hm:=jL (s:=R.size) hik;rw [ip,fg,cp (by omega)];exact h i x hx
 ·cases hx
theorem _root_.Go.Lt.AR.drop {vs:List Value} {xs:List α} (h:AR R c vs xs) (k:Nat):AR R c (vs.drop (k * R.size)) (xs.drop k):=fun i x hx=>by
 rw [bM] at hx;rw [de,←il];exact h _ x hx
theorem _root_.Go.Lt.AR.more {vs ts:List Value} {xs:List α} (h:AR R c vs xs) (hl:xs.length * R.size≤vs.length):AR R c (vs++ts) xs:=fun i x hx=>by
 have hi:=(List.getElem?_eq_some_iff.1 hx).1;have hm:=jL (s:=R.size) hi;rw [jl (by omega)];exact h i x hx
theorem _root_.Go.Lt.AR.app {vs us:List Value} {xs ys:List α} (h:AR R c vs xs) (hl:vs.length=xs.length * R.size) (k:AR R c us ys):AR R c (vs++us) (xs++ys):=fun i x hx=>by
 rw [fE] at hx;split at hx
 ·rename_i hi
  have hm:=jL (s:=R.size) hi;rw [jl (by omega)];exact h i x hx
 ·rename_i hi
  rw [show i * R.size=vs.length+(i - xs.length) * R.size by rw [hl,←il]; congr 1; omega,←de,kx];exact k _ x hx
theorem _root_.Go.Lt.AR.ones {vs:List Value} {xs:List α} (h:AR R c vs xs) (hp:0 < R.size):∀v∈vs.take (xs.length * R.size),v.oneCell'=true:=fun v hv=>by
 obtain ⟨j,hj⟩:=List.mem_iff_getElem?.1 hv;rw [aS] at hj;split at hj
 ·rename_i hlt
  have hq:j / R.size < xs.length:=by rw [Nat.div_lt_iff_lt_mul hp]; exact hlt
  have hc:=h _ _ (ag hq);refine R.one hc v (List.mem_iff_getElem?.2 ⟨j % R.size,?_⟩);rw [aS,ae (H0 _ hp),bM,Nat.mul_comm,Nat.div_add_mod];exact hj
 ·cases hj
end
def jM (p0:List ab) (p1:Int) (p2:List ab):Option (List ab):=if 0≤p1∧p1 < p0.length∧1≤p2.length∧p0.length+p2.length≤far then some (p0.take p1.toNat++p2++p0.drop p1.toNat) else none
theorem _root_.Go.Lt.OA.some {c:Cx} {α:Type} {R:Rp α} {v:Value} {vs:List Value} {xs:List α} (h:OA R c v vs xs) (hn:1≤xs.length):∃g cap,v= .slice (some ⟨g,0,none⟩) xs.length cap∧xs.length≤cap∧cap≤maxLen∧cap * R.size≤vs.length∧AR R c vs xs:=by
 rcases h.2.1 with ⟨_,rfl⟩ | ⟨g,cap,h1,h2,h3,h4⟩
 ·simp at hn
 ·exact ⟨g,cap,h1,h2,h3,h4,h.2.2⟩
theorem uB {c0:Cx} {G:Gm} {F:List En} {v0 v2:Value} {u0 u2:List Value} (p0:List ab) (p1:Int) (p2:List ab) (O0:Own c0 G (es true ah v0 101 u0 p0 :: es true ah v2 101 u2 p2 :: F)) (h0:OA ah c0 v0 u0 p0) (h2:OA ah c0 v2 u2 p2) {r:List ab} (H:jM p0 p1 p2=some r): Calls Tryz.prog 218 #[v0,.int .i64 p1,v2] c0.w (aN c0 fun c v=>∃y1:Value,∃y2:List Value,Own c G (es true ah y1 101 y2 r :: F)∧v=y1∧OA ah c y1 y2 r):=by
 unfold jM at H;split at H
 ·rename_i hc;obtain ⟨hc1,hc2,hc3,hc4⟩:=hc;obtain ⟨i,rfl⟩:∃i:Nat,p1=(i:Int):=⟨p1.toNat,by omega⟩;rw [bU] at H;obtain rfl:=be H;obtain ⟨g,cap,rfl,a1,a2,a3,a4⟩:=h0.some (by omega);obtain ⟨vb,vc,rfl,b1,b2,b3,b4⟩:=h2.some hc3;have hsz:ah.size=2:=rfl;have hon0:=O0.on 0 rfl g rfl;have hon2:=O0.on 1 rfl vb rfl;have hne:vb≠g:=fun e=>O0.m.2 (.inl 0) (.inl 1) _ _ rfl rfl (by simp) g rfl (by rw [←e]; rfl);have o0:=a4.ones (by decide);have o2:=b4.ones (by decide);rw [hsz] at o0 o2 a3 b3;unfold maxLen at a2 b2;unfold far at hc4;have ht0:(u0.take (i * 2)).length=i * 2:=by rw [ay]; omega
  have ht2:(u2.take (p2.length * 2)).length=p2.length * 2:=by rw [ay]; omega
  have htl:((u0.drop (i * 2)).take ((p0.length - i) * 2)).length=(p0.length - i) * 2:=by rw [ay,bu]; omega
  have hus:∀(j:Nat) (v:Value),(u2.take (p2.length * 2))[j]? = some v→u2[j]? = some v:=fun j v hj=>by
   rw [aS] at hj;split at hj
   ·exact hj
   ·cases hj
  have hAR:∀(c:Cx) (ts:List Value),c0.le c→AR ah c (u0.take (i * 2)++u2.take (p2.length * 2)++(u0.drop (i * 2)).take ((p0.length - i) * 2)++ts) (p0.take i++p2++p0.drop i):=fun c ts hle=>by
   have k0:AR ah c (u0.take (i * 2)) (p0.take i):=(a4.take i).mono hle;have k2:AR ah c (u2.take (p2.length * 2)) p2:=by
    have:=(b4.take p2.length).mono hle;rwa [aC (az p2.length)] at this
   have k1:AR ah c ((u0.drop (i * 2)).take ((p0.length - i) * 2)) (p0.drop i):=by
    have:=((a4.drop i).take (p0.length - i)).mono hle;rwa [aC (l:=p0.drop i) (by rw [bu]; exact az _)] at this
   refine AR.more (AR.app (AR.app k0 ?_ k2) ?_ k1) ?_
   ·rw [ht0,ay,cp (by omega),hsz]
   ·rw [aA,ht0,ht2,aA,ay,cp (by omega),hsz,il]
   ·simp only [aA];rw [ht0,ht2,htl,ay,bu,cp (by omega),hsz];omega
  have hrl:(p0.take i++p2++p0.drop i).length=p0.length+p2.length:=by
   rw [aA,aA,ay,bu];omega
  rcases aO cap (p0.length+p2.length) with hg | hg
  ·refine (Df (vs:=u0) (us:=u2.take (p2.length * 2)) (vs2:=u2) hon0.1 hon2.1 (by omega) (by omega) a1 hg a3 (by omega) ht2 hus o0 o2).mono ?_;rintro e w' ⟨rfl,rfl⟩;obtain ⟨Gc,hGc⟩:∃Gc,Gc=grownCap c0.w (p0.length+p2.length) cap 101:=⟨_,rfl⟩;have hGe:p0.length+p2.length≤Gc:=by rw [hGc]; exact Hk _ _ _ _
   have hGm:Gc≤maxLen:=by rw [hGc]; exact xB _ _ _ _ (by unfold maxLen; omega)
   rw [←hGc];obtain ⟨Zs,hZs⟩:∃Zs,Zs=nJ (p0.length+p2.length - i)++nJ (Gc - (p0.length+p2.length)):=⟨_,rfl⟩;have hZl:Zs.length=(p0.length+p2.length - i) * 2+(Gc - (p0.length+p2.length)) * 2:=by rw [hZs,aA,oC,oC]
   rw [aK (u0.take (i * 2)),←hZs];have hd:=Cx.drew_le c0;obtain ⟨c1,e1,e2,e3,e4,e5⟩:=Cx.new ⟨c0.w.drew,c0.A,c0.t⟩ (u0.take (i * 2)++Zs) 101 0;have O1:=Own.cons (O0.keep hd) e2 (fun _=>id) (e:=⟨.slice (some ⟨c0.w.heap.size,0,none⟩) (p0.length+p2.length) Gc,101,u0.take (i * 2)++Zs,0⟩) (fun b hb=>by
    simp only [blk,aR] at hb;subst hb;exact ⟨e3,e5⟩) (fun b hb=>by
    simp only [blk,aR] at hb;subst hb;exact az _)
   obtain ⟨c2,f1,f2,f3,f4⟩:=Cx.row (m:=u0.take (i * 2)++u2.take (p2.length * 2)++Zs.drop (p2.length * 2)) e3 0 e5 (fun o ho=>by omega) 0 (az _);have O2:=Own.set O1 0 rfl f2 (fun b hb=>by rw [hb]; rfl) (e':=⟨.slice (some ⟨c0.w.heap.size,0,none⟩) (p0.length+p2.length) Gc,101,u0.take (i * 2)++u2.take (p2.length * 2)++Zs.drop (p2.length * 2),0⟩) (fun b hb=>by
    simp only [blk,aR] at hb;subst hb;exact ⟨f3,f4⟩) (fun b hb=> .inl hb)
   have hd2:=Cx.drew_le c2;obtain ⟨c3,g1,g2,g3,g4⟩:=Cx.row (c:=⟨c2.w.drew,c2.A,c2.t⟩) (m:=u0.take (i * 2)++u2.take (p2.length * 2)++(u0.drop (i * 2)).take ((p0.length - i) * 2)++Zs.drop ((p0.length+p2.length - i) * 2)) (T:=101) (b:=c0.w.heap.size) f3 0 f4 (fun o ho=>by omega) 0 (az _);have O3:=Own.set (O2.keep hd2) 0 rfl g2 (fun b hb=>by rw [hb]; rfl) (e':=es true ah (.slice (some ⟨c0.w.heap.size,0,none⟩) (p0.length+p2.length) Gc) 101 (u0.take (i * 2)++u2.take (p2.length * 2)++(u0.drop (i * 2)).take ((p0.length - i) * 2)++Zs.drop ((p0.length+p2.length - i) * 2)) (p0.take i++p2++p0.drop i)) (fun b hb=>by
    simp only [es,blk,aR] at hb;subst hb;exact ⟨g3,g4⟩) (fun b hb=> .inl hb)
   have hle:=hd.le.trans (e2.le.trans (f2.le.trans (hd2.le.trans g2.le)));have O4:=O3.selD 3 [0] (by kernel_rfl) (by kernel_rfl);refine ⟨_,c3,rfl,by rw [g1]; show _=(c2.w.drew).setRow _ _; rw [f1,e1]; rfl,hle,_,_,O4,rfl,by decide,.inr ⟨_,Gc,by rw [hrl],by rw [hrl]; exact hGe,hGm,?_⟩,hAR c3 _ hle⟩;rw [hsz,aA,aA,aA,ht0,ht2,htl,bu,hZl];omega
  ·refine (BQ (vs:=u0) (us:=u2.take (p2.length * 2)) (vs2:=u2) hon0.1 hon2.1 (by omega) (by omega) hg a3 a2 hne ht2 hus o0 o2).mono ?_;rintro e w' ⟨rfl,rfl⟩;have hd:=Cx.drew_le c0;obtain ⟨c2,f1,f2,f3,f4⟩:=Cx.row (c:=⟨c0.w.drew,c0.A,c0.t⟩) (l:=u0) (T:=101) (b:=g) (m:=u0.take ((i+p2.length) * 2)++(u0.drop (i * 2)).take ((p0.length - i) * 2)++u0.drop ((p0.length+p2.length) * 2)) hon0.1 0 hon0.2 (fun o ho=>by omega) 0 (az _);have O2:=Own.set (O0.keep hd) 0 rfl f2 (fun b hb=>by rw [hb]; rfl) (e':=⟨.slice (some ⟨g,0,none⟩) p0.length cap,101,u0.take ((i+p2.length) * 2)++(u0.drop (i * 2)).take ((p0.length - i) * 2)++u0.drop ((p0.length+p2.length) * 2),0⟩) (fun b hb=>by
    simp only [blk,aR] at hb;subst hb;exact ⟨f3,f4⟩) (fun b hb=> .inl hb)
   obtain ⟨c3,g1,g2,g3,g4⟩:=Cx.row (c:=c2) (m:=u0.take (i * 2)++u2.take (p2.length * 2)++(u0.drop (i * 2)).take ((p0.length - i) * 2)++u0.drop ((p0.length+p2.length) * 2)) (T:=101) (b:=g) f3 0 f4 (fun o ho=>by omega) 0 (az _);have O3:=Own.set O2 0 rfl g2 (fun b hb=>by rw [hb]; rfl) (e':=es true ah (.slice (some ⟨g,0,none⟩) (p0.length+p2.length) cap) 101 (u0.take (i * 2)++u2.take (p2.length * 2)++(u0.drop (i * 2)).take ((p0.length - i) * 2)++u0.drop ((p0.length+p2.length) * 2)) (p0.take i++p2++p0.drop i)) (fun b hb=>by
    simp only [es,blk,aR] at hb;subst hb;exact ⟨g3,g4⟩) (fun b hb=> .inl hb)
   have hle:=hd.le.trans (f2.le.trans g2.le);have O4:=O3.selD 2 [0] (by kernel_rfl) (by kernel_rfl);refine ⟨_,c3,rfl,by rw [g1,f1],hle,_,_,O4,rfl,by decide,.inr ⟨g,cap,by rw [hrl],by rw [hrl]; exact hg,by unfold maxLen; exact a2,?_⟩,hAR c3 _ hle⟩;rw [hsz,aA,aA,aA,ht0,ht2,htl,bu];omega
 ·cases H
theorem Dg (k:Nat):∀v∈nJ k,v.oneCell'=true:=fun v hv=>by
 unfold nJ Builtin.zeroCells at hv;simp only [Iy,List.mem_map] at hv;obtain ⟨a,_,rfl⟩:=hv;have h2:(Value.agg #[.int .i64 0,.slice none 0 0]).cells= #[.int .i64 0,.slice none 0 0]:=rfl;rw [h2];show (#[Value.int .i64 0,Value.slice none 0 0][a % 2]!).oneCell'=true;rcases Nat.mod_two_eq_zero_or_one a with h | h <;> rw [h] <;> rfl
theorem sH {P:Program} {ops:Array Oper} {o:Oper} {a:Act} {w:World} {K:Act→World→Prop} {Q:Exit→Act→World→Prop} {E:Prop}
  (hg:o.guard=none) (d x:Operand) (dT sT:TypeId) (hop:o.op=Op.call { callee:=Callee.builtin Builtin.append,args:= #[d,x],argTypes:= #[dT,sT]})
  (v u:Value) (hd:a.eval d=v) (hx:a.eval x=u) {v':Value} {w':World} (hr:(Builtin.append_ #[dT,sT] o.type #[v,u]).run P w= .ok v' w') (hK:K (a.put o.dst v') w'):
  if Region.wanted o (yielded ops a.tmps)=true then Oper.wp P o a w K Q else E:=by
 have hw:Region.wanted o (yielded ops a.tmps)=true:=by simp [Region.wanted,hg]
 rw [ae hw];unfold Oper.wp;simp [execOp,hop,resolve,invoke,builtin,hd,hx,hr,Result.andThen];exact hK
theorem sE {P:Program} (w:World) {ops:Array Oper} {rest:List Oper} {o:Oper} {a:Act} {Q:Exit→Act→World→Prop} (hgd:o.guard=none) (d:Operand) (t:TypeId)
  (ho:o.op= .call { callee:= .builtin .clear,args:= #[d],argTypes:= #[t]}) (v:Value) (hd:a.eval d=v) {v':Value} {w':World}
  (hr:(Builtin.clear_ #[t] o.type #[v]).run P w= .ok v' w') (h:wpList P ops Q rest (a.put o.dst v') w'):wpList P ops Q (o :: rest) a w:=
 yc hgd fun _ hK=>by
  unfold Oper.wp execOp;simp only [ho,resolve,invoke,builtin,je,GC,nF,List.map_toArray,sx,GD,hd,hr];exact hK _ _ h
theorem BZ {Q:Program} (w:World) (t ty E:TypeId) (g o k c:Nat) (z:Value) (vs:List Value) (T:TypeId) (hk:k≠0)
  (hu:Q.underlying t=some (.slice E)) (hz:∀w,(zeroValue E).run Q w= .ok z w) (hrow:w.heap[g]? = some (.cells vs.toArray T (0,0))) (hl:o+(Builtin.zeroCells z.cells k).toList.length≤vs.length) (h1:∀v∈(Builtin.zeroCells z.cells k).toList,v.oneCell'=true):
  (Builtin.clear_ #[t] ty #[.slice (some ⟨g,o,none⟩) k c]).run Q w= .ok (.tuple #[]) (w.setRow g (vs.take o++(Builtin.zeroCells z.cells k).toList++vs.drop (o+(Builtin.zeroCells z.cells k).toList.length)).toArray):=by
 have hst:=yp Q g o T (Builtin.zeroCells z.cells k).toList 0 vs.toArray w hrow (by simpa using hl) h1;simp only [qo] at hst
 cases k with
 | zero=>exact absurd rfl hk
 | succ k=>
  simp [Builtin.clear_,bP hu,hz,hst]
set_option maxHeartbeats 4000000 in
set_option maxRecDepth 100000 in
theorem EV {w:World} {g n cap i j:Nat} {vs:List Value} (hrow:w.heap[g]? = some (.cells vs.toArray 101 (0,0)))
  (hij:i < j) (hjn:j≤n) (hnc:n≤cap) (hcap:cap * 2≤vs.length) (hc63:cap≤9223372036854775807) (h1:∀v∈vs.take (n * 2),v.oneCell'=true):
  Calls Tryz.prog 221 #[.slice (some ⟨g,0,none⟩) n cap,.int .i64 i,.int .i64 j] w fun e w'=>
   e= .returned (.slice (some ⟨g,0,none⟩) (i+(n - j)) cap)∧w'=(w.drew.setRow g (vs.take (i * 2)++(vs.drop (j * 2)).take ((n - j) * 2)++vs.drop ((i+(n - j)) * 2)).toArray).setRow g
    (vs.take (i * 2)++(vs.drop (j * 2)).take ((n - j) * 2)++nJ (j - i)++vs.drop (n * 2)).toArray:=by
 obtain ⟨ti,hti,hzz⟩:=Option.map_eq_some_iff.1 (show (Tryz.prog.info? 101).map (fun i=>i.size)=some 2 by kernel_rfl);have hul:((vs.drop (j * 2)).take ((n - j) * 2)).length=(n - j) * 2:=by rw [ay,bu]; omega
 have ht:(vs.take (i * 2)).length=i * 2:=by rw [ay]; omega
 obtain ⟨W1,hW1⟩:∃W1,W1=w.drew.setRow g (vs.take (i * 2)++(vs.drop (j * 2)).take ((n - j) * 2)++vs.drop ((i+(n - j)) * 2)).toArray:=⟨_,rfl⟩;have hap:∀ty a k,(∀x v,((vs.drop (j * 2)).take ((n - j) * 2))[x]? = some v→w.drew.cell? (a.add x)=some v)→
   (Builtin.append_ #[69,69] ty #[.slice (some ⟨g,0,none⟩) i cap,.slice (some a) (n - j) k]).run Tryz.prog w.drew= .ok (.slice (some ⟨g,0,none⟩) (i+(n - j)) cap) W1:=fun ty a k hx=>by
  have:=Iz (P:=Tryz.prog) w.drew 69 ty 101 ti Tryz.underlying69 hti g i cap vs.toArray hrow a (n - j) k ((vs.drop (j * 2)).take ((n - j) * 2)) (by rw [hul,hzz]) hx (fun v hv=>h1 v (by rw [show (n - j) * 2=n * 2 - j * 2 by omega,←ip] at hv; exact fD hv)) (by omega) (by rw [hzz,hul]; simp; omega);rw [this,hW1,hzz,hul];simp only [List.toList_toArray,zu];rw [show i * 2+(n - j) * 2=(i+(n - j)) * 2 by omega]
 have hr1:W1.heap[g]? = some (.cells (vs.take (i * 2)++(vs.drop (j * 2)).take ((n - j) * 2)++vs.drop ((i+(n - j)) * 2)).toArray 101 (0,0)):=by
  rw [hW1];exact Ay w.drew g vs.toArray _ 101 (0,0) hrow
 have hau:(vs.take (i * 2)++(vs.drop (j * 2)).take ((n - j) * 2)).length=(i+(n - j)) * 2:=by rw [aA,ht,hul]; omega
 have hcl:∀ty c,(Builtin.clear_ #[69] ty #[.slice (some ⟨g,(i+(n - j)) * 2,none⟩) (n - (i+(n - j))) c]).run Tryz.prog W1= .ok (.tuple #[]) (W1.setRow g (vs.take (i * 2)++(vs.drop (j * 2)).take ((n - j) * 2)++nJ (j - i)++vs.drop (n * 2)).toArray):=fun ty c=>by
  have hzl:=oC (j - i);unfold nJ at hzl;have:=BZ (Q:=Tryz.prog) W1 69 ty 101 g ((i+(n - j)) * 2) (j - i) c (Value.agg #[.int .i64 0,.slice none 0 0]) _ 101 (by omega) Tryz.underlying69 (fun w=>by kernel_rfl) hr1 (by rw [hzl,aA,hau,bu]; omega) (fun v hv=>by
   exact Dg _ v hv)
  rw [hzl] at this;rw [show n - (i+(n - j))=j - i by omega,this]
  congr 3
  rw [←hau,DT,←de,kx,de,hau,show (i+(n - j)) * 2+(j - i) * 2=n * 2 by omega];rfl
 have hcell:∀(x:Nat) (v:Value),((vs.drop (j * 2)).take ((n - j) * 2))[x]? = some v→w.drew.cell? ((⟨g,j * 2,none⟩:Addr).add x)=some v:=fun x v hx=>by
  rw [fq];rw [aS] at hx;split at hx
  ·rw [bM] at hx;rw [gp w.drew g (j * 2+x) vs.toArray 101 (0,0) hrow,bW];exact hx
  ·cases hx
 have hnil:cap=j→∀(x:Nat) (v:Value),((vs.drop (j * 2)).take ((n - j) * 2))[x]? = some v→w.drew.cell? ((⟨g,0,none⟩:Addr).add x)=some v:=fun e x v hx=>by
  rw [show (n - j) * 2=0 by omega,eA] at hx;cases hx
 have hWW:cap=j→W1=w.drew:=fun e=>by
  rw [hW1,show n - j=0 by omega,ui,eA,eC,qo,gK];exact setRow_self w.drew g vs.toArray _ (0,0) hrow
 have hap1:=fun ty k=>hap ty ⟨g,j * 2,none⟩ k hcell;have hap2:=fun (e:cap=j) ty k=>hap ty ⟨g,0,none⟩ k (hnil e);rw [←hW1];have hmixed:Tryz.prog.follows Departure.mixedOrders=true:=by kernel_rfl
 have z1:¬((i:Int)=(j:Int)):=by omega
 have z2:(0:Int)≤(i:Int):=by omega
 have z3:(i:Int)≤(j:Int):=by omega
 have z4:(j:Int)≤(n:Int):=by omega
 have z5:¬(cap=i+(n - j)):=by omega
 have z6:i≤cap:=by omega
 have z7:j≤cap:=by omega
 have z8:i+(n - j)≤n:=by omega
 have z9:n≤cap:=hnc;have z10:¬(n=i):=by omega
 clear hW1 hul ht hr1 hau hap hcell hnil h1 hti hzz hcap hrow
 by_cases hcj:cap=j
 ·have hap3:=hap2 hcj
  clear hap1 hap2 hWW
  subst hcj;obtain rfl:n=cap:=by omega
  simp only [mb,qo,ui,eA,eC] at hap3 hcl z5⊢
  go_enter Tryz.func221,Tryz.ntmps221
  go_wp2_with fail
  go_region_law_o (refine sH rfl (.tmp 22) (.tmp 25) 69 69 rfl (.slice (some ⟨g,0,none⟩) i n) (.slice (some ⟨g,0,none⟩) 0 0) (by simp [Act.eval,Act.put]) (by simp [Act.eval,Act.put]) (hap3 _ _) ?_)
  go_wp2_with (at_builtin; refine sE _ rfl _ 69 rfl _ rfl (hcl _ _) ?_)
  go_ret
  exact ⟨rfl,by simp only [aK]⟩
 ·clear hap2 hWW
  go_enter Tryz.func221,Tryz.ntmps221
  go_wp2_with fail
  go_region_law_o (refine sH rfl (.tmp 22) (.tmp 25) 69 69 rfl (.slice (some ⟨g,0,none⟩) i cap) (.slice (some ⟨g,j * 2,none⟩) (n - j) (cap - j)) (by simp [Act.eval,Act.put]) (by simp [Act.eval,Act.put]) (hap1 _ _) ?_)
  go_wp2_with (at_builtin; refine sE _ rfl _ 69 rfl _ rfl (hcl _ _) ?_)
  go_ret
  exact ⟨rfl,by simp only [aK]⟩
def jN (p0:List ab) (p1 p2:Int):Option (List ab):=if 0≤p1∧p1 < p2∧p2≤p0.length then some (p0.take p1.toNat++p0.drop p2.toNat) else none
theorem uC {c0:Cx} {G:Gm} {F:List En} {v0:Value} {u0:List Value} (p0:List ab) (p1 p2:Int) (O0:Own c0 G (es true ah v0 101 u0 p0 :: F)) (h0:OA ah c0 v0 u0 p0) {r:List ab} (H:jN p0 p1 p2=some r): Calls Tryz.prog 221 #[v0,.int .i64 p1,.int .i64 p2] c0.w (aN c0 fun c v=>∃y1:Value,∃y2:List Value,Own c G (es true ah y1 101 y2 r :: F)∧v=y1∧OA ah c y1 y2 r):=by
 unfold jN at H;split at H
 ·rename_i hc;obtain ⟨hc1,hc2,hc3⟩:=hc;obtain ⟨i,rfl⟩:∃i:Nat,p1=(i:Int):=⟨p1.toNat,by omega⟩;obtain ⟨j,rfl⟩:∃j:Nat,p2=(j:Int):=⟨p2.toNat,by omega⟩;rw [bU,bU] at H;obtain rfl:=be H;obtain ⟨g,cap,rfl,a1,a2,a3,a4⟩:=h0.some (by omega);have hsz:ah.size=2:=rfl;have hon0:=O0.on 0 rfl g rfl;have o0:=a4.ones (by decide);rw [hsz] at o0 a3;unfold maxLen at a2;have ht0:(u0.take (i * 2)).length=i * 2:=by rw [ay]; omega
  have htl:((u0.drop (j * 2)).take ((p0.length - j) * 2)).length=(p0.length - j) * 2:=by rw [ay,bu]; omega
  have hrl:(p0.take i++p0.drop j).length=i+(p0.length - j):=by
   rw [aA,ay,bu];omega
  have hAR:∀(c:Cx) (ts:List Value),c0.le c→AR ah c (u0.take (i * 2)++(u0.drop (j * 2)).take ((p0.length - j) * 2)++ts) (p0.take i++p0.drop j):=fun c ts hle=>by
   have k0:AR ah c (u0.take (i * 2)) (p0.take i):=(a4.take i).mono hle;have k1:AR ah c ((u0.drop (j * 2)).take ((p0.length - j) * 2)) (p0.drop j):=by
    have:=((a4.drop j).take (p0.length - j)).mono hle;rwa [aC (l:=p0.drop j) (by rw [bu]; exact az _)] at this
   refine AR.more (AR.app k0 ?_ k1) ?_
   ·rw [ht0,ay,cp (by omega),hsz]
   ·rw [hrl,hsz,aA,ht0,htl];omega
  refine (EV (vs:=u0) hon0.1 (by omega) (by omega) a1 a3 (by omega) o0).mono ?_;rintro e w' ⟨rfl,rfl⟩;have hd:=Cx.drew_le c0;obtain ⟨c2,f1,f2,f3,f4⟩:=Cx.row (c:=⟨c0.w.drew,c0.A,c0.t⟩) (l:=u0) (T:=101) (b:=g) (m:=u0.take (i * 2)++(u0.drop (j * 2)).take ((p0.length - j) * 2)++u0.drop ((i+(p0.length - j)) * 2)) hon0.1 0 hon0.2 (fun o ho=>by omega) 0 (az _);have O2:=Own.set (O0.keep hd) 0 rfl f2 (fun b hb=>by rw [hb]; rfl) (e':=⟨.slice (some ⟨g,0,none⟩) p0.length cap,101,u0.take (i * 2)++(u0.drop (j * 2)).take ((p0.length - j) * 2)++u0.drop ((i+(p0.length - j)) * 2),0⟩) (fun b hb=>by
   simp only [blk,aR] at hb;subst hb;exact ⟨f3,f4⟩) (fun b hb=> .inl hb)
  obtain ⟨c3,g1,g2,g3,g4⟩:=Cx.row (c:=c2) (m:=u0.take (i * 2)++(u0.drop (j * 2)).take ((p0.length - j) * 2)++nJ (j - i)++u0.drop (p0.length * 2)) (T:=101) (b:=g) f3 0 f4 (fun o ho=>by omega) 0 (az _);have O3:=Own.set O2 0 rfl g2 (fun b hb=>by rw [hb]; rfl) (e':=es true ah (.slice (some ⟨g,0,none⟩) (i+(p0.length - j)) cap) 101 (u0.take (i * 2)++(u0.drop (j * 2)).take ((p0.length - j) * 2)++nJ (j - i)++u0.drop (p0.length * 2)) (p0.take i++p0.drop j)) (fun b hb=>by
   simp only [es,blk,aR] at hb;subst hb;exact ⟨g3,g4⟩) (fun b hb=> .inl hb)
  have hle:=hd.le.trans (f2.le.trans g2.le);refine ⟨_,c3,rfl,by rw [g1,f1],hle,_,_,O3,rfl,by decide,.inr ⟨g,cap,by rw [hrl],by rw [hrl]; omega,by unfold maxLen; exact a2,?_⟩,?_⟩
  ·rw [hsz,aA,aA,aA,ht0,htl,oC,bu];omega
  ·rw [aK];exact hAR c3 _ hle
 ·cases H
end Go.Proofs.YthokmpbbkpjhbaaGreatDoor
namespace Go.Proofs.YthokmpbbkpjhbaaGreatDoor
open Go Go.Lt
set_option maxRecDepth 10000
set_option linter.unusedVariables false
attribute [local irreducible] W WL AC
open Tryz
variable {c0:Cx} {G:Gm} {F:List En} {sg:Sto} {v1 v2 v3 v4 v5 v6 v7 v8 v9 v10 v11 v12 v13 v14 v15 v16 v17 v18 v19 v20 v21 v22 v23 v24 v25 v26 v27 v28 v29 v30 v31 v32 v33 v34 v35 v36 v37 v38 v39 v40 v41 v42 v43 v44 v45 v46 v47 v48 v49 v50 v51 v52 v53 v54 v55 v56 v57 v58 v59 v60:Value}
def jo (p0:List ab) (p1:Int) (q0_0:Int):Option (List ab):=
 (ey p1).bind fun c=>
 (jM p0 q0_0 c).bind fun d=>
 (slc d 0 (p0.length:Int)).bind fun a=>
 ((idx a (w64 ((p0.length:Int) - 1))).bind fun e=>
 if (e.Kind==2)=true then
 (idx a (w64 ((p0.length:Int) - 1))).bind fun g=>
 (pb a (w64 ((p0.length:Int) - 1)) (⟨0,([]:List Int)⟩:ab)).bind fun b=>
 some (b)
 else
 some (a)).bind fun f=>
 some f
theorem tZ {e:Value} {q:List Value} {p:Nat} (b:List ab) (o:Int) (q0_0:Int) (O0:Own c0 G (es true ah e 101 q b :: F)) {r:List ab} (S:OA ah c0 e q b) (m2:∀j u,([I q0_0]:List Value)[j]? = some u→Im c0 p (0+j) u) (H:jo b o q0_0=some r): Calls prog 217 #[e,I o,Q p] c0.w (aN c0 fun c v=>∃t y2,Own c G (es true ah t 101 y2 r :: F)∧v=t∧OA ah c t y2 r):=by
 unfold jo at H;refine en func217 rfl rfl (sr (va (Y) (wln (sr (va (e) (vx (lnO 3 ck S) (va (I (b.length:Int)) (wln (W.seq (rD [] (Kp G0 []) O0 ?_))))))))));intro c3 l3 O4;have p5:Kp G0 [] c3:=Kp.nil0;refine ta 0 (e) (tx 1 (fun c' i0=>l1 u_3 ((mm m2) 0 _ rfl)) (ta 2 (I o) (ta 5 (I (b.length:Int)) (bn H fun s h6 H=>o1 3 (gc 3 (jU O4 o h6) ?_)))));rintro v7 M g1 ⟨_,u8,y,rfl,h9⟩;have k0:Kp G0 [] M:=Kp.nil0;refine ⟨.inr k0,?_⟩;have z:=y.sD 2 [1,0];refine bn H fun b1 U H=>o1 4 (gc 4 (uB b q0_0 s z S.m h9 U) ?_);rintro v19 h i1 ⟨_,m0,A,rfl,X⟩;have l0:Kp G0 [] h:=Kp.nil0;refine ⟨.inr l0,bn H fun c1 Z H=>?_⟩;obtain ⟨v30,a0,g,d⟩:=Own.cutH (k':= .i64) 0 A rfl ck X (by kernel_rfl) Z;refine AC.take 6 (v30) rfl (by kernel_rfl) (by kernel_rfl) (fun c' i0=>(rx (by kernel_rfl) (a0 _))) (ta 7 (v30) (dn (nrm (bn H fun n a x=>W.seqJ (Jn h fun c l=>∃v36 f,Own c G (es true ah v36 101 f n :: F)∧l= [(0,v36)]∧OA ah c v36 f n) ?_ ?_))))
 ·refine sr (va (v30) (va (I (b.length:Int)) (va (I (w64 ((b.length:Int) - 1))) (bn a fun k i a=>vx (ixO ck d i) (va (Qo (sb v30) ((w64 ((b.length:Int) - 1)).toNat * 2)) ?_)))));obtain ⟨y0,b0,j0⟩:=OA.at d i;obtain ⟨v42,rfl,f1⟩:=b0;refine vr (I k.Kind) (rx (by kernel_rfl) (lF u_3 rfl (g.on 0 rfl) (d.blk i) (at1 (j:=0) j0 rfl))) (va (B (k.Kind==2)) (wln (cn a (fun d0 a=>?_) (fun d0 a=>?_))))
  ·refine W.region (va (v30) (va (I (b.length:Int)) (va (I (w64 ((b.length:Int) - 1))) (va (.agg #[I 0,Y]) (bn a fun d1 e0 a=>vx (ixO ck d e0) (bn a fun a1 f0 a=>md (Own.stW (R:=ah) (T:=101) (us:=[I 0,Y]) (x':=(⟨0,([]:List Int)⟩:ab)) (u:= .agg #[I 0,Y]) 0 g (by kernel_rfl) rfl d f0 rfl (by kernel_rfl) ⟨rfl,rfl,trivial⟩ rfl ⟨(Y),rfl,(Sl.nl _ _)⟩) ?_))))));rintro N j1 ⟨o0,D,g0⟩;refine wln ?_;obtain rfl:=si a;exact jn N ⟨v30,o0,D,rfl,g0⟩
  refine W.skip (nrm ?_);obtain rfl:=si a;exact jn h ⟨v30,m0,g,rfl,d⟩
 rintro e_ w_ ⟨P,e1,_,rfl,k1,rfl,v36,f,E,rfl,h0⟩;refine sr (vv (v36) (wln (W.ret ?_)));obtain rfl:=si x;exact r1 (qq P ⟨v36,f,E,rfl,h0⟩)
def jD (p0:List ab) (p1:Int):Option (List ab):=
 (bI (decide (p1 < (p0.length:Int))) ((idx p0 p1).bind fun d=>
 some (d.Kind==3))).bind fun c=>
 if c=true then
 (idx p0 (w64 (p1 - 1))).bind fun e=>
 (pb p0 (w64 (p1 - 1)) (⟨0,([]:List Int)⟩:ab)).bind fun a=>
 (idx a p1).bind fun f=>
 (pb a p1 (⟨0,([]:List Int)⟩:ab)).bind fun b=>
 some b
 else
 some p0
theorem pq {a:Value} {e:List Value} (f:List ab) (b:Int) (o:Own c0 G (es true ah a 101 e f :: F)) {r:List ab} (d:OA ah c0 a e f) (H:jD f b=some r): Calls prog 220 #[a,I b] c0.w (aN c0 fun c v=>∃U,Own c G (es true ah a 101 U r :: F)∧v= .tuple #[]∧OA ah c a U r):=by
 unfold jD at H;refine en func220 rfl rfl (W.seq (bn H fun y E H=>W.join (Jn c0 fun c l=>Own c G (es true ah a 101 e f :: F)∧l= [(0,a),(1,I b),(15,B y)]) ?_ ?_))
 ·clear H;refine W.region (va (I b) (va (a) (vx (lnO 3 ck d) (va (B (decide (b < (f.length:Int)))) ?_))));rcases bo (decide (b < (f.length:Int))) with g | g
  ·have n:=anT g E;refine vb g (wa (a) (wa (I b) (wn (bn n fun h p n=>vx (ixO ck d p) (wa (Qo (sb a) (b.toNat * 2)) (wn ?_))))));obtain ⟨l0,X,Z⟩:=OA.at d p;obtain ⟨v9,rfl,h0⟩:=X;refine vr (I h.Kind) (rx (by kernel_rfl) (lF u_3 rfl (o.on 0 rfl) (d.blk p) (at1 (j:=0) Z rfl))) (wa (B (h.Kind==3)) ?_);obtain rfl:=si n;exact va (B (h.Kind==3)) (wln (jn c0 ⟨o,rfl⟩))
  obtain rfl:=anF g E;exact vb g (pz (pz (pz (va (B false) (wln (jn c0 ⟨o,rfl⟩))))))
 rintro e_ w_ ⟨t,g0,_,rfl,i0,rfl,i,rfl⟩;refine nrm (cn H (fun z H=>?_) (fun z H=>?_))
 ·refine W.region (va (a) (va (I b) (va (I (w64 (b - 1))) (va (a) (va (I b) (vv (.agg #[I 0,Y]) (bn H fun d0 A H=>vx (ixO ck d.m A) (bn H fun a0 D H=>md (Own.stW (R:=ah) (T:=101) (us:=[I 0,Y]) (x':=(⟨0,([]:List Int)⟩:ab)) (u:= .agg #[I 0,Y]) 0 i (by kernel_rfl) rfl d.m D rfl (by kernel_rfl) ⟨rfl,rfl,trivial⟩ rfl ⟨(Y),rfl,(Sl.nl _ _)⟩) ?_))))))));rintro f0 j0 ⟨m0,q,k⟩;refine bn H fun e0 M H=>vx (ixO ck k M) (bn H fun b0 N H=>md (Own.stW (R:=ah) (T:=101) (us:=[I 0,Y]) (x':=(⟨0,([]:List Int)⟩:ab)) (u:= .agg #[I 0,Y]) 0 q (by kernel_rfl) rfl k N rfl (by kernel_rfl) ⟨rfl,rfl,trivial⟩ rfl ⟨(Y),rfl,(Sl.nl _ _)⟩) ?_);rintro x k0 ⟨S,s,P⟩;refine WL.nil ?_;obtain rfl:=si H;exact n0 (qq x ⟨S,s,rfl,P⟩)
 refine W.skip ?_;obtain rfl:=si H;exact n0 (qq t ⟨e,i,rfl,d.m⟩)
def ei (sg:Sto) (p0:Option Nat) (p1:Int) (p2:Int) (p3_0_0:Int):Option (Sto):=
 (bD sg p0).bind fun a=>
 (orE (decide (p1 < 0)) (some (decide (p1≥a)))).bind fun g=>
 (orE g (some (decide (p2 < 1)))).bind fun b=>
 if b=true then
 some sg
 else
 (eD sg p0).bind fun c=>
 (jD c p1).bind fun d=>
 (jo d (aB p2 (w64 (a - p1))) p3_0_0).bind fun e=>
 (dP sg p0 0 e).bind fun f=>
 some f.1
theorem mN {b3_0:Nat} (O0:Own c0 G F) (i:Rel c0 sg G) (hG:Gl [0,4] c0) (h:Option Nat) (a:Int) (d:Int) (p3_0_0:Int) {r:Sto} (t:Pt 0 c0 v1 h) (m3:∀j u,([I p3_0_0]:List Value)[j]? = some u→Im c0 b3_0 (0+j) u) (H:ei sg h a d p3_0_0=some r): Calls prog 216 #[v1,I a,I d,.func (.func 217) #[] #[Q b3_0]] c0.w (aN c0 fun c v=>∃G_:Gm,Own c G_ (F)∧Rel c r G_∧v= .tuple #[]):=by
 unfold ei at H;refine en func216 rfl rfl (sr (va (v1) (bn H fun b h4 H=>cl (cy O0 i h t h4) ?_)));rintro v10 k l9 ⟨q,rfl⟩;refine va (I b) (wln (W.seq (W.seq (bn H fun w0 o H=>bn H fun s g H=>W.join (Jn k fun c l=>Own c G (F)∧l= [(0,v1),(1,I a),(2,I d),(3,.func (.func 217) #[] #[Q b3_0]),(8,I b),(22,B s)]) ?_ ?_))))
 ·clear H;refine W.region (va (I a) (va (B (decide (a < 0))) ?_));rcases bo (decide (a < 0)) with e | e
  ·obtain rfl:=orT e o;refine vb e (pz (ps (va (B true) ?_)));have p:true=true:=rfl;obtain rfl:=orT p g;exact vb p (pz (va (B true) (wln (jn k ⟨q,rfl⟩))))
  have D:=orF e o;refine vb e (wa (I a) (wa (I b) (wa (B (decide (a≥b))) ?_)));obtain rfl:=si D;refine va (B (decide (a≥b))) ?_;rcases bo (decide (a≥b)) with f | f
  ·obtain rfl:=orT f g;exact vb f (pz (va (B true) (wln (jn k ⟨q,rfl⟩))))
  have E:=orF f g;refine vb f (wa (I d) (wa (B (decide (d < 1))) ?_));obtain rfl:=si E;exact va (B (decide (d < 1))) (wln (jn k ⟨q,rfl⟩))
 rintro e_ w_ ⟨X,x0,_,rfl,z0,rfl,n,rfl⟩;refine nrm (cn H (fun a0 H=>?_) (fun a0 H=>?_))
 ·refine W.ret (thr ?_);obtain rfl:=si H;exact r0 (qq X ⟨G,n,i.m,rfl⟩)
 refine W.skip (nrm (sr (va (v1) (bn H fun x b0 H=>cl (lc n i.m h t.m b0) ?_))));rintro v26 s0 a1 ⟨_,f1,M,rfl,d0⟩;refine va (v26) (wln (sr (va (v26) (va (I a) (bn H fun y e0 H=>cl (pq x a M d0 e0) ?_)))));rintro v44 t0 b1 ⟨g1,N,rfl,f0⟩;refine wln (W.region (va (v1) (va (.func (.func 217) #[] #[Q b3_0]) (va (v26) (va (I d) (va (I b) (va (I a) (va (I (w64 (b - a))) (va (I (aB d (w64 (b - a)))) (bn H fun z g0 H=>cl (tZ y (aB d (w64 (b - a))) p3_0_0 N f0 (mm m3) g0) ?_))))))))));rintro v47 u0 c1 ⟨_,h1,P,rfl,h0⟩;obtain ⟨v0,j0,d1,R,i0⟩:=P.frz 0 rfl h0;refine WL.gh j0 (bn H fun q0 k0 H=>cl (jP R i.m (hG.m.le (by decide)) h 0 z t.m i0 k0) ?_);rintro i1 Z e1 ⟨_,A,S,U,rfl,y0⟩;refine WL.nil ?_;obtain rfl:=si H;have T:=S.sD 1 [];exact n0 (qq Z ⟨A,T,U,rfl⟩)
def ke (sg:Sto) (p0:Option Nat) (p1:Int) (p2:Int):Option (Sto):=
 (ei sg p0 p1 p2 p1).bind fun a=>
 some a
theorem vJ (j:Own c0 G F) (l:Rel c0 sg G) (hG:Gl [0,4] c0) (d:Option Nat) (a:Int) (b:Int) {r:Sto} (o:Pt 0 c0 v1 d) (H:ke sg d a b=some r): Calls prog 177 #[v1,I a,I b] c0.w (aN c0 fun c v=>∃G_:Gm,Own c G_ (F)∧Rel c r G_∧v= .tuple #[]):=by
 unfold ke at H;refine en func177 rfl rfl (sr (me (bx 3 [I a] j) ?_));rintro v7 t u ⟨n,rfl,k,h⟩;refine wln (W.region (va (v1) (vx (l1 u_3 (h 0 _ rfl)) (va (I b) (va (.func (.func 217) #[] #[Q n]) (bn H fun s p H=>cl (mN k l.m (hG.m.le (by decide)) d a b a o.m h p) ?_))))));rintro v14 g q ⟨i,e,f,rfl⟩;refine WL.nil ?_;obtain rfl:=si H;exact n0 (qq g ⟨i,e,f,rfl⟩)
def jp (p0:List ab) (p1:Int) (q0_0:Int):Option (List ab):=
 (jD p0 (w64 (q0_0+p1))).bind fun d=>
 (jN d q0_0 (w64 (q0_0+p1))).bind fun a=>
 (ey p1).bind fun b=>
 (app a b).bind fun c=>
 some c
theorem uc {b:Value} {f:List Value} {e:Nat} (d:List ab) (a:Int) (q0_0:Int) (P:Own c0 G (es true ah b 101 f d :: F)) {r:List ab} (S:OA ah c0 b f d) (g:∀j u,([I q0_0]:List Value)[j]? = some u→Im c0 e (0+j) u) (H:jp d a q0_0=some r): Calls prog 219 #[b,I a,Q e] c0.w (aN c0 fun c v=>∃h N,Own c G (es true ah h 101 N r :: F)∧v=h∧OA ah c h N r):=by
 unfold jp at H;refine en func219 rfl rfl (sr (va (Y) (wln (sr (va (b) (vx (l1 u_3 (g 0 _ rfl)) (va (I a) (va (I (w64 (q0_0+a))) (bn H fun M T H=>cl (pq d (w64 (q0_0+a)) P S T) ?_)))))))));rintro v12 b0 g0 ⟨u5,R,rfl,U⟩;refine wln (sr (va (b) (vx (l1 u_3 ((mm g) 0 _ rfl)) (vx (l1 u_3 ((mm g) 0 _ rfl)) (va (I a) (va (I (w64 (q0_0+a))) (bn H fun X q H=>cl (uC M q0_0 (w64 (q0_0+a)) R U q) ?_)))))));rintro v15 d0 h0 ⟨_,l0,i,rfl,s⟩;refine va (I a) (bn H fun Z t H=>cl (jU i a t) ?_);rintro v25 e0 i0 ⟨_,m0,k,rfl,x⟩;obtain ⟨f0,z,j0,l,y⟩:=k.frz 0 rfl x;refine WL.gh z (bn H fun a0 A H=>me (ap ah (.agg #[I 0,Y]) 32 69 1 l s.m y A ck) ?_);rintro v43 p k0 ⟨E,n,D⟩;refine va (v43) (wln (W.ret ?_));obtain rfl:=si H;have o:=n.sD 2 [1];exact r1 (qq p ⟨v43,E,o,rfl,D⟩)
def ej (sg:Sto) (p0:Option Nat) (p1:Int) (p2:Int) (p3_0_0:Int):Option (Sto):=
 (bD sg p0).bind fun a=>
 (orE (decide (p1 < 0)) (some (decide (p1≥a)))).bind fun g=>
 (orE g (some (decide (p2 < 1)))).bind fun b=>
 if b=true then
 some sg
 else
 (eD sg p0).bind fun c=>
 (jD c p1).bind fun d=>
 (jp d (aB p2 (w64 (a - p1))) p3_0_0).bind fun e=>
 (dP sg p0 0 e).bind fun f=>
 some f.1
theorem mO {b3_0:Nat} (O0:Own c0 G F) (i:Rel c0 sg G) (hG:Gl [0,4] c0) (h:Option Nat) (a:Int) (d:Int) (p3_0_0:Int) {r:Sto} (t:Pt 0 c0 v1 h) (m3:∀j u,([I p3_0_0]:List Value)[j]? = some u→Im c0 b3_0 (0+j) u) (H:ej sg h a d p3_0_0=some r): Calls prog 216 #[v1,I a,I d,.func (.func 219) #[] #[Q b3_0]] c0.w (aN c0 fun c v=>∃G_:Gm,Own c G_ (F)∧Rel c r G_∧v= .tuple #[]):=by
 unfold ej at H;refine en func216 rfl rfl (sr (va (v1) (bn H fun b h4 H=>cl (cy O0 i h t h4) ?_)));rintro v10 k l9 ⟨q,rfl⟩;refine va (I b) (wln (W.seq (W.seq (bn H fun w0 o H=>bn H fun s g H=>W.join (Jn k fun c l=>Own c G (F)∧l= [(0,v1),(1,I a),(2,I d),(3,.func (.func 219) #[] #[Q b3_0]),(8,I b),(22,B s)]) ?_ ?_))))
 ·clear H;refine W.region (va (I a) (va (B (decide (a < 0))) ?_));rcases bo (decide (a < 0)) with e | e
  ·obtain rfl:=orT e o;refine vb e (pz (ps (va (B true) ?_)));have p:true=true:=rfl;obtain rfl:=orT p g;exact vb p (pz (va (B true) (wln (jn k ⟨q,rfl⟩))))
  have D:=orF e o;refine vb e (wa (I a) (wa (I b) (wa (B (decide (a≥b))) ?_)));obtain rfl:=si D;refine va (B (decide (a≥b))) ?_;rcases bo (decide (a≥b)) with f | f
  ·obtain rfl:=orT f g;exact vb f (pz (va (B true) (wln (jn k ⟨q,rfl⟩))))
  have E:=orF f g;refine vb f (wa (I d) (wa (B (decide (d < 1))) ?_));obtain rfl:=si E;exact va (B (decide (d < 1))) (wln (jn k ⟨q,rfl⟩))
 rintro e_ w_ ⟨X,x0,_,rfl,z0,rfl,n,rfl⟩;refine nrm (cn H (fun a0 H=>?_) (fun a0 H=>?_))
 ·refine W.ret (thr ?_);obtain rfl:=si H;exact r0 (qq X ⟨G,n,i.m,rfl⟩)
 refine W.skip (nrm (sr (va (v1) (bn H fun x b0 H=>cl (lc n i.m h t.m b0) ?_))));rintro v26 s0 a1 ⟨_,f1,M,rfl,d0⟩;refine va (v26) (wln (sr (va (v26) (va (I a) (bn H fun y e0 H=>cl (pq x a M d0 e0) ?_)))));rintro v44 t0 b1 ⟨g1,N,rfl,f0⟩;refine wln (W.region (va (v1) (va (.func (.func 219) #[] #[Q b3_0]) (va (v26) (va (I d) (va (I b) (va (I a) (va (I (w64 (b - a))) (va (I (aB d (w64 (b - a)))) (bn H fun z g0 H=>cl (uc y (aB d (w64 (b - a))) p3_0_0 N f0 (mm m3) g0) ?_))))))))));rintro v47 u0 c1 ⟨_,h1,P,rfl,h0⟩;obtain ⟨v0,j0,d1,R,i0⟩:=P.frz 0 rfl h0;refine WL.gh j0 (bn H fun q0 k0 H=>cl (jP R i.m (hG.m.le (by decide)) h 0 z t.m i0 k0) ?_);rintro i1 Z e1 ⟨_,A,S,U,rfl,y0⟩;refine WL.nil ?_;obtain rfl:=si H;have T:=S.sD 1 [];exact n0 (qq Z ⟨A,T,U,rfl⟩)
def kf (sg:Sto) (p0:Option Nat) (p1:Int) (p2:Int):Option (Sto):=
 (ej sg p0 p1 p2 p1).bind fun a=>
 some a
theorem vK (j:Own c0 G F) (l:Rel c0 sg G) (hG:Gl [0,4] c0) (d:Option Nat) (a:Int) (b:Int) {r:Sto} (o:Pt 0 c0 v1 d) (H:kf sg d a b=some r): Calls prog 178 #[v1,I a,I b] c0.w (aN c0 fun c v=>∃G_:Gm,Own c G_ (F)∧Rel c r G_∧v= .tuple #[]):=by
 unfold kf at H;refine en func178 rfl rfl (sr (me (bx 3 [I a] j) ?_));rintro v7 t u ⟨n,rfl,k,h⟩;refine wln (W.region (va (v1) (vx (l1 u_3 (h 0 _ rfl)) (va (I b) (va (.func (.func 219) #[] #[Q n]) (bn H fun s p H=>cl (mO k l.m (hG.m.le (by decide)) d a b a o.m h p) ?_))))));rintro v14 g q ⟨i,e,f,rfl⟩;refine WL.nil ?_;obtain rfl:=si H;exact n0 (qq g ⟨i,e,f,rfl⟩)
def dH (p0:List ab) (p1:Int):Option (List ab):=
 (cE (σ:=(List ab)×Int) (τ:=(List ab)) (((p0.length:Int) - 0).toNat+1) (fun a=>
 if (decide (a.2 < (p0.length:Int)))=true then
 (idx p0 a.2).bind fun b=>
 ((bI (decide (p1 < (p0.length:Int))) ((idx p0 p1).bind fun g=>
 some (g.Kind==3))).bind fun d=>
 (bI d ((orE (a.2==p1) (some ((w64 (a.2+1))==p1))).bind fun f=>
 some f)).bind fun e=>
 if e=true then
 some (0,([]:List Int))
 else
 some (b.Kind,b.Text)).bind fun c=>
 (app a.1 ([(⟨c.1,c.2⟩:ab)]:List ab)).bind fun h=>
 some (.inl (h,(w64 (a.2+1))))
 else
 some (.inr (a.1))) (([]:List ab),0)).bind fun i=>
 some i
theorem kt (O0:Own c0 G F) (M:List ab) (b:Int) {r:List ab} (q:Sl ah c0 v1 M) (H:dH M b=some r): Calls prog 165 #[v1,I b] c0.w (aN c0 fun c v=>∃y1 y2,Own c G (es true ah y1 101 y2 r :: F)∧v=y1∧OA ah c y1 y2 r):=by
 unfold dH at H;refine en func165 rfl rfl (sr (va (Y) (wln (sr (va (Y) (wln (W.seq (sr (va (I 0) (wln (W.block (bn H fun f3 h3 H4=>lp h3 (fun a=>Jn c0 fun c l=>∃v5 s,Own c G (es true ah v5 101 s a.1 :: F)∧l= [(0,v1),(1,I b),(5,v5),(6,I a.2)]∧OA ah c v5 s a.1) (fun E ex e w=>ex= .exit 0∧(Jn c0 fun c l=>∃v7 P,Own c G (es true ah v7 101 P E :: F)∧l= [(5,v7)]∧OA ah c v7 P E) e w) ?_ ?_ ?_))))))))))))
 ·clear H4 h3;intro a j3 f1 d2 H;revert f1 d2;rintro e_ w_ ⟨c9,s2,_,rfl,l9,rfl,v5,s,R,rfl,a0⟩;refine W.seq (sr (va (I a.2) (va (v1) (vx (ln 3 ck q.m) (va (B (decide (a.2 < (M.length:Int)))) (wln (cn H (fun g1 H=>?_) (fun g1 H=>?_))))))))
  ·refine W.skip (nrm (W.seq (W.block (sr (va (v1) (va (I a.2) (bn H fun N b0 H=>?_)))))));obtain ⟨k2,h1,a2⟩:=Sl.at (q.mono l9) (aT b0);obtain ⟨v21,rfl,A⟩:=h1;refine vx (ix ck q.m b0) (vx (lN 101 a2) (me (al 101 [I 0,Y] R) ?_));rintro v26 n2 i0 ⟨p,rfl,t0⟩;obtain ⟨x,y,z,rfl⟩:=((A.mono i0)).form;refine md (sA 101 [I N.Kind,.slice x y z] 0 t0 ⟨rfl,A.m.one,trivial⟩) ?_;rintro g x1 o;refine wln (bn H fun f d t=>W.seqJ (Jn g fun c l=>∃v34,Own c G ((Eb p 101 [I f.1,v34]) :: es true ah v5 101 s a.1 :: F)∧l= [(0,v1),(1,I b),(5,v5),(6,I a.2),(7,Q p)]∧Sl (RI .i32) c v34 f.2) ?_ ?_)
   ·refine W.seq (bn d fun i2 d0 d=>bn d fun k0 D d=>W.join (Jn g fun c l=>Own c G ((Eb p 101 [I N.Kind,.slice x y z]) :: es true ah v5 101 s a.1 :: F)∧l= [(0,v1),(1,I b),(5,v5),(6,I a.2),(7,Q p),(40,B k0)]) ?_ ?_)
    ·clear d;refine W.region (va (I b) (va (v1) (vx (ln 3 ck q.m) (va (B (decide (b < (M.length:Int)))) ?_))));rcases bo (decide (b < (M.length:Int))) with h | h
     ·have u:=anT h d0;refine vb h (wa (v1) (wa (I b) (wn (bn u fun k e0 u=>?_))));obtain ⟨l2,j1,b2⟩:=Sl.at (q.mono (l9.trans (i0.trans x1))) (aT e0);obtain ⟨v43,rfl,w2⟩:=j1;refine vx (ix ck q.m e0) (wa (Qo (sb v1) (so v1+b.toNat * 2)) (wn (vx (l1 u_3 (b2 0 _ rfl)) (wa (B (k.Kind==3)) ?_))));obtain rfl:=si u;refine va (B (k.Kind==3)) ?_;rcases bo (k.Kind==3) with i | i
      ·have n:=anT i D;refine vb i (wa (I a.2) (wa (I b) (wa (B (a.2==b)) (wn (bn n fun j2 f0 n=>?_)))));rcases bo (a.2==b) with j | j
       ·obtain rfl:=orT j f0;refine vb j (pz (pz (wa (B true) ?_)));obtain rfl:=si n;exact va (B true) (wln (jn g ⟨o,rfl⟩))
       have s0:=orF j f0;refine vb j (wa (I a.2) (wa (I (w64 (a.2+1))) (wa (I b) (wa (B ((w64 (a.2+1))==b)) (wn ?_)))));obtain rfl:=si s0;refine va (B ((w64 (a.2+1))==b)) ?_;obtain rfl:=si n;exact va (B ((w64 (a.2+1))==b)) (wln (jn g ⟨o,rfl⟩))
      obtain rfl:=anF i D;exact vb i (pz (pz (pz (pz (ps (va (B false) (wln (jn g ⟨o,rfl⟩))))))))
     obtain rfl:=anF h d0;refine vb h (pz (pz (pz (va (B false) ?_))));have g0:false=false:=rfl;obtain rfl:=anF g0 D;exact vb g0 (pz (pz (pz (pz (ps (va (B false) (wln (jn g ⟨o,rfl⟩))))))))
    rintro e_ w_ ⟨b1,t2,_,rfl,x2,rfl,S,rfl⟩;refine nrm (cn d (fun k1 d=>?_) (fun k1 d=>?_))
    ·refine W.region (va (.agg #[I 0,Y]) (md (sA 101 [I 0,Y] 0 S ⟨rfl,rfl,trivial⟩) ?_));rintro c1 z2 u0;refine wln ?_;obtain rfl:=si d;exact jn c1 ⟨(Y),u0,rfl,(Sl.nl _ _)⟩
    refine W.skip (nrm ?_);obtain rfl:=si d;exact jn b1 ⟨(.slice x y z),S,rfl,A.m⟩
   rintro e_ w_ ⟨o2,u2,_,rfl,a3,rfl,v34,T,rfl,h0⟩;refine W.region (va (v5) (vx (leN 101 0 [I f.1,v34] (T.on 0 rfl)) ?_));obtain ⟨U,X,Z,rfl⟩:=(h0).form;refine me (sl ah 101 [[I f.1,.slice U X Z]] ([(⟨f.1,f.2⟩:ab)]:List ab) T ⟨⟨(.slice U X Z),rfl,h0⟩,trivial⟩) ?_;rintro i3 p2 b3 ⟨g3,v0,m1⟩;obtain ⟨q2,q1,c3,w0,n1⟩:=v0.frz 0 rfl m1;refine WL.gh q1 (bn t fun m2 s1 t=>me (ap ah (.agg #[I 0,Y]) 32 69 2 w0 a0.m n1 s1 ck) ?_);rintro j0 d1 d3 ⟨c2,x0,t1⟩;refine va (j0) (WL.nil (bkn (nrm (W.region (va (I a.2) (vv (I (w64 (a.2+1))) (WL.nil ?_)))))));obtain rfl:=si t;refine ⟨_,rfl,?_⟩;have y0:=x0.sD 3 [2];exact jn d1 ⟨j0,c2,y0,rfl,t1⟩
  refine W.exit (thx ?_);obtain rfl:=si H;exact ⟨_,rfl,rfl,jn c9 ⟨v5,s,R,rfl,a0⟩⟩
 ·have u1:OA ah c0 (Y) [] []:=OA.nil (aM _);have z0:=O0.addHole (e:=es true ah (Y) 101 [] ([]:List ab)) rfl;exact jn c0 ⟨(Y),[],z0,rfl,u1⟩
 rintro _ e_ w_ ⟨rfl,e1,v2,_,rfl,e3,rfl,v7,P,a1,rfl,w1⟩;refine bke (nrm (sr (vv (v7) (wln (W.ret ?_)))));obtain rfl:=si H4;exact r1 (qq e1 ⟨v7,P,a1,rfl,w1⟩)
def fa (p0:List ab) (p1:Int) (p2:Int):Option ((List ab)×Bool):=
 (orE (decide (p1 < 0)) (some (decide (p1≥(p0.length:Int))))).bind fun l=>
 (orE l (some (decide (p2 < 1)))).bind fun h=>
 if h=true then
 some (p0,false)
 else
 (dH p0 p1).bind fun c=>
 (cE (σ:=(List ab)×Int) (τ:=(List ab)) (((p0.length:Int) - 0).toNat+1) (fun a=>
 if (decide (a.2 < (p0.length:Int)))=true then
 (if (decide (a.2 < p1))=true then
 (idx c a.2).bind fun d=>
 some (d.Kind,d.Text)
 else
 some (0,([]:List Int))).bind fun f=>
 (if (decide (a.2≥(w64 (p1+(aB p2 (w64 ((p0.length:Int) - p1)))))))=true then
 (idx c (w64 (a.2 - (aB p2 (w64 ((p0.length:Int) - p1)))))).bind fun e=>
 some (e.Kind,e.Text)
 else
 some (f.1,f.2)).bind fun b=>
 ((bI ((w64 (a.2+1))==(p0.length:Int)) (some (b.1==2))).bind fun i=>
 if i=true then
 some (0,([]:List Int))
 else
 some (b.1,b.2)).bind fun g=>
 (app a.1 ([(⟨g.1,g.2⟩:ab)]:List ab)).bind fun k=>
 some (.inl (k,(w64 (a.2+1))))
 else
 some (.inr (a.1))) (([]:List ab),0)).bind fun j=>
 some (j,true)
theorem py (O0:Own c0 G F) (d:List ab) (b:Int) (f:Int) {r:(List ab)×Bool} (P:Sl ah c0 v1 d) (H:fa d b f=some r): Calls prog 95 #[v1,I b,I f] c0.w (aN c0 fun c v=>∃y1,Own c G (F)∧v= .tuple #[y1,B r.2]∧Sl ah c y1 r.1):=by
 unfold fa at H;refine en func95 rfl rfl (sr (va (Y) (va (B false) (wln (W.seq (W.seq (bn H fun x4 h3 H=>bn H fun e2 h4 H=>W.join (Jn c0 fun c l=>Own c G (F)∧l= [(0,v1),(1,I b),(2,I f),(23,B e2)]) ?_ ?_)))))))
 ·clear H;refine W.region (va (I b) (va (B (decide (b < 0))) ?_));rcases bo (decide (b < 0)) with h5 | h5
  ·obtain rfl:=orT h5 h3;refine vb h5 (pz (pz (va (B true) ?_)));have h6:true=true:=rfl;obtain rfl:=orT h6 h4;exact vb h6 (pz (va (B true) (wln (jn c0 ⟨O0,rfl⟩))))
  have H7:=orF h5 h3;refine vb h5 (wa (I b) (wa (v1) (wn (vx (ln 3 ck P) (wa (B (decide (b≥(d.length:Int)))) ?_)))));obtain rfl:=si H7;refine va (B (decide (b≥(d.length:Int)))) ?_;rcases bo (decide (b≥(d.length:Int))) with h8 | h8
  ·obtain rfl:=orT h8 h4;exact vb h8 (pz (va (B true) (wln (jn c0 ⟨O0,rfl⟩))))
  have H9:=orF h8 h4;refine vb h8 (wa (I f) (wa (B (decide (f < 1))) ?_));obtain rfl:=si H9;exact va (B (decide (f < 1))) (wln (jn c0 ⟨O0,rfl⟩))
 rintro N R ⟨c3,y4,_,rfl,d5,rfl,t0,rfl⟩;refine nrm (cn H (fun j3 H=>?_) (fun j3 H=>?_))
 ·refine sr (vv (v1) (va (B false) (wln (W.ret (thr ?_)))));obtain rfl:=si H;exact r2 (qq c3 ⟨v1,t0,rfl,P.m⟩)
 refine W.skip (nrm (sr (va (I f) (va (v1) (vx (ln 3 ck P.m) (va (I b) (va (I (w64 ((d.length:Int) - b))) (vv (I (aB f (w64 ((d.length:Int) - b)))) (wln (sr (va (v1) (va (I b) (bn H fun h k3 H=>cl (kt t0 d b P.m k3) ?_)))))))))))));rintro v18 A e5 ⟨_,t,y2,rfl,s⟩;refine va (v18) (wln (sr (va (Y) (wln (W.seq (sr (va (I 0) (wln (W.block (bn H fun s4 e1 s0=>lp e1 (fun a=>Jn A fun c l=>∃v29 n,Own c G (es true ah v29 101 n a.1 :: es true ah v18 101 t h :: F)∧l= [(0,v1),(1,I b),(2,I (aB f (w64 ((d.length:Int) - b)))),(8,v18),(9,v29),(10,I a.2)]∧OA ah c v29 n a.1) (fun E ex e w=>ex= .exit 0∧(Jn A fun c l=>∃v31 m0,Own c G (es true ah v31 101 m0 E :: es true ah v18 101 t h :: F)∧l= [(9,v31)]∧OA ah c v31 m0 E) e w) ?_ ?_ ?_))))))))))
 ·clear s0 e1;intro a k5 i3 y3 H;revert i3 y3;rintro N R ⟨d3,z4,_,rfl,h1,rfl,v29,n,u0,rfl,f1⟩;refine W.seq (sr (va (I a.2) (va (v1) (vx (ln 3 ck P.m) (va (B (decide (a.2 < (d.length:Int)))) (wln (cn H (fun m3 H=>?_) (fun m3 H=>?_))))))))
  ·refine W.skip (nrm (W.seq (W.block (sr (va (.agg #[I 0,Y]) (me (al 101 [I 0,Y] u0) ?_))))));rintro v44 w4 i1 ⟨g,rfl,z2⟩;refine md (sA 101 [I 0,Y] 0 z2 ⟨rfl,rfl,trivial⟩) ?_;rintro c1 j1 X;refine wln (bn H fun q0 o v2=>W.seqJ (Jn c1 fun c l=>∃v49,Own c G ((Eb g 101 [I q0.1,v49]) :: es true ah v29 101 n a.1 :: es true ah v18 101 t h :: F)∧l= [(0,v1),(1,I b),(2,I (aB f (w64 ((d.length:Int) - b)))),(8,v18),(9,v29),(10,I a.2),(11,Q g)]∧Sl (RI .i32) c v49 q0.2) ?_ ?_)
   ·refine sr (va (I a.2) (va (I b) (va (B (decide (a.2 < b))) (wln (cn o (fun n3 o=>?_) (fun n3 o=>?_))))))
    ·refine W.region (va (v18) (va (I a.2) (bn o fun y h0 o=>vx (ixO ck s.m h0) ?_)));obtain ⟨q4,o3,w3⟩:=OA.at (s.mono (h1.trans (i1.trans j1))) h0;obtain ⟨v55,rfl,i0⟩:=o3;refine vr (.agg #[I y.Kind,v55]) (rx (by kernel_rfl) (zU (T:=101) (l:=[I y.Kind,v55]) (by kernel_rfl) (by kernel_rfl) (X.on 2 rfl) (s.m.blk h0) (at2 (j:=0) w3 rfl))) ?_;obtain ⟨w0,x0,y0,rfl⟩:=(i0).form;refine md (sA 101 [I y.Kind,.slice w0 x0 y0] 0 X ⟨rfl,i0.one,trivial⟩) ?_;rintro e3 f5 a3;refine wln ?_;obtain rfl:=si o;exact jn e3 ⟨(.slice w0 x0 y0),a3,rfl,i0.m⟩
    refine W.skip (nrm ?_);obtain rfl:=si o;exact jn c1 ⟨(Y),X,rfl,(Sl.nl _ _)⟩
   rintro N R ⟨d1,a5,_,rfl,v3,rfl,v49,Z,rfl,q3⟩;refine bn v2 fun q p w2=>W.seqJ (Jn d1 fun c l=>∃x,Own c G ((Eb g 101 [I q.1,x]) :: es true ah v29 101 n a.1 :: es true ah v18 101 t h :: F)∧l= [(0,v1),(1,I b),(2,I (aB f (w64 ((d.length:Int) - b)))),(8,v18),(9,v29),(10,I a.2),(11,Q g)]∧Sl (RI .i32) c x q.2) ?_ ?_
   ·refine sr (va (I a.2) (va (I b) (va (I (aB f (w64 ((d.length:Int) - b)))) (va (I (w64 (b+(aB f (w64 ((d.length:Int) - b)))))) (va (B (decide (a.2≥(w64 (b+(aB f (w64 ((d.length:Int) - b)))))))) (wln (cn p (fun s3 p=>?_) (fun s3 p=>?_))))))))
    ·refine W.region (va (v18) (va (I a.2) (va (I (aB f (w64 ((d.length:Int) - b)))) (va (I (w64 (a.2 - (aB f (w64 ((d.length:Int) - b)))))) (bn p fun z j0 p=>vx (ixO ck s.m j0) ?_)))));obtain ⟨r4,t3,x3⟩:=OA.at (s.mono (h1.trans (i1.trans (j1.trans v3)))) j0;obtain ⟨k1,rfl,k0⟩:=t3;refine vr (.agg #[I z.Kind,k1]) (rx (by kernel_rfl) (zU (T:=101) (l:=[I z.Kind,k1]) (by kernel_rfl) (by kernel_rfl) (Z.on 2 rfl) (s.m.blk j0) (at2 (j:=0) x3 rfl))) ?_;obtain ⟨z0,a1,b1,rfl⟩:=(k0).form;refine md (sA 101 [I z.Kind,.slice z0 a1 b1] 0 Z ⟨rfl,k0.one,trivial⟩) ?_;rintro f3 g5 b3;refine wln ?_;obtain rfl:=si p;exact jn f3 ⟨(.slice z0 a1 b1),b3,rfl,k0.m⟩
    refine W.skip (nrm ?_);obtain rfl:=si p;exact jn d1 ⟨v49,Z,rfl,q3⟩
   rintro N R ⟨D,b5,_,rfl,i5,rfl,x,a0,rfl,u3⟩;refine bn w2 fun i k S=>W.seqJ (Jn D fun c l=>∃M,Own c G ((Eb g 101 [I i.1,M]) :: es true ah v29 101 n a.1 :: es true ah v18 101 t h :: F)∧l= [(0,v1),(1,I b),(2,I (aB f (w64 ((d.length:Int) - b)))),(8,v18),(9,v29),(10,I a.2),(11,Q g)]∧Sl (RI .i32) c M i.2) ?_ ?_
   ·refine W.seq (bn k fun f2 g1 k=>W.join (Jn D fun c l=>Own c G ((Eb g 101 [I q.1,x]) :: es true ah v29 101 n a.1 :: es true ah v18 101 t h :: F)∧l= [(0,v1),(1,I b),(2,I (aB f (w64 ((d.length:Int) - b)))),(8,v18),(9,v29),(10,I a.2),(11,Q g),(68,B f2)]) ?_ ?_)
    ·clear k;refine W.region (va (I a.2) (va (I (w64 (a.2+1))) (va (v1) (vx (ln 3 ck P.m) (va (B ((w64 (a.2+1))==(d.length:Int))) ?_)))));rcases bo ((w64 (a.2+1))==(d.length:Int)) with u | u
     ·have x2:=anT u g1;refine vb u (wa (Q g) (wn (vx (le1 0 u_3 (a0.on 0 rfl)) (wa (B (q.1==2)) ?_))));obtain rfl:=si x2;exact va (B (q.1==2)) (wln (jn D ⟨a0,rfl⟩))
     obtain rfl:=anF u g1;exact vb u (pz (ps (va (B false) (wln (jn D ⟨a0,rfl⟩)))))
    rintro N R ⟨g3,c5,_,rfl,j5,rfl,v0,rfl⟩;refine nrm (cn k (fun g2 k=>?_) (fun g2 k=>?_))
    ·refine W.region (va (.agg #[I 0,Y]) (md (sA 101 [I 0,Y] 0 v0 ⟨rfl,rfl,trivial⟩) ?_));rintro b2 j4 n1;refine wln ?_;obtain rfl:=si k;exact jn b2 ⟨(Y),n1,rfl,(Sl.nl _ _)⟩
    refine W.skip (nrm ?_);obtain rfl:=si k;exact jn g3 ⟨x,v0,rfl,u3.m⟩
   rintro N R ⟨c4,g4,_,rfl,k4,rfl,M,U,rfl,f0⟩;refine W.region (va (v29) (vx (leN 101 0 [I i.1,M] (U.on 0 rfl)) ?_));obtain ⟨b0,d0,e0,rfl⟩:=(f0).form;refine me (sl ah 101 [[I i.1,.slice b0 d0 e0]] ([(⟨i.1,i.2⟩:ab)]:List ab) U ⟨⟨(.slice b0 d0 e0),rfl,f0⟩,trivial⟩) ?_;rintro u4 d4 l4 ⟨t4,q1,i2⟩;obtain ⟨e4,k2,m4,s1,j2⟩:=q1.frz 0 rfl i2;refine WL.gh k2 (bn S fun v4 l2 S=>me (ap ah (.agg #[I 0,Y]) 32 69 2 s1 f1.m j2 l2 ck) ?_);rintro o0 c2 n4 ⟨u2,t1,m2⟩;refine va (o0) (WL.nil (bkn (nrm (W.region (va (I a.2) (vv (I (w64 (a.2+1))) (WL.nil ?_)))))));obtain rfl:=si S;refine ⟨_,rfl,?_⟩;have u1:=t1.sD 4 [2,3];exact jn c2 ⟨o0,u2,u1,rfl,m2⟩
  refine W.exit (thx ?_);obtain rfl:=si H;exact ⟨_,rfl,rfl,jn d3 ⟨v29,n,u0,rfl,f1⟩⟩
 ·have n2:OA ah A (Y) [] []:=OA.nil (aM _);have w1:=y2.addHole (e:=es true ah (Y) 101 [] ([]:List ab)) rfl;exact jn A ⟨(Y),[],w1,rfl,n2⟩
 rintro _ N R ⟨rfl,f4,i4,_,rfl,o4,rfl,v31,m0,x1,rfl,o2⟩;refine bke (nrm (sr (vv (v31) (va (B true) (wln (W.ret ?_))))));obtain rfl:=si s0;obtain ⟨d2,s2,p4,z1,q2⟩:=x1.frz 0 rfl o2;have a2:=z1.sD 2 [];exact Aj s2 (r2 (qq d2 ⟨v31,a2,rfl,q2⟩))
def fc (p0:List ab) (p1:Int) (p2:Int):Option ((List ab)×Bool):=
 (orE (decide (p1 < 0)) (some (decide (p1≥(p0.length:Int))))).bind fun j=>
 (orE j (some (decide (p2 < 1)))).bind fun f=>
 if f=true then
 some (p0,false)
 else
 (dH p0 p1).bind fun h=>
 (dH h (w64 (p1+(aB p2 (w64 ((p0.length:Int) - p1)))))).bind fun b=>
 (cE (σ:=(List ab)×Int) (τ:=(List ab)) (((p0.length:Int) - 0).toNat+1) (fun a=>
 if (decide (a.2 < (p0.length:Int)))=true then
 (if (decide (a.2 < p1))=true then
 (idx b a.2).bind fun c=>
 some (c.Kind,c.Text)
 else
 if (decide ((w64 (a.2+(aB p2 (w64 ((p0.length:Int) - p1))))) < (p0.length:Int)))=true then
 (idx b (w64 (a.2+(aB p2 (w64 ((p0.length:Int) - p1)))))).bind fun d=>
 some (d.Kind,d.Text)
 else
 some (0,([]:List Int))).bind fun e=>
 (app a.1 ([(⟨e.1,e.2⟩:ab)]:List ab)).bind fun i=>
 some (.inl (i,(w64 (a.2+1))))
 else
 some (.inr (a.1))) (([]:List ab),0)).bind fun g=>
 some (g,true)
theorem pA (O0:Own c0 G F) (d:List ab) (b:Int) (g:Int) {r:(List ab)×Bool} (y:Sl ah c0 v1 d) (H:fc d b g=some r): Calls prog 96 #[v1,I b,I g] c0.w (aN c0 fun c v=>∃y1,Own c G (F)∧v= .tuple #[y1,B r.2]∧Sl ah c y1 r.1):=by
 unfold fc at H;refine en func96 rfl rfl (sr (va (Y) (va (B false) (wln (W.seq (W.seq (bn H fun g4 h3 H=>bn H fun k1 h4 H=>W.join (Jn c0 fun c l=>Own c G (F)∧l= [(0,v1),(1,I b),(2,I g),(23,B k1)]) ?_ ?_)))))))
 ·clear H;refine W.region (va (I b) (va (B (decide (b < 0))) ?_));rcases bo (decide (b < 0)) with A | A
  ·obtain rfl:=orT A h3;refine vb A (pz (pz (va (B true) ?_)));have h6:true=true:=rfl;obtain rfl:=orT h6 h4;exact vb h6 (pz (va (B true) (wln (jn c0 ⟨O0,rfl⟩))))
  have H7:=orF A h3;refine vb A (wa (I b) (wa (v1) (wn (vx (ln 3 ck y) (wa (B (decide (b≥(d.length:Int)))) ?_)))));obtain rfl:=si H7;refine va (B (decide (b≥(d.length:Int)))) ?_;rcases bo (decide (b≥(d.length:Int))) with N | N
  ·obtain rfl:=orT N h4;exact vb N (pz (va (B true) (wln (jn c0 ⟨O0,rfl⟩))))
  have H9:=orF N h4;refine vb N (wa (I g) (wa (B (decide (g < 1))) ?_));obtain rfl:=si H9;exact va (B (decide (g < 1))) (wln (jn c0 ⟨O0,rfl⟩))
 rintro e_ w_ ⟨m2,i4,_,rfl,l4,rfl,a0,rfl⟩;refine nrm (cn H (fun t2 H=>?_) (fun t2 H=>?_))
 ·refine sr (vv (v1) (va (B false) (wln (W.ret (thr ?_)))));obtain rfl:=si H;exact r2 (qq m2 ⟨v1,a0,rfl,y.m⟩)
 refine W.skip (nrm (sr (va (I g) (va (v1) (vx (ln 3 ck y.m) (va (I b) (va (I (w64 ((d.length:Int) - b))) (vv (I (aB g (w64 ((d.length:Int) - b)))) (wln (sr (va (v1) (va (I b) (bn H fun k u2 H=>cl (kt a0 d b y.m u2) ?_)))))))))))));rintro v18 c4 m4 ⟨_,R,e2,rfl,v2⟩;refine va (I b) (va (I (aB g (w64 ((d.length:Int) - b)))) (va (I (w64 (b+(aB g (w64 ((d.length:Int) - b)))))) ?_));obtain ⟨d4,y2,n4,f2,w2⟩:=e2.frz 0 rfl v2;refine WL.gh y2 (bn H fun p z2 H=>cl (kt f2 k (w64 (b+(aB g (w64 ((d.length:Int) - b))))) w2 z2) ?_);rintro v32 t o4 ⟨_,S,g2,rfl,i⟩;refine va (v32) (wln (sr (va (Y) (wln (W.seq (sr (va (I 0) (wln (W.block (bn H fun z3 s0 Z=>lp s0 (fun a=>Jn t fun c l=>∃v43 o,Own c G (es true ah v43 101 o a.1 :: es true ah v32 101 S p :: es false ah v18 101 R k :: F)∧l= [(0,v1),(1,I b),(2,I (aB g (w64 ((d.length:Int) - b)))),(8,v32),(9,v43),(10,I a.2)]∧OA ah c v43 o a.1) (fun u ex e w=>ex= .exit 0∧(Jn t fun c l=>∃v45 U,Own c G (es true ah v45 101 U u :: es true ah v32 101 S p :: es false ah v18 101 R k :: F)∧l= [(9,v45)]∧OA ah c v45 U u) e w) ?_ ?_ ?_))))))))))
 ·clear Z s0;intro a t4 s2 j3 H;revert s2 j3;rintro e_ w_ ⟨n2,j4,_,rfl,v0,rfl,v43,o,b0,rfl,t0⟩;refine W.seq (sr (va (I a.2) (va (v1) (vx (ln 3 ck y.m) (va (B (decide (a.2 < (d.length:Int)))) (wln (cn H (fun a3 H=>?_) (fun a3 H=>?_))))))))
  ·refine W.skip (nrm (W.seq (W.block (sr (va (.agg #[I 0,Y]) (me (al 101 [I 0,Y] b0) ?_))))));rintro v58 e4 w0 ⟨o0,rfl,i2⟩;refine md (sA 101 [I 0,Y] 0 i2 ⟨rfl,rfl,trivial⟩) ?_;rintro q0 x0 n;refine wln (bn H fun h f z=>W.seqJ (Jn q0 fun c l=>∃x,Own c G ((Eb o0 101 [I h.1,x]) :: es true ah v43 101 o a.1 :: es true ah v32 101 S p :: es false ah v18 101 R k :: F)∧l= [(0,v1),(1,I b),(2,I (aB g (w64 ((d.length:Int) - b)))),(8,v32),(9,v43),(10,I a.2),(11,Q o0)]∧Sl (RI .i32) c x h.2) ?_ ?_)
   ·refine sr (va (I a.2) (va (I b) (va (B (decide (a.2 < b))) (wln (cn f (fun c3 f=>?_) (fun c3 f=>?_))))))
    ·refine W.region (va (v32) (va (I a.2) (bn f fun q D f=>vx (ixO ck i.m D) ?_)));obtain ⟨x3,d3,g3⟩:=OA.at (i.mono (v0.trans (w0.trans x0))) D;obtain ⟨y0,rfl,E⟩:=d3;refine vr (.agg #[I q.Kind,y0]) (rx (by kernel_rfl) (zU (T:=101) (l:=[I q.Kind,y0]) (by kernel_rfl) (by kernel_rfl) (n.on 2 rfl) (i.m.blk D) (at2 (j:=0) g3 rfl))) ?_;obtain ⟨e0,f0,g0,rfl⟩:=(E).form;refine md (sA 101 [I q.Kind,.slice e0 f0 g0] 0 n ⟨rfl,E.one,trivial⟩) ?_;rintro o2 p4 j2;refine wln ?_;obtain rfl:=si f;exact jn o2 ⟨(.slice e0 f0 g0),j2,rfl,E.m⟩
    refine sr (va (I a.2) (va (I (aB g (w64 ((d.length:Int) - b)))) (va (I (w64 (a.2+(aB g (w64 ((d.length:Int) - b)))))) (va (v1) (vx (ln 3 ck y.m) (va (B (decide ((w64 (a.2+(aB g (w64 ((d.length:Int) - b))))) < (d.length:Int)))) (wln (cn f (fun e3 f=>?_) (fun e3 f=>?_)))))))))
    ·refine W.region (va (v32) (va (I a.2) (va (I (aB g (w64 ((d.length:Int) - b)))) (va (I (w64 (a.2+(aB g (w64 ((d.length:Int) - b)))))) (bn f fun s M f=>vx (ixO ck i.m M) ?_)))));obtain ⟨y3,f3,i3⟩:=OA.at (i.mono (v0.trans (w0.trans x0))) M;obtain ⟨z0,rfl,P⟩:=f3;refine vr (.agg #[I s.Kind,z0]) (rx (by kernel_rfl) (zU (T:=101) (l:=[I s.Kind,z0]) (by kernel_rfl) (by kernel_rfl) (n.on 2 rfl) (i.m.blk M) (at2 (j:=0) i3 rfl))) ?_;obtain ⟨h0,i0,j0,rfl⟩:=(P).form;refine md (sA 101 [I s.Kind,.slice h0 i0 j0] 0 n ⟨rfl,P.one,trivial⟩) ?_;rintro q2 q4 k2;refine wln ?_;obtain rfl:=si f;exact jn q2 ⟨(.slice h0 i0 j0),k2,rfl,P.m⟩
    refine W.skip (nrm ?_);obtain rfl:=si f;exact jn q0 ⟨(Y),n,rfl,(Sl.nl _ _)⟩
   rintro e_ w_ ⟨f4,k4,_,rfl,r4,rfl,x,d0,rfl,u0⟩;refine W.region (va (v43) (vx (leN 101 0 [I h.1,x] (d0.on 0 rfl)) ?_));obtain ⟨k0,l0,m0,rfl⟩:=(u0).form;refine me (sl ah 101 [[I h.1,.slice k0 l0 m0]] ([(⟨h.1,h.2⟩:ab)]:List ab) d0 ⟨⟨(.slice k0 l0 m0),rfl,u0⟩,trivial⟩) ?_;rintro a4 n3 s3 ⟨s4,l2,n1⟩;obtain ⟨o3,s1,t3,b1,q1⟩:=l2.frz 0 rfl n1;refine WL.gh s1 (bn z fun b4 t1 z=>me (ap ah (.agg #[I 0,Y]) 32 69 2 b1 t0.m q1 t1 ck) ?_);rintro X i1 u3 ⟨c2,c1,u1⟩;refine va (X) (WL.nil (bkn (nrm (W.region (va (I a.2) (vv (I (w64 (a.2+1))) (WL.nil ?_)))))));obtain rfl:=si z;refine ⟨_,rfl,?_⟩;have d1:=c1.sD 5 [2,3,4];exact jn i1 ⟨X,c2,d1,rfl,u1⟩
  refine W.exit (thx ?_);obtain rfl:=si H;exact ⟨_,rfl,rfl,jn n2 ⟨v43,o,b0,rfl,t0⟩⟩
 ·have w1:OA ah t (Y) [] []:=OA.nil (aM _);have e1:=g2.addHole (e:=es true ah (Y) 101 [] ([]:List ab)) rfl;exact jn t ⟨(Y),[],e1,rfl,w1⟩
 rintro _ e_ w_ ⟨rfl,p3,q3,_,rfl,v3,rfl,v45,U,f1,rfl,x1⟩;refine bke (nrm (sr (vv (v45) (va (B true) (wln (W.ret ?_))))));obtain rfl:=si Z;obtain ⟨j1,a2,w3,g1,z1⟩:=f1.frz 0 rfl x1;have h1:=g1.sD 3 [];exact Aj a2 (r2 (qq j1 ⟨v45,h1,rfl,z1⟩))
def jd (p0:Int) (p1:Int) (p2:Int) (p3:Int):Option (ai):=
 (fU (⟨p0,p1,false⟩:ai) p2 p3).bind fun a=>
 some a
theorem rQ (j:Own c0 G F) (b:Int) (d:Int) (e:Int) (f:Int) {r:ai} (H:jd b d e f=some r): Calls prog 173 #[I b,I d,I e,I f] c0.w (aN c0 fun c v=>Own c G (F)∧v= .agg #[I r.Row,I r.Col,B r.Pending]):=by
 unfold jd at H;refine en func173 rfl rfl (sr (me (al 24 [I 0,I 0,B false] j) ?_));rintro v4 s t ⟨q,rfl,k⟩;refine wln (sr (va (I b) (va (I d) (va (.agg #[I b,I d,B false]) (va (I e) (va (I f) (bn H fun a m H=>cl (ez k (⟨b,d,false⟩:ai) e f m) ?_)))))));rintro v11 n o ⟨l,rfl⟩;refine md (sA 24 [I a.Row,I a.Col,B a.Pending] 0 l ⟨rfl,rfl,rfl,trivial⟩) ?_;rintro h p g;refine wln (W.ret ?_);obtain rfl:=si H;have i:=g.sD 1 [];exact jZ (c:=h) (vs:=[I a.Row,I a.Col,B a.Pending]) rfl (by kernel_rfl) (by kernel_rfl) (by kernel_rfl) (g.on 0 rfl _ rfl).1 ⟨_,h,rfl,rfl,pt,i,rfl⟩
def oF (p0:List ab) (p1:Int):Option (List ab):=
 (slc p0 0 p1).bind fun a=>
 ((bI (decide (p1 > 0)) ((idx a (w64 (p1 - 1))).bind fun d=>
 some (d.Kind==2))).bind fun b=>
 if b=true then
 (idx a (w64 (p1 - 1))).bind fun f=>
 (pb a (w64 (p1 - 1)) (⟨0,([]:List Int)⟩:ab)).bind fun c=>
 some (c)
 else
 some (a)).bind fun e=>
 some e
theorem B2 {h:Value} {f:List Value} (x:List ab) (a:Int) (O0:Own c0 G (es true ah h 101 f x :: F)) {r:List ab} (h1:OA ah c0 h f x) (H:oF x a=some r): Calls prog 239 #[h,I a] c0.w (aN c0 fun c v=>∃y y2,Own c G (es true ah y 101 y2 r :: F)∧v=y∧OA ah c y y2 r):=by
 unfold oF at H;refine en func239 rfl rfl (sr (va (Y) (wln (sr (va (h) (vv (I a) (bn H fun d0 h2 H=>?_)))))));obtain ⟨v3,h4,s,i⟩:=Own.cutHM (k2:= .i64) (k':= .i64) 0 O0 rfl ck h1 (by kernel_rfl) h2;refine vr v3 (rx (by kernel_rfl) (h4 _)) (va (v3) (wln (bn H fun q b H8=>W.seqJ (Jn c0 fun c l=>∃v9 g,Own c G (es true ah v9 101 g q :: F)∧l= [(0,v9)]∧OA ah c v9 g q) ?_ ?_)))
 ·refine W.seq (bn b fun t p b=>W.join (Jn c0 fun c l=>Own c G (es true ah v3 101 f d0 :: F)∧l= [(0,v3),(1,I a),(19,B t)]) ?_ ?_)
  ·clear b;refine W.region (va (I a) (va (B (decide (a > 0))) ?_));rcases bo (decide (a > 0)) with d | d
   ·have k:=anT d p;refine vb d (wa (v3) (wa (I a) (wa (I (w64 (a - 1))) (wn (bn k fun e n k=>vx (ixO ck i n) (wa (Qo (sb v3) ((w64 (a - 1)).toNat * 2)) (wn ?_)))))));obtain ⟨l0,N,a0⟩:=OA.at i n;obtain ⟨v18,rfl,u0⟩:=N;refine vr (I e.Kind) (rx (by kernel_rfl) (lF u_3 rfl (s.on 0 rfl) (i.blk n) (at1 (j:=0) a0 rfl))) (wa (B (e.Kind==2)) ?_);obtain rfl:=si k;exact va (B (e.Kind==2)) (wln (jn c0 ⟨s,rfl⟩))
   obtain rfl:=anF d p;exact vb d (pz (pz (pz (ps (va (B false) (wln (jn c0 ⟨s,rfl⟩)))))))
  rintro e_ w_ ⟨D,s0,_,rfl,v0,rfl,o,rfl⟩;refine nrm (cn b (fun P b=>?_) (fun P b=>?_))
  ·refine W.region (va (v3) (va (I a) (va (I (w64 (a - 1))) (va (.agg #[I 0,Y]) (bn b fun q0 S b=>vx (ixO ck i.m S) (bn b fun o0 U b=>md (Own.stW (R:=ah) (T:=101) (us:=[I 0,Y]) (x':=(⟨0,([]:List Int)⟩:ab)) (u:= .agg #[I 0,Y]) 0 o (by kernel_rfl) rfl i.m U rfl (by kernel_rfl) ⟨rfl,rfl,trivial⟩ rfl ⟨(Y),rfl,(Sl.nl _ _)⟩) ?_))))));rintro E w0 ⟨b0,z,X⟩;refine wln ?_;obtain rfl:=si b;exact jn E ⟨v3,b0,z,rfl,X⟩
  refine W.skip (nrm ?_);obtain rfl:=si b;exact jn D ⟨v3,f,o,rfl,i.m⟩
 rintro e_ w_ ⟨M,t0,_,rfl,x0,rfl,v9,g,A,rfl,Z⟩;refine sr (vv (v9) (wln (W.ret ?_)));obtain rfl:=si H8;exact r1 (qq M ⟨v9,g,A,rfl,Z⟩)
def tc (sg:Sto) (p0:List ab):Option (Sto×(Option Nat)):=
 (np sg p0).bind fun a=>
 if (!a.2.2.isNil)=true then
 some (a.1,(none:Option Nat))
 else
 some (a.1,a.2.1)
theorem DC (l:Own c0 G F) (m:Rel c0 sg G) (hG:Gl [0,4] c0) (f:List ab) {r:Sto×(Option Nat)} (o:Sl ah c0 v1 f) (H:tc sg f=some r): Calls prog 240 #[v1] c0.w (aN c0 fun c v=>∃k,∃G_:Gm,Own c G_ (F)∧Rel c r.1 G_∧v=k∧Pt 0 c k r.2):=by
 unfold tc at H;refine en func240 rfl rfl (sr (va (.pointer none) (wln (sr (va (v1) (bn H fun j p H=>cl (DA l m (hG.le (by decide)) f o p) ?_))))));rintro v13 e t ⟨v4,v6,g,h,d,rfl,q,s⟩;refine va (.tuple #[v4,v6]) (va (v4) (va (v6) (va (v4) (va (v6) (wln (W.seq (sr (va (v6) (vr (B (!j.2.2.isNil)) (by rcases (s).cs with ⟨a,b⟩ | ⟨n,a,b⟩ | ⟨n,a,b⟩ <;> (subst a; rw [b]; kernel_rfl)) (wln (cn H (fun i H=>?_) (fun i H=>?_))))))))))))
 ·refine sr (va (.pointer none) (wln (W.ret (thr ?_))));obtain rfl:=si H;exact r1 (qq e ⟨(.pointer none),g,h,d,rfl,rfl⟩)
 refine W.skip (nrm (sr (vv (v4) (wln (W.ret ?_)))));obtain rfl:=si H;exact r1 (qq e ⟨v4,g,h,d,rfl,q⟩)
def jG (sg:Sto) (p0:Option Nat) (p1:Int):Option (Sto×(Option Nat)):=
 if p0.isNone=true then
 some (sg,(none:Option Nat))
 else
 (eD sg p0).bind fun c=>
 (bD sg p0).bind fun d=>
 (oF c (aB (aE 1 (aB p1 1024)) d)).bind fun a=>
 (ey (w64 ((aE 1 (aB p1 1024)) - (a.length:Int)))).bind fun e=>
 (app a e).bind fun f=>
 (tc sg f).bind fun b=>
 some (b.1,b.2)
theorem xI (o:Own c0 G F) (f:Rel c0 sg G) (hG:Gl [0,4] c0) (b:Option Nat) (a:Int) {r:Sto×(Option Nat)} (j:Pt 0 c0 v1 b) (H:jG sg b a=some r): Calls prog 190 #[v1,I a] c0.w (aN c0 fun c v=>∃y1,∃G_:Gm,Own c G_ (F)∧Rel c r.1 G_∧v=y1∧Pt 0 c y1 r.2):=by
 unfold jG at H;refine en func190 rfl rfl (sr (va (.pointer none) (wln (W.seq (sr (va (v1) (vr (B b.isNone) (by rcases (j).cs with ⟨g,i⟩ | ⟨b_,g,i⟩ <;> (subst g; rw [i]; kernel_rfl)) (wln (cn H (fun h3 H=>?_) (fun h3 H=>?_))))))))))
 ·refine sr (va (.pointer none) (wln (W.ret (thr ?_))));obtain rfl:=si H;exact r1 (qq c0 ⟨(.pointer none),G,o,f,rfl,rfl⟩)
 refine W.skip (nrm (sr (va (I a) (va (I (aB a 1024)) (vv (I (aE 1 (aB a 1024))) (wln (sr (va (v1) (bn H fun k h4 H=>cl (lc o f b j h4) ?_)))))))));rintro v5 k0 u0 ⟨_,u6,O9,rfl,h7⟩;refine va (I (aE 1 (aB a 1024))) (va (v1) (bn H fun d E H=>cl (cy O9 f.m b j.m E) ?_));rintro v20 l0 v0 ⟨p,rfl⟩;refine va (I (aB (aE 1 (aB a 1024)) d)) (bn H fun e M H=>cl (B2 k (aB (aE 1 (aB a 1024)) d) p h7.m M) ?_);rintro v23 m0 w0 ⟨_,c1,q,rfl,h⟩;refine va (v23) (wln (sr (va (v23) (va (I (aE 1 (aB a 1024))) (va (v23) (vx (lnO 3 ck h) (va (I (w64 ((aE 1 (aB a 1024)) - (e.length:Int)))) (bn H fun i0 N H=>cl (jU q (w64 ((aE 1 (aB a 1024)) - (e.length:Int))) N) ?_))))))));rintro v33 o0 x0 ⟨_,d1,s,rfl,P⟩;obtain ⟨q0,S,y0,t,R⟩:=s.frz 0 rfl P;refine WL.gh S (bn H fun l T H=>me (ap ah (.agg #[I 0,Y]) 32 69 1 t h.m R T ck) ?_);rintro v51 s0 z0 ⟨e1,u,U⟩;obtain ⟨t0,Z,a1,x,X⟩:=u.frz 1 rfl U;refine WL.gh Z (bn H fun j0 a0 H=>cl (DC x f.m (hG.m.le (by decide)) l X a0) ?_);rintro v57 D b1 ⟨_,n,y,A,rfl,b0⟩;refine va (v57) (wln (W.ret ?_));obtain rfl:=si H;have z:=y.sD 2 [];exact r1 (qq D ⟨v57,n,z,A,rfl,b0⟩)
def kQ (sg:Sto) (p0:Option Nat) (p1:Int) (p2:Int):Option (Sto):=
 (orE p0.isNone ((p0).bind fun u=>
 (sg.place_Pen[u]?).bind fun v=>
 some v.G.isNone)).bind fun t=>
 if t=true then
 some sg
 else
 (p0).bind fun l=>
 (sg.place_Pen[l]?).bind fun e=>
 (cg sg e.G).bind fun o=>
 (bO sg e.G).bind fun p=>
 (fU e.At o p).bind fun b=>
 (mt sg (aE 1 (aB p1 1024)) (aE 1 (aB p2 1024))).bind fun c=>
 (cE (σ:=Int×Sto) (τ:=Sto) (((aE 1 (aB p2 1024)) - 0).toNat+1) (fun a=>
 if (decide (a.1 < (aE 1 (aB p2 1024))))=true then
 ((p0).bind fun m=>
 (a.2.place_Pen[m]?).bind fun n=>
 (bw a.2 n.G (w64 ((aE 0 (w64 ((w64 (b.Row - (aE 1 (aB p2 1024))))+1)))+a.1))).bind fun j=>
 if (!j.isNone)=true then
 (jG a.2 j (aE 1 (aB p1 1024))).bind fun k=>
 (eE k.1 c.2 a.1 k.2).bind fun q=>
 some (q.1)
 else
 some (a.2)).bind fun s=>
 some (.inl ((w64 (a.1+1)),s))
 else
 some (.inr (a.2))) (0,c.1)).bind fun i=>
 (p0).bind fun d=>
 (i.place_Pen[d]?).bind fun f=>
 (i.set_place_Pen d (⟨c.2,f.At,f.Auto⟩:bi)).bind fun h=>
 (jd (w64 (b.Row - (aE 0 (w64 ((w64 (b.Row - (aE 1 (aB p2 1024))))+1))))) b.Col (aE 1 (aB p1 1024)) (aE 1 (aB p2 1024))).bind fun r=>
 (h.set_place_Pen d (⟨c.2,r,f.Auto⟩:bi)).bind fun g=>
 some g
theorem wq (O0:Own c0 G F) (z:Rel c0 sg G) (hG:Gl [0,4] c0) (p0:Option Nat) (o:Int) (b:Int) {r:Sto} (h2:Pt 2 c0 v1 p0) (H:kQ sg p0 o b=some r): Calls prog 122 #[v1,I o,I b] c0.w (aN c0 fun c v=>∃G_:Gm,Own c G_ (F)∧Rel c r G_∧v= .tuple #[]):=by
 unfold kQ at H;refine en func122 rfl rfl (W.seq (W.seq (bn H fun p5 h3 H=>W.join (Jn c0 fun c l=>Own c G (F)∧l= [(0,v1),(1,I o),(2,I b),(19,B p5)]) ?_ ?_)))
 ·clear H;refine W.region (va (v1) (vr (B p0.isNone) (by rcases (h2).cs with ⟨t,u⟩ | ⟨b_,t,u⟩ <;> (subst t; rw [u]; kernel_rfl)) ?_));rcases bo (p0.isNone) with h4 | h4
  ·obtain rfl:=orT h4 h3;exact vb h4 (pz (pz (ps (va (B true) (wln (jn c0 ⟨O0,rfl⟩))))))
  have H5:=orF h4 h3;refine vb h4 (wa (v1) (wn (bn H5 fun f8 h8 H5=>?_)));obtain ⟨b6,rfl,h7⟩:=(h2).get h8;refine va (Q b6) (wa (Q b6) (wn (bn H5 fun j2 h9 H5=>?_)));obtain ⟨v10,s5,r5⟩:=Rel.open_place_Pen z h9 h7;refine vx (le1 0 jA (O0.gon s5 0 rfl)) (wn (vr (B j2.G.isNone) (by rcases (r5).cs with ⟨t,u⟩ | ⟨b_,t,u⟩ <;> (subst t; rw [u]; kernel_rfl)) ?_));obtain rfl:=si H5;exact va (B j2.G.isNone) (wln (jn c0 ⟨O0,rfl⟩))
 rintro e_ w_ ⟨b2,e8,_,rfl,Z,rfl,m1,rfl⟩;refine nrm (cn H (fun t5 H=>?_) (fun t5 H=>?_))
 ·refine W.ret (thr ?_);obtain rfl:=si H;exact r0 (qq b2 ⟨G,m1,z.m,rfl⟩)
 refine W.skip (nrm (sr (va (I o) (va (I (aB o 1024)) (va (I (aE 1 (aB o 1024))) (va (I b) (va (I (aB b 1024)) (va (I (aE 1 (aB b 1024))) (va (I (aE 1 (aB o 1024))) (va (I (aE 1 (aB b 1024))) (wln (W.seq (bn H fun g7 u5 H=>bn H fun h v5 H=>bn H fun D f2 H=>bn H fun E x0 H=>bn H fun a X H=>W.join (Jn b2 fun c l=>∃n,Own c G ((Eb n 24 [I a.Row,I a.Col,B a.Pending]) :: F)∧l= [(0,v1),(1,I (aE 1 (aB o 1024))),(2,I (aE 1 (aB b 1024))),(6,Q n)]) ?_ ?_)))))))))))))
 ·clear H;refine rD [] (Kp G []) m1 ?_;intro f5 i2 k0;have f1:Kp G [] f5:=(Kp.nil k0);refine ta 0 (v1) ?_;obtain ⟨s,rfl,x5⟩:=((h2.mono (Z.trans i2))).get u5;refine ta 1 (Q s) (ta 2 (Qo s 1) ?_);obtain ⟨v31,y0,M⟩:=Rel.open_place_Pen (z.mono (Z.trans i2)) v5 x5;refine tkx 3 f1 (fun c' g2 hk=>leN 24 1 [I h.At.Row,I h.At.Col,B h.At.Pending] (hk.gon y0 0 rfl)) (ta 4 (Q s) (ta 5 (Q s) (ta 6 (Q s) (tkx 7 f1 (fun c' g2 hk=>le1 0 jA (hk.gon y0 0 rfl)) (ta 9 (Q s) (ta 10 (Q s) (ta 11 (Q s) (tkx 12 f1 (fun c' g2 hk=>le1 0 jA (hk.gon y0 0 rfl)) (mn2 8 15 ?_ ?_)))))))))
  ·refine gc 8 (cF k0 z.m h.G M f2) ?_;rintro v39 g5 g8 ⟨l0,rfl⟩;have y5:Kp G [] g5:=(Kp.nil l0);refine ⟨.inr y5,mn2 13 15 ?_ ?_⟩
   ·refine gc 13 (bJ l0 z.m h.G M.m x0) ?_;rintro v46 h5 i8 ⟨m0,rfl⟩;have z5:Kp G [] h5:=(Kp.nil m0);refine ⟨.inr z5,mn2 14 15 ?_ ?_⟩
    ·refine gc 14 (ez m0 h.At D E X) ?_;rintro v53 i5 j8 ⟨n1,rfl⟩;have a6:Kp G [] i5:=(Kp.nil n1);refine ⟨.inr a6,o1 15 (gm 15 (al 24 [I 0,I 0,B false] n1) ?_)⟩;rintro v58 j5 k8 ⟨z4,rfl,q1⟩;have c6:Kp G [] j5:=(Kp.nil q1);refine ⟨.inr c6,o1 16 (gD 16 (sA 24 [I a.Row,I a.Col,B a.Pending] 0 q1 ⟨rfl,rfl,rfl,trivial⟩) ?_)⟩;rintro c2 l8 s1;have d6:Kp G [] c2:=(Kp.nil s1);exact ⟨.inr d6,dn (nrm (jn c2 ⟨z4,s1,rfl⟩))⟩
    refine gm 15 (al 24 [I 0,I 0,B false] m0) ?_;rintro t8 k5 m8 ⟨b5,rfl,t1⟩;have e6:Kp G [] k5:=(Kp.nil t1);refine ⟨.inr e6,o1 14 (gc 14 (ez t1 h.At D E X) ?_)⟩;rintro u8 l5 n8 ⟨u1,rfl⟩;have f6:Kp G [] l5:=(Kp.nil u1);refine ⟨.inr f6,o1 16 (gD 16 (sA 24 [I a.Row,I a.Col,B a.Pending] 0 u1 ⟨rfl,rfl,rfl,trivial⟩) ?_)⟩;rintro d2 o8 w1;have g6:Kp G [] d2:=(Kp.nil w1);exact ⟨.inr g6,dn (nrm (jn d2 ⟨b5,w1,rfl⟩))⟩
   refine gm 15 (al 24 [I 0,I 0,B false] l0) ?_;rintro v8 m5 p8 ⟨c5,rfl,x1⟩;have h6:Kp G [] m5:=(Kp.nil x1);refine ⟨.inr h6,o1 13 (gc 13 (bJ x1 z.m h.G M.m x0) ?_)⟩;rintro w8 n5 q8 ⟨y1,rfl⟩;have i6:Kp G [] n5:=(Kp.nil y1);refine ⟨.inr i6,o1 14 (gc 14 (ez y1 h.At D E X) ?_)⟩;rintro x8 o5 r8 ⟨z1,rfl⟩;have j6:Kp G [] o5:=(Kp.nil z1);refine ⟨.inr j6,o1 16 (gD 16 (sA 24 [I a.Row,I a.Col,B a.Pending] 0 z1 ⟨rfl,rfl,rfl,trivial⟩) ?_)⟩;rintro e2 s8 a2;have k6:Kp G [] e2:=(Kp.nil a2);exact ⟨.inr k6,dn (nrm (jn e2 ⟨c5,a2,rfl⟩))⟩
  refine gm 15 (al 24 [I 0,I 0,B false] k0) ?_;rintro u7 k3 k7 ⟨j3,rfl,d0⟩;have p4:Kp G [] k3:=(Kp.nil d0);refine ⟨.inr p4,o1 8 (gc 8 (cF d0 z.m h.G M.m f2) ?_)⟩;rintro v7 l3 l7 ⟨e0,rfl⟩;have q4:Kp G [] l3:=(Kp.nil e0);refine ⟨.inr q4,o1 13 (gc 13 (bJ e0 z.m h.G M.m x0) ?_)⟩;rintro w7 m3 m7 ⟨f0,rfl⟩;have r4:Kp G [] m3:=(Kp.nil f0);refine ⟨.inr r4,o1 14 (gc 14 (ez f0 h.At D E X) ?_)⟩;rintro x7 n3 n7 ⟨g0,rfl⟩;have s4:Kp G [] n3:=(Kp.nil g0);refine ⟨.inr s4,o1 16 (gD 16 (sA 24 [I a.Row,I a.Col,B a.Pending] 0 g0 ⟨rfl,rfl,rfl,trivial⟩) ?_)⟩;rintro s0 o7 h0;have t4:Kp G [] s0:=(Kp.nil h0);exact ⟨.inr t4,dn (nrm (jn s0 ⟨j3,h0,rfl⟩))⟩
 rintro e_ w_ ⟨s6,x6,_,rfl,b1,rfl,n,i0,rfl⟩;refine nrm (sr (va (Q n) (vx (le1 0 u_3 (i0.on 0 rfl)) (va (I (aE 1 (aB b 1024))) (va (I (w64 (a.Row - (aE 1 (aB b 1024))))) (va (I (w64 ((w64 (a.Row - (aE 1 (aB b 1024))))+1))) (vv (I (aE 0 (w64 ((w64 (a.Row - (aE 1 (aB b 1024))))+1)))) (wln (sr (va (I (aE 1 (aB o 1024))) (va (I (aE 1 (aB b 1024))) (bn H fun v4 t3 H=>cl (vP i0 z.m (aE 1 (aB o 1024)) (aE 1 (aB b 1024)) t3) ?_))))))))))));rintro q R c1 ⟨_,k2,s2,c3,p6,rfl,y⟩;refine va (q) (wln (W.seq (sr (va (I (aE 1 (aB b 1024))) (va (I 0) (wln (W.block (bn H fun t7 u0 g=>lp u0 (fun f=>Jn R fun c l=>∃G_,Own c G_ ((Eb n 24 [I a.Row,I a.Col,B a.Pending]) :: F)∧l= [(0,v1),(1,I (aE 1 (aB o 1024))),(2,I (aE 1 (aB b 1024))),(6,Q n),(7,I (aE 0 (w64 ((w64 (a.Row - (aE 1 (aB b 1024))))+1)))),(8,q),(50,I (aE 1 (aB b 1024))),(51,I f.1)]∧Rel c f.2 G_) (fun i1 ex e w=>ex= .exit 0∧(Jn R fun c l=>∃G_,Own c G_ ((Eb n 24 [I a.Row,I a.Col,B a.Pending]) :: F)∧l= [(0,v1),(1,I (aE 1 (aB o 1024))),(2,I (aE 1 (aB b 1024))),(6,Q n),(7,I (aE 0 (w64 ((w64 (a.Row - (aE 1 (aB b 1024))))+1)))),(8,q)]∧Rel c i1 G_) e w) ?_ ?_ ?_))))))))
 ·clear g u0;intro f y8 q5 l6 H;revert q5 l6;rintro e_ w_ ⟨t0,y6,_,rfl,n4,rfl,a0,N,rfl,x⟩;refine sr (va (B (decide (f.1 < (aE 1 (aB b 1024))))) (wln (W.seq (cn H (fun u3 H=>?_) (fun u3 H=>?_)))))
  ·refine W.skip (nrm (bn H fun x4 d o2=>W.seqJ (Jn t0 fun c l=>∃G_,Own c G_ ((Eb n 24 [I a.Row,I a.Col,B a.Pending]) :: F)∧l= [(0,v1),(1,I (aE 1 (aB o 1024))),(2,I (aE 1 (aB b 1024))),(6,Q n),(7,I (aE 0 (w64 ((w64 (a.Row - (aE 1 (aB b 1024))))+1)))),(8,q),(50,I (aE 1 (aB b 1024))),(51,I f.1)]∧Rel c x4 G_) ?_ ?_))
   ·refine W.block (sr (vv (I f.1) (wln (sr (va (v1) (bn d fun i7 w3 d=>?_))))));obtain ⟨q0,rfl,v3⟩:=((h2.mono (Z.trans (b1.trans (c1.trans n4))))).get w3;refine vv (Q q0) (bn d fun o4 x3 d=>?_);obtain ⟨y7,z3,y3⟩:=Rel.open_place_Pen x x3 v3;refine vx (le1 0 jA (N.gon z3 0 rfl)) (va (I (aE 0 (w64 ((w64 (a.Row - (aE 1 (aB b 1024))))+1)))) (va (I f.1) (va (I (w64 ((aE 0 (w64 ((w64 (a.Row - (aE 1 (aB b 1024))))+1)))+f.1))) (bn d fun g1 a4 d=>cl (cQ N x o4.G (w64 ((aE 0 (w64 ((w64 (a.Row - (aE 1 (aB b 1024))))+1)))+f.1)) y3 a4) ?_))));rintro U o3 p7 ⟨_,j0,rfl,v0⟩;refine va (U) (wln (sr (va (U) (vr (B (!g1.isNone)) (by rcases (v0).cs with ⟨t,u⟩ | ⟨b_,t,u⟩ <;> (subst t; rw [u]; kernel_rfl)) (wln (cn d (fun b4 d=>?_) (fun b4 d=>?_)))))))
    ·refine W.region (va (q) (va (I f.1) (va (U) (va (I (aE 1 (aB o 1024))) (bn d fun w4 c4 d=>cl (xI j0 x.m (hG.m.le (by decide)) g1 (aE 1 (aB o 1024)) v0 c4) ?_)))));rintro z7 t6 q7 ⟨_,m6,t2,d3,rfl,d4⟩;refine bn d fun d8 e4 d=>cl (pI t2 d3 v4.2 f.1 w4.2 y.m d4 e4) ?_;rintro a8 p3 r7 ⟨l2,u2,e3,rfl⟩;refine WL.nil (bkn (nrm ?_));obtain rfl:=si d;exact jn p3 ⟨l2,u2,rfl,e3⟩
    refine W.skip (bkn (nrm ?_));obtain rfl:=si d;exact jn o3 ⟨a0,j0,rfl,x.m⟩
   rintro e_ w_ ⟨q3,z6,_,rfl,s7,rfl,m2,v2,rfl,f3⟩;refine W.region (vv (I (w64 (f.1+1))) (WL.nil ?_));obtain rfl:=si o2;exact ⟨_,rfl,jn q3 ⟨m2,v2,rfl,f3⟩⟩
  refine W.exit (thx ?_);obtain rfl:=si H;exact ⟨_,rfl,rfl,jn t0 ⟨a0,N,rfl,x⟩⟩
 ·exact jn R ⟨k2,s2,rfl,c3⟩
 rintro _ e_ w_ ⟨rfl,u6,a7,_,rfl,A,rfl,n6,w2,rfl,o0⟩;refine bke (nrm (sr (va (v1) (va (q) (bn g fun j7 f4 g=>?_)))));obtain ⟨j,rfl,S⟩:=((h2.mono (Z.trans (b1.trans (c1.trans A))))).get f4;refine vv (Q j) ?_;obtain ⟨p,rfl⟩:=((y.mono A)).form;refine bn g fun i g4 g=>?_;obtain ⟨b8,i4,b7⟩:=Rel.open_place_Pen o0 g4 S;refine md (gC 35 0 (.pointer p) [.pointer p,I i.At.Row,I i.At.Col,B i.At.Pending,B i.Auto] 0 w2 i4 ⟨y.m.one,trivial⟩) ?_;rintro v6 T x2;refine bn g fun y4 k4 g=>?_;obtain ⟨o6,P,g3,j4,q6⟩:=Rel.put_place_Pen x2 (o0.mono T) (E':=[(Eb j 42 [.pointer p,I i.At.Row,I i.At.Col,B i.At.Pending,B i.Auto])]) k4 ⟨j,(.pointer p),(tm S),rfl,(y.mono (A.trans T))⟩;refine wln (W.region (va (Q j) (va (Q n) (vx (le1 0 u_3 (P.on 0 rfl)) (va (I (aE 0 (w64 ((w64 (a.Row - (aE 1 (aB b 1024))))+1)))) (va (I (w64 (a.Row - (aE 0 (w64 ((w64 (a.Row - (aE 1 (aB b 1024))))+1)))))) (va (Qo n 1) (vx (le1 1 u_3 (P.on 0 rfl)) (va (I (aE 1 (aB o 1024))) (va (I (aE 1 (aB b 1024))) (bn g fun k l4 g=>cl (rQ P (w64 (a.Row - (aE 0 (w64 ((w64 (a.Row - (aE 1 (aB b 1024))))+1))))) a.Col (aE 1 (aB o 1024)) (aE 1 (aB b 1024)) l4) ?_)))))))))));rintro c8 w6 d1 ⟨y2,rfl⟩;refine va (Q j) (va (Qo j 1) (md (gB 24 1 [I k.Row,I k.Col,B k.Pending] [.pointer p,I k.Row,I k.Col,B k.Pending,B i.Auto] 0 y2 j4 ⟨rfl,rfl,rfl,trivial⟩) ?_));rintro s3 e1 z2;refine bn g fun u4 m4 g=>?_;obtain ⟨n2,a3,i3,c7,r6⟩:=Rel.put_place_Pen z2 (g3.mono (d1.trans e1)) (E':=[(Eb j 42 [.pointer p,I k.Row,I k.Col,B k.Pending,B i.Auto])]) m4 ⟨j,(.pointer p),(tm S),rfl,(y.mono (A.trans (T.trans (d1.trans e1))))⟩;refine WL.nil ?_;obtain rfl:=si g;have b3:=a3.sD 1 [];exact n0 (qq s3 ⟨n2,b3,i3,rfl⟩)
def dU (p0:List ab) (p1:Int):Option (List ab):=
 (rep (aE 1 (aB p1 1024)) (⟨0,([]:List Int)⟩:ab)).bind fun i=>
 (cE (σ:=(List ab)×Int) (τ:=(List ab)) (((aE 1 (aB p1 1024)) - 0).toNat+1) (fun a=>
 (bI (decide (a.2 < (aE 1 (aB p1 1024)))) (some (decide (a.2 < (p0.length:Int))))).bind fun b=>
 if b=true then
 ((orE (decide ((w64 (a.2+1)) < (aE 1 (aB p1 1024)))) ((idx p0 a.2).bind fun f=>
 some (f.Kind != 2))).bind fun c=>
 if c=true then
 (idx p0 a.2).bind fun g=>
 (idx a.1 a.2).bind fun j=>
 (pb a.1 a.2 g).bind fun e=>
 some (e)
 else
 some (a.1)).bind fun h=>
 some (.inl (h,(w64 (a.2+1))))
 else
 some (.inr (a.1))) (i,0)).bind fun d=>
 some d
theorem px (O0:Own c0 G F) (Z:List ab) (d:Int) {r:List ab} (N:Sl ah c0 v1 Z) (H:dU Z d=some r): Calls prog 192 #[v1,I d] c0.w (aN c0 fun c v=>∃y1 y2,Own c G (es true ah y1 101 y2 r :: F)∧v=y1∧OA ah c y1 y2 r):=by
 unfold dU at H;refine en func192 rfl rfl (sr (va (Y) (wln (sr (va (I d) (va (I (aB d 1024)) (vv (I (aE 1 (aB d 1024))) (wln (sr (va (I (aE 1 (aB d 1024))) (bn H fun u2 h3 H=>me (Own.mkS (kl:= .i64) (kc:= .i64) (R:=ah) (z:= .agg #[I 0,Y]) (lz:=[I 0,Y]) (x:=(⟨0,([]:List Int)⟩:ab)) (by_:=32) (i:=(aE 1 (aB d 1024))) (j:=(aE 1 (aB d 1024))) true O0 (aM _) h3 (oY _) (rW h3) ck (by kernel_rfl) rfl rfl (fun _=>⟨(Y),rfl,(Sl.nl _ _)⟩) (by kernel_rfl) (by kernel_rfl)) ?_)))))))))));rintro v8 c7 l7 ⟨u5,O4,h6⟩;refine va (v8) (wln (W.seq (sr (va (I 0) (wln (W.block (bn H fun f2 h9 b0=>lp h9 (fun a=>Jn c7 fun c l=>∃v11 f,Own c G (es true ah v11 101 f a.1 :: F)∧l= [(0,v1),(1,I (aE 1 (aB d 1024))),(5,v11),(6,I a.2)]∧OA ah c v11 f a.1) (fun p ex e w=>ex= .exit 0∧(Jn c7 fun c l=>∃v13 q,Own c G (es true ah v13 101 q p :: F)∧l= [(5,v13)]∧OA ah c v13 q p) e w) ?_ ?_ ?_)))))))
 ·clear b0 h9;intro a v2 b1 x1 H;revert b1 x1;rintro X w_ ⟨M,k2,_,rfl,j0,rfl,v11,f,d0,rfl,o⟩;refine W.seq (W.seq (bn H fun m0 f0 H=>W.join (Jn M fun c l=>Own c G (es true ah v11 101 f a.1 :: F)∧l= [(0,v1),(1,I (aE 1 (aB d 1024))),(5,v11),(6,I a.2),(20,B m0)]) ?_ ?_))
  ·clear H;refine W.region (va (I a.2) (va (I (aE 1 (aB d 1024))) (va (B (decide (a.2 < (aE 1 (aB d 1024))))) ?_)));rcases bo (decide (a.2 < (aE 1 (aB d 1024)))) with h | h
   ·have s0:=anT h f0;refine vb h (wa (I a.2) (wa (v1) (wn (vx (ln 3 ck N.m) (wa (B (decide (a.2 < (Z.length:Int)))) ?_)))));obtain rfl:=si s0;exact va (B (decide (a.2 < (Z.length:Int)))) (wln (jn M ⟨d0,rfl⟩))
   obtain rfl:=anF h f0;exact vb h (pz (pz (va (B false) (wln (jn M ⟨d0,rfl⟩)))))
  rintro X w_ ⟨g,l2,_,rfl,k0,rfl,y,rfl⟩;refine nrm (cn H (fun d1 H=>?_) (fun d1 H=>?_))
  ·refine W.skip (nrm (bn H fun U b t0=>W.seqJ (Jn g fun c l=>∃v34 s,Own c G (es true ah v34 101 s U :: F)∧l= [(0,v1),(1,I (aE 1 (aB d 1024))),(5,v34),(6,I a.2)]∧OA ah c v34 s U) ?_ ?_))
   ·refine W.block (W.seq (bn b fun o0 g0 b=>W.join (Jn g fun c l=>Own c G (es true ah v11 101 f a.1 :: F)∧l= [(0,v1),(1,I (aE 1 (aB d 1024))),(5,v11),(6,I a.2),(34,B o0)]) ?_ ?_))
    ·clear b;refine W.region (va (I a.2) (va (I (w64 (a.2+1))) (va (I (aE 1 (aB d 1024))) (va (B (decide ((w64 (a.2+1)) < (aE 1 (aB d 1024))))) ?_))));rcases bo (decide ((w64 (a.2+1)) < (aE 1 (aB d 1024)))) with k | k
     ·obtain rfl:=orT k g0;exact vb k (pz (pz (pz (va (B true) (wln (jn g ⟨y,rfl⟩))))))
     have t:=orF k g0;refine vb k (wa (v1) (wa (I a.2) (wn (bn t fun S h0 t=>?_))));obtain ⟨d2,e1,t1⟩:=Sl.at (N.mono (l7.trans (j0.trans k0))) (aT h0);obtain ⟨v43,rfl,p2⟩:=e1;refine vx (ix ck N.m h0) (wa (Qo (sb v1) (so v1+a.2.toNat * 2)) (wn (vx (l1 u_3 (t1 0 _ rfl)) (wa (B (S.Kind != 2)) ?_))));obtain rfl:=si t;exact va (B (S.Kind != 2)) (wln (jn g ⟨y,rfl⟩))
    rintro X w_ ⟨x0,m2,_,rfl,q1,rfl,e0,rfl⟩;refine nrm (cn b (fun f1 b=>?_) (fun f1 b=>?_))
    ·refine W.region (va (v11) (va (I a.2) (va (v1) (va (I a.2) (bn b fun n i0 b=>?_)))));obtain ⟨e2,g1,u1⟩:=Sl.at (N.mono (l7.trans (j0.trans (k0.trans q1)))) (aT i0);obtain ⟨v56,rfl,P⟩:=g1;refine vx (ix ck N.m i0) (vx (lN 101 u1) (bn b fun j2 h1 b=>vx (ixO ck o.m h1) ?_));obtain ⟨A,D,E,rfl⟩:=(P).form;refine bn b fun i2 i1 b=>md (Own.stW (R:=ah) (T:=101) (us:=[I n.Kind,.slice A D E]) (x':=n) (u:= .agg #[I n.Kind,.slice A D E]) 0 e0 (by kernel_rfl) rfl o.m i1 rfl (by kernel_rfl) ⟨rfl,P.one,trivial⟩ rfl ⟨(.slice A D E),rfl,P⟩) ?_;rintro y0 q2 ⟨w1,u0,j1⟩;refine WL.nil (bkn (nrm ?_));obtain rfl:=si b;exact jn y0 ⟨v11,w1,u0,rfl,j1⟩
    refine W.skip (bkn (nrm ?_));obtain rfl:=si b;exact jn x0 ⟨v11,f,e0,rfl,o.m⟩
   rintro X w_ ⟨z0,n2,_,rfl,s2,rfl,v34,s,v0,rfl,k1⟩;refine W.region (va (I a.2) (vv (I (w64 (a.2+1))) (WL.nil ?_)));obtain rfl:=si t0;exact ⟨_,rfl,jn z0 ⟨v34,s,v0,rfl,k1⟩⟩
  refine W.exit (thx ?_);obtain rfl:=si H;exact ⟨_,rfl,rfl,jn g ⟨v11,f,y,rfl,o.m⟩⟩
 ·exact jn c7 ⟨v8,u5,O4,rfl,h6⟩
 rintro _ X w_ ⟨rfl,a1,o2,_,rfl,t2,rfl,v13,q,w0,rfl,m1⟩;refine bke (nrm (sr (vv (v13) (wln (W.ret ?_)))));obtain rfl:=si b0;exact r1 (qq a1 ⟨v13,q,w0,rfl,m1⟩)
def di (p0:aa) (p1:Int) (p2:Int):Option (aa):=
 (ce p0).bind fun d=>
 (bY p1).bind fun f=>
 (bY p2).bind fun c=>
 (cE (σ:=(List ak)×Int) (τ:=((List ak)×Int)) ((d.At.Row - c).toNat+2) (fun a=>
 if (decide (a.2≥c))=true then
 (slc a.1 1 a.1.length).bind fun h=>
 some (.inl (h,(w64 (a.2 - 1))))
 else
 some (.inr (a.1,a.2))) (d.L,d.At.Row)).bind fun e=>
 (cE (σ:=(List ak)×Int) (τ:=(List ak)) ((c - 0).toNat+1) (fun b=>
 if (decide (b.2 < c))=true then
 (if (decide (b.2 < (e.1.length:Int)))=true then
 (idx e.1 b.2).bind fun i=>
 some (i.Cells)
 else
 some (([]:List ab))).bind fun l=>
 (dU l f).bind fun j=>
 (app b.1 ([(⟨j,false⟩:ak)]:List ak)).bind fun k=>
 some (.inl (k,(w64 (b.2+1))))
 else
 some (.inr (b.1))) (([]:List ak),0)).bind fun g=>
 some (⟨g,(⟨e.2,(aB d.At.Col (w64 (f - 1))),false⟩:ai),d.Auto⟩:aa)
theorem pv (O0:Own c0 G F) (j:aa) (p1:Int) (p2:Int) {r:aa} (h2:Sl am c0 v1 j.L) (H:di j p1 p2=some r): Calls prog 125 #[.agg #[v1,I j.At.Row,I j.At.Col,B j.At.Pending,B j.Auto],I p1,I p2] c0.w (aN c0 fun c v=>∃y1 y2,Own c G (es true am y1 71 y2 r.L :: F)∧v= .agg #[y1,I r.At.Row,I r.At.Col,B r.At.Pending,B r.Auto]∧OA am c y1 y2 r.L):=by
 unfold di at H;refine en func125 rfl rfl (sr ?_);obtain ⟨a3,a4,a5,rfl⟩:=(h2).form;refine me (al 43 [.slice a3 a4 a5,I j.At.Row,I j.At.Col,B j.At.Pending,B j.Auto] O0) ?_;rintro v9 c8 l8 ⟨o,rfl,O7⟩;refine me (al 43 [Y,I 0,I 0,B false,B false] O7) ?_;rintro v13 r4 d5 ⟨i,rfl,a1⟩;refine wln (sr (vx (leN 43 0 [.slice a3 a4 a5,I j.At.Row,I j.At.Col,B j.At.Pending,B j.Auto] (a1.on 1 rfl)) (bn H fun a b3 H=>cl (dt a1 j h2.m b3) ?_)));rintro v22 s4 e5 ⟨v15,k2,rfl,m0⟩;obtain ⟨q,s,t,rfl⟩:=(m0).form;refine md (sA 43 [.slice q s t,I a.At.Row,I a.At.Col,B a.At.Pending,B a.Auto] 1 k2 ⟨m0.one,rfl,rfl,rfl,rfl,trivial⟩) ?_;rintro t4 f5 l2;refine wln (sr (va (I p1) (bn H fun f d3 H=>cl (dO l2 p1 d3) ?_)));rintro v34 u4 g5 ⟨m2,rfl⟩;refine va (I f) (wln (sr (va (I p2) (bn H fun g e3 H=>cl (dO m2 p2 e3) ?_))));rintro v41 v4 h5 ⟨g0,rfl⟩;refine va (I g) (wln (sr (va (Q o) (vx (le1 0 dX (g0.on 1 rfl)) (va (.slice q s t) (wln (sr (va (Qo o 1) (vx (leN 24 1 [I a.At.Row,I a.At.Col,B a.At.Pending] (g0.on 1 rfl)) (me (al 24 [I 0,I 0,B false] g0) ?_))))))))));rintro v45 w4 i5 ⟨d,rfl,n2⟩;refine md (sA 24 [I a.At.Row,I a.At.Col,B a.At.Pending] 0 n2 ⟨rfl,rfl,rfl,trivial⟩) ?_;rintro j0 j5 o2;refine wln (W.seq (W.block (bn H fun h b1 p=>lp b1 (fun n=>Jn j0 fun c l=>∃v50,Own c G ((Eb d 24 [I n.2,I a.At.Col,B a.At.Pending]) :: (Eb i 43 [Y,I 0,I 0,B false,B false]) :: (Eb o 43 [.slice q s t,I a.At.Row,I a.At.Col,B a.At.Pending,B a.Auto]) :: F)∧l= [(1,I f),(2,I g),(3,Q o),(6,Q i),(7,v50),(8,Q d)]∧Sl am c v50 n.1) (fun a0 ex e w=>ex= .exit 0∧(Jn j0 fun c l=>∃v51,Own c G ((Eb d 24 [I a0.2,I a.At.Col,B a.At.Pending]) :: (Eb i 43 [Y,I 0,I 0,B false,B false]) :: (Eb o 43 [.slice q s t,I a.At.Row,I a.At.Col,B a.At.Pending,B a.Auto]) :: F)∧l= [(1,I f),(2,I g),(3,Q o),(6,Q i),(7,v51),(8,Q d)]∧Sl am c v51 a0.1) e w) ?_ ?_ ?_)))
 ·clear p b1;intro n p3 k0 t0 H;revert k0 t0;rintro e_ w_ ⟨x2,y4,_,rfl,k5,rfl,v50,U,rfl,c1⟩;refine W.seq (sr (va (Q d) (vx (le1 0 u_3 (U.on 0 rfl)) (va (I g) (va (B (decide (n.2≥g))) (wln (cn H (fun f3 H=>?_) (fun f3 H=>?_))))))))
  ·refine W.skip (nrm (W.block (sr (va (v50) (bn H fun o4 g3 H=>?_)))));obtain ⟨s0,h3,i3⟩:=CD (k:= .i64) dX (by kernel_rfl) c1 g3;refine vr s0 (rx (by kernel_rfl) (h3 _)) (va (s0) (wln (W.region (va (Q d) (vx (le1 0 u_3 (U.on 0 rfl)) (va (I (w64 (n.2 - 1))) (va (Q d) (md (sC 3 0 (I (w64 (n.2 - 1))) [I (w64 (n.2 - 1)),I a.At.Col,B a.At.Pending] 0 U ⟨rfl,trivial⟩) ?_))))))));rintro z2 l5 q2;refine WL.nil (bkn ?_);obtain rfl:=si H;exact ⟨_,rfl,jn z2 ⟨s0,q2,rfl,i3.m⟩⟩
  refine W.exit (thx ?_);obtain rfl:=si H;exact ⟨_,rfl,rfl,jn x2 ⟨v50,U,rfl,c1⟩⟩
 ·exact jn j0 ⟨(.slice q s t),o2,rfl,m0.m⟩
 rintro _ e_ w_ ⟨rfl,X,z4,_,rfl,m5,rfl,v51,s2,rfl,o0⟩;refine bke (nrm (sr (va (Y) (wln (W.seq (sr (va (I 0) (wln (W.block (bn p fun j4 d1 z0=>lp d1 (fun b=>Jn X fun c l=>∃u M,Own c G (es true am u 71 M b.1 :: (Eb d 24 [I h.2,I a.At.Col,B a.At.Pending]) :: (Eb i 43 [Y,I 0,I 0,B false,B false]) :: (Eb o 43 [.slice q s t,I a.At.Row,I a.At.Col,B a.At.Pending,B a.Auto]) :: F)∧l= [(1,I f),(2,I g),(3,Q o),(6,Q i),(7,v51),(8,Q d),(9,u),(10,I b.2)]∧OA am c u M b.1) (fun b0 ex e w=>ex= .exit 2∧(Jn X fun c l=>∃N d0,Own c G (es true am N 71 d0 b0 :: (Eb d 24 [I h.2,I a.At.Col,B a.At.Pending]) :: (Eb i 43 [Y,I 0,I 0,B false,B false]) :: (Eb o 43 [.slice q s t,I a.At.Row,I a.At.Col,B a.At.Pending,B a.Auto]) :: F)∧l= [(1,I f),(3,Q o),(6,Q i),(8,Q d),(9,N)]∧OA am c N d0 b0) e w) ?_ ?_ ?_))))))))))
 ·clear z0 d1;intro b p3 k0 t0 p;revert k0 t0;rintro e_ w_ ⟨Z,b5,_,rfl,n3,rfl,u,M,h0,rfl,e1⟩;refine W.seq (sr (va (I b.2) (va (I g) (va (B (decide (b.2 < g))) (wln (cn p (fun j3 p=>?_) (fun j3 p=>?_)))))))
  ·refine W.skip (nrm (W.seq (W.block (sr (va (Y) (wln (bn p fun u0 x E=>W.seqJ (Jn Z fun c l=>∃e0,Own c G (es true am u 71 M b.1 :: (Eb d 24 [I h.2,I a.At.Col,B a.At.Pending]) :: (Eb i 43 [Y,I 0,I 0,B false,B false]) :: (Eb o 43 [.slice q s t,I a.At.Row,I a.At.Col,B a.At.Pending,B a.Auto]) :: F)∧l= [(1,I f),(2,I g),(3,Q o),(6,Q i),(7,v51),(8,Q d),(9,u),(10,I b.2),(11,e0)]∧Sl ah c e0 u0) ?_ ?_)))))))
   ·refine sr (va (I b.2) (va (v51) (vx (ln 3 dX o0.m) (va (B (decide (b.2 < (h.1.length:Int)))) (wln (cn x (fun k3 x=>?_) (fun k3 x=>?_)))))))
    ·refine W.region (va (v51) (va (I b.2) (bn x fun p4 f1 x=>?_)));obtain ⟨i4,l3,o3⟩:=Sl.at (o0.mono n3) (aT f1);obtain ⟨g1,rfl,m3⟩:=l3;refine vx (ix dX o0.m f1) (va (Qo (sb v51) (so v51+b.2.toNat * 2)) (vx (l1 ck (o3 0 _ rfl)) (va (g1) (wln ?_))));obtain rfl:=si x;exact jn Z ⟨g1,h0,rfl,m3⟩
    refine W.skip (nrm ?_);obtain rfl:=si x;exact jn Z ⟨(Y),h0,rfl,(Sl.nl _ _)⟩
   rintro e_ w_ ⟨x4,c5,_,rfl,n5,rfl,e0,t2,rfl,u1⟩;refine W.region (va (u) (va (e0) (va (I f) (bn E fun i2 w1 E=>cl (px t2 u0 f u1 w1) ?_))));rintro m4 u3 b4 ⟨_,k4,h1,rfl,l0⟩;obtain ⟨P,R,S,rfl⟩:=(l0).form;refine va (.agg #[.slice P R S,B false]) ?_;obtain ⟨v3,z1,c4,i1,x1⟩:=h1.frz 0 rfl l0;refine WL.gh z1 (me (sl am 71 [[.slice P R S,B false]] ([(⟨i2,false⟩:ak)]:List ak) i1 ⟨⟨(.slice P R S),rfl,x1⟩,trivial⟩) ?_);rintro n4 w3 d4 ⟨l4,j1,a2⟩;obtain ⟨x3,c2,e4,k1,b2⟩:=j1.frz 0 rfl a2;refine WL.gh c2 (bn E fun q4 d2 E=>me (ap am (.agg #[Y,B false]) 32 22 2 k1 e1.m b2 d2 dX) ?_);rintro q0 t1 f4 ⟨g2,m1,e2⟩;refine va (q0) (WL.nil (bkn (nrm (W.region (va (I b.2) (vv (I (w64 (b.2+1))) (WL.nil ?_)))))));obtain rfl:=si E;refine ⟨_,rfl,?_⟩;have n1:=m1.sD 6 [2,3,4,5];exact jn t1 ⟨q0,g2,n1,rfl,e2⟩
  refine W.exit (thx ?_);obtain rfl:=si p;exact ⟨_,rfl,rfl,jn Z ⟨u,M,h0,rfl,e1⟩⟩
 ·have f2:OA am X (Y) [] []:=OA.nil (aM _);have q1:=s2.addHole (e:=es true am (Y) 71 [] ([]:List ak)) rfl;exact jn X ⟨(Y),[],q1,rfl,f2⟩
 rintro _ e_ w_ ⟨rfl,y3,z3,_,rfl,g4,rfl,N,d0,y,rfl,T⟩;refine bke (nrm (sr (va (N) (va (Q d) (vx (le1 0 u_3 (y.on 1 rfl)) (va (Qo d 1) (vx (le1 1 u_3 (y.on 1 rfl)) (va (I f) (va (I (w64 (f - 1))) (va (I (aB a.At.Col (w64 (f - 1)))) (va (.agg #[I h.2,I (aB a.At.Col (w64 (f - 1))),B false]) (va (Qo o 4) (vx (le1 4 u_4 (y.on 3 rfl)) ?_)))))))))))));obtain ⟨z,A,D,rfl⟩:=(T).form;refine va (.agg #[.slice z A D,I h.2,I (aB a.At.Col (w64 (f - 1))),B false,B a.Auto]) (md (sA 43 [.slice z A D,I h.2,I (aB a.At.Col (w64 (f - 1))),B false,B a.Auto] 2 y ⟨(T).one,rfl,rfl,rfl,rfl,trivial⟩) ?_);rintro i0 h4 f0;refine wln (W.ret ?_);obtain rfl:=si z0;have s1:=f0.sD 4 [0];exact jZ (c:=i0) (vs:=[.slice z A D,I h.2,I (aB a.At.Col (w64 (f - 1))),B false,B a.Auto]) rfl (by kernel_rfl) (by kernel_rfl) (by kernel_rfl) (f0.on 2 rfl _ rfl).1 ⟨_,i0,rfl,rfl,pt,(.slice z A D),d0,s1,rfl,T.m⟩
def jv (p0:Int):Option (Bool):=
 (bI (decide (p0≥0)) (some (decide (p0 < 32)))).bind fun b=>
 (orE b ((bI (decide (p0≥127)) (some (decide (p0≤159)))).bind fun a=>
 some a)).bind fun c=>
 some c
theorem qT (e:Own c0 G F) (a:Int) {r:Bool} (H:jv a=some r): Calls prog 180 #[J a] c0.w (aN c0 fun c v=>Own c G (F)∧v=B r):=by
 unfold jv at H;refine en func180 rfl rfl (sr (va (B false) (wln (W.seq (bn H fun z t H=>bn H fun s n H=>W.join (Jn c0 fun c l=>Own c G (F)∧l= [(2,B s)]) ?_ ?_)))))
 ·clear H;refine W.region (va (J a) (va (B (decide (a≥0))) ?_));rcases bo (decide (a≥0)) with f | f
  ·have x:=anT f t;refine vb f (wa (J a) (wa (B (decide (a < 32))) ?_));obtain rfl:=si x;refine va (B (decide (a < 32))) ?_;rcases bo (decide (a < 32)) with g | g
   ·obtain rfl:=orT g n;exact vb g (pz (pz (pz (vv (B true) (wln (jn c0 ⟨e,rfl⟩))))))
   have i:=orF g n;refine vb g (wa (J a) (wa (B (decide (a≥127))) (wn (bn i fun m u i=>?_))));rcases bo (decide (a≥127)) with h | h
   ·have y:=anT h u;refine vb h (wa (J a) (wa (B (decide (a≤159))) (wn ?_)));obtain rfl:=si y;refine va (B (decide (a≤159))) ?_;obtain rfl:=si i;exact vv (B (decide (a≤159))) (wln (jn c0 ⟨e,rfl⟩))
   obtain rfl:=anF h u;refine vb h (pz (wa (B false) ?_));obtain rfl:=si i;exact vv (B false) (wln (jn c0 ⟨e,rfl⟩))
  obtain rfl:=anF f t;refine vb f (pz (va (B false) ?_));have j:false=false:=rfl;have d:=orF j n;refine vb j (wa (J a) (wa (B (decide (a≥127))) (wn (bn d fun m k d=>?_))));rcases bo (decide (a≥127)) with b | b
  ·have o:=anT b k;refine vb b (wa (J a) (wa (B (decide (a≤159))) (wn ?_)));obtain rfl:=si o;refine va (B (decide (a≤159))) ?_;obtain rfl:=si d;exact vv (B (decide (a≤159))) (wln (jn c0 ⟨e,rfl⟩))
  obtain rfl:=anF b k;refine vb b (pz (wa (B false) ?_));obtain rfl:=si d;exact vv (B false) (wln (jn c0 ⟨e,rfl⟩))
 rintro E M ⟨q,A,_,rfl,D,rfl,p,rfl⟩;refine nrm (W.ret ?_);obtain rfl:=si H;exact r1 (qq q ⟨p,rfl⟩)
def kT (p0:ai):Option (ai):=
 (if (decide (p0.Col > 0))=true then
 some ((w64 (p0.Col - 1)))
 else
 some (p0.Col)).bind fun a=>
 some (⟨p0.Row,a,false⟩:ai)
theorem wv (s:Own c0 G F) (a:ai) {r:ai} (H:kT a=some r): Calls prog 226 #[.agg #[I a.Row,I a.Col,B a.Pending]] c0.w (aN c0 fun c v=>Own c G (F)∧v= .agg #[I r.Row,I r.Col,B r.Pending]):=by
 unfold kT at H;refine en func226 rfl rfl (sr (me (al 24 [I a.Row,I a.Col,B a.Pending] s) ?_));rintro v4 E P ⟨e,rfl,t⟩;refine me (al 24 [I 0,I 0,B false] t) ?_;rintro v8 M R ⟨o,rfl,u⟩;refine wln (sr (va (Qo e 2) (md (sC 4 2 (B false) [I a.Row,I a.Col,B false] 1 u ⟨rfl,trivial⟩) ?_)));rintro i z f;refine wln (bn H fun d b k=>W.seqJ (Jn i fun c l=>Own c G ((Eb o 24 [I 0,I 0,B false]) :: (Eb e 24 [I a.Row,I d,B false]) :: F)∧l= [(1,Q e),(2,Q o)]) ?_ ?_)
 ·refine sr (va (Qo e 1) (vx (le1 1 u_3 (f.on 1 rfl)) (va (B (decide (a.Col > 0))) (wln (cn b (fun q b=>?_) (fun q b=>?_))))))
  ·refine W.region (va (Qo e 1) (vx (le1 1 u_3 (f.on 1 rfl)) (va (I (w64 (a.Col - 1))) (va (Qo e 1) (md (sC 3 1 (I (w64 (a.Col - 1))) [I a.Row,I (w64 (a.Col - 1)),B false] 1 f ⟨rfl,trivial⟩) ?_)))));rintro p A m;refine wln ?_;obtain rfl:=si b;exact jn p ⟨m,rfl⟩
  refine W.skip (nrm ?_);obtain rfl:=si b;exact jn i ⟨f,rfl⟩
 rintro N S ⟨x,y,_,rfl,l16,rfl,g,rfl⟩;refine sr (vx (leN 24 0 [I a.Row,I d,B false] (g.on 1 rfl)) (md (sA 24 [I a.Row,I d,B false] 0 g ⟨rfl,rfl,rfl,trivial⟩) ?_));rintro j D h;refine wln (W.ret ?_);obtain rfl:=si k;have n:=h.sD 2 [];exact jZ (c:=j) (vs:=[I a.Row,I d,B false]) rfl (by kernel_rfl) (by kernel_rfl) (by kernel_rfl) (h.on 0 rfl _ rfl).1 ⟨_,j,rfl,rfl,pt,n,rfl⟩
def oJ (sg:Sto) (p0:Option Nat) (p1:Int):Option (Sto×Bool):=
 (jv p1).bind fun s=>
 if (!s)=true then
 some (sg,false)
 else
 (orE p0.isNone ((p0).bind fun j=>
 (sg.place_Pen[j]?).bind fun l=>
 some l.G.isNone)).bind fun i=>
 if i=true then
 some (sg,true)
 else
 (p0).bind fun k=>
 (sg.place_Pen[k]?).bind fun a=>
 (cg sg a.G).bind fun m=>
 (bO sg a.G).bind fun n=>
 (fU a.At m n).bind fun h=>
 (if (p1==13)=true then
 (dp h).bind fun o=>
 (p0).bind fun d=>
 (sg.place_Pen[d]?).bind fun f=>
 (sg.set_place_Pen d (⟨f.G,o,f.Auto⟩:bi)).bind fun b=>
 some (b)
 else
 if (p1==10)=true then
 (fj sg p0).bind fun p=>
 some (p)
 else
 if (p1==8)=true then
 (kT h).bind fun q=>
 (p0).bind fun e=>
 (sg.place_Pen[e]?).bind fun g=>
 (sg.set_place_Pen e (⟨g.G,q,g.Auto⟩:bi)).bind fun c=>
 some (c)
 else
 some (sg)).bind fun r=>
 some (r,true)
theorem B5 (O0:Own c0 G F) (g:Rel c0 sg G) (p0:Option Nat) (j:Int) {r:Sto×Bool} (S:Pt 2 c0 v1 p0) (H:oJ sg p0 j=some r): Calls prog 181 #[v1,J j] c0.w (aN c0 fun c v=>∃G_:Gm,Own c G_ (F)∧Rel c r.1 G_∧v=B r.2):=by
 unfold oJ at H;refine en func181 rfl rfl (sr (va (B false) (wln (W.seq (sr (va (J j) (bn H fun n5 h3 H=>cl (qT O0 j h3) ?_)))))));rintro v9 c8 o ⟨O5,rfl⟩;refine va (B (!n5)) (wln (cn H (fun s4 H=>?_) (fun s4 H=>?_)))
 ·refine sr (va (B false) (wln (W.ret (thr ?_))));obtain rfl:=si H;exact r1 (qq c8 ⟨G,O5,g.m,rfl⟩)
 refine W.skip (nrm (W.seq (W.seq (bn H fun b3 s1 H=>W.join (Jn c8 fun c l=>Own c G (F)∧l= [(0,v1),(1,J j),(17,B b3)]) ?_ ?_))))
 ·clear H;refine W.region (va (v1) (vr (B p0.isNone) (by rcases S.m.cs with ⟨y,z⟩ | ⟨b_,y,z⟩ <;> (subst y; rw [z]; kernel_rfl)) ?_));rcases bo (p0.isNone) with x | x
  ·obtain rfl:=orT x s1;exact vb x (pz (pz (ps (va (B true) (wln (jn c8 ⟨O5,rfl⟩))))))
  have u:=orF x s1;refine vb x (wa (v1) (wn (bn u fun z5 u4 u=>?_)));obtain ⟨k1,rfl,t4⟩:=((S.mono o)).get u4;refine va (Q k1) (wa (Q k1) (wn (bn u fun t0 v4 u=>?_)));obtain ⟨v18,x4,w4⟩:=Rel.open_place_Pen (g.mono o) v4 t4;refine vx (le1 0 jA (O5.gon x4 0 rfl)) (wn (vr (B t0.G.isNone) (by rcases (w4).cs with ⟨y,z⟩ | ⟨b_,y,z⟩ <;> (subst y; rw [z]; kernel_rfl)) ?_));obtain rfl:=si u;exact va (B t0.G.isNone) (wln (jn c8 ⟨O5,rfl⟩))
 rintro e_ w_ ⟨m1,v6,_,rfl,n,rfl,a1,rfl⟩;refine nrm (cn H (fun y4 H=>?_) (fun y4 H=>?_))
 ·refine sr (va (B true) (wln (W.ret (thr ?_))));obtain rfl:=si H;exact r1 (qq m1 ⟨G,a1,g.m,rfl⟩)
 refine W.skip (nrm (W.seq (bn H fun a6 z4 H=>bn H fun d a5 H=>bn H fun s t1 H=>bn H fun t l0 H=>bn H fun b R H=>W.join (Jn m1 fun c l=>∃P,Own c G ((Eb P 24 [I b.Row,I b.Col,B b.Pending]) :: F)∧l= [(0,v1),(1,J j),(5,Q P)]) ?_ ?_)))
 ·clear H;refine rD [] (Kp G []) a1 ?_;intro i4 w1 d0;have x0:Kp G [] i4:=(Kp.nil d0);refine ta 0 (v1) ?_;obtain ⟨k,rfl,b5⟩:=((S.mono (o.trans (n.trans w1)))).get z4;refine ta 1 (Q k) (ta 2 (Qo k 1) ?_);obtain ⟨v39,m0,A⟩:=Rel.open_place_Pen (g.mono (o.trans (n.trans w1))) a5 b5;refine tkx 3 x0 (fun c' u1 hk=>leN 24 1 [I d.At.Row,I d.At.Col,B d.At.Pending] (hk.gon m0 0 rfl)) (ta 4 (Q k) (ta 5 (Q k) (ta 6 (Q k) (tkx 7 x0 (fun c' u1 hk=>le1 0 jA (hk.gon m0 0 rfl)) (ta 9 (Q k) (ta 10 (Q k) (ta 11 (Q k) (tkx 12 x0 (fun c' u1 hk=>le1 0 jA (hk.gon m0 0 rfl)) (mn2 8 15 ?_ ?_)))))))))
  ·refine gc 8 (cF d0 g.m d.G A t1) ?_;rintro v47 j4 w6 ⟨e0,rfl⟩;have c5:Kp G [] j4:=(Kp.nil e0);refine ⟨.inr c5,mn2 13 15 ?_ ?_⟩
   ·refine gc 13 (bJ e0 g.m d.G A.m l0) ?_;rintro v54 k4 x6 ⟨f0,rfl⟩;have d5:Kp G [] k4:=(Kp.nil f0);refine ⟨.inr d5,mn2 14 15 ?_ ?_⟩
    ·refine gc 14 (ez f0 d.At s t R) ?_;rintro g7 l4 y6 ⟨b1,rfl⟩;have e5:Kp G [] l4:=(Kp.nil b1);refine ⟨.inr e5,o1 15 (gm 15 (al 24 [I 0,I 0,B false] b1) ?_)⟩;rintro h7 m4 z6 ⟨e4,rfl,c1⟩;have f5:Kp G [] m4:=(Kp.nil c1);refine ⟨.inr f5,o1 16 (gD 16 (sA 24 [I b.Row,I b.Col,B b.Pending] 0 c1 ⟨rfl,rfl,rfl,trivial⟩) ?_)⟩;rintro n1 a7 d1;have g5:Kp G [] n1:=(Kp.nil d1);exact ⟨.inr g5,dn (nrm (jn n1 ⟨e4,d1,rfl⟩))⟩
    refine gm 15 (al 24 [I 0,I 0,B false] f0) ?_;rintro i7 n4 b7 ⟨f4,rfl,e1⟩;have h5:Kp G [] n4:=(Kp.nil e1);refine ⟨.inr h5,o1 14 (gc 14 (ez e1 d.At s t R) ?_)⟩;rintro j7 o4 c7 ⟨f1,rfl⟩;have i5:Kp G [] o4:=(Kp.nil f1);refine ⟨.inr i5,o1 16 (gD 16 (sA 24 [I b.Row,I b.Col,B b.Pending] 0 f1 ⟨rfl,rfl,rfl,trivial⟩) ?_)⟩;rintro q1 d7 g1;have j5:Kp G [] q1:=(Kp.nil g1);exact ⟨.inr j5,dn (nrm (jn q1 ⟨f4,g1,rfl⟩))⟩
   refine gm 15 (al 24 [I 0,I 0,B false] e0) ?_;rintro k7 p4 e7 ⟨g4,rfl,h1⟩;have k5:Kp G [] p4:=(Kp.nil h1);refine ⟨.inr k5,o1 13 (gc 13 (bJ h1 g.m d.G A.m l0) ?_)⟩;rintro l7 q4 f7 ⟨i1,rfl⟩;have l5:Kp G [] q4:=(Kp.nil i1);refine ⟨.inr l5,o1 14 (gc 14 (ez i1 d.At s t R) ?_)⟩;rintro m6 s2 d6 ⟨j1,rfl⟩;have u3:Kp G [] s2:=(Kp.nil j1);refine ⟨.inr u3,o1 16 (gD 16 (sA 24 [I b.Row,I b.Col,B b.Pending] 0 j1 ⟨rfl,rfl,rfl,trivial⟩) ?_)⟩;rintro g0 e6 T;have v3:Kp G [] g0:=(Kp.nil T);exact ⟨.inr v3,dn (nrm (jn g0 ⟨g4,T,rfl⟩))⟩
  refine gm 15 (al 24 [I 0,I 0,B false] d0) ?_;rintro n6 t2 f6 ⟨q2,rfl,U⟩;have w3:Kp G [] t2:=(Kp.nil U);refine ⟨.inr w3,o1 8 (gc 8 (cF U g.m d.G A.m t1) ?_)⟩;rintro o6 u2 g6 ⟨X,rfl⟩;have x3:Kp G [] u2:=(Kp.nil X);refine ⟨.inr x3,o1 13 (gc 13 (bJ X g.m d.G A.m l0) ?_)⟩;rintro p6 v2 h6 ⟨Z,rfl⟩;have y3:Kp G [] v2:=(Kp.nil Z);refine ⟨.inr y3,o1 14 (gc 14 (ez Z d.At s t R) ?_)⟩;rintro q6 w2 i6 ⟨a0,rfl⟩;have z3:Kp G [] w2:=(Kp.nil a0);refine ⟨.inr z3,o1 16 (gD 16 (sA 24 [I b.Row,I b.Col,B b.Pending] 0 a0 ⟨rfl,rfl,rfl,trivial⟩) ?_)⟩;rintro h0 j6 b0;have a4:Kp G [] h0:=(Kp.nil b0);exact ⟨.inr a4,dn (nrm (jn h0 ⟨q2,b0,rfl⟩))⟩
 rintro e_ w_ ⟨i0,u5,_,rfl,i,rfl,P,h,rfl⟩;refine nrm (bn H fun b4 a b2=>W.seqJ (Jn i0 fun c l=>∃G_,Own c G_ ((Eb P 24 [I b.Row,I b.Col,B b.Pending]) :: F)∧l= []∧Rel c b4 G_) ?_ ?_)
 ·refine sr (va (J j) (wln (W.block (sr (vv (B (j==13)) (wln (cn a (fun c3 a=>?_) (fun c3 a=>?_))))))))
  ·refine W.region (va (v1) (vx (leN 24 0 [I b.Row,I b.Col,B b.Pending] (h.on 0 rfl)) (bn a fun e d3 a=>cl (jQ h b d3) ?_)));rintro r6 s5 D ⟨c2,rfl⟩;refine bn a fun b6 e3 a=>?_;obtain ⟨p,rfl,j0⟩:=((S.mono (o.trans (n.trans (i.trans D))))).get e3;refine va (Q p) (va (Qo p 1) (bn a fun u0 f3 a=>?_));obtain ⟨M,i3,g3⟩:=Rel.open_place_Pen (g.mono (o.trans (n.trans (i.trans D)))) f3 j0;refine md (gB 24 1 [I e.Row,I e.Col,B e.Pending] [M,I e.Row,I e.Col,B e.Pending,B u0.Auto] 0 c2 i3 ⟨rfl,rfl,rfl,trivial⟩) ?_;rintro x2 q0 d2;refine bn a fun c4 j3 a=>?_;obtain ⟨x1,e2,m2,w5,p5⟩:=Rel.put_place_Pen d2 (g.mono (o.trans (n.trans (i.trans (D.trans q0))))) (E':=[(Eb p 42 [M,I e.Row,I e.Col,B e.Pending,B u0.Auto])]) j3 ⟨p,M,(tm j0),rfl,(g3.mono q0)⟩;refine WL.nil (bkn (nrm ?_));obtain rfl:=si a;exact jn x2 ⟨x1,e2,rfl,m2⟩
  refine sr (vv (B (j==10)) (wln (cn a (fun k3 a=>?_) (fun k3 a=>?_))))
  ·refine W.region (va (v1) (bn a fun u6 l3 a=>cl (na h g.m p0 S.m l3) ?_));rintro s6 y2 k6 ⟨y1,f2,n2,rfl⟩;refine WL.nil (bkn (nrm ?_));obtain rfl:=si a;exact jn y2 ⟨y1,f2,rfl,n2⟩
  refine sr (vv (B (j==8)) (wln (cn a (fun m3 a=>?_) (fun m3 a=>?_))))
  ·refine W.region (va (v1) (vx (leN 24 0 [I b.Row,I b.Col,B b.Pending] (h.on 0 rfl)) (bn a fun f n3 a=>cl (wv h b n3) ?_)));rintro t6 t5 E ⟨g2,rfl⟩;refine bn a fun c6 o3 a=>?_;obtain ⟨q,rfl,k0⟩:=((S.mono (o.trans (n.trans (i.trans E))))).get o3;refine va (Q q) (va (Qo q 1) (bn a fun v0 p3 a=>?_));obtain ⟨N,s3,q3⟩:=Rel.open_place_Pen (g.mono (o.trans (n.trans (i.trans E)))) p3 k0;refine md (gB 24 1 [I f.Row,I f.Col,B f.Pending] [N,I f.Row,I f.Col,B f.Pending,B v0.Auto] 0 g2 s3 ⟨rfl,rfl,rfl,trivial⟩) ?_;rintro z2 s0 i2;refine bn a fun d4 t3 a=>?_;obtain ⟨z1,j2,o2,x5,q5⟩:=Rel.put_place_Pen i2 (g.mono (o.trans (n.trans (i.trans (E.trans s0))))) (E':=[(Eb q 42 [N,I f.Row,I f.Col,B f.Pending,B v0.Auto])]) t3 ⟨q,N,(tm k0),rfl,(q3.mono s0)⟩;refine WL.nil (bkn (nrm ?_));obtain rfl:=si a;exact jn z2 ⟨z1,j2,rfl,o2⟩
  refine W.skip (bkn (nrm ?_));obtain rfl:=si a;exact jn i0 ⟨G,h,rfl,g.m⟩
 rintro e_ w_ ⟨a3,v5,_,rfl,l6,rfl,a2,k2,rfl,p2⟩;refine sr (va (B true) (wln (W.ret ?_)));obtain rfl:=si b2;have l2:=k2.sD 1 [];exact r1 (qq a3 ⟨a2,l2,p2,rfl⟩)
def dj (p0:Int):Option (Bool):=
 (bI (decide (p0≥0)) (some (decide (p0≤31)))).bind fun b=>
 (orE b ((bI (decide (p0≥127)) (some (decide (p0≤159)))).bind fun a=>
 some a)).bind fun c=>
 some c
theorem jI (e:Own c0 G F) (a:Int) {r:Bool} (H:dj a=some r): Calls prog 120 #[J a] c0.w (aN c0 fun c v=>Own c G (F)∧v=B r):=by
 unfold dj at H;refine en func120 rfl rfl (sr (va (B false) (wln (W.seq (bn H fun z t H=>bn H fun s n H=>W.join (Jn c0 fun c l=>Own c G (F)∧l= [(2,B s)]) ?_ ?_)))))
 ·clear H;refine W.region (va (J a) (va (B (decide (a≥0))) ?_));rcases bo (decide (a≥0)) with f | f
  ·have x:=anT f t;refine vb f (wa (J a) (wa (B (decide (a≤31))) ?_));obtain rfl:=si x;refine va (B (decide (a≤31))) ?_;rcases bo (decide (a≤31)) with g | g
   ·obtain rfl:=orT g n;exact vb g (pz (pz (pz (vv (B true) (wln (jn c0 ⟨e,rfl⟩))))))
   have i:=orF g n;refine vb g (wa (J a) (wa (B (decide (a≥127))) (wn (bn i fun m u i=>?_))));rcases bo (decide (a≥127)) with h | h
   ·have y:=anT h u;refine vb h (wa (J a) (wa (B (decide (a≤159))) (wn ?_)));obtain rfl:=si y;refine va (B (decide (a≤159))) ?_;obtain rfl:=si i;exact vv (B (decide (a≤159))) (wln (jn c0 ⟨e,rfl⟩))
   obtain rfl:=anF h u;refine vb h (pz (wa (B false) ?_));obtain rfl:=si i;exact vv (B false) (wln (jn c0 ⟨e,rfl⟩))
  obtain rfl:=anF f t;refine vb f (pz (va (B false) ?_));have j:false=false:=rfl;have d:=orF j n;refine vb j (wa (J a) (wa (B (decide (a≥127))) (wn (bn d fun m k d=>?_))));rcases bo (decide (a≥127)) with b | b
  ·have o:=anT b k;refine vb b (wa (J a) (wa (B (decide (a≤159))) (wn ?_)));obtain rfl:=si o;refine va (B (decide (a≤159))) ?_;obtain rfl:=si d;exact vv (B (decide (a≤159))) (wln (jn c0 ⟨e,rfl⟩))
  obtain rfl:=anF b k;refine vb b (pz (wa (B false) ?_));obtain rfl:=si d;exact vv (B false) (wln (jn c0 ⟨e,rfl⟩))
 rintro E M ⟨q,A,_,rfl,D,rfl,p,rfl⟩;refine nrm (W.ret ?_);obtain rfl:=si H;exact r1 (qq q ⟨p,rfl⟩)
def cw (p0:aa) (p1:Int):Option (aa×Bool):=
 (if (p1==13)=true then
 (ce p0).bind fun f=>
 some (f.L,f.At.Row,0,false,f.Auto)
 else
 some (p0.L,p0.At.Row,p0.At.Col,p0.At.Pending,p0.Auto)).bind fun b=>
 (if (p1==10)=true then
 (cY (⟨b.1,(⟨b.2.1,b.2.2.1,b.2.2.2.1⟩:ai),b.2.2.2.2⟩:aa)).bind fun c=>
 some (c.L,c.At.Row,c.At.Col,c.At.Pending,c.Auto)
 else
 some (b.1,b.2.1,b.2.2.1,b.2.2.2.1,b.2.2.2.2)).bind fun a=>
 (if (p1==8)=true then
 (ce (⟨a.1,(⟨a.2.1,a.2.2.1,a.2.2.2.1⟩:ai),a.2.2.2.2⟩:aa)).bind fun e=>
 some (e.L,e.At.Row,(aE 0 (w64 (e.At.Col - 1))),false,e.Auto)
 else
 some (a.1,a.2.1,a.2.2.1,a.2.2.2.1,a.2.2.2.2)).bind fun d=>
 (dj p1).bind fun g=>
 some ((⟨d.1,(⟨d.2.1,d.2.2.1,d.2.2.2.1⟩:ai),d.2.2.2.2⟩:aa),g)
theorem rZ (O0:Own c0 G F) (h:aa) (i:Int) {r:aa×Bool} (h2:Sl am c0 v1 h.L) (H:cw h i=some r): Calls prog 186 #[.agg #[v1,I h.At.Row,I h.At.Col,B h.At.Pending,B h.Auto],J i] c0.w (aN c0 fun c v=>∃y1,Own c G (F)∧v= .tuple #[.agg #[y1,I r.1.At.Row,I r.1.At.Col,B r.1.At.Pending,B r.1.Auto],B r.2]∧Sl am c y1 r.1.L):=by
 unfold cw at H;refine en func186 rfl rfl (sr ?_);obtain ⟨a3,a4,a5,rfl⟩:=(h2).form;refine me (al 43 [.slice a3 a4 a5,I h.At.Row,I h.At.Col,B h.At.Pending,B h.Auto] O0) ?_;rintro v9 c8 l8 ⟨f,rfl,O7⟩;refine me (al 43 [Y,I 0,I 0,B false,B false] O7) ?_;rintro v13 j0 c3 ⟨p,rfl,S⟩;refine va (B false) (wln (bn H fun e j b1=>W.seqJ (Jn j0 fun c l=>∃v16,Own c G ((Eb p 43 [Y,I 0,I 0,B false,B false]) :: (Eb f 43 [v16,I e.2.1,I e.2.2.1,B e.2.2.2.1,B e.2.2.2.2]) :: F)∧l= [(1,J i),(2,Q f),(4,Q p)]∧Sl am c v16 e.1) ?_ ?_))
 ·refine sr (va (J i) (va (B (i==13)) (wln (cn j (fun x1 j=>?_) (fun x1 j=>?_)))))
  ·refine sr (vx (leN 43 0 [.slice a3 a4 a5,I h.At.Row,I h.At.Col,B h.At.Pending,B h.Auto] (S.on 1 rfl)) (bn j fun g z1 j=>cl (dt S h h2.m z1) ?_));rintro v26 o2 d3 ⟨v19,d1,rfl,X⟩;obtain ⟨z,A,D,rfl⟩:=(X).form;refine md (sA 43 [.slice z A D,I g.At.Row,I g.At.Col,B g.At.Pending,B g.Auto] 1 d1 ⟨X.one,rfl,rfl,rfl,rfl,trivial⟩) ?_;rintro p2 e3 e1;refine wln (sr (va (Qo f 1) (va (Qo f 2) (md (sC 3 2 (I 0) [.slice z A D,I g.At.Row,I 0,B g.At.Pending,B g.Auto] 1 e1 ⟨rfl,trivial⟩) ?_))));rintro q2 f3 f1;refine wln (W.region (va (Qo f 1) (va (Qo f 3) (md (sC 4 3 (B false) [.slice z A D,I g.At.Row,I 0,B false,B g.Auto] 1 f1 ⟨rfl,trivial⟩) ?_))));rintro q1 g3 g1;refine wln ?_;obtain rfl:=si j;exact jn q1 ⟨(.slice z A D),g1,rfl,X.m⟩
  refine W.skip (nrm ?_);obtain rfl:=si j;exact jn j0 ⟨(.slice a3 a4 a5),S,rfl,h2.m⟩
 rintro e_ w_ ⟨k0,x2,_,rfl,h3,rfl,v16,T,rfl,m0⟩;refine bn b1 fun d k c1=>W.seqJ (Jn k0 fun c l=>∃v45,Own c G ((Eb p 43 [Y,I 0,I 0,B false,B false]) :: (Eb f 43 [v45,I d.2.1,I d.2.2.1,B d.2.2.2.1,B d.2.2.2.2]) :: F)∧l= [(1,J i),(2,Q f),(4,Q p)]∧Sl am c v45 d.1) ?_ ?_
 ·refine sr (va (J i) (va (B (i==10)) (wln (cn k (fun a2 k=>?_) (fun a2 k=>?_)))))
  ·refine W.region (vx (leN 43 0 [v16,I e.2.1,I e.2.2.1,B e.2.2.2.1,B e.2.2.2.2] (T.on 1 rfl)) (bn k fun u b2 k=>cl (jX T (⟨e.1,(⟨e.2.1,e.2.2.1,e.2.2.2.1⟩:ai),e.2.2.2.2⟩:aa) m0 b2) ?_));rintro v55 s2 i3 ⟨v48,h1,rfl,Z⟩;obtain ⟨g0,h0,i0,rfl⟩:=(Z).form;refine md (sA 43 [.slice g0 h0 i0,I u.At.Row,I u.At.Col,B u.At.Pending,B u.Auto] 1 h1 ⟨Z.one,rfl,rfl,rfl,rfl,trivial⟩) ?_;rintro s1 j3 i1;refine wln ?_;obtain rfl:=si k;exact jn s1 ⟨(.slice g0 h0 i0),i1,rfl,Z.m⟩
  refine W.skip (nrm ?_);obtain rfl:=si k;exact jn k0 ⟨v16,T,rfl,m0⟩
 rintro e_ w_ ⟨l0,y2,_,rfl,k3,rfl,v45,U,rfl,o0⟩;refine bn c1 fun a n P=>W.seqJ (Jn l0 fun c l=>∃o,Own c G ((Eb p 43 [Y,I 0,I 0,B false,B false]) :: (Eb f 43 [o,I a.2.1,I a.2.2.1,B a.2.2.2.1,B a.2.2.2.2]) :: F)∧l= [(1,J i),(2,Q f),(4,Q p)]∧Sl am c o a.1) ?_ ?_
 ·refine sr (va (J i) (va (B (i==8)) (wln (cn n (fun c2 n=>?_) (fun c2 n=>?_)))))
  ·refine sr (vx (leN 43 0 [v45,I d.2.1,I d.2.2.1,B d.2.2.2.1,B d.2.2.2.2] (U.on 1 rfl)) (bn n fun b d2 n=>cl (dt U (⟨d.1,(⟨d.2.1,d.2.2.1,d.2.2.2.1⟩:ai),d.2.2.2.2⟩:aa) o0 d2) ?_));rintro s3 t2 l3 ⟨q3,j1,rfl,a0⟩;obtain ⟨E,M,N,rfl⟩:=(a0).form;refine md (sA 43 [.slice E M N,I b.At.Row,I b.At.Col,B b.At.Pending,B b.Auto] 1 j1 ⟨a0.one,rfl,rfl,rfl,rfl,trivial⟩) ?_;rintro u2 m3 e0;refine wln (sr (va (Qo f 1) (va (Qo f 2) (vx (le1 2 u_3 (e0.on 1 rfl)) (va (I (w64 (b.At.Col - 1))) (va (I (aE 0 (w64 (b.At.Col - 1)))) (va (Qo f 1) (va (Qo f 2) (md (sC 3 2 (I (aE 0 (w64 (b.At.Col - 1)))) [.slice E M N,I b.At.Row,I (aE 0 (w64 (b.At.Col - 1))),B b.At.Pending,B b.Auto] 1 e0 ⟨rfl,trivial⟩) ?_)))))))));rintro v2 n3 k1;refine wln (W.region (va (Qo f 1) (va (Qo f 3) (md (sC 4 3 (B false) [.slice E M N,I b.At.Row,I (aE 0 (w64 (b.At.Col - 1))),B false,B b.Auto] 1 k1 ⟨rfl,trivial⟩) ?_))));rintro t1 o3 m1;refine wln ?_;obtain rfl:=si n;exact jn t1 ⟨(.slice E M N),m1,rfl,a0.m⟩
  refine W.skip (nrm ?_);obtain rfl:=si n;exact jn l0 ⟨v45,U,rfl,o0⟩
 rintro e_ w_ ⟨w2,z2,_,rfl,p3,rfl,o,n1,rfl,b0⟩;refine W.seq (rD [] (Kp G0 [(Eb f 43 [o,I a.2.1,I a.2.2.1,B a.2.2.2.1,B a.2.2.2.2])]) n1 ?_);intro u1 e2 f0;have f2:Kp G0 [(Eb f 43 [o,I a.2.1,I a.2.2.1,B a.2.2.2.1,B a.2.2.2.2])] u1:=(Kp.cons (f0.on 1 rfl) Kp.nil0);refine tkx 0 f2 (fun c' b3 hk=>leN 43 0 [o,I a.2.1,I a.2.2.1,B a.2.2.2.1,B a.2.2.2.2] (hk.on 0 rfl)) (ta 1 (J i) (bn P fun d0 w0 P=>o1 2 (gc 2 (jI f0 i w0) ?_)));rintro n2 v0 y0 ⟨R,rfl⟩;have z0:Kp G0 [(Eb f 43 [o,I a.2.1,I a.2.2.1,B a.2.2.2.1,B a.2.2.2.2])] v0:=(Kp.cons (R.on 1 rfl) Kp.nil0);refine ⟨.inr z0,?_⟩;obtain ⟨q,s,t,rfl⟩:=((b0.mono (e2.trans y0))).form;refine o1 3 (gD 3 (sA 43 [.slice q s t,I a.2.1,I a.2.2.1,B a.2.2.2.1,B a.2.2.2.2] 0 R ⟨b0.m.one,rfl,rfl,rfl,rfl,trivial⟩) ?_);rintro y m2 x;have a1:Kp G0 [(Eb f 43 [(.slice q s t),I a.2.1,I a.2.2.1,B a.2.2.2.1,B a.2.2.2.2])] y:=(Kp.cons (x.on 1 rfl) Kp.nil0);refine ⟨.inr a1,ta 4 (B d0) (dn (nrm (W.ret ?_)))⟩;obtain rfl:=si P;have q0:=x.sD 2 [];exact rJ (c:=y) (vs:=[.slice q s t,I a.2.1,I a.2.2.1,B a.2.2.2.1,B a.2.2.2.2]) (v:=B d0) rfl (by kernel_rfl) (by kernel_rfl) (by kernel_rfl) (by kernel_rfl) (x.on 0 rfl _ rfl).1 ⟨_,y,rfl,rfl,pt,(.slice q s t),q0,rfl,b0.m⟩
end Go.Proofs.YthokmpbbkpjhbaaGreatDoor
