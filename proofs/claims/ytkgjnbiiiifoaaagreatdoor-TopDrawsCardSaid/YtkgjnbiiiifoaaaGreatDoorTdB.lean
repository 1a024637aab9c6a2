/- Parts of the proofs of TopDraws: the walk through the code, and plain Lean. No condition. -/
import Derived.Test.YtkgjnbiiiifoaaaGreatDoorTdA
import Derived.Test.YtkgjnbiiiifoaaaGreatDoorProg
import Derived.Shelf.Spec.SlicesInsertGrow
import Derived.Shelf.Slices.Delete
set_option linter.unusedVariables false
set_option linter.unusedSimpArgs false
namespace Go.Proofs.YtkgjnbiiiifoaaaGreatDoor
open Go Go.Lt
set_option maxRecDepth 10000
set_option linter.unusedVariables false
attribute [local irreducible] W WL AC
open Tryz
variable {c0:Cx}{G:Gm}{F:List En}{sg:Sto}{v1 v2 v3 v4 v5 v6 v7 v8 v9 v10 v11 v12 v13 v14 v15 v16 v17 v18 v19 v20 v21 v22 v23 v24 v25 v26 v27 v28 v29 v30 v31 v32 v33 v34 v35 v36 v37 v38 v39 v40 v41 v42 v43 v44 v45 v46 v47 v48 v49 v50 v51 v52 v53 v54 v55 v56 v57 v58 v59 v60:Value}
def fZ (p0:Int) (p1:Int) (p2:Int):Option Int:=
 some (bb p1 (aR p0 p2))
theorem nt (e:Own c0 G F) (a:Int) (d:Int) (b:Int){r:Int}(H:fZ a d b=some r): RU 213 #[I a,I d,I b] c0 fun c v=>Own c G F/\v=I r:=by
 unfold fZ at H;refine en func213 rfl rfl<|RA 0<|wln<|RA d<|Ro a<|Ro b<|Ro (aR a b)<|vv (I (bb d (aR a b)))<|RD ?_;cases H;exact Rz c0 ⟨e,rfl⟩
def gR (sg:Sto) (p0:Option Nat) (p1:Int) (p2:Int):Option Sto:=
 (bN sg p0).bind fun e=>
 (fZ p1 0 e).bind fun a=>
 (bN sg p0).bind fun f=>
 (fZ p2 0 f).bind fun b=>
 if decide (a<b) then
 (eI (w64 (b-a))).bind fun c=>
 (ei sg p0 a c).bind fun d=>
 some d.1
 else
 some sg
theorem nX (U:Own c0 G F) (e:Rel c0 sg G) (hG:Gl [3,7] c0) (d:Option Nat) (f:Int) (g:Int){r:Sto}(i:Pt 0 c0 v1 d) (H:gR sg d f g=some r): RU 214 #[v1,I f,I g] c0 fun c v=>∃G_:Gm,Own c G_ F/\Rel c r G_/\v= .tuple #[]:=by
 unfold gR at H;refine en func214 rfl rfl<|RA f<|va v1<|bn H fun S Z H=>cl (cH U e d i Z) ?_;rintro v9 c8 l8 ⟨X,rfl⟩;refine bn H fun a y H=>cl (nt X f 0 S y) ?_;rintro v16 b0 h0 ⟨l,rfl⟩;refine Ro g<|va v1<|bn H fun T z H=>cl (cH l e.m d i.m z) ?_;rintro v23 d0 i0 ⟨n,rfl⟩;refine bn H fun b A H=>cl (nt n g 0 T A) ?_;rintro v30 u j0 ⟨h,rfl⟩;refine Ro a<|Ro b<|wln<|RA a<|Ro b<|Rj (a<b)<|RF H (fun D H=>?_) (fun D H=>?_)
 ·refine Rv v1<|Ro a<|Ro b<|Ro a<|Rt (b-a)<|bn H fun j E H=>cl (kF h (w64 (b-a)) E) ?_;rintro v33 e0 k0 ⟨_,o0,o,rfl,M⟩;obtain ⟨f0,P,l0,p,N⟩:=o.frz 0 rfl M;refine WL.gh P (bn H fun a0 R H=>cl (ko p e.m (hG.m.le (by decide)) d a j i.m N R) ?_);rintro v47 x m0 ⟨_,k,q,t,rfl,g0⟩;refine WL.nil ?_;cases H;have s:=q.sD 1 [];exact RN x ⟨k,s,t,rfl⟩
 refine W.skip ?_;cases H;exact RN u ⟨G,h,e.m,rfl⟩
def kC (sg:Sto) (p0:Option Nat) (p1:Int) (p2:Int):Option Sto:=
 (bw (decide (p1>=0)) (some (decide (p2>0)))).bind fun f=>
 if f then
 (bN sg p0).bind fun b=>
 (fZ p1 0 b).bind fun a=>
 (bN sg p0).bind fun c=>
 (fZ p2 0 c).bind fun d=>
 (gR sg p0 a (w64 (a+d))).bind fun e=>
 some e
 else
 some sg
theorem yT (o:Own c0 G F) (h:Rel c0 sg G) (hG:Gl [3,7] c0) (f:Option Nat) (b:Int) (d:Int){r:Sto}(i:Pt 0 c0 v1 f) (H:kC sg f b d=some r): RU 152 #[v1,I b,I d] c0 fun c v=>∃G_:Gm,Own c G_ F/\Rel c r G_/\v= .tuple #[]:=by
 unfold kC at H;refine en func152 rfl rfl<|W.seq<|bn H fun A P H=>W.join (Jn c0 fun c l=>Own c G F/\l= [(0,v1),(1,I b),(2,I d),(11,B A)]) ?_ ?_
 ·clear H;refine RC b<|Rj (b>=0) ?_;rcases bo (decide (b>=0)) with e|e
  ·have T:=anT e P;refine vb e<|wa (I d)<|Rm (d>0) ?_;cases T;exact Rj (d>0)<|Ry c0 ⟨o,rfl⟩
  obtain rfl:=anF e P;exact vb e<|pz<|Ri false<|Ry c0 ⟨o,rfl⟩
 rintro e_ w_ ⟨U,g7,_,rfl,l6,rfl,x,rfl⟩;refine nrm<|cn H (fun D H=>?_) (fun D H=>?_)
 ·refine RA b<|va v1<|bn H fun j E H=>cl (cH x h.m f i.m E) ?_;rintro v19 Z e0 ⟨p,rfl⟩;refine bn H fun a M H=>cl (nt p b 0 j M) ?_;rintro v26 a0 f0 ⟨q,rfl⟩;refine Ro a<|wln<|Rv v1<|vv (I a)<|Ro d<|va v1<|bn H fun k N H=>cl (cH q h.m f i.m N) ?_;rintro v33 b0 g0 ⟨s,rfl⟩;refine bn H fun g R H=>cl (nt s d 0 k R) ?_;rintro v40 d0 h0 ⟨t,rfl⟩;refine Rt (a+g)<|bn H fun X S H=>cl (nX t h.m (hG.m.le (by decide)) f a (w64 (a+g)) i.m S) ?_;rintro v47 z i0 ⟨n,u,y,rfl⟩;refine WL.nil ?_;cases H;exact RN z ⟨n,u,y,rfl⟩
 refine W.skip ?_;cases H;exact RN U ⟨G,x,h.m,rfl⟩
def lS (sg:Sto) (p0:Option Nat) (p1:Int):Option Sto:=
 (bN sg p0).bind fun a=>
 (gR sg p0 p1 a).bind fun b=>
 some b
theorem yS (l:Own c0 G F) (f:Rel c0 sg G) (hG:Gl [3,7] c0) (a:Option Nat) (b:Int){r:Sto}(j:Pt 0 c0 v1 a) (H:lS sg a b=some r): RU 210 #[v1,I b] c0 fun c v=>∃G_:Gm,Own c G_ F/\Rel c r G_/\v= .tuple #[]:=by
 unfold lS at H;refine en func210 rfl rfl<|Rv v1<|Ro b<|va v1<|bn H fun k o H=>cl (cH l f a j o) ?_;rintro v9 s t ⟨n,rfl⟩;refine bn H fun q i H=>cl (nX n f.m (hG.m.le (by decide)) a b k j.m i) ?_;rintro v16 h p ⟨d,e,g,rfl⟩;refine WL.nil ?_;cases H;exact RN h ⟨d,e,g,rfl⟩
def mW (sg:Sto) (p0:Option Nat) (p1:Int):Option Sto:=
 (bN sg p0).bind fun a=>
 (fZ p1 (-1) a).bind fun b=>
 (gR sg p0 0 (w64 (b+1))).bind fun c=>
 some c
theorem Az (p:Own c0 G F) (h:Rel c0 sg G) (hG:Gl [3,7] c0) (a:Option Nat) (b:Int){r:Sto}(n:Pt 0 c0 v1 a) (H:mW sg a b=some r): RU 211 #[v1,I b] c0 fun c v=>∃G_:Gm,Own c G_ F/\Rel c r G_/\v= .tuple #[]:=by
 unfold mW at H;refine en func211 rfl rfl<|Rv v1<|Ro b<|va v1<|bn H fun o s H=>cl (cH p h a n s) ?_;rintro v9 z A ⟨q,rfl⟩;refine bn H fun d k H=>cl (nt q b (-1) o k) ?_;rintro v16 t u ⟨f,rfl⟩;refine Rt (d+1)<|bn H fun y l H=>cl (nX f h.m (hG.m.le (by decide)) a 0 (w64 (d+1)) n.m l) ?_;rintro v23 j x ⟨e,g,i,rfl⟩;refine WL.nil ?_;cases H;exact RN j ⟨e,g,i,rfl⟩
def lc (sg:Sto) (p0:Option Nat):Option Sto:=
 (bN sg p0).bind fun a=>
 (gR sg p0 0 a).bind fun b=>
 (ft b p0 false).bind fun c=>
 some c
theorem wN (o:Own c0 G F) (g:Rel c0 sg G) (hG:Gl [3,7] c0) (a:Option Nat){r:Sto}(b:Pt 0 c0 v1 a) (H:lc sg a=some r): RU 212 #[v1] c0 fun c v=>∃G_:Gm,Own c G_ F/\Rel c r G_/\v= .tuple #[]:=by
 unfold lc at H;refine en func212 rfl rfl<|sr<|vv v1<|bn H fun n q H=>cl (cH o g a b q) ?_;rintro v9 A D ⟨p,rfl⟩;refine bn H fun y k H=>cl (nX p g.m (hG.m.le (by decide)) a 0 n b.m k) ?_;rintro v16 t u ⟨s,e,h,rfl⟩;refine wln<|Rv v1<|bn H fun z l H=>cl (ns e h a false b.m l) ?_;rintro v23 j x ⟨d,f,i,rfl⟩;refine WL.nil ?_;cases H;exact RN j ⟨d,f,i,rfl⟩
def bM (sg:Sto) (p0:Option Nat):Option Int:=
 if p0.isNone then
 some 0
 else
 (p0).bind fun b=>
 (sg.grid_Grid[b]?).bind fun a=>
 some (a.rows.length:Int)
theorem bH (d:Own c0 G F) (k:Rel c0 sg G) (f:Option Nat){r:Int}(j:Pt 1 c0 v1 f) (H:bM sg f=some r): RU 28 #[v1] c0 fun c v=>Own c G F/\v=I r:=by
 unfold bM at H;refine en func28 rfl rfl<|RA 0<|Rx<|RB v1<|vr (B f.isNone) (by rcases (j).cs with ⟨a,b⟩|⟨q,a,b⟩ <;> (subst a; rw [b]; kernel_rfl))<|RF H (fun l H=>?_) (fun l H=>?_)
 ·refine RA 0<|RD<|thr ?_;cases H;exact Rz c0 ⟨d,rfl⟩
 refine RG<|RB v1<|bn H fun p n H=>?_;obtain ⟨g,rfl,m⟩:=(j).get n;refine vv (Q g)<|bn H fun e o H=>?_;obtain ⟨v8,s,i,h⟩:=Rel.open_grid_Grid k o m;refine vx (le1 0 nG (d.gon i 0 rfl))<|vx (lnO 3 nG h)<|Ro (e.rows.length:Int)<|RD ?_;cases H;exact Rz c0 ⟨d,rfl⟩
def mz (sg:Sto) (p0:Option Nat) (p1:Int) (p2:Int) (p3:Int):Option (ic×Bool):=
 (bM sg p0).bind fun b=>
 (bM sg p0).bind fun a=>
 (bw (decide ((bb 0 (aR p1 b))<(bb 0 (aR p2 a)))) (some (decide (p3>0)))).bind fun c=>
 some ((⟨(bb 0 (aR p1 b)),(bb 0 (aR p2 a)),(aR p3 (w64 ((bb 0 (aR p2 a))-(bb 0 (aR p1 b)))))⟩:ic),c)
theorem wM (S:Own c0 G F) (z:Rel c0 sg G) (j:Option Nat) (d:Int) (e:Int) (f:Int){r:ic×Bool}(R:Pt 1 c0 v1 j) (H:mz sg j d e f=some r): RU 205 #[v1,I d,I e,I f] c0 fun c v=>Own c G F/\v= .tuple #[.agg #[I r.1.from_,I r.1.to_,I r.1.n],B r.2]:=by
 unfold mz at H;refine en func205 rfl rfl<|sr<|me (al 257 [I 0,I 0,I 0] S) ?_;rintro v6 c5 l5 ⟨D,rfl,T⟩;refine Ri false<|wln<|RA d<|va v1<|bn H fun b X H=>cl (bH T z.m j R.m X) ?_;rintro v13 Z e0 ⟨U,rfl⟩;refine Ro (aR d b)<|Ro (bb 0 (aR d b))<|Ro e<|va v1<|bn H fun a P H=>cl (bH U z.m j R.m P) ?_;rintro v20 a0 f0 ⟨s,rfl⟩;refine Ro (aR e a)<|Ro (bb 0 (aR e a))<|Ro (bb 0 (aR d b))<|Ro (bb 0 (aR e a))<|wln<|RA (bb 0 (aR d b))<|Ro (bb 0 (aR e a))<|Ro f<|Ro (bb 0 (aR e a))<|Ro (bb 0 (aR d b))<|Rt ((bb 0 (aR e a))-(bb 0 (aR d b)))<|Ro (aR f (w64 ((bb 0 (aR e a))-(bb 0 (aR d b)))))<|va (.agg #[I (bb 0 (aR d b)),I (bb 0 (aR e a)),I (aR f (w64 ((bb 0 (aR e a))-(bb 0 (aR d b)))))])<|me (al 257 [I 0,I 0,I 0] s) ?_;rintro v24 b0 g0 ⟨A,rfl,t⟩;refine md (sA 257 [I (bb 0 (aR d b)),I (bb 0 (aR e a)),I (aR f (w64 ((bb 0 (aR e a))-(bb 0 (aR d b)))))] 0 t ⟨rfl,rfl,rfl,trivial⟩) ?_;rintro E h0 h;refine Rx<|bn H fun i p H=>W.join (Jn E fun c l=>Own c G ((Eb A 257 [I (bb 0 (aR d b)),I (bb 0 (aR e a)),I (aR f (w64 ((bb 0 (aR e a))-(bb 0 (aR d b)))))])::(Eb D 257 [I (bb 0 (aR d b)),I (bb 0 (aR e a)),I (aR f (w64 ((bb 0 (aR e a))-(bb 0 (aR d b)))))])::F)/\l= [(8,Q D),(9,B i)]) ?_ ?_
 ·clear H;refine W.region<|vx (leN 257 0 [I (bb 0 (aR d b)),I (bb 0 (aR e a)),I (aR f (w64 ((bb 0 (aR e a))-(bb 0 (aR d b)))))] (h.on 0 rfl))<|Ro (bb 0 (aR d b))<|Ro (bb 0 (aR e a))<|Rj ((bb 0 (aR d b))<(bb 0 (aR e a))) ?_;rcases bo (decide ((bb 0 (aR d b))<(bb 0 (aR e a)))) with g|g
  ·have q:=anT g p;refine vb g<|wa (I f)<|Rm (f>0) ?_;cases q;refine Rj (f>0)<|md (sA 257 [I (bb 0 (aR d b)),I (bb 0 (aR e a)),I (aR f (w64 ((bb 0 (aR e a))-(bb 0 (aR d b)))))] 1 h ⟨rfl,rfl,rfl,trivial⟩) ?_;rintro M i0 u;exact Rj (f>0)<|Ry M ⟨u,rfl⟩
  obtain rfl:=anF g p;refine vb g<|pz<|Ri false<|md (sA 257 [I (bb 0 (aR d b)),I (bb 0 (aR e a)),I (aR f (w64 ((bb 0 (aR e a))-(bb 0 (aR d b)))))] 1 h ⟨rfl,rfl,rfl,trivial⟩) ?_;rintro N j0 x;exact Ri false<|Ry N ⟨x,rfl⟩
 rintro e_ w_ ⟨o,d0,_,rfl,k0,rfl,k,rfl⟩;refine nrm<|W.ret ?_;cases H;have y:=k.sD 2 [];exact xA (c:=o) (vs:=[I (bb 0 (aR d b)),I (bb 0 (aR e a)),I (aR f (w64 ((bb 0 (aR e a))-(bb 0 (aR d b)))))]) (v:=B i) rfl (by kernel_rfl) (by kernel_rfl) (by kernel_rfl) (by kernel_rfl) (k.on 1 rfl _ rfl).1 ⟨_,o,rfl,rfl,pt,y,rfl⟩
def bz (sg:Sto) (p0:Option Nat) (p1:Int):Option (Option Nat):=
 (orE (decide (p1<0)) ((bM sg p0).bind fun e=>
 some (decide (p1>=e)))).bind fun d=>
 if d then
 some (none:Option Nat)
 else
 (p0).bind fun a=>
 (sg.grid_Grid[a]?).bind fun b=>
 (idx b.rows p1).bind fun c=>
 some c
theorem dd (p:Own c0 G F) (q:Rel c0 sg G) (o:Option Nat) (a:Int){r:Option Nat}(x:Pt 1 c0 v1 o) (H:bz sg o a=some r): RU 59 #[v1,I a] c0 fun c v=>∃P,Own c G F/\v=P/\Pt 0 c P r:=by
 unfold bz at H;refine en func59 rfl rfl<|RB (.pointer none)<|Rx<|W.seq<|bn H fun t D H=>W.join (Jn c0 fun c l=>Own c G F/\l= [(0,v1),(1,I a),(12,B t)]) ?_ ?_
 ·clear H;refine RC a<|Rj (a<0) ?_;rcases bo (decide (a<0)) with f|f
  ·obtain rfl:=orT f D;exact vb f<|pz<|pz<|Ri true<|Ry c0 ⟨p,rfl⟩
  have n:=orF f D;refine vb f<|wa (I a)<|wa v1<|wn<|bn n fun m S n=>cl (bH p q o x S) ?_;rintro v12 s b0 ⟨R,rfl⟩;refine Rm (a>=m) ?_;cases n;exact Rj (a>=m)<|Ry s ⟨R,rfl⟩
 rintro e_ w_ ⟨h,a0,_,rfl,k,rfl,b,rfl⟩;refine nrm<|cn H (fun u H=>?_) (fun u H=>?_)
 ·refine RB (.pointer none)<|RD<|thr ?_;cases H;exact Rz h ⟨(.pointer none),b,rfl,rfl⟩
 refine RG<|RB v1<|bn H fun T z H=>?_;obtain ⟨g,rfl,y⟩:=((x.mono k)).get z;refine vv (Q g)<|bn H fun X A H=>?_;obtain ⟨v24,d0,i,d⟩:=Rel.open_grid_Grid (q.mono k) A y;refine vx (le1 0 nG (b.gon i 0 rfl))<|Ro a<|bn H fun Z e H=>vx (ixO nG d e) ?_;obtain ⟨U,E,N⟩:=OA.at d e;obtain ⟨v32,rfl,M⟩:=E;refine vr v32 (rx (by kernel_rfl) (sn C6 rfl (b.gon i 1 rfl) (d.blk e) (at1 (j:=0) N rfl)))<|va v32<|RD ?_;cases H;exact Rz h ⟨v32,b,rfl,M⟩
def eN (sg:Sto) (p0:Option Nat) (p1:Int) (p2:Option Nat):Option (Sto×Bool):=
 (orE p2.isNone ((bz sg p0 p1).bind fun h=>
 (bN sg h).bind fun e=>
 (bN sg p2).bind fun f=>
 some (e != f))).bind fun g=>
 if g then
 some (sg,false)
 else
 (p0).bind fun b=>
 (sg.grid_Grid[b]?).bind fun c=>
 (idx c.rows p1).bind fun i=>
 (pJ c.rows p1 p2).bind fun d=>
 (sg.set_grid_Grid b (⟨d⟩:bV)).bind fun a=>
 some (a,true)
theorem qX (M:Own c0 G F) (e:Rel c0 sg G) (z:Option Nat) (f:Int) (g:Option Nat){r:Sto×Bool}(h2:Pt 1 c0 v1 z) (j:Pt 0 c0 v3 g) (H:eN sg z f g=some r): RU 99 #[v1,I f,v3] c0 fun c v=>∃G_:Gm,Own c G_ F/\Rel c r.1 G_/\v=B r.2:=by
 unfold eN at H;refine en func99 rfl rfl<|Ru false<|Rx<|W.seq<|bn H fun g0 h5 H=>W.join (Jn c0 fun c l=>Own c G F/\l= [(0,v1),(1,I f),(2,v3),(17,B g0)]) ?_ ?_
 ·clear H;refine Rv v3<|vr (B g.isNone) (by rcases (j).cs with ⟨p,q⟩|⟨b_,p,q⟩ <;> (subst p; rw [q]; kernel_rfl)) ?_;rcases bo g.isNone with k|k
  ·obtain rfl:=orT k h5;exact vb k<|pz<|pz<|pz<|ps<|Ri true<|Ry c0 ⟨M,rfl⟩
  have a:=orF k h5;refine vb k<|wa v1<|wa (I f)<|wn<|bn a fun x0 h8 a=>cl (dd M e z f h2 h8) ?_;rintro v9 d1 h1 ⟨_,N,rfl,h0⟩;refine wn<|bn a fun n i0 a=>cl (cH N e.m x0 h0 i0) ?_;rintro v23 e1 i1 ⟨P,rfl⟩;refine wa v3<|wn<|bn a fun o k0 a=>cl (cH P e.m g j.m k0) ?_;rintro v30 d0 j1 ⟨S,rfl⟩;refine Rn (n != o) ?_;cases a;exact Ri (n != o)<|Ry d0 ⟨S,rfl⟩
 rintro e_ w_ ⟨e0,f1,_,rfl,d,rfl,h,rfl⟩;refine nrm<|cn H (fun l0 H=>?_) (fun l0 H=>?_)
 ·refine Ru false<|RD<|thr ?_;cases H;exact Rz e0 ⟨G,h,e.m,rfl⟩
 refine RG<|RB v1<|bn H fun z0 m0 H=>?_;obtain ⟨b,rfl,s⟩:=((h2.mono d)).get m0;refine vv (Q b)<|bn H fun a1 o0 H=>?_;obtain ⟨v42,k1,x,t⟩:=Rel.open_grid_Grid (e.mono d) o0 s;refine vx (le1 0 nG (h.gon x 0 rfl))<|Ro f<|va v3<|bn H fun b1 q0 H=>vx (ixO nG t q0) ?_;obtain ⟨i,rfl⟩:=((j.mono d)).form;have U:=h.borrow 1 x rfl;refine bn H fun A s0 H=>md (Own.stW (R:=(RP 0)) (T:=120) (us:=[.pointer i]) (x':=g) (u:= .pointer i) 0 U (by kernel_rfl) rfl t s0 rfl (by kernel_rfl) ⟨j.m.one,trivial⟩ rfl ⟨(.pointer i),rfl,j.m⟩) ?_;rintro f0 w0 ⟨y,X,u0⟩;have Z:=X.giveB 1 rfl;refine bn H fun D v0 H=>?_;obtain ⟨E,a0,b0,g1,c1⟩:=Rel.put_grid_Grid Z (e.mono (d.trans w0)) (E':=[(Eb b 124 [v42]),es true (RP 0) v42 120 y A]) v0 ⟨b,v42,y,(tm s),rfl,u0⟩;refine wln<|Ru true<|RD ?_;cases H;exact Rz f0 ⟨E,a0,b0,rfl⟩
def eX (sg:Sto) (p0:ic) (p1:Option Nat) (p2:List (Option Nat)):Option Sto:=
 (cm (σ:=Int×Sto) (τ:=Sto) (((p2.length:Int)-0).toNat+1) (fun a=>
 if decide (a.1<(p2.length:Int)) then
 (idx p2 a.1).bind fun c=>
 (eN a.2 p1 (w64 (p0.from_+a.1)) c).bind fun d=>
 some (.inl ((w64 (a.1+1)),d.1))
 else
 some (.inr a.2)) (0,sg)).bind fun b=>
 (bz b p1 (w64 (p0.from_-1))).bind fun e=>
 (ft b e false).bind fun f=>
 some f
theorem ox (O0:Own c0 G F) (R0:Rel c0 sg G) (b:ic) (g:Option Nat) (h:List (Option Nat)){r:Sto}(h2:Pt 1 c0 v1 g) (s:Sl (RP 0) c0 v3 h) (H:eX sg b g h=some r): RU 206 #[.agg #[I b.from_,I b.to_,I b.n],v1,v3] c0 fun c v=>∃G_:Gm,Own c G_ F/\Rel c r G_/\v= .tuple #[]:=by
 unfold eX at H;refine en func206 rfl rfl<|sr<|me (bx 257 [I b.from_,I b.to_,I b.n] O0) ?_;rintro v9 q l8 ⟨f,rfl,O6,m7⟩;refine Rx<|RB v3<|vx (ln 3 nG s.m)<|Ro 0<|wln<|W.block<|bn H fun h1 o d=>lp o (fun a=>Jn q fun c l=>∃G_,Own c G_ F/\l= [(1,v1),(3,Q f),(8,v3),(9,I (h.length:Int)),(10,I a.1)]/\Rel c a.2 G_) (fun t ex e w=>ex= .exit 0/\(Jn q fun c l=>∃G_,Own c G_ F/\l= [(1,v1),(3,Q f)]/\Rel c t G_) e w) ?_ ?_ ?_
 ·clear d o;intro a i1 X l0 H;revert X l0;rintro e_ w_ ⟨S,b1,_,rfl,i0,rfl,y,i,rfl,j⟩;refine sr<|Rj (a.1<(h.length:Int))<|Rx<|cn H (fun Z H=>?_) (fun Z H=>?_)
  ·refine RG<|RM<|RA a.1<|bn H fun u p H=>?_;obtain ⟨u0,b0,j0⟩:=Sl.at (s.mono (l8.trans i0)) (aP p);obtain ⟨v23,rfl,d0⟩:=b0;refine vx (ix nG s.m p)<|vx (l1 C6 (j0 0 _ rfl))<|Ro a.1<|va v23<|wln<|Rv v1<|va (Q f)<|vx (l1 u_3 ((mm m7) 0 _ rfl))<|Ro a.1<|Rt (b.from_+a.1)<|va v23<|bn H fun w0 e0 H=>cl (qX i j g (w64 (b.from_+a.1)) u h2.m d0 e0) ?_;rintro v31 T d1 ⟨z,D,P,rfl⟩;refine WL.nil<|RH<|W.region<|Rq (a.1+1)<|WL.nil ?_;cases H;exact ⟨_,rfl,jn T ⟨z,D,rfl,P⟩⟩
  refine W.exit<|thx ?_;cases H;exact ⟨_,rfl,rfl,jn S ⟨y,i,rfl,j⟩⟩
 ·exact jn q ⟨G,O6,rfl,R0.m⟩
 rintro _ e_ w_ ⟨rfl,z0,c1,_,rfl,e1,rfl,y0,E,rfl,k⟩;refine RJ<|Rv v1<|va (Q f)<|vx (l1 u_3 ((mm m7) 0 _ rfl))<|Rt (b.from_-1)<|bn d fun x f0 d=>cl (dd E k g (w64 (b.from_-1)) h2.m f0) ?_;rintro v39 a1 f1 ⟨_,M,rfl,g0⟩;refine bn d fun x0 h0 d=>cl (ns M k.m x false g0 h0) ?_;rintro v53 U g1 ⟨A,N,R,rfl⟩;refine WL.nil ?_;cases d;exact RN U ⟨A,N,R,rfl⟩
def ky (sg:Sto) (p0:Option Nat) (p1:Int) (p2:Int):Option (List (Option Nat)):=
 (cm (σ:=(List (Option Nat))×Int) (τ:=(List (Option Nat))) ((p2-p1).toNat+1) (fun a=>
 if decide (a.2<p2) then
 (bz sg p0 a.2).bind fun b=>
 (app a.1 ([b]:List (Option Nat))).bind fun c=>
 some (.inl (c,(w64 (a.2+1))))
 else
 some (.inr a.1)) (([]:List (Option Nat)),p1)).bind fun d=>
 some d
theorem tV (O0:Own c0 G F) (R0:Rel c0 sg G) (o:Option Nat) (f:Int) (d:Int){r:List (Option Nat)}(h2:Pt 1 c0 v1 o) (H:ky sg o f d=some r): RU 207 #[v1,I f,I d] c0 fun c v=>∃q y2,Own c G (es true (RP 0) q 120 y2 r::F)/\v=q/\OA (RP 0) c q y2 r:=by
 unfold ky at H;refine en func207 rfl rfl<|RB Y<|wln<|RB Y<|Rx<|sr<|vv (I f)<|wln<|W.block<|bn H fun b1 T s=>lp T (fun a=>Jn c0 fun c l=>∃v5 g,Own c G (es true (RP 0) v5 120 g a.1::F)/\l= [(0,v1),(2,I d),(7,v5),(8,I a.2)]/\OA (RP 0) c v5 g a.1) (fun b ex e w=>ex= .exit 0/\(Jn c0 fun c l=>∃v7 h,Own c G (es true (RP 0) v7 120 h b::F)/\l= [(7,v7)]/\OA (RP 0) c v7 h b) e w) ?_ ?_ ?_
 ·clear s T;intro a d1 N f0 H;revert N f0;rintro e_ w_ ⟨c9,u0,_,rfl,l9,rfl,v5,g,i,rfl,k⟩;refine W.seq<|RA a.2<|Ro d<|Rj (a.2<d)<|RF H (fun P H=>?_) (fun P H=>?_)
  ·refine RG<|RM<|Rv v5<|va v1<|Ro a.2<|bn H fun p R H=>cl (dd i R0.m o a.2 h2.m R) ?_;rintro v18 q0 w0 ⟨_,t,rfl,n⟩;obtain ⟨j,rfl⟩:=(n).form;refine me (sl (RP 0) 120 [[.pointer j]] ([p]:List (Option Nat)) t ⟨⟨(.pointer j),rfl,n⟩,trivial⟩) ?_;rintro v31 s0 x0 ⟨c1,u,S⟩;obtain ⟨t0,X,y0,x,U⟩:=u.frz 0 rfl S;refine WL.gh X (bn H fun o0 Z H=>me (ap (RP 0) (.pointer none) 8 122 1 x k.m U Z nG) ?_);rintro v41 E z0 ⟨e0,y,a0⟩;refine va v41<|WL.nil<|RH<|RC a.2<|Rq (a.2+1)<|WL.nil ?_;cases H;refine ⟨_,rfl,?_⟩;have z:=y.sD 2 [1];exact jn E ⟨v41,e0,z,rfl,a0⟩
  refine W.exit<|thx ?_;cases H;exact ⟨_,rfl,rfl,jn c9 ⟨v5,g,i,rfl,k⟩⟩
 ·have b0:OA (RP 0) c0 Y [] []:=OA.nil (ba _);have A:=O0.addHole (e:=es true (RP 0) Y 120 [] ([]:List (Option Nat))) rfl;exact jn c0 ⟨(Y),[],A,rfl,b0⟩
 rintro _ e_ w_ ⟨rfl,M,v0,_,rfl,a1,rfl,v7,h,D,rfl,d0⟩;refine RJ<|sr<|vv v7<|RD ?_;cases s;exact Rz M ⟨v7,h,D,rfl,d0⟩
def cg (sg:Sto) (p0:Option Nat):Option Int:=
 (bz sg p0 0).bind fun a=>
 (bN sg a).bind fun b=>
 some b
theorem cU (i:Own c0 G F) (d:Rel c0 sg G) (a:Option Nat){r:Int}(k:Pt 1 c0 v1 a) (H:cg sg a=some r): RU 27 #[v1] c0 fun c v=>Own c G F/\v=I r:=by
 unfold cg at H;refine en func27 rfl rfl<|RA 0<|wln<|RB v1<|bn H fun g l H=>cl (dd i d a 0 k l) ?_;rintro v4 o p ⟨_,j,rfl,n⟩;refine bn H fun h f H=>cl (cH j d.m g n f) ?_;rintro v18 e q ⟨b,rfl⟩;refine Ro h<|RD ?_;cases H;exact Rz e ⟨b,rfl⟩
def jd (sg:Sto) (p0:Option Nat) (p1:Int):Option (Sto×(List (Option Nat))):=
 (cm (σ:=(List (Option Nat))×Int×Sto) (τ:=((List (Option Nat))×Sto)) ((p1-0).toNat+1) (fun a=>
 if decide (a.2.1<p1) then
 (cg a.2.2 p0).bind fun d=>
 (lC a.2.2 d).bind fun b=>
 (app a.1 ([b.2]:List (Option Nat))).bind fun e=>
 some (.inl (e,(w64 (a.2.1+1)),b.1))
 else
 some (.inr (a.1,a.2.2))) (([]:List (Option Nat)),0,sg)).bind fun c=>
 some (c.2,c.1)
theorem qV (O0:Own c0 G F) (R0:Rel c0 sg G) (p:Option Nat) (f:Int){r:Sto×(List (Option Nat))}(h2:Pt 1 c0 v1 p) (H:jd sg p f=some r): RU 208 #[v1,I f] c0 fun c v=>∃t y2,∃G_:Gm,Own c G_ (es true (RP 0) t 120 y2 r.2::F)/\Rel c r.1 G_/\eu G G_/\v=t/\OA (RP 0) c t y2 r.2:=by
 unfold jd at H;refine en func208 rfl rfl<|RB Y<|wln<|RB Y<|Rx<|RA f<|Ro 0<|wln<|W.block<|bn H fun t1 h3 z=>lp h3 (fun a=>Jn c0 fun c l=>∃v5 g G_,Own c G_ (es true (RP 0) v5 120 g a.1::F)/\l= [(0,v1),(5,v5),(6,I f),(7,I a.2.1)]/\Rel c a.2.2 G_/\eu G G_/\OA (RP 0) c v5 g a.1) (fun b ex e w=>ex= .exit 0/\(Jn c0 fun c l=>∃v7 h G_,Own c G_ (es true (RP 0) v7 120 h b.1::F)/\l= [(5,v7)]/\Rel c b.2 G_/\eu G G_/\OA (RP 0) c v7 h b.1) e w) ?_ ?_ ?_
 ·clear z h3;intro a w1 e0 u0 H;revert e0 u0;rintro e_ w_ ⟨c9,h1,_,rfl,l9,rfl,v5,g,u,i,rfl,d,j,n⟩;refine sr<|Rj (a.2.1<f)<|Rx<|cn H (fun f0 H=>?_) (fun f0 H=>?_)
  ·refine RG<|RM<|Rv v5<|va v1<|bn H fun q g0 H=>cl (cU i d p h2.m g0) ?_;rintro v23 d1 j1 ⟨A,rfl⟩;refine bn H fun s h0 H=>cl (ws A d.m q h0) ?_;rintro v25 e1 k1 ⟨_,x,D,T,X,rfl,o⟩;have Z:=j.trans X;obtain ⟨k,rfl⟩:=(o).form;refine me (sl (RP 0) 120 [[.pointer k]] ([s.2]:List (Option Nat)) D ⟨⟨(.pointer k),rfl,o⟩,trivial⟩) ?_;rintro v39 f1 m1 ⟨u1,E,j0⟩;obtain ⟨g1,l0,n1,M,k0⟩:=E.frz 0 rfl j0;refine WL.gh l0 (bn H fun c1 m0 H=>me (ap (RP 0) (.pointer none) 8 122 1 M n.m k0 m0 nG) ?_);rintro v49 b0 q1 ⟨t0,N,o0⟩;refine va v49<|WL.nil<|RH<|W.region<|Rq (a.2.1+1)<|WL.nil ?_;cases H;refine ⟨_,rfl,?_⟩;have P:=N.sD 2 [1];exact jn b0 ⟨v49,t0,x,P,rfl,T.m,Z,o0⟩
  refine W.exit<|thx ?_;cases H;exact ⟨_,rfl,rfl,jn c9 ⟨v5,g,u,i,rfl,d,j,n⟩⟩
 ·have q0:OA (RP 0) c0 Y [] []:=OA.nil (ba _);have R:=O0.addHole (e:=es true (RP 0) Y 120 [] ([]:List (Option Nat))) rfl;exact jn c0 ⟨(Y),[],G,R,rfl,R0,(eu.refl _),q0⟩
 rintro _ e_ w_ ⟨rfl,d0,i1,_,rfl,s1,rfl,v7,h,y,S,rfl,U,a0,s0⟩;refine RJ<|sr<|vv v7<|RD ?_;cases z;exact Rz d0 ⟨v7,h,y,S,U,a0,rfl,s0⟩
def kW (sg:Sto) (p0:Option Nat) (p1:Int) (p2:Int) (p3:Int):Option Sto:=
 (mz sg p0 p1 p2 p3).bind fun a=>
 if a.2 then
 (ky sg p0 (w64 (a.1.from_+a.1.n)) a.1.to_).bind fun c=>
 (jd sg p0 a.1.n).bind fun b=>
 (app c b.2).bind fun d=>
 (eX b.1 a.1 p0 d).bind fun e=>
 some e
 else
 some sg
theorem sJ (O0:Own c0 G F) (h:Rel c0 sg G) (g:Option Nat) (k:Int) (l:Int) (o:Int){r:Sto}(j:Pt 1 c0 v1 g) (H:kW sg g k l o=some r): RU 147 #[v1,I k,I l,I o] c0 fun c v=>∃G_:Gm,Own c G_ F/\Rel c r G_/\v= .tuple #[]:=by
 unfold kW at H;refine en func147 rfl rfl<|RB v1<|Ro k<|Ro l<|Ro o<|bn H fun a h3 H=>cl (wM O0 h g k l o j h3) ?_;rintro v9 c8 l8 ⟨O5,rfl⟩;refine va (.tuple #[.agg #[I a.1.from_,I a.1.to_,I a.1.n],B a.2])<|va (.agg #[I a.1.from_,I a.1.to_,I a.1.n])<|Ri a.2<|me (al 257 [I 0,I 0,I 0] O5) ?_;rintro v13 j1 k1 ⟨b,rfl,M⟩;refine md (sA 257 [I a.1.from_,I a.1.to_,I a.1.n] 0 M ⟨rfl,rfl,rfl,trivial⟩) ?_;rintro T m1 p;refine Ri a.2<|wln<|Ru a.2<|RF H (fun e0 H=>?_) (fun e0 H=>?_)
 ·refine rD [] (Kp G0 [(Eb b 257 [I a.1.from_,I a.1.to_,I a.1.n])]) p ?_;intro U n1 q;have e:=(Kp.cons (q.on 0 rfl) Kp.nil0);refine tkx 0 e (fun i f d=>leN 257 0 [I a.1.from_,I a.1.to_,I a.1.n] (d.on 0 rfl)) (ta 1 v1<|ta 2 v1<|ta 3 (Q b)<|tkx 4 e (fun i f d=>le1 0 u_3 (d.on 0 rfl)) (ta 5 (Qo b 2)<|tkx 6 e (fun i f d=>le1 2 u_3 (d.on 0 rfl)) (ta 7 (I (w64 (a.1.from_+a.1.n)))<|ta 8 (Qo b 1)<|tkx 9 e (fun i f d=>le1 1 u_3 (d.on 0 rfl)) (ta 11 v1<|ta 12 (Qo b 2)<|tkx 13 e (fun i f d=>le1 2 u_3 (d.on 0 rfl)) (bn H fun e1 f0 H=>o1 10 (gc 10 (tV q h.m g (w64 (a.1.from_+a.1.n)) a.1.to_ j.m f0) ?_))))));rintro v21 X q1 ⟨_,w1,s,rfl,g0⟩;have v0:=(Kp.cons (s.on 1 rfl) Kp.nil0);refine ⟨.inr v0,bn H fun f1 h0 H=>o1 14 (gc 14 (qV s h.m g a.1.n j.m h0) ?_)⟩;rintro v32 Z s1 ⟨_,x1,h1,t,R,i1,rfl,i0⟩;have w0:=(Kp.cons (t.on 2 rfl) Kp.nil0);refine ⟨.inr w0,?_⟩;obtain ⟨a0,k0,t0,u,j0⟩:=t.frz 0 rfl i0;have x0:=(Kp.cons (u.on 2 rfl) Kp.nil0);refine AC.gh k0 t0 (fun _=>x0) (bn H fun D l0 H=>o1 15 (gm 15 (ap (RP 0) (.pointer none) 8 122 1 u g0.m j0 l0 nG) ?_));rintro v52 b0 t1 ⟨y1,x,m0⟩;have y0:=(Kp.cons (x.on 2 rfl) Kp.nil0);refine ⟨.inr y0,?_⟩;obtain ⟨d0,q0,u0,y,o0⟩:=x.frz 1 rfl m0;have z0:=(Kp.cons (y.on 2 rfl) Kp.nil0);refine AC.gh q0 u0 (fun _=>z0) (bn H fun g1 s0 H=>o1 16 (gc 16 (ox y R.m a.1 g D j.m o0 s0) ?_));rintro z1 A u1 ⟨E,z,S,rfl⟩;have a1:=(Kp.cons (z.on 2 rfl) Kp.nil0);refine ⟨.inr a1,dn ?_⟩;cases H;have N:=z.sD 3 [];exact RN A ⟨E,N,S,rfl⟩
 refine W.skip ?_;cases H;have P:=p.sD 1 [];exact RN T ⟨G,P,h.m,rfl⟩
def kz (sg:Sto) (p0:Option Nat) (p1:Int) (p2:Int) (p3:Int):Option Sto:=
 (mz sg p0 p1 p2 p3).bind fun a=>
 if a.2 then
 (jd sg p0 a.1.n).bind fun b=>
 (ky b.1 p0 a.1.from_ (w64 (a.1.to_-a.1.n))).bind fun d=>
 (app b.2 d).bind fun e=>
 (eX b.1 a.1 p0 e).bind fun c=>
 (bz c p0 (w64 (a.1.to_-1))).bind fun f=>
 (ft c f false).bind fun g=>
 some g
 else
 some sg
theorem tW (O0:Own c0 G F) (D:Rel c0 sg G) (f:Option Nat) (k:Int) (l:Int) (o:Int){r:Sto}(i:Pt 1 c0 v1 f) (H:kz sg f k l o=some r): RU 148 #[v1,I k,I l,I o] c0 fun c v=>∃G_:Gm,Own c G_ F/\Rel c r G_/\v= .tuple #[]:=by
 unfold kz at H;refine en func148 rfl rfl<|RB v1<|Ro k<|Ro l<|Ro o<|bn H fun a h3 H=>cl (wM O0 D f k l o i h3) ?_;rintro v9 c8 l8 ⟨O5,rfl⟩;refine va (.tuple #[.agg #[I a.1.from_,I a.1.to_,I a.1.n],B a.2])<|va (.agg #[I a.1.from_,I a.1.to_,I a.1.n])<|Ri a.2<|me (al 257 [I 0,I 0,I 0] O5) ?_;rintro v13 y1 b2 ⟨b,rfl,P⟩;refine md (sA 257 [I a.1.from_,I a.1.to_,I a.1.n] 0 P ⟨rfl,rfl,rfl,trivial⟩) ?_;rintro Z c2 p;refine Ri a.2<|wln<|Ru a.2<|RF H (fun j0 H=>?_) (fun j0 H=>?_)
 ·refine W.seq<|rD [] (Kp G0 [(Eb b 257 [I a.1.from_,I a.1.to_,I a.1.n])]) p ?_;intro a0 d2 q;have e:=(Kp.cons (q.on 0 rfl) Kp.nil0);refine tkx 0 e (fun j g d=>leN 257 0 [I a.1.from_,I a.1.to_,I a.1.n] (d.on 0 rfl)) (ta 1 v1<|ta 2 v1<|ta 3 (Qo b 2)<|tkx 4 e (fun j g d=>le1 2 u_3 (d.on 0 rfl)) (ta 6 v1<|ta 7 (Q b)<|tkx 8 e (fun j g d=>le1 0 u_3 (d.on 0 rfl)) (ta 9 (Qo b 1)<|tkx 10 e (fun j g d=>le1 1 u_3 (d.on 0 rfl)) (ta 11 (Qo b 2)<|tkx 12 e (fun j g d=>le1 2 u_3 (d.on 0 rfl)) (ta 13 (I (w64 (a.1.to_-a.1.n)))<|bn H fun n1 k0 H=>o1 5 (gc 5 (qV q D.m f a.1.n i.m k0) ?_))))));rintro v21 b0 e2 ⟨_,l2,u1,s,z,x1,rfl,l0⟩;have d1:=(Kp.cons (s.on 1 rfl) Kp.nil0);refine ⟨.inr d1,bn H fun q1 m0 H=>o1 14 (gc 14 (tV s z f a.1.from_ (w64 (a.1.to_-a.1.n)) i.m m0) ?_)⟩;rintro v32 d0 f2 ⟨_,m2,t,rfl,o0⟩;have e1:=(Kp.cons (t.on 2 rfl) Kp.nil0);refine ⟨.inr e1,?_⟩;obtain ⟨e0,s0,b1,u,q0⟩:=t.frz 0 rfl o0;have f1:=(Kp.cons (u.on 2 rfl) Kp.nil0);refine AC.gh s0 b1 (fun _=>f1) (bn H fun E t0 H=>o1 15 (gm 15 (ap (RP 0) (.pointer none) 8 122 1 u l0.m q0 t0 nG) ?_));rintro v52 f0 g2 ⟨n2,x,u0⟩;have g1:=(Kp.cons (x.on 2 rfl) Kp.nil0);refine ⟨.inr g1,?_⟩;obtain ⟨g0,w0,c1,y,v0⟩:=x.frz 1 rfl u0;have h1:=(Kp.cons (y.on 2 rfl) Kp.nil0);refine AC.gh w0 c1 (fun _=>h1) (bn H fun s1 x0 H=>o1 16 (gc 16 (ox y z.m a.1 f E i.m v0 x0) ?_));rintro o2 h0 i2 ⟨w1,h,A,rfl⟩;have i1:=(Kp.cons (h.on 2 rfl) Kp.nil0);refine ⟨.inr i1,dn (nrm<|Rv v1<|Rs b 1<|vx (le1 1 u_3 (h.on 2 rfl))<|Rt (a.1.to_-1)<|bn H fun M y0 H=>cl (dd h A f (w64 (a.1.to_-1)) i.m y0) ?_)⟩;rintro q2 z1 j2 ⟨_,R,rfl,z0⟩;refine bn H fun t1 a1 H=>cl (ns R A.m M false z0 a1) ?_;rintro s2 i0 k2 ⟨N,S,X,rfl⟩;refine WL.nil ?_;cases H;have T:=S.sD 3 [];exact RN i0 ⟨N,T,X,rfl⟩
 refine W.skip ?_;cases H;have U:=p.sD 1 [];exact RN Z ⟨G,U,D.m,rfl⟩
def jk (sg:Sto) (p0:Option Nat):Option (List ah):=
 (bM sg p0).bind fun c=>
 (cm (σ:=(List ah)×Int) (τ:=(List ah)) ((c-0).toNat+1) (fun a=>
 if decide (a.2<c) then
 (p0).bind fun d=>
 (sg.grid_Grid[d]?).bind fun b=>
 (idx b.rows a.2).bind fun e=>
 (idx b.rows a.2).bind fun f=>
 (eM sg e).bind fun g=>
 (jN sg f).bind fun h=>
 (app a.1 ([(⟨g,h⟩:ah)]:List ah)).bind fun i=>
 some (.inl (i,(w64 (a.2+1))))
 else
 some (.inr a.1)) (([]:List ah),0)).bind fun j=>
 some j
theorem vz (O0:Own c0 G F) (z:Rel c0 sg G) (p0:Option Nat){r:List ah}(h2:Pt 1 c0 v1 p0) (H:jk sg p0=some r): RU 29 #[v1] c0 fun c v=>∃y1 y2,Own c G (es true aN y1 56 y2 r::F)/\v=y1/\OA aN c y1 y2 r:=by
 unfold jk at H;refine en func29 rfl rfl<|RB Y<|wln<|RB Y<|Rx<|RB v1<|bn H fun g0 h3 H=>cl (bH O0 z p0 h2 h3) ?_;rintro v9 A l8 ⟨O5,rfl⟩;refine Ro 0<|wln<|W.block<|bn H fun j3 Z D=>lp Z (fun a=>Jn A fun c l=>∃v12 n,Own c G (es true aN v12 56 n a.1::F)/\l= [(0,v1),(3,v12),(6,I g0),(7,I a.2)]/\OA aN c v12 n a.1) (fun y ex e w=>ex= .exit 0/\(Jn A fun c l=>∃v14 o,Own c G (es true aN v14 56 o y::F)/\l= [(3,v14)]/\OA aN c v14 o y) e w) ?_ ?_ ?_
 ·clear D Z;intro a p3 a1 o2 H;revert a1 o2;rintro e_ w_ ⟨s0,c3,_,rfl,l16,rfl,v12,n,E,rfl,a0⟩;refine sr<|Rj (a.2<g0)<|Rx<|cn H (fun c1 H=>?_) (fun c1 H=>?_)
  ·refine RG<|RM<|sr<|vv (I a.2)<|wln<|rD [] (Kp G []) E ?_;intro t0 d0 M;have k:=(Kp.nil M);refine ta 0 v12<|ta 1 v1<|bn H fun v2 e1 H=>?_;obtain ⟨d,rfl,d1⟩:=((h2.mono (l8.trans (l16.trans d0)))).get e1;refine ta 2 (Q d)<|ta 3 (Q d)<|bn H fun z2 f1 H=>?_;obtain ⟨v31,k3,i,b⟩:=Rel.open_grid_Grid (z.mono (l8.trans (l16.trans d0))) f1 d1;refine tkx 4 k (fun t f g=>le1 0 nG (g.gon i 0 rfl)) (ta 5 (I a.2)<|bn H fun i0 u H=>tx 6 (fun t f=>ixO nG b u) ?_);obtain ⟨w2,g1,e2⟩:=OA.at b u;obtain ⟨v39,rfl,h1⟩:=g1;refine AC.takeK 7 v39 k rfl (by kernel_rfl) (by kernel_rfl) (by kernel_rfl) (fun t f g=>(rx (by kernel_rfl) (sn C6 rfl (g.gon i 1 rfl) (b.blk u) (at1 (j:=0) e2 rfl)))) (ta 9 (Q d)<|ta 10 (Q d)<|ta 11 (Q d)<|tkx 12 k (fun t f g=>le1 0 nG (g.gon i 0 rfl)) (ta 13 (I a.2)<|bn H fun j0 x H=>tx 14 (fun t f=>ixO nG b x) ?_));obtain ⟨x2,i1,f2⟩:=OA.at b x;obtain ⟨v45,rfl,j1⟩:=i1;refine AC.takeK 15 v45 k rfl (by kernel_rfl) (by kernel_rfl) (by kernel_rfl) (fun t f g=>(rx (by kernel_rfl) (sn C6 rfl (g.gon i 1 rfl) (b.blk x) (at1 (j:=0) f2 rfl)))) (bn H fun k0 k1 H=>o1 8 (gc 8 (mc M z.m i0 h1 k1) ?_));rintro v48 u0 e3 ⟨_,l3,N,rfl,b0⟩;have g2:=(Kp.nil N);refine ⟨.inr g2,bn H fun h m1 H=>o1 16 (gc 16 (yn N z.m j0 j1.m m1) ?_)⟩;rintro n3 v0 e0 ⟨P,rfl⟩;have i2:=(Kp.nil P);refine ⟨.inr i2,?_⟩;obtain ⟨p,q,s,rfl⟩:=((b0.mono e0)).form;refine ta 17 (.agg #[.slice p q s,B h]) ?_;obtain ⟨w0,p1,b2,R,n1⟩:=P.frz 0 rfl (b0.mono e0);have j2:=(Kp.nil R);refine AC.gh p1 b2 (fun _=>j2) (o1 18 (gm 18 (sl aN 56 [[.slice p q s,B h]] ([(⟨k0,h⟩:ah)]:List ah) R ⟨⟨(.slice p q s),rfl,n1⟩,trivial⟩) ?_));rintro o3 x0 f3 ⟨m3,S,q1⟩;have k2:=(Kp.nil S);refine ⟨.inr k2,?_⟩;obtain ⟨y0,t1,d2,T,s1⟩:=S.frz 0 rfl q1;have l2:=(Kp.nil T);refine AC.gh t1 d2 (fun _=>l2) (bn H fun b3 u1 H=>o1 19 (gm 19 (ap aN (.agg #[Y,B false]) 32 27 2 T a0.m s1 u1 gb) ?_));rintro f0 X g3 ⟨n2,U,w1⟩;have m2:=(Kp.nil U);refine ⟨.inr m2,ta 20 f0 (dn (RH<|W.region<|Rq (a.2+1)<|WL.nil ?_))⟩;cases H;refine ⟨_,rfl,?_⟩;have m0:=U.sD 3 [2];exact jn X ⟨f0,n2,m0,rfl,w1⟩
  refine W.exit<|thx ?_;cases H;exact ⟨_,rfl,rfl,jn s0 ⟨v12,n,E,rfl,a0⟩⟩
 ·have x1:OA aN A Y [] []:=OA.nil (ba _);have o0:=O5.addHole (e:=es true aN Y 56 [] ([]:List ah)) rfl;exact jn A ⟨(Y),[],o0,rfl,x1⟩
 rintro _ e_ w_ ⟨rfl,z0,d3,_,rfl,i3,rfl,v14,o,q0,rfl,z1⟩;refine RJ<|sr<|vv v14<|RD ?_;cases D;exact Rz z0 ⟨v14,o,q0,rfl,z1⟩
def gn (p0:List ah) (p1:List ah):Option Bool:=
 if ((p0.length:Int) != (p1.length:Int))=true then
 some false
 else
 (cm (σ:=Int) (τ:=Bool ⊕ Unit) (((p0.length:Int)-0).toNat+1) (fun a=>
 if decide (a<(p0.length:Int)) then
 (idx p0 a).bind fun d=>
 (idx p1 a).bind fun e=>
 (orE (!(d.Wrap==e.Wrap)) ((idx p0 a).bind fun f=>
 (idx p1 a).bind fun g=>
 (gq f.Cells g.Cells).bind fun h=>
 some (!h))).bind fun c=>
 if c then
 some (.inr (.inl false))
 else
 some (.inl ((w64 (a+1))))
 else
 some (.inr (.inr ()))) 0).bind fun b=>
 match b with
 | .inl b=>
 some b
 | .inr b=>
 some true
theorem sP (O0:Own c0 G F) (s:List ah) (X:List ah){r:Bool}(j:Sl aN c0 v1 s) (k:Sl aN c0 v3 X) (H:gn s X=some r): RU 26 #[v1,v3] c0 fun c v=>Own c G F/\v=B r:=by
 unfold gn at H;refine en func26 rfl rfl<|Ru false<|Rx<|RB v1<|vx (ln 3 gb j)<|va v3<|vx (ln 3 gb k)<|Ri ((s.length:Int) != (X.length:Int))<|RF H (fun h5 H=>?_) (fun h5 H=>?_)
 ·refine Ru false<|RD<|thr ?_;cases H;exact Rz c0 ⟨O0,rfl⟩
 refine RG<|W.seq<|RA 0<|wln<|W.block<|bn H fun h h6 S=>lp h6 (fun a=>Jn c0 fun c l=>Own c G F/\l= [(0,v1),(1,v3),(5,I a)]) (fun t=>match t with|.inl x_=>(fun f1 ex e w=>ex= .ret/\(Jn c0 fun c l=>Own c G F/\l= [(4,B f1)]) e w) x_|.inr x_=>(fun h1 ex e w=>ex= .exit 0/\(Jn c0 fun c l=>Own c G F/\l= []) e w) x_) ?_ ?_ ?_
 ·clear S h6;intro a d2 l0 g1 H;revert l0 g1;rintro U Z ⟨c8,g9,_,rfl,q,rfl,u,rfl⟩;refine W.seq<|RA a<|va v1<|vx (ln 3 gb j.m)<|Rj (a<(s.length:Int))<|RF H (fun o0 H=>?_) (fun o0 H=>?_)
  ·refine RG<|RM<|W.seq<|bn H fun n E H=>bn H fun o M H=>bn H fun T N H=>W.join (Jn c8 fun c l=>Own c G F/\l= [(0,v1),(1,v3),(5,I a),(41,B T)]) ?_ ?_
   ·clear H;refine rD [] (Kp G0 []) u ?_;intro z i x;have c2:Kp G0 [] z:=Kp.nil0;refine ta 0 v1<|ta 1 (I a) ?_;obtain ⟨j1,q0,a1⟩:=Sl.at (j.mono (q.trans i)) (aP E);obtain ⟨v24,rfl,u1⟩:=q0;refine tx 2 (fun f b=>ix gb j.m E)<|ta 3 (Qo (sb v1) (so v1+a.toNat*2+1))<|tx 4 (fun f b=>l1 u_4 ((mm a1) 1 _ rfl))<|ta 5 v3<|ta 6 (I a) ?_;obtain ⟨k1,s0,b1⟩:=Sl.at (k.mono (q.trans i)) (aP M);obtain ⟨v29,rfl,w1⟩:=s0;refine tx 7 (fun f b=>ix gb k.m M)<|ta 8 (Qo (sb v3) (so v3+a.toNat*2+1))<|tx 9 (fun f b=>l1 u_4 ((mm b1) 1 _ rfl))<|ta 10 (B (!(n.Wrap==o.Wrap))) ?_;rcases bo (!(n.Wrap==o.Wrap)) with g|g
    ·obtain rfl:=orT g N;exact AC.takeb 11 g rfl (by kernel_rfl) (by kernel_rfl) (fun f b=>(by kernel_rfl)) (tp 12<|tp 13<|tp 14<|tp 15<|tp 16<|tp 17<|tp 18<|tp 19<|tp 20<|tp 21<|tp 22<|tp 23<|ta 24 (B true)<|dn (nrm<|jn z ⟨x,rfl⟩))
    have d:=orF g N;refine bn d fun b0 P d=>bn d fun d0 R d=>bn d fun p t0 d=>AC.takeb 11 g rfl (by kernel_rfl) (by kernel_rfl) (fun f b=>(by kernel_rfl)) (ta 12 v1<|ta 13 (I a) ?_);obtain ⟨m1,u0,c1⟩:=Sl.at (j.mono (q.trans i)) (aP P);obtain ⟨v39,rfl,v0⟩:=u0;refine tx 14 (fun f b=>ix gb j.m P)<|ta 15 (Qo (sb v1) (so v1+a.toNat*2))<|tx 16 (fun f b=>l1 cw ((mm c1) 0 _ rfl))<|ta 17 v3<|ta 18 (I a) ?_;obtain ⟨n1,w0,d1⟩:=Sl.at (k.mono (q.trans i)) (aP R);obtain ⟨v44,rfl,x0⟩:=w0;refine tx 19 (fun f b=>ix gb k.m R)<|ta 20 (Qo (sb v3) (so v3+a.toNat*2))<|tx 21 (fun f b=>l1 cw ((mm d1) 0 _ rfl))<|o1 22 (gc 22 (sQ x b0.Cells d0.Cells v0 x0 t0) ?_);rintro v51 A x1 ⟨f0,rfl⟩;have e1:Kp G0 [] A:=Kp.nil0;refine ⟨.inr e1,ta 23 (B (!p)) ?_⟩;cases d;exact ta 24 (B (!p))<|dn (nrm<|jn A ⟨f0,rfl⟩)
   rintro U Z ⟨D,q1,_,rfl,y1,rfl,y,rfl⟩;refine nrm<|cn H (fun y0 H=>?_) (fun y0 H=>?_)
   ·refine Ru false<|RD<|RK ?_;cases H;exact ⟨_,rfl,⟨rfl,jn D ⟨y,rfl⟩⟩⟩
   refine W.skip<|RH<|RC a<|Rq (a+1)<|WL.nil ?_;cases H;exact ⟨_,rfl,jn D ⟨y,rfl⟩⟩
  refine W.exit<|thx ?_;cases H;exact ⟨_,rfl,rfl,jn c8 ⟨u,rfl⟩⟩
 ·exact jn c0 ⟨O0,rfl⟩
 rcases h with h|h
 ·intro m0; revert m0;rintro _ U Z ⟨rfl,i0,s1,_,rfl,z1,rfl,g0,rfl⟩;refine RK ?_;cases S;exact Rz i0 ⟨g0,rfl⟩
 rintro _ U Z ⟨rfl,j0,t1,_,rfl,b2,rfl,h0,rfl⟩;refine RJ<|Ru true<|RD ?_;cases S;exact Rz j0 ⟨h0,rfl⟩
def jM (p0:List Int):Option (List Int):=
 (rep 0 0).bind fun g=>
 (rep (p0.length:Int) 0).bind fun h=>
 (cm (σ:=(List Int)×Int) (τ:=(List Int)) (((p0.length:Int)-0).toNat+1) (fun a=>
 if decide (a.2<(p0.length:Int)) then
 (idx p0 a.2).bind fun b=>
 ((dU b).bind fun d=>
 if (!d)=true then
 some 65533
 else
 some b).bind fun f=>
 (app a.1 ([f]:List Int)).bind fun e=>
 some (.inl (e,(w64 (a.2+1))))
 else
 some (.inr a.1)) (g,0)).bind fun c=>
 some c
theorem wq (O0:Own c0 G F) (n:List Int){r:List Int}(p:Sl (RI .i32) c0 v1 n) (H:jM n=some r): RU 320 #[v1] c0 fun c v=>∃P y2,Own c G (es true (RI .i32) P 21 y2 r::F)/\v=P/\OA (RI .i32) c P y2 r:=by
 unfold jM at H;refine en func320 rfl rfl<|RB Y<|wln<|RB v1<|vx (ln 3 cD p)<|bn H fun b2 h3 H=>bn H fun d2 h4 H=>me (Own.mkS (kl:= .i64) (kc:= .i64) (R:=(RI .i32)) (z:=J 0) (lz:=[J 0]) (x:=0) (by_:=4) (i:=0) (j:=(n.length:Int)) true O0 (ba _) h3 (JK h4) (Cs h4) cD (by kernel_rfl) rfl rfl (fun _=>rfl) (by kernel_rfl) (by kernel_rfl)) ?_;rintro v9 M l8 ⟨u6,O5,h7⟩;refine va v9<|Rx<|RB v1<|vx (ln 3 cD p.m)<|Ro 0<|wln<|W.block<|bn H fun f1 A q=>lp A (fun a=>Jn M fun c l=>∃v12 f,Own c G (es true (RI .i32) v12 21 f a.1::F)/\l= [(3,v12),(9,v1),(10,I (n.length:Int)),(11,I a.2)]/\OA (RI .i32) c v12 f a.1) (fun h ex e w=>ex= .exit 0/\(Jn M fun c l=>∃v14 k,Own c G (es true (RI .i32) v14 21 k h::F)/\l= [(3,v14)]/\OA (RI .i32) c v14 k h) e w) ?_ ?_ ?_
 ·clear q A;intro a c2 f0 x0 H;revert f0 x0;rintro e_ w_ ⟨u,m1,_,rfl,l16,rfl,v12,f,s,rfl,D⟩;refine sr<|Rj (a.2<(n.length:Int))<|Rx<|cn H (fun g0 H=>?_) (fun g0 H=>?_)
  ·refine RG<|RM<|sr<|bn H fun g E H=>?_;obtain ⟨e1,h0,u0⟩:=Sl.at (p.mono (l8.trans l16)) (aP E);obtain rfl:=h0;refine vx (ix cD p.m E)<|vx (l1 nB (u0 0 _ rfl))<|va (J g)<|wln<|bn H fun d b o=>W.seqJ (Jn u fun c l=>Own c G (es true (RI .i32) v12 21 f a.1::F)/\l= [(3,v12),(5,J d),(9,v1),(10,I (n.length:Int)),(11,I a.2)]) ?_ ?_
   ·refine RB (J g)<|bn b fun N i0 b=>cl (lg s g i0) ?_;rintro v36 y q1 ⟨t,rfl⟩;refine Ri (!N)<|RF b (fun j0 b=>?_) (fun j0 b=>?_)
    ·refine Rv (J 65533)<|wln ?_;cases b;exact jn y ⟨t,rfl⟩
    refine RG ?_;cases b;exact jn y ⟨t,rfl⟩
   rintro e_ w_ ⟨i1,n1,_,rfl,s1,rfl,S,rfl⟩;refine Rv v12<|va (J d)<|me (sl (RI .i32) 21 [[J d]] ([d]:List Int) S ⟨rfl,trivial⟩) ?_;rintro v48 j1 t1 ⟨z1,T,l0⟩;obtain ⟨k1,o0,u1,U,m0⟩:=T.frz 0 rfl l0;refine WL.gh o0 (bn o fun h1 q0 o=>me (ap (RI .i32) (J 0) 4 59 1 U D.m m0 q0 cD) ?_);rintro v58 b0 w1 ⟨v0,X,s0⟩;refine va v58<|WL.nil<|RH<|W.region<|Rq (a.2+1)<|WL.nil ?_;cases o;refine ⟨_,rfl,?_⟩;have Z:=X.sD 2 [1];exact jn b0 ⟨v58,v0,Z,rfl,s0⟩
  refine W.exit<|thx ?_;cases H;exact ⟨_,rfl,rfl,jn u ⟨v12,f,s,rfl,D⟩⟩
 ·exact jn M ⟨v9,u6,O5,rfl,h7⟩
 rintro _ e_ w_ ⟨rfl,d0,p1,_,rfl,x1,rfl,v14,k,a0,rfl,t0⟩;refine RJ<|sr<|vv v14<|RD ?_;cases q;exact Rz d0 ⟨v14,k,a0,rfl,t0⟩
def qm (p0:Int) (p1:List Int):Option (List aa):=
 (if decide (p0>=2) then
 (app ([(⟨0,([]:List Int)⟩:aa)]:List aa) ([(⟨0,([]:List Int)⟩:aa)]:List aa)).bind fun e=>
 some e
 else
 some (([(⟨0,([]:List Int)⟩:aa)]:List aa))).bind fun c=>
 if ((p1.length:Int)==0)=true then
 some c
 else
 (slc p1 0 (aR (p1.length:Int) 16)).bind fun f=>
 (jM f).bind fun g=>
 (idx c 0).bind fun k=>
 (pJ c 0 (⟨1,g⟩:aa)).bind fun a=>
 (if decide (p0>=2) then
 (idx a 0).bind fun h=>
 (pJ a 0 (⟨2,h.Text⟩:aa)).bind fun b=>
 (idx b 1).bind fun i=>
 (pJ b 1 (⟨3,i.Text⟩:aa)).bind fun d=>
 some d
 else
 some a).bind fun j=>
 some j
theorem EX (O0:Own c0 G F) (i:Int) (A:List Int){r:List aa}(h2:Sl (RI .i32) c0 v1 A) (H:qm i A=some r): RU 310 #[I i,v1] c0 fun c v=>∃y1 y2,Own c G (es true aw y1 61 y2 r::F)/\v=y1/\OA aw c y1 y2 r:=by
 unfold qm at H;refine en func310 rfl rfl<|RB Y<|wln<|RB (.agg #[I 0,Y])<|me (sl aw 61 [[I 0,Y]] ([(⟨0,([]:List Int)⟩:aa)]:List aa) O0 ⟨⟨(Y),rfl,(Sl.nl _ _)⟩,trivial⟩) ?_;rintro v7 c6 l6 ⟨u4,O3,h5⟩;refine va v7<|wln<|bn H fun a0 h b=>W.seqJ (Jn c6 fun c l=>∃v10 n,Own c G (es true aw v10 61 n a0::F)/\l= [(0,I i),(1,v1),(5,v10)]/\OA aw c v10 n a0) ?_ ?_
 ·refine RA i<|Rj (i>=2)<|RF h (fun b1 h=>?_) (fun b1 h=>?_)
  ·refine Rv v7<|va (.agg #[I 0,Y])<|me (sl aw 61 [[I 0,Y]] ([(⟨0,([]:List Int)⟩:aa)]:List aa) O3 ⟨⟨(Y),rfl,(Sl.nl _ _)⟩,trivial⟩) ?_;rintro v17 d3 l16 ⟨t3,h0,c1⟩;obtain ⟨e3,e1,k3,i0,d1⟩:=h0.frz 0 rfl c1;refine WL.gh e1 (bn h fun b3 f1 h=>me (ap aw (.agg #[I 0,Y]) 32 54 1 i0 h5.m d1 f1 cw) ?_);rintro v27 w0 l3 ⟨k2,j0,g1⟩;refine va v27<|wln ?_;cases h;have k0:=j0.sD 2 [1];exact jn w0 ⟨v27,k2,k0,rfl,g1⟩
  refine RG ?_;cases h;exact jn c6 ⟨v7,u4,O3,rfl,h5⟩
 rintro e_ w_ ⟨x0,i3,_,rfl,g2,rfl,v10,n,D,rfl,p⟩;refine W.seq<|RB v1<|vx (ln 3 cD h2.m)<|Ri ((A.length:Int)==0)<|RF b (fun h1 b=>?_) (fun h1 b=>?_)
 ·refine sr<|vv v10<|RD<|thr ?_;cases b;exact Rz x0 ⟨v10,n,D,rfl,p⟩
 refine RG<|RB v10<|vv v1<|vx (ln 3 cD h2.m)<|Ro (aR (A.length:Int) 16)<|bn b fun e0 i1 b=>?_;obtain ⟨v38,j1,k1⟩:=A7 (k':= .i64) cD (by kernel_rfl) (h2.mono (l6.trans g2)) i1;refine vr v38 (rx (by kernel_rfl) (j1 _))<|bn b fun s m1 b=>cl (wq D e0 k1 m1) ?_;rintro v42 f3 m3 ⟨_,l2,m0,rfl,N⟩;obtain ⟨e,f,g,rfl⟩:=(N).form;refine va (.agg #[I 1,.slice e f g])<|bn b fun c3 q1 b=>vx (ixO cw p.m q1) ?_;obtain ⟨g3,s1,n3,o0,P⟩:=m0.frz 0 rfl N;refine WL.gh s1 (bn b fun x2 t1 b=>md (Own.stW (R:=aw) (T:=61) (us:=[I 1,.slice e f g]) (x':=(⟨1,s⟩:aa)) (u:= .agg #[I 1,.slice e f g]) 1 o0 (by kernel_rfl) rfl p.m t1 rfl (by kernel_rfl) ⟨rfl,P.one,trivial⟩ rfl ⟨(.slice e f g),rfl,P⟩) ?_);rintro M o3 ⟨m2,E,k⟩;refine wln<|bn b fun z a g0=>W.seqJ (Jn M fun c l=>∃d o,Own c G (es true aw d 61 o z::es false (RI .i32) (.slice e f g) 21 l2 s::F)/\l= [(5,d)]/\OA aw c d o z) ?_ ?_
 ·refine RA i<|Rj (i>=2)<|RF a (fun u1 a=>?_) (fun u1 a=>?_)
  ·refine W.region<|vv v10<|bn a fun t S a=>vx (ixO cw k S)<|Rs (sb v10) ((0:Int).toNat*2) ?_;obtain ⟨t2,w1,i2⟩:=OA.at k S;obtain ⟨X,rfl,x1⟩:=w1;refine bn a fun z2 z1 a=>md (Own.stO (R:=aw) (T:=3) (us:=[I 2]) (x':=(⟨2,t.Text⟩:aa)) (u:=I 2) (x:=(⟨2,t.Text⟩:aa)) (j:=0) (l':=[I 2,X]) 1 E (by kernel_rfl) rfl k z1 i2 rfl (by kernel_rfl) ⟨rfl,trivial⟩ (by kernel_rfl) rfl ⟨X,rfl,x1⟩) ?_;rintro h3 p3 ⟨u3,q0,q⟩;refine bn a fun y U a=>vx (ixO cw q U)<|Rs (sb v10) ((1:Int).toNat*2) ?_;obtain ⟨u2,b2,j2⟩:=OA.at q U;obtain ⟨Z,rfl,c2⟩:=b2;refine bn a fun a3 d2 a=>md (Own.stO (R:=aw) (T:=3) (us:=[I 3]) (x':=(⟨3,y.Text⟩:aa)) (u:=I 3) (x:=(⟨3,y.Text⟩:aa)) (j:=0) (l':=[I 3,Z]) 1 q0 (by kernel_rfl) rfl q d2 j2 rfl (by kernel_rfl) ⟨rfl,trivial⟩ (by kernel_rfl) rfl ⟨Z,rfl,c2⟩) ?_;rintro z0 q3 ⟨n2,s0,e2⟩;refine wln ?_;cases a;have t0:=s0.sD 2 [1,0];exact jn z0 ⟨v10,n2,t0,rfl,e2⟩
  refine RG ?_;cases a;have u0:=E.sD 2 [1,0];exact jn M ⟨v10,m2,u0,rfl,k⟩
 rintro e_ w_ ⟨a1,j3,_,rfl,s3,rfl,d,o,v0,rfl,f2⟩;refine sr<|vv d<|RD ?_;cases g0;have b0:=v0.sD 2 [0];exact Rz a1 ⟨d,o,b0,rfl,f2⟩
def mn (sg:Sto) (p0:Option Nat) (p1:Int) (p2:Int) (p3:List Int):Option (Sto×Er):=
 (qm p2 p3).bind fun b=>
 (ei sg p0 p1 b).bind fun a=>
 some (a.1,a.2)
theorem yq (u:Own c0 G F) (x:Rel c0 sg G) (hG:Gl [3,7] c0) (d:Option Nat) (a:Int) (b:Int) (e:List Int){r:Sto×Er}(y:Pt 0 c0 v1 d) (z:Sl (RI .i32) c0 v3 e) (H:mn sg d a b e=some r): RU 288 #[v1,I a,I b,v3] c0 fun c v=>∃t,∃G_:Gm,Own c G_ F/\Rel c r.1 G_/\v=t/\RE 352 80 c t r.2:=by
 unfold mn at H;refine en func288 rfl rfl<|RB (.nilIface)<|wln<|RB v1<|Ro a<|Ro b<|va v3<|bn H fun s A H=>cl (EX u b e z A) ?_;rintro v6 E N ⟨_,T,g,rfl,D⟩;obtain ⟨M,o,P,h,n⟩:=g.frz 0 rfl D;refine WL.gh o (bn H fun S p H=>cl (ko h x.m (hG.m.le (by decide)) d a s y.m n p) ?_);rintro v20 l R ⟨_,f,i,k,rfl,q⟩;refine va v20<|RD ?_;cases H;have j:=i.sD 1 [];exact Rz l ⟨v20,f,j,k,rfl,q⟩
def qg (sg:Sto) (p0:Option Nat) (p1:Int):Option (Int×pm×Bool):=
 (gg sg p0 p1).bind fun b=>
 ((bw b.2 (some (b.1.Kind==3))).bind fun d=>
 if d then
 (gg sg p0 (w64 (p1-1))).bind fun c=>
 some ((w64 (p1-1)),c.2,c.1.Kind,c.1.Text)
 else
 some (p1,b.2,b.1.Kind,b.1.Text)).bind fun a=>
 (bw a.2.1 (some (a.2.2.1==1))).bind fun e=>
 if e then
 some (a.1,(⟨1,a.2.2.2⟩:pm),true)
 else
 (bw a.2.1 (some (a.2.2.1==2))).bind fun f=>
 if f then
 some (a.1,(⟨2,a.2.2.2⟩:pm),true)
 else
 some (0,(⟨0,([]:List Int)⟩:pm),false)
theorem ER (O0:Own c0 G F) (R0:Rel c0 sg G) (p0:Option Nat) (j:Int){r:Int×pm×Bool}(h2:Pt 0 c0 v1 p0) (H:qg sg p0 j=some r): RU 290 #[v1,I j] c0 fun c v=>∃y1 y2,Own c G (es true (RI .i32) y1 21 y2 r.2.1.Text::F)/\v= .tuple #[I r.1,.agg #[I r.2.1.Wide,y1],B r.2.2]/\OA (RI .i32) c y1 y2 r.2.1.Text:=by
 unfold qg at H;refine en func290 rfl rfl<|RA 0<|me (al 321 [I 0,Y] O0) ?_;rintro v6 c5 l5 ⟨u,rfl,O4⟩;refine Ri false<|wln<|RB v1<|Ro j<|bn H fun f h7 H=>cl (sL O4 R0.m p0 j h2.m h7) ?_;rintro v16 d3 l3 ⟨v8,u9,k1,rfl,e0⟩;refine va (.tuple #[.agg #[I f.1.Kind,v8],B f.2])<|va (.agg #[I f.1.Kind,v8])<|Ri f.2<|me (al 61 [I 0,Y] k1) ?_;rintro v20 e3 k2 ⟨b,rfl,m1⟩;obtain ⟨N,P,R,rfl⟩:=((e0.mono k2)).form;refine md (sA 61 [I f.1.Kind,.slice N P R] 0 m1 ⟨rfl,e0.m.one,trivial⟩) ?_;rintro S m3 U;refine Ri f.2<|wln<|bn H fun a g d=>W.seqJ (Jn S fun c l=>∃v28 i,Own c G (es true (RI .i32) v28 21 i a.2.2.2::(Eb b 61 [I a.2.2.1,v28])::(Eb u 321 [I 0,Y])::F)/\l= [(1,I a.1),(5,Q u),(6,B a.2.1),(7,Q b)]/\OA (RI .i32) c v28 i a.2.2.2) ?_ ?_
 ·refine W.seq<|bn g fun y0 q0 g=>W.join (Jn S fun c l=>Own c G ((Eb b 61 [I f.1.Kind,.slice N P R])::es true (RI .i32) (.slice N P R) 21 u9 f.1.Text::(Eb u 321 [I 0,Y])::F)/\l= [(0,v1),(1,I j),(5,Q u),(6,B f.2),(7,Q b),(19,B y0)]) ?_ ?_
  ·clear g;refine W.region<|Ri f.2 ?_;rcases bo f.2 with x|x
   ·have h1:=anT x q0;refine vb x<|wa (Q b)<|wn<|vx (le1 0 u_3 (U.on 0 rfl))<|Rn (f.1.Kind==3) ?_;cases h1;exact Ri (f.1.Kind==3)<|Ry S ⟨U,rfl⟩
   obtain rfl:=anF x q0;exact vb x<|pz<|ps<|Ri false<|Ry S ⟨U,rfl⟩
  rintro e_ w_ ⟨x1,h3,_,rfl,n3,rfl,h0,rfl⟩;refine nrm<|cn g (fun e2 g=>?_) (fun e2 g=>?_)
  ·refine RA j<|Rq (j-1)<|wln<|Rv v1<|Rt (j-1)<|bn g fun h f2 g=>cl (sL h0 R0.m p0 (w64 (j-1)) h2.m f2) ?_;rintro v49 f3 o3 ⟨v41,s2,n1,rfl,f0⟩;refine va (.tuple #[.agg #[I h.1.Kind,v41],B h.2])<|va (.agg #[I h.1.Kind,v41])<|Ri h.2 ?_;obtain ⟨l0,m0,o0,rfl⟩:=(f0).form;refine md (sA 61 [I h.1.Kind,.slice l0 m0 o0] 1 n1 ⟨rfl,(f0).one,trivial⟩) ?_;rintro z1 p3 q1;refine Ri h.2<|wln ?_;cases g;have s1:=q1.sD 4 [0,1,3];exact jn z1 ⟨(.slice l0 m0 o0),s2,s1,rfl,f0.m⟩
  refine RG ?_;cases g;have t1:=h0.sD 3 [1,0,2];exact jn x1 ⟨(.slice N P R),u9,t1,rfl,e0.m⟩
 rintro e_ w_ ⟨a0,i3,_,rfl,q3,rfl,v28,i,X,rfl,k⟩;refine RM<|W.seq<|bn d fun z0 s0 d=>W.join (Jn a0 fun c l=>Own c G (es true (RI .i32) v28 21 i a.2.2.2::(Eb b 61 [I a.2.2.1,v28])::(Eb u 321 [I 0,Y])::F)/\l= [(1,I a.1),(5,Q u),(6,B a.2.1),(7,Q b),(28,B z0)]) ?_ ?_
 ·clear d;refine W.region<|Ri a.2.1 ?_;rcases bo a.2.1 with y|y
  ·have i1:=anT y s0;refine vb y<|wa (Q b)<|wn<|vx (le1 0 u_3 (X.on 1 rfl))<|Rn (a.2.2.1==1) ?_;cases i1;exact Rk (a.2.2.1==1)<|Ry a0 ⟨X,rfl⟩
  obtain rfl:=anF y s0;exact vb y<|pz<|ps<|Rk false<|Ry a0 ⟨X,rfl⟩
 rintro e_ w_ ⟨b0,j3,_,rfl,u0,rfl,M,rfl⟩;refine nrm<|cn d (fun g2 d=>?_) (fun g2 d=>?_)
 ·refine W.seq<|rD [] (Kp G0 [(Eb b 61 [I a.2.2.1,v28])]) M ?_;intro b2 l2 i0;have o2:=(Kp.cons (i0.on 1 rfl) Kp.nil0);refine ta 0 (I a.1)<|ta 1 (Qo b 1)<|tkx 2 o2 (fun c' j2 hk=>le1 1 cD (hk.on 0 rfl)) ?_;obtain ⟨n,o,p,rfl⟩:=((k.mono (u0.trans l2))).form;refine ta 3 (.agg #[I 1,.slice n o p])<|ta 4 (I a.1)<|o1 5 (gD 5 (sA 321 [I 1,.slice n o p] 2 i0 ⟨rfl,k.m.one,trivial⟩) ?_);rintro d0 s3 Z;have p2:=(Kp.cons (Z.on 1 rfl) Kp.nil0);refine ⟨.inr p2,ta 6 (B true) (dn (nrm<|W.ret<|RK ?_))⟩;cases d;have u1:=Z.sD 3 [0];exact Cr (c:=d0) (vs:=[I 1,.slice n o p]) (v:=B true) (v':=I a.1) rfl (by kernel_rfl) (by kernel_rfl) (by kernel_rfl) (by kernel_rfl) (by kernel_rfl) (Z.on 2 rfl _ rfl).1 ⟨_,d0,rfl,rfl,pt,(.slice n o p),i,u1,rfl,k.m⟩
 refine W.seq<|bn d fun a1 t0 d=>W.join (Jn b0 fun c l=>Own c G (es true (RI .i32) v28 21 i a.2.2.2::(Eb b 61 [I a.2.2.1,v28])::(Eb u 321 [I 0,Y])::F)/\l= [(1,I a.1),(5,Q u),(7,Q b),(39,B a1)]) ?_ ?_
 ·clear d;refine W.region<|Ri a.2.1 ?_;rcases bo a.2.1 with z|z
  ·have j1:=anT z t0;refine vb z<|wa (Q b)<|wn<|vx (le1 0 u_3 (M.on 1 rfl))<|Rn (a.2.2.1==2) ?_;cases j1;exact Rk (a.2.2.1==2)<|Ry b0 ⟨M,rfl⟩
  obtain rfl:=anF z t0;exact vb z<|pz<|ps<|Rk false<|Ry b0 ⟨M,rfl⟩
 rintro e_ w_ ⟨g3,k3,_,rfl,m2,rfl,j0,rfl⟩;refine nrm<|cn d (fun i2 d=>?_) (fun i2 d=>?_)
 ·refine W.seq<|rD [] (Kp G0 [(Eb b 61 [I a.2.2.1,v28])]) j0 ?_;intro c2 n2 k0;have q2:=(Kp.cons (k0.on 1 rfl) Kp.nil0);refine ta 0 (I a.1)<|ta 1 (Qo b 1)<|tkx 2 q2 (fun c' j2 hk=>le1 1 cD (hk.on 0 rfl)) ?_;obtain ⟨q,s,t,rfl⟩:=((k.mono (u0.trans (m2.trans n2)))).form;refine ta 3 (.agg #[I 2,.slice q s t])<|ta 4 (I a.1)<|o1 5 (gD 5 (sA 321 [I 2,.slice q s t] 2 k0 ⟨rfl,k.m.one,trivial⟩) ?_);rintro D a3 A;have e1:=(Kp.cons (A.on 1 rfl) Kp.nil0);refine ⟨.inr e1,ta 6 (B true) (dn (nrm<|W.ret<|RK ?_))⟩;cases d;have v0:=A.sD 3 [0];exact Cr (c:=D) (vs:=[I 2,.slice q s t]) (v:=B true) (v':=I a.1) rfl (by kernel_rfl) (by kernel_rfl) (by kernel_rfl) (by kernel_rfl) (by kernel_rfl) (A.on 2 rfl _ rfl).1 ⟨_,D,rfl,rfl,pt,(.slice q s t),i,v0,rfl,k.m⟩
 refine W.skip<|RH<|RB (.agg #[I 0,Y])<|Ro 0<|md (sA 321 [I 0,Y] 2 j0 ⟨rfl,rfl,trivial⟩) ?_;rintro E c3 w0;refine Ri false<|RD ?_;cases d;have c1:OA (RI .i32) E Y [] []:=OA.nil (ba _);have T:=w0.addHole (e:=es true (RI .i32) Y 21 [] ([]:List Int)) rfl;have x0:=T.sD 4 [0];exact Cr (c:=E) (vs:=[I 0,Y]) (v:=B false) (v':=I 0) rfl (by kernel_rfl) (by kernel_rfl) (by kernel_rfl) (by kernel_rfl) (by kernel_rfl) (T.on 3 rfl _ rfl).1 ⟨_,E,rfl,rfl,pt,(Y),[],x0,rfl,c1⟩
def oV (sg:Sto) (p0:Option Nat) (p1:Int) (p2:Int):Option (Sto×Bool):=
 (qg sg p0 p1).bind fun a=>
 (orE (!a.2.2) (some (decide ((a.2.1.Text.length:Int)>=16)))).bind fun c=>
 if c then
 some (sg,false)
 else
 (app a.2.1.Text ([p2]:List Int)).bind fun d=>
 (mn sg p0 a.1 a.2.1.Wide d).bind fun b=>
 some (b.1,b.2.isNil)
theorem CP (O0:Own c0 G F) (R:Rel c0 sg G) (hG:Gl [3,7] c0) (q:Option Nat) (s:Int) (h:Int){r:Sto×Bool}(h2:Pt 0 c0 v1 q) (H:oV sg q s h=some r): RU 259 #[v1,I s,J h] c0 fun c v=>∃G_:Gm,Own c G_ F/\Rel c r.1 G_/\v=B r.2:=by
 unfold oV at H;refine en func259 rfl rfl<|Ru false<|wln<|RB v1<|Ro s<|bn H fun a h3 H=>cl (ER O0 R q s h2 h3) ?_;rintro v12 q1 u1 ⟨v4,u5,O8,rfl,p⟩;refine va (.tuple #[I a.1,.agg #[I a.2.1.Wide,v4],B a.2.2])<|Ro a.1<|va (.agg #[I a.2.1.Wide,v4])<|Ri a.2.2<|me (al 321 [I 0,Y] O8) ?_;rintro v16 s1 a1 ⟨b,rfl,a0⟩;refine Ro a.1 ?_;obtain ⟨d,e,f,rfl⟩:=((p.mono a1)).form;refine md (sA 321 [I a.2.1.Wide,.slice d e f] 0 a0 ⟨rfl,p.m.one,trivial⟩) ?_;rintro j w1 i;refine Ri a.2.2<|Rx<|W.seq<|bn H fun S M H=>W.join (Jn j fun c l=>Own c G ((Eb b 321 [I a.2.1.Wide,.slice d e f])::es true (RI .i32) (.slice d e f) 21 u5 a.2.1.Text::F)/\l= [(0,v1),(2,J h),(7,I a.1),(8,Q b),(24,B S)]) ?_ ?_
 ·clear H;refine W.region<|Ri a.2.2<|Ri (!a.2.2) ?_;rcases bo (!a.2.2) with g|g
  ·obtain rfl:=orT g M;exact vb g<|pz<|pz<|Ri true<|Ry j ⟨i,rfl⟩
  have Z:=orF g M;refine vb g<|wa (Qo b 1)<|wn<|vx (le1 1 cD (i.on 0 rfl))<|wn<|vx (lnO 3 cD p.m)<|Rm ((a.2.1.Text.length:Int)>=16) ?_;cases Z;exact Rj ((a.2.1.Text.length:Int)>=16)<|Ry j ⟨i,rfl⟩
 rintro e_ w_ ⟨g0,t1,_,rfl,x1,rfl,t,rfl⟩;refine nrm<|cn H (fun o0 H=>?_) (fun o0 H=>?_)
 ·refine Ru false<|RD<|thr ?_;cases H;have b0:=t.sD 2 [];exact Rz g0 ⟨G,b0,R.m,rfl⟩
 refine RG<|W.seq<|rD [] (Kp G0 [(Eb b 321 [I a.2.1.Wide,.slice d e f])]) t ?_;intro h0 y1 u;have P:=(Kp.cons (u.on 0 rfl) Kp.nil0);refine ta 0 v1<|ta 1 (I a.1)<|ta 2 (Q b)<|tkx 3 P (fun c' N T=>le1 0 u_3 (T.on 0 rfl)) (ta 4 (Qo b 1)<|tkx 5 P (fun c' N T=>le1 1 cD (T.on 0 rfl)) (ta 6 (J h)<|o1 7 (gm 7 (sl (RI .i32) 21 [[J h]] ([h]:List Int) u ⟨rfl,trivial⟩) ?_)));rintro v40 i0 z1 ⟨d2,x,q0⟩;have d1:=(Kp.cons (x.on 1 rfl) Kp.nil0);refine ⟨.inr d1,?_⟩;obtain ⟨j0,t0,b1,y,s0⟩:=x.frz 0 rfl q0;have e1:=(Kp.cons (y.on 1 rfl) Kp.nil0);refine AC.gh t0 b1 (fun _=>e1) (bn H fun U u0 H=>o1 8 (gm 8 (ap (RI .i32) (J 0) 4 59 2 y p.m s0 u0 cD) ?_));rintro v52 k0 b2 ⟨e2,z,v0⟩;have f1:=(Kp.cons (z.on 1 rfl) Kp.nil0);refine ⟨.inr f1,?_⟩;obtain ⟨l0,x0,c1,A,w0⟩:=z.frz 2 rfl v0;have g1:=(Kp.cons (A.on 1 rfl) Kp.nil0);refine AC.gh x0 c1 (fun _=>g1) (bn H fun o y0 H=>o1 9 (gc 9 (yq A R.m (hG.m.le (by decide)) q a.1 a.2.1.Wide U h2.m w0 y0) ?_));rintro v60 E c2 ⟨_,X,D,e0,rfl,z0⟩;have h1:=(Kp.cons (D.on 1 rfl) Kp.nil0);refine ⟨.inr h1,AC.take 10 (B o.2.isNil) rfl (by kernel_rfl) (by kernel_rfl) (fun c' N=>(by rcases (z0).cs with ⟨k,n⟩|⟨b_,k,n⟩|⟨b_,k,n⟩ <;> (subst k; rw [n]; kernel_rfl))) (ta 11 (B o.2.isNil)<|dn (nrm<|W.ret ?_))⟩;cases H;have d0:=D.sD 3 [];exact Rz E ⟨X,d0,e0,rfl⟩
def nM (sg:Sto) (p0:Int) (p1:Int):Option (Sto×(Option Nat)):=
 (some (sg.add_grid_Grid (⟨([]:List (Option Nat))⟩:bV))).bind fun c=>
 (cm (σ:=Int×Sto) (τ:=Sto) (((bb 1 (aR p1 1024))-0).toNat+1) (fun a=>
 if decide (a.1<(bb 1 (aR p1 1024))) then
 (a.2.grid_Grid[sg.grid_Grid.length]?).bind fun f=>
 (lC a.2 p0).bind fun d=>
 (app f.rows ([d.2]:List (Option Nat))).bind fun g=>
 (d.1.set_grid_Grid sg.grid_Grid.length (⟨g⟩:bV)).bind fun b=>
 some (.inl ((w64 (a.1+1)),b))
 else
 some (.inr a.2)) (0,c)).bind fun e=>
 some (e,(some sg.grid_Grid.length))
theorem yt (O0:Own c0 G F) (R0:Rel c0 sg G) (y:Int) (n:Int){r:Sto×(Option Nat)}(H:nM sg y n=some r): RU 51 #[I y,I n] c0 fun c v=>∃y1,∃G_:Gm,Own c G_ F/\Rel c r.1 G_/\eu G G_/\v=y1/\Pt 1 c y1 r.2:=by
 unfold nM at H;refine en func51 rfl rfl<|RB (.pointer none)<|wln<|RB (.agg #[Y]) ?_;have h2:OA (RP 0) c0 Y [] []:=OA.nil (ba _);have O1:=O0.addHole (e:=es true (RP 0) Y 120 [] ([]:List (Option Nat))) rfl;refine me (al 124 [(Y)] O1) ?_;rintro v6 c5 l5 ⟨a,rfl,O4⟩;have O7:=O4.sD 2 [0,1];refine bn H fun q2 h8 H=>?_;obtain ⟨z,l0,t1,l9,p,q0,U,l3,u1,a16⟩:=Rel.new_grid_Grid (E:=[(Eb a 124 [(Y)]),es true (RP 0) Y 120 [] ([]:List (Option Nat))]) (F:=F) (x:=(⟨([]:List (Option Nat))⟩:bV)) (b:=a) O7 (R0.mono l5) (fun c_ hle_=>⟨a,(Y),[],rfl,rfl,((h2.mono l5).mono hle_)⟩);rw [aL h8] at U;refine WL.gh t1.1 ?_;have v1:=eu.nil (eu.refl _) u1;have c1:=(eu.refl _).trans a16;have w1:Pt 1 z (Q a) (some sg.grid_Grid.length):=⟨a,rfl,p⟩;refine va (Q a)<|Rx<|RA n<|Ro (aR n 1024)<|Ro (bb 1 (aR n 1024))<|Ro 0<|wln<|W.block<|bn H fun e3 a0 D=>lp a0 (fun d=>Jn z fun c l=>∃G_,Own c G_ F/\l= [(0,I y),(5,Q a),(10,I (bb 1 (aR n 1024))),(11,I d.1)]/\Rel c d.2 G_/\eu G G_) (fun A ex e w=>ex= .exit 0/\(Jn z fun c l=>∃G_,Own c G_ F/\l= [(5,Q a)]/\Rel c A G_/\eu G G_) e w) ?_ ?_ ?_
 ·clear D a0;intro d t3 s1 s2 H;revert s1 s2;rintro e_ w_ ⟨h1,j3,_,rfl,j2,rfl,f,M,rfl,o,X⟩;refine sr<|Rj (d.1<(bb 1 (aR n 1024)))<|Rx<|cn H (fun x1 H=>?_) (fun x1 H=>?_)
  ·refine RG<|RM<|rD [8,11] (Kp f []) M ?_;intro i1 e0 N;have m2:=(Kp.nil N);refine ta 0 (Q a)<|ta 1 (Q a)<|ta 2 (Q a)<|ta 3 (Q a)<|bn H fun f3 z1 H=>?_;obtain ⟨v35,p3,b0,b2⟩:=Rel.open_grid_Grid (o.mono e0) z1 (tm p);refine tkx 4 m2 (fun c' n3 hk=>le1 0 nG (hk.gon b0 0 rfl)) (ta 5 (I y)<|bn H fun i0 c2 H=>o1 6 (gc 6 (ws N o.m y c2) ?_));rintro v40 j1 k2 ⟨_,h3,P,z0,k,rfl,d0⟩;have d1:=X.trans k;have n2:Kp f [] j1:=(Kp.adds P k);refine ⟨.inr n2,?_⟩;obtain ⟨Z,rfl⟩:=(d0).form;refine o1 7 (gm 7 (sl (RP 0) 120 [[.pointer Z]] ([i0.2]:List (Option Nat)) P ⟨⟨(.pointer Z),rfl,d0⟩,trivial⟩) ?_);rintro v55 k1 f0 ⟨q3,R,d2⟩;have o2:Kp f [] k1:=(Kp.adds R k);refine ⟨.inr o2,?_⟩;obtain ⟨m1,f2,s,S,e2⟩:=R.frz 0 rfl d2;have p2:Kp f [] m1:=(Kp.adds S k);refine AC.gh f2 s (fun _=>p2) (bn H fun j0 g2 H=>?_);have s0:=S.borrow 1 (k.get b0) rfl;refine o1 8 (gm 8 (ap (RP 0) (.pointer none) 8 122 0 s0 b2.m e2 g2 nG) ?_);rintro s3 i3 g0 ⟨h0,t0,q⟩;have u0:=t0.giveB 1 rfl;refine ⟨.inl rfl,ta 9 (Q a) (ta 10 (Q a) ?_)⟩;obtain ⟨g,h,i,rfl⟩:=(q).form;refine o1 11 (gD 11 (Own.stGB (T:=122) (j:=0) (us:=[.slice g h i]) (nw:=[.slice g h i]) (v:= .slice g h i) 0 u0 (by kernel_rfl) rfl rfl rfl rfl (by kernel_rfl) ⟨(q).one,trivial⟩ (by kernel_rfl) rfl) ?_);rintro n1 u v0;refine bn H fun k0 i2 H=>?_;obtain ⟨m0,w0,a1,m3,e1⟩:=Rel.put_grid_Grid v0 (z0.mono (f0.trans (s.trans (g0.trans u)))) (E':=[(Eb a 124 [.slice g h i]),es true (RP 0) (.slice g h i) 120 h0 j0]) i2 ⟨a,(.slice g h i),h0,((j2.trans (e0.trans (k2.trans (f0.trans (s.trans (g0.trans u)))))).t _ _ _ p),rfl,(q.mono u)⟩;have f1:=e1 _ d1 v1;refine ⟨.inl rfl,dn (RH<|W.region<|Rq (d.1+1)<|WL.nil ?_)⟩;cases H;refine ⟨_,rfl,?_⟩;have x0:=w0.sD 1 [];exact jn n1 ⟨m0,x0,rfl,a1,f1⟩
  refine W.exit<|thx ?_;cases H;exact ⟨_,rfl,rfl,jn h1 ⟨f,M,rfl,o,X⟩⟩
 ·exact jn z ⟨l0,q0,rfl,U,c1⟩
 rintro _ e_ w_ ⟨rfl,q1,k3,_,rfl,o3,rfl,o0,y0,rfl,b1,g1⟩;refine RJ<|sr<|vv (Q a)<|RD ?_;cases D;exact Rz q1 ⟨(Q a),o0,y0,b1,g1,rfl,w1.m⟩
def og (sg:Sto) (p0:Int) (p1:Int):Option (Sto×(Option Nat)):=
 (nM sg p0 p1).bind fun b=>
 (some (b.1.add_place_Pen (⟨b.2,(⟨0,0,false⟩:ai),true⟩:bq))).bind fun a=>
 some (a,(some b.1.place_Pen.length))
theorem BW (N:Own c0 G F) (R:Rel c0 sg G) (e:Int) (f:Int){r:Sto×(Option Nat)}(H:og sg e f=some r): RU 22 #[I e,I f] c0 fun c v=>∃M,∃G_:Gm,Own c G_ F/\Rel c r.1 G_/\eu G G_/\v=M/\Pt 2 c M r.2:=by
 unfold og at H;refine en func22 rfl rfl<|RB (.pointer none)<|wln<|RA e<|Ro f<|bn H fun k U H=>cl (yt N R e f U) ?_;rintro v2 c8 l8 ⟨_,G4,P,S,T,rfl,z⟩;have h:=(eu.refl _).trans T;obtain ⟨d,rfl⟩:=(z).form;refine va (.agg #[.pointer d,I 0,I 0,B false,B true])<|me (al 73 [.pointer d,I 0,I 0,B false,B true] P) ?_;rintro v15 X j ⟨a,rfl,m⟩;have n:=m.sD 1 [0];refine bn H fun D s H=>?_;obtain ⟨i,l,t,b0,u,o,g,Z,y,p⟩:=Rel.new_place_Pen (E:=[(Eb a 73 [.pointer d,I 0,I 0,B false,B true])]) (F:=F) (x:=(⟨k.2,(⟨0,0,false⟩:ai),true⟩:bq)) (b:=a) n (S.mono j) (fun c_ hle_=>⟨a,(.pointer d),rfl,rfl,(z.mono (j.trans hle_))⟩);rw [aL s] at g;refine WL.gh t.1 ?_;have a0:=eu.nil h y;have q:=h.trans p;have A:Pt 2 i (Q a) (some k.1.place_Pen.length):=⟨a,rfl,u⟩;refine va (Q a)<|RD ?_;cases H;exact Rz i ⟨(Q a),l,o,g,q,rfl,A⟩
def fh (p0:Int):Option Int:=
 some (bb 1 (aR p0 1024))
theorem nY (b:Own c0 G F) (a:Int){r:Int}(H:fh a=some r): RU 143 #[I a] c0 fun c v=>Own c G F/\v=I r:=by
 unfold fh at H;refine en func143 rfl rfl<|RA 0<|wln<|RA a<|Ro (aR a 1024)<|vv (I (bb 1 (aR a 1024)))<|RD ?_;cases H;exact Rz c0 ⟨b,rfl⟩
def jt (p0:Int) (p1:Int):Option Int:=
 some (bb 0 (aR p0 (w64 (p1-1))))
theorem tY (d:Own c0 G F) (b:Int) (a:Int){r:Int}(H:jt b a=some r): RU 144 #[I b,I a] c0 fun c v=>Own c G F/\v=I r:=by
 unfold jt at H;refine en func144 rfl rfl<|RA 0<|wln<|RA b<|Ro a<|Rt (a-1)<|Ro (aR b (w64 (a-1)))<|vv (I (bb 0 (aR b (w64 (a-1)))))<|RD ?_;cases H;exact Rz c0 ⟨d,rfl⟩
def ej (p0:ai) (p1:Int) (p2:Int):Option ai:=
 (fh p1).bind fun a=>
 (fh p2).bind fun e=>
 (jt p0.Row e).bind fun c=>
 (jt p0.Col a).bind fun d=>
 (bw p0.Pending (some (p0.Col==(w64 (a-1))))).bind fun b=>
 some (⟨c,d,b⟩:ai)
theorem ek (O0:Own c0 G F) (a:ai) (n:Int) (o:Int){r:ai}(H:ej a n o=some r): RU 98 #[.agg #[I a.Row,I a.Col,B a.Pending],I n,I o] c0 fun c v=>Own c G F/\v= .agg #[I r.Row,I r.Col,B r.Pending]:=by
 unfold ej at H;refine en func98 rfl rfl<|sr<|me (bx 29 [I a.Row,I a.Col,B a.Pending] O0) ?_;rintro v5 c4 l4 ⟨k,rfl,O2,m⟩;refine me (al 29 [I 0,I 0,B false] O2) ?_;rintro v9 c8 l8 ⟨R,rfl,O7⟩;refine wln<|RA n<|bn H fun b Z H=>cl (nY O7 n Z) ?_;rintro v16 l0 o0 ⟨z,rfl⟩;refine Ro o<|bn H fun j a0 H=>cl (nY z o a0) ?_;rintro v23 S q0 ⟨A,rfl⟩;refine Ro b<|Ro j<|Rx<|bn H fun d b0 H=>bn H fun e d0 H=>bn H fun i x H=>W.join (Jn S fun c l=>Own c G ((Eb R 29 [I d,I e,B i])::F)/\l= [(6,Q R)]) ?_ ?_
 ·clear H;refine rD [] (Kp G0 []) A ?_;intro T s0 D;have y0:Kp G0 [] T:=Kp.nil0;refine ta 0 (Q k)<|tx 1 (fun h g=>l1 u_3 ((mm m) 0 _ rfl))<|ta 2 (I j)<|ta 4 (Qo k (0+1))<|tx 5 (fun h g=>l1 u_3 ((mm m) 1 _ rfl))<|ta 6 (I b)<|ta 8 (Qo k (0+2))<|tx 9 (fun h g=>l1 u_4 ((mm m) 2 _ rfl))<|o1 3 (gc 3 (tY D a.Row j b0) ?_);rintro v35 U t0 ⟨E,rfl⟩;have e0:Kp G0 [] U:=Kp.nil0;refine ⟨.inr e0,o1 7 (gc 7 (tY E a.Col b d0) ?_)⟩;rintro v42 X u0 ⟨p,rfl⟩;have f0:Kp G0 [] X:=Kp.nil0;refine ⟨.inr f0,?_⟩;rcases bo a.Pending with f|f
  ·have y:=anT f x;refine AC.takeb 10 f rfl (by kernel_rfl) (by kernel_rfl) (fun h g=>(by kernel_rfl)) (ta 11 (Qo k (0+1))<|tx 12 (fun h g=>l1 u_3 ((mm m) 1 _ rfl))<|ta 13 (I b)<|ta 14 (I (w64 (b-1)))<|ta 15 (B (a.Col==(w64 (b-1)))) ?_);cases y;refine ta 16 (B (a.Col==(w64 (b-1))))<|ta 17 (.agg #[I d,I e,B (a.Col==(w64 (b-1)))])<|o1 18 (gD 18 (sA 29 [I d,I e,B (a.Col==(w64 (b-1)))] 0 p ⟨rfl,rfl,rfl,trivial⟩) ?_);rintro s v0 M;have g0:Kp G0 [] s:=Kp.nil0;exact ⟨.inr g0,dn (nrm<|jn s ⟨M,rfl⟩)⟩
  obtain rfl:=anF f x;refine AC.takeb 10 f rfl (by kernel_rfl) (by kernel_rfl) (fun h g=>(by kernel_rfl)) (tp 11<|tp 12<|tp 13<|tp 14<|tp 15<|ta 16 (B false)<|ta 17 (.agg #[I d,I e,B false])<|o1 18 (gD 18 (sA 29 [I d,I e,B false] 0 p ⟨rfl,rfl,rfl,trivial⟩) ?_));rintro t w0 N;have h0:Kp G0 [] t:=Kp.nil0;exact ⟨.inr h0,dn (nrm<|jn t ⟨N,rfl⟩)⟩
 rintro e_ w_ ⟨u,m0,_,rfl,x0,rfl,q,rfl⟩;refine nrm<|W.ret ?_;cases H;have P:=q.sD 1 [];exact uj (c:=u) (vs:=[I d,I e,B i]) rfl (by kernel_rfl) (by kernel_rfl) (by kernel_rfl) (q.on 0 rfl _ rfl).1 ⟨_,u,rfl,rfl,pt,P,rfl⟩
def gA (sg:Sto) (p0:Option Nat):Option (Sto×Bool):=
 (orE p0.isNone ((p0).bind fun i=>
 (sg.place_Pen[i]?).bind fun d=>
 some d.G.isNone)).bind fun h=>
 if h then
 some (sg,false)
 else
 (p0).bind fun c=>
 (sg.place_Pen[c]?).bind fun a=>
 (cg sg a.G).bind fun e=>
 (bM sg a.G).bind fun f=>
 (ej a.At e f).bind fun g=>
 (sg.set_place_Pen c (⟨a.G,g,a.Auto⟩:bq)).bind fun b=>
 some (b,true)
theorem pA (S:Own c0 G F) (h:Rel c0 sg G) (t:Option Nat){r:Sto×Bool}(T:Pt 2 c0 v1 t) (H:gA sg t=some r): RU 282 #[v1] c0 fun c v=>∃G_:Gm,Own c G_ F/\Rel c r.1 G_/\v=B r.2:=by
 unfold gA at H;refine en func282 rfl rfl<|Ru false<|Rx<|W.seq<|bn H fun o0 h3 H=>W.join (Jn c0 fun c l=>Own c G F/\l= [(0,v1),(11,B o0)]) ?_ ?_
 ·clear H;refine Rv v1<|vr (B t.isNone) (by rcases (T).cs with ⟨e,f⟩|⟨b_,e,f⟩ <;> (subst e; rw [f]; kernel_rfl)) ?_;rcases bo t.isNone with k|k
  ·obtain rfl:=orT k h3;exact vb k<|pz<|pz<|ps<|Ri true<|Ry c0 ⟨S,rfl⟩
  have i:=orF k h3;refine vb k<|wa v1<|wn<|bn i fun n1 h8 i=>?_;obtain ⟨b6,rfl,h7⟩:=(T).get h8;refine va (Q b6)<|wa (Q b6)<|wn<|bn i fun q h9 i=>?_;obtain ⟨v10,s0,q0⟩:=Rel.open_place_Pen h h9 h7;refine vx (le1 0 jT (S.gon s0 0 rfl))<|wn<|vr (B q.G.isNone) (by rcases (q0).cs with ⟨e,f⟩|⟨b_,e,f⟩ <;> (subst e; rw [f]; kernel_rfl)) ?_;cases i;exact Ri q.G.isNone<|Ry c0 ⟨S,rfl⟩
 rintro e_ w_ ⟨h0,k1,_,rfl,o,rfl,u,rfl⟩;refine nrm<|cn H (fun t0 H=>?_) (fun t0 H=>?_)
 ·refine Ru false<|RD<|thr ?_;cases H;exact Rz h0 ⟨G,u,h.m,rfl⟩
 refine RG<|W.seq<|rD [18] (Kp G []) u ?_;intro i0 p x;have s:=(Kp.nil x);refine ta 0 v1<|ta 1 v1<|bn H fun i1 u0 H=>?_;obtain ⟨b,rfl,D⟩:=((T.mono (o.trans p))).get u0;refine ta 2 (Q b)<|ta 3 (Qo b 1)<|bn H fun d v0 H=>?_;obtain ⟨v27,g,j⟩:=Rel.open_place_Pen (h.mono (o.trans p)) v0 D;refine tkx 4 s (fun c' E n=>leN 29 1 [I d.At.Row,I d.At.Col,B d.At.Pending] (n.gon g 0 rfl)) (ta 5 (Q b)<|ta 6 (Q b)<|ta 7 (Q b)<|tkx 8 s (fun c' E n=>le1 0 jT (n.gon g 0 rfl)) (ta 10 (Q b)<|ta 11 (Q b)<|ta 12 (Q b)<|tkx 13 s (fun c' E n=>le1 0 jT (n.gon g 0 rfl)) (bn H fun U x0 H=>o1 9 (gc 9 (cU x h.m d.G j x0) ?_))));rintro v36 j0 M ⟨y,rfl⟩;have b1:=(Kp.nil y);refine ⟨.inr b1,bn H fun X y0 H=>o1 14 (gc 14 (bH y h.m d.G j.m y0) ?_)⟩;rintro v44 k0 N ⟨z,rfl⟩;have c1:=(Kp.nil z);refine ⟨.inr c1,bn H fun a z0 H=>o1 15 (gc 15 (ek z d.At U X z0) ?_)⟩;rintro v52 l0 P ⟨A,rfl⟩;have d1:=(Kp.nil A);refine ⟨.inr d1,ta 16 (Q b) (ta 17 (Qo b 1)<|o1 18 (gD 18 (gB 29 1 [I a.Row,I a.Col,B a.Pending] [v27,I a.Row,I a.Col,B a.Pending,B d.Auto] 0 A g ⟨rfl,rfl,rfl,trivial⟩) ?_))⟩;rintro m0 R b0;refine bn H fun Z a1 H=>?_;obtain ⟨a0,d0,e0,m1,j1⟩:=Rel.put_place_Pen b0 (h.mono (o.trans (p.trans (M.trans (N.trans (P.trans R)))))) (E':=[(Eb b 73 [v27,I a.Row,I a.Col,B a.Pending,B d.Auto])]) a1 ⟨b,v27,(tm D),rfl,(j.mono (M.trans (N.trans (P.trans R))))⟩;refine ⟨.inl rfl,dn (nrm<|Ru true<|RD ?_)⟩;cases H;exact Rz m0 ⟨a0,d0,e0,rfl⟩
def dG (p0:ai):Option ai:=
 some (⟨p0.Row,0,false⟩:ai)
theorem kp (f:Own c0 G F) (a:ai){r:ai}(H:dG a=some r): RU 149 #[.agg #[I a.Row,I a.Col,B a.Pending]] c0 fun c v=>Own c G F/\v= .agg #[I r.Row,I r.Col,B r.Pending]:=by
 unfold dG at H;refine en func149 rfl rfl<|sr<|me (bx 29 [I a.Row,I a.Col,B a.Pending] f) ?_;rintro v5 m o ⟨i,rfl,g,j⟩;refine me (al 29 [I 0,I 0,B false] g) ?_;rintro v9 n p ⟨l,rfl,h⟩;refine wln<|RB (Q i)<|vx (l1 u_3 ((mm j) 0 _ rfl))<|va (.agg #[I a.Row,I 0,B false])<|md (sA 29 [I a.Row,I 0,B false] 0 h ⟨rfl,rfl,rfl,trivial⟩) ?_;rintro d k b;refine RD ?_;cases H;have e:=b.sD 1 [];exact uj (c:=d) (vs:=[I a.Row,I 0,B false]) rfl (by kernel_rfl) (by kernel_rfl) (by kernel_rfl) (b.on 0 rfl _ rfl).1 ⟨_,d,rfl,rfl,pt,e,rfl⟩
def nT (p0:ai) (p1:Int):Option (ai×Bool):=
 (fh p1).bind fun a=>
 if decide (p0.Row>=(w64 (a-1))) then
 some ((⟨p0.Row,p0.Col,false⟩:ai),true)
 else
 some ((⟨(w64 (p0.Row+1)),p0.Col,false⟩:ai),false)
theorem pR (x:Own c0 G F) (a:ai) (f:Int){r:ai×Bool}(H:nT a f=some r): RU 283 #[.agg #[I a.Row,I a.Col,B a.Pending],I f] c0 fun c v=>Own c G F/\v= .tuple #[.agg #[I r.1.Row,I r.1.Col,B r.1.Pending],B r.2]:=by
 unfold nT at H;refine en func283 rfl rfl<|sr<|me (al 29 [I a.Row,I a.Col,B a.Pending] x) ?_;rintro v4 c3 l3 ⟨d,rfl,y⟩;refine me (al 29 [I 0,I 0,B false] y) ?_;rintro v8 c7 l7 ⟨Z,rfl,z⟩;refine Ri false<|RO<|Rs d 2<|md (sC 4 2 (B false) [I a.Row,I a.Col,B false] 1 z ⟨rfl,trivial⟩) ?_;rintro E P A;refine Rx<|W.seq<|rD [] (Kp G0 [(Eb d 29 [I a.Row,I a.Col,B false])]) A ?_;intro o R g;have t:=(Kp.cons (g.on 1 rfl) Kp.nil0);refine ta 0 (Q d)<|tkx 1 t (fun c' N D=>le1 0 u_3 (D.on 0 rfl)) (ta 2 (I f)<|bn H fun e q H=>o1 3 (gc 3 (nY g f q) ?_));rintro v20 p S ⟨b,rfl⟩;have u:=(Kp.cons (b.on 1 rfl) Kp.nil0);refine ⟨.inr u,ta 4 (I (w64 (e-1))) (ta 5 (B (decide (a.Row>=(w64 (e-1)))))<|dn (nrm<|cn H (fun s H=>?_) (fun s H=>?_)))⟩
 ·refine sr<|vx (leN 29 0 [I a.Row,I a.Col,B false] (b.on 1 rfl))<|md (sA 29 [I a.Row,I a.Col,B false] 0 b ⟨rfl,rfl,rfl,trivial⟩) ?_;rintro k T h;refine Ri true<|RD<|thr ?_;cases H;have m:=h.sD 2 [];exact xA (c:=k) (vs:=[I a.Row,I a.Col,B false]) (v:=B true) rfl (by kernel_rfl) (by kernel_rfl) (by kernel_rfl) (by kernel_rfl) (h.on 0 rfl _ rfl).1 ⟨_,k,rfl,rfl,pt,m,rfl⟩
 refine RG<|RB (Q d)<|vx (le1 0 u_3 (b.on 1 rfl))<|Rt (a.Row+1)<|va (Q d)<|md (sC 3 0 (I (w64 (a.Row+1))) [I (w64 (a.Row+1)),I a.Col,B false] 1 b ⟨rfl,trivial⟩) ?_;rintro M U i;refine RO<|vx (leN 29 0 [I (w64 (a.Row+1)),I a.Col,B false] (i.on 1 rfl))<|md (sA 29 [I (w64 (a.Row+1)),I a.Col,B false] 0 i ⟨rfl,rfl,rfl,trivial⟩) ?_;rintro l X j;refine Ri false<|RD ?_;cases H;have n:=j.sD 2 [];exact xA (c:=l) (vs:=[I (w64 (a.Row+1)),I a.Col,B false]) (v:=B false) rfl (by kernel_rfl) (by kernel_rfl) (by kernel_rfl) (by kernel_rfl) (j.on 0 rfl _ rfl).1 ⟨_,l,rfl,rfl,pt,n,rfl⟩
def fA (sg:Sto) (p0:Option Nat):Option Sto:=
 (gA sg p0).bind fun b=>
 if (!b.2)=true then
 some b.1
 else
 (p0).bind fun j=>
 (b.1.place_Pen[j]?).bind fun f=>
 (bM b.1 f.G).bind fun g=>
 (nT f.At g).bind fun e=>
 (p0).bind fun d=>
 (b.1.place_Pen[d]?).bind fun c=>
 (b.1.set_place_Pen d (⟨c.G,e.1,c.Auto⟩:bq)).bind fun a=>
 if e.2 then
 (bM a c.G).bind fun h=>
 (kW a c.G 0 h 1).bind fun i=>
 some i
 else
 some a
theorem oH (O0:Own c0 G F) (R0:Rel c0 sg G) (p0:Option Nat){r:Sto}(h2:Pt 2 c0 v1 p0) (H:fA sg p0=some r): RU 250 #[v1] c0 fun c v=>∃G_:Gm,Own c G_ F/\Rel c r G_/\v= .tuple #[]:=by
 unfold fA at H;refine en func250 rfl rfl<|W.seq<|RB v1<|bn H fun y2 h3 H=>cl (pA O0 R0 p0 h2 h3) ?_;rintro v9 c8 l8 ⟨d,O5,n,rfl⟩;refine Ri (!y2.2)<|RF H (fun d2 H=>?_) (fun d2 H=>?_)
 ·refine W.ret<|thr ?_;cases H;exact r0<|qq c8 ⟨d,O5,n,rfl⟩
 refine RG<|W.seq<|bn H fun n3 e2 H=>bn H fun e f2 H=>bn H fun j h0 H=>bn H fun a x H=>W.join (Jn c8 fun c l=>∃t,Own c d ((Eb t 29 [I a.1.Row,I a.1.Col,B a.1.Pending])::F)/\l= [(0,v1),(2,Q t),(3,B a.2)]) ?_ ?_
 ·clear H;refine rD [] (Kp d []) O5 ?_;intro p1 l16 q;have m0:=(Kp.nil q);refine ta 0 v1 ?_;obtain ⟨g,rfl,g2⟩:=((h2.mono (l8.trans l16))).get e2;refine ta 1 (Q g)<|ta 2 (Qo g 1) ?_;obtain ⟨v21,j0,i0⟩:=Rel.open_place_Pen (n.mono l16) f2 g2;refine tkx 3 m0 (fun c' z i=>leN 29 1 [I e.At.Row,I e.At.Col,B e.At.Pending] (i.gon j0 0 rfl)) (ta 4 (Q g)<|ta 5 (Q g)<|ta 6 (Q g)<|tkx 7 m0 (fun c' z i=>le1 0 jT (i.gon j0 0 rfl)) (mn2 8 13 ?_ ?_))
  ·refine gc 8 (bH q n.m e.G i0 h0) ?_;rintro v29 q1 o3 ⟨s,rfl⟩;have m2:=(Kp.nil s);refine ⟨.inr m2,mn2 9 13 ?_ ?_⟩
   ·refine gc 9 (pR s e.At j x) ?_;rintro v36 s1 p3 ⟨M,rfl⟩;have n2:=(Kp.nil M);refine ⟨.inr n2,ta 10 (.tuple #[.agg #[I a.1.Row,I a.1.Col,B a.1.Pending],B a.2]) (ta 11 (.agg #[I a.1.Row,I a.1.Col,B a.1.Pending])<|ta 12 (B a.2)<|o1 13 (gm 13 (al 29 [I 0,I 0,B false] M) ?_))⟩;rintro v41 t1 q3 ⟨k1,rfl,N⟩;have o2:=(Kp.nil N);refine ⟨.inr o2,o1 14 (gD 14 (sA 29 [I a.1.Row,I a.1.Col,B a.1.Pending] 0 N ⟨rfl,rfl,rfl,trivial⟩) ?_)⟩;rintro e0 s3 P;have p2:=(Kp.nil P);exact ⟨.inr p2,ta 15 (B a.2) (dn (nrm<|jn e0 ⟨k1,P,rfl⟩))⟩
   refine gm 13 (al 29 [I 0,I 0,B false] s) ?_;rintro v49 u1 t3 ⟨m1,rfl,R⟩;have q2:=(Kp.nil R);refine ⟨.inr q2,o1 9 (gc 9 (pR R e.At j x) ?_)⟩;rintro v56 w1 u3 ⟨S,rfl⟩;have s2:=(Kp.nil S);refine ⟨.inr s2,ta 10 (.tuple #[.agg #[I a.1.Row,I a.1.Col,B a.1.Pending],B a.2]) (ta 11 (.agg #[I a.1.Row,I a.1.Col,B a.1.Pending])<|ta 12 (B a.2)<|o1 14 (gD 14 (sA 29 [I a.1.Row,I a.1.Col,B a.1.Pending] 0 S ⟨rfl,rfl,rfl,trivial⟩) ?_))⟩;rintro f0 v3 T;have t2:=(Kp.nil T);exact ⟨.inr t2,ta 15 (B a.2) (dn (nrm<|jn f0 ⟨m1,T,rfl⟩))⟩
  refine gm 13 (al 29 [I 0,I 0,B false] q) ?_;rintro a4 x1 w3 ⟨n1,rfl,U⟩;have u2:=(Kp.nil U);refine ⟨.inr u2,o1 8 (gc 8 (bH U n.m e.G i0.m h0) ?_)⟩;rintro b4 y1 x3 ⟨X,rfl⟩;have v2:=(Kp.nil X);refine ⟨.inr v2,o1 9 (gc 9 (pR X e.At j x) ?_)⟩;rintro c4 z1 y3 ⟨Z,rfl⟩;have w2:=(Kp.nil Z);refine ⟨.inr w2,ta 10 (.tuple #[.agg #[I a.1.Row,I a.1.Col,B a.1.Pending],B a.2]) (ta 11 (.agg #[I a.1.Row,I a.1.Col,B a.1.Pending])<|ta 12 (B a.2)<|o1 14 (gD 14 (sA 29 [I a.1.Row,I a.1.Col,B a.1.Pending] 0 Z ⟨rfl,rfl,rfl,trivial⟩) ?_))⟩;rintro g0 z3 a0;have x2:=(Kp.nil a0);exact ⟨.inr x2,ta 15 (B a.2) (dn (nrm<|jn g0 ⟨n1,a0,rfl⟩))⟩
 rintro e_ w_ ⟨l3,m3,_,rfl,A,rfl,t,b0,rfl⟩;refine nrm<|RB v1<|vx (leN 29 0 [I a.1.Row,I a.1.Col,B a.1.Pending] (b0.on 0 rfl))<|bn H fun d3 i2 H=>?_;obtain ⟨b,rfl,k0⟩:=((h2.mono (l8.trans A))).get i2;refine va (Q b)<|Rs b 1<|bn H fun f j2 H=>?_;obtain ⟨E,k2,y⟩:=Rel.open_place_Pen (n.mono A) j2 k0;refine md (gB 29 1 [I a.1.Row,I a.1.Col,B a.1.Pending] [E,I a.1.Row,I a.1.Col,B a.1.Pending,B f.Auto] 0 b0 k2 ⟨rfl,rfl,rfl,trivial⟩) ?_;rintro c2 l0 j1;refine bn H fun h1 z0 H=>?_;obtain ⟨k,d0,h,u,b3⟩:=Rel.put_place_Pen j1 (n.mono (A.trans l0)) (E':=[(Eb b 73 [E,I a.1.Row,I a.1.Col,B a.1.Pending,B f.Auto])]) z0 ⟨b,E,(tm k0),rfl,(y.mono l0)⟩;refine wln<|Ru a.2<|RF H (fun a1 H=>?_) (fun a1 H=>?_)
 ·refine rD [9] (Kp k []) d0 ?_;intro w0 e3 o;have D:=(Kp.nil o);refine ta 0 (Q b)<|ta 1 (Q b)<|ta 2 (Q b)<|tkx 3 D (fun c' z i=>le1 0 jT (i.gon u 0 rfl)) (ta 4 (Q b)<|ta 5 (Q b)<|ta 6 (Q b)<|tkx 7 D (fun c' z i=>le1 0 jT (i.gon u 0 rfl)) (bn H fun g1 b1 H=>o1 8 (gc 8 (bH o h.m f.G y.m b1) ?_)));rintro i3 x0 f3 ⟨p,rfl⟩;have f1:=(Kp.nil p);refine ⟨.inr f1,bn H fun k3 c1 H=>o1 9 (gc 9 (sJ p h.m f.G 0 g1 1 y.m c1) ?_)⟩;rintro j3 y0 g3 ⟨o0,q0,u0,rfl⟩;refine ⟨.inl rfl,dn ?_⟩;cases H;have s0:=q0.sD 1 [];exact RN y0 ⟨o0,s0,u0,rfl⟩
 refine W.skip ?_;cases H;have t0:=d0.sD 1 [];exact RN c2 ⟨k,t0,h,rfl⟩
def fO (sg:Sto) (p0:Option Nat):Option Sto:=
 (p0).bind fun c=>
 (sg.place_Pen[c]?).bind fun e=>
 (bz sg e.G e.At.Row).bind fun f=>
 (ft sg f true).bind fun d=>
 (d.place_Pen[c]?).bind fun a=>
 (dG a.At).bind fun g=>
 (d.set_place_Pen c (⟨a.G,g,a.Auto⟩:bq)).bind fun b=>
 (fA b p0).bind fun h=>
 some h
theorem qt (O0:Own c0 G F) (n:Rel c0 sg G) (q:Option Nat){r:Sto}(U:Pt 2 c0 v1 q) (H:fO sg q=some r): RU 309 #[v1] c0 fun c v=>∃G_:Gm,Own c G_ F/\Rel c r G_/\v= .tuple #[]:=by
 unfold fO at H;refine en func309 rfl rfl<|W.seq<|rD [10] (Kp G []) O0 ?_;intro c3 l3 y;have p5:=(Kp.nil y);refine ta 0 v1<|bn H fun a1 h8 H=>?_;obtain ⟨b,rfl,o⟩:=((U.mono l3)).get h8;refine ta 1 (Q b)<|ta 2 (Q b)<|bn H fun l h9 H=>?_;obtain ⟨v10,h,R⟩:=Rel.open_place_Pen (n.mono l3) h9 o;refine tkx 3 p5 (fun c' f0 p=>le1 0 jT (p.gon h 0 rfl)) (ta 4 (Q b)<|ta 5 (Q b)<|ta 6 (Qo b 1)<|ta 7 (Qo b 1)<|tkx 8 p5 (fun c' f0 p=>le1 1 u_3 (p.gon h 0 rfl)) (bn H fun s S H=>o1 9 (gc 9 (dd y n.m l.G l.At.Row R S) ?_)));rintro v14 N b1 ⟨_,e,rfl,T⟩;have h0:=(Kp.nil e);refine ⟨.inr h0,bn H fun q0 X H=>o1 10 (gc 10 (ns e n.m s true T X) ?_)⟩;rintro v29 w0 c1 ⟨t0,f,g,rfl⟩;refine ⟨.inl rfl,dn (nrm<|sr<|vv (Q b)<|va (Q b)<|Rs b 1<|bn H fun d Z H=>?_)⟩;obtain ⟨v31,i,a0⟩:=Rel.open_place_Pen g Z (tm o);refine vx (leN 29 1 [I d.At.Row,I d.At.Col,B d.At.Pending] (f.gon i 0 rfl))<|bn H fun a b0 H=>cl (kp f d.At b0) ?_;rintro v40 x0 j ⟨x,rfl⟩;refine va (Q b)<|Rs b 1<|md (gB 29 1 [I a.Row,I a.Col,B a.Pending] [v31,I a.Row,I a.Col,B a.Pending,B d.Auto] 0 x i ⟨rfl,rfl,rfl,trivial⟩) ?_;rintro y0 k z;refine bn H fun t d0 H=>?_;obtain ⟨u0,A,E,z0,v0⟩:=Rel.put_place_Pen z (g.mono (j.trans k)) (E':=[(Eb b 73 [v31,I a.Row,I a.Col,B a.Pending,B d.Auto])]) d0 ⟨b,v31,(tm o),rfl,(a0.mono (j.trans k))⟩;refine wln<|Rv (Q b)<|bn H fun s0 e0 H=>cl (oH A E q U.m e0) ?_;rintro v55 P d1 ⟨u,D,M,rfl⟩;refine WL.nil ?_;cases H;exact RN P ⟨u,D,M,rfl⟩
def jP (sg:Sto) (p0:Option Nat) (p1:Int):Option Sto:=
 ((p0).bind fun k=>
 (sg.place_Pen[k]?).bind fun l=>
 if l.At.Pending then
 (fO sg p0).bind fun m=>
 some m
 else
 some sg).bind fun b=>
 (p0).bind fun d=>
 (b.place_Pen[d]?).bind fun a=>
 (cg b a.G).bind fun e=>
 (orE (p1==1) (some (decide (a.At.Col<(w64 (e-1)))))).bind fun f=>
 if f then
 some b
 else
 if a.Auto then
 (bz b a.G a.At.Row).bind fun g=>
 (eI 1).bind fun h=>
 (ei b g (w64 (e-1)) h).bind fun i=>
 (fO i.1 p0).bind fun j=>
 some j
 else
 (b.set_place_Pen d (⟨a.G,(⟨a.At.Row,(w64 (a.At.Col-1)),a.At.Pending⟩:ai),a.Auto⟩:bq)).bind fun c=>
 some c
theorem wt (T:Own c0 G F) (X:Rel c0 sg G) (hG:Gl [3,7] c0) (u:Option Nat) (n:Int){r:Sto}(t:Pt 2 c0 v1 u) (H:jP sg u n=some r): RU 287 #[v1,I n] c0 fun c v=>∃G_:Gm,Own c G_ F/\Rel c r G_/\v= .tuple #[]:=by
 unfold jP at H;refine en func287 rfl rfl<|bn H fun g2 g d=>W.seqJ (Jn c0 fun c l=>∃G_,Own c G_ F/\l= [(0,v1),(1,I n)]/\Rel c g2 G_) ?_ ?_
 ·refine RB v1<|bn g fun b3 h7 g=>?_;obtain ⟨s,rfl,h6⟩:=(t).get h7;refine va (Q s)<|Rs s 1<|Rs s 3<|bn g fun i3 h8 g=>?_;obtain ⟨v9,e1,z2⟩:=Rel.open_place_Pen X h8 h6;refine vx (le1 3 u_4 (T.gon e1 0 rfl))<|RF g (fun f1 g=>?_) (fun f1 g=>?_)
  ·refine Rv (Q s)<|bn g fun n3 g1 g=>cl (qt T X u t g1) ?_;rintro v19 w0 c3 ⟨h0,l0,t0,rfl⟩;refine wln ?_;cases g;exact jn w0 ⟨h0,l0,rfl,t0⟩
  refine RG ?_;cases g;exact jn c0 ⟨G,T,rfl,X⟩
 rintro e_ w_ ⟨v2,x2,_,rfl,b2,rfl,f,x,rfl,i⟩;refine RB v1<|bn d fun p2 h1 d=>?_;obtain ⟨a,rfl,E⟩:=((t.mono b2)).get h1;refine vv (Q a)<|bn d fun b i1 d=>?_;obtain ⟨v30,h,q⟩:=Rel.open_place_Pen i i1 E;refine vx (le1 0 jT (x.gon h 0 rfl))<|bn d fun e j1 d=>cl (cU x i b.G q j1) ?_;rintro v39 p N ⟨o,rfl⟩;refine Rq (e-1)<|wln<|W.block<|W.seq<|bn d fun a0 M d=>W.join (Jn p fun c l=>Own c f F/\l= [(0,Q a),(4,I (w64 (e-1))),(27,B a0)]) ?_ ?_
 ·clear d;refine RC n<|Ri (n==1) ?_;rcases bo (n==1) with k|k
  ·obtain rfl:=orT k M;exact vb k<|pz<|pz<|pz<|ps<|Rk true<|Ry p ⟨o,rfl⟩
  have k0:=orF k M;refine vb k<|wa (Q a)<|wa (Q a)<|wa (Qo a 1)<|wa (Qo a 2)<|wn<|vx (le1 2 u_3 (o.gon h 0 rfl))<|wa (I (w64 (e-1)))<|Rm (b.At.Col<(w64 (e-1))) ?_;cases k0;exact vv (B (decide (b.At.Col<(w64 (e-1)))))<|Ry p ⟨o,rfl⟩
 rintro e_ w_ ⟨x0,y2,_,rfl,P,rfl,j,rfl⟩;refine nrm<|cn d (fun k1 d=>?_) (fun k1 d=>?_)
 ·refine W.ret<|bkr ?_;cases d;exact r0<|qq x0 ⟨f,j,i.m,rfl⟩
 refine sr<|vv (Q a)<|Rs a 4<|vx (le1 4 u_4 (j.gon h 0 rfl))<|Ri b.Auto<|RF d (fun m1 d=>?_) (fun m1 d=>?_)
 ·refine W.seq<|rD [12] (Kp f []) j ?_;intro y0 d3 y;have S:=(Kp.nil y);refine ta 0 (Q a)<|ta 1 (Q a)<|ta 2 (Q a)<|tkx 3 S (fun c' z1 hk=>le1 0 jT (hk.gon h 0 rfl)) (ta 4 (Q a)<|ta 5 (Q a)<|ta 6 (Qo a 1)<|ta 7 (Qo a 1)<|tkx 8 S (fun c' z1 hk=>le1 1 u_3 (hk.gon h 0 rfl)) (ta 10 (I (w64 (e-1)))<|bn d fun e0 n1 d=>o1 9 (gc 9 (dd y i.m b.G b.At.Row q.m n1) ?_)));rintro v55 z0 e3 ⟨_,z,rfl,q1⟩;have d2:=(Kp.nil z);refine ⟨.inr d2,bn d fun f0 s1 d=>o1 11 (gc 11 (kF z 1 s1) ?_)⟩;rintro k3 a1 f3 ⟨_,j3,A,rfl,t1⟩;have e2:=(Kp.nil A);refine ⟨.inr e2,?_⟩;obtain ⟨b1,w1,c2,D,u1⟩:=A.frz 0 rfl t1;have f2:=(Kp.nil D);refine AC.gh w1 c2 (fun _=>f2) (bn d fun s2 x1 d=>o1 12 (gc 12 (ko D i.m (hG.m.le (by decide)) e0 (w64 (e-1)) f0 q1.m u1 x1) ?_));rintro l3 w2 g3 ⟨_,u2,m0,u0,rfl,a3⟩;refine ⟨.inl rfl,dn (nrm<|Rv (Q a)<|bn d fun t2 y1 d=>cl (qt m0 u0 u t.m y1) ?_)⟩;rintro m3 c1 h3 ⟨i0,o0,v0,rfl⟩;refine WL.nil<|bkn ?_;cases d;have q0:=o0.sD 1 [];exact RN c1 ⟨i0,q0,v0,rfl⟩
 refine W.region<|vv (Q a)<|Rs a 1<|Rs a 2<|vx (le1 2 u_3 (j.gon h 0 rfl))<|Rt (b.At.Col-1)<|va (Q a)<|Rs a 1<|Rs a 2<|md (gC 3 2 (I (w64 (b.At.Col-1))) [v30,I b.At.Row,I (w64 (b.At.Col-1)),B b.At.Pending,B b.Auto] 0 j h ⟨rfl,trivial⟩) ?_;rintro d1 R s0;refine bn d fun g0 b0 d=>?_;obtain ⟨j0,U,Z,l2,i2⟩:=Rel.put_place_Pen s0 (i.mono (N.trans (P.trans R))) (E':=[(Eb a 73 [v30,I b.At.Row,I (w64 (b.At.Col-1)),B b.At.Pending,B b.Auto])]) b0 ⟨a,v30,(tm E),rfl,(q.mono (N.trans (P.trans R)))⟩;refine WL.nil<|bkn ?_;cases d;exact RN d1 ⟨j0,U,Z,rfl⟩
def lf (p0:ai) (p1:Int) (p2:Int) (p3:Bool):Option ai:=
 (fh p2).bind fun a=>
 if (decide (p0.Col<(w64 (a-(bb 1 (aR p1 2))))))=true then
 some (⟨p0.Row,(w64 (p0.Col+(bb 1 (aR p1 2)))),false⟩:ai)
 else
 some (⟨p0.Row,(w64 (a-1)),p3⟩:ai)
theorem yv (s:Own c0 G F) (a:ai) (b:Int) (h:Int) (e:Bool){r:ai}(H:lf a b h e=some r): RU 289 #[.agg #[I a.Row,I a.Col,B a.Pending],I b,I h,B e] c0 fun c v=>Own c G F/\v= .agg #[I r.Row,I r.Col,B r.Pending]:=by
 unfold lf at H;refine en func289 rfl rfl<|sr<|me (bx 29 [I a.Row,I a.Col,B a.Pending] s) ?_;rintro v5 E N ⟨f,rfl,t,g⟩;refine me (al 29 [I 0,I 0,B false] t) ?_;rintro v9 M P ⟨D,rfl,u⟩;refine wln<|RA b<|Ro (aR b 2)<|Ro (bb 1 (aR b 2))<|Ro h<|bn H fun d p H=>cl (nY u h p) ?_;rintro v16 x y ⟨i,rfl⟩;refine Ro (bb 1 (aR b 2))<|Ro d<|Rx<|sr<|Rs f (0+1)<|vx (l1 u_3 ((mm g) 1 _ rfl))<|Ro d<|Ro (bb 1 (aR b 2))<|Rt (d-(bb 1 (aR b 2)))<|Rj (a.Col<(w64 (d-(bb 1 (aR b 2)))))<|RF H (fun q H=>?_) (fun q H=>?_)
 ·refine RB (Q f)<|vx (l1 u_3 ((mm g) 0 _ rfl))<|Rs f (0+1)<|vx (l1 u_3 ((mm g) 1 _ rfl))<|Ro (bb 1 (aR b 2))<|Rt (a.Col+(bb 1 (aR b 2)))<|va (.agg #[I a.Row,I (w64 (a.Col+(bb 1 (aR b 2)))),B false])<|md (sA 29 [I a.Row,I (w64 (a.Col+(bb 1 (aR b 2)))),B false] 0 i ⟨rfl,rfl,rfl,trivial⟩) ?_;rintro l z j;refine RD<|thr ?_;cases H;have n:=j.sD 1 [];exact uj (c:=l) (vs:=[I a.Row,I (w64 (a.Col+(bb 1 (aR b 2)))),B false]) rfl (by kernel_rfl) (by kernel_rfl) (by kernel_rfl) (j.on 0 rfl _ rfl).1 ⟨_,l,rfl,rfl,pt,n,rfl⟩
 refine RG<|RB (Q f)<|vx (l1 u_3 ((mm g) 0 _ rfl))<|Ro d<|Rt (d-1)<|Ri e<|va (.agg #[I a.Row,I (w64 (d-1)),B e])<|md (sA 29 [I a.Row,I (w64 (d-1)),B e] 0 i ⟨rfl,rfl,rfl,trivial⟩) ?_;rintro m A k;refine RD ?_;cases H;have o:=k.sD 1 [];exact uj (c:=m) (vs:=[I a.Row,I (w64 (d-1)),B e]) rfl (by kernel_rfl) (by kernel_rfl) (by kernel_rfl) (k.on 0 rfl _ rfl).1 ⟨_,m,rfl,rfl,pt,o,rfl⟩
def je (sg:Sto) (p0:Option Nat) (p1:Int) (p2:List Int):Option (Sto×ai):=
 (gA sg p0).bind fun d=>
 if (!d.2)=true then
 some (d.1,(⟨0,0,false⟩:ai))
 else
 ((p0).bind fun i=>
 (d.1.place_Pen[i]?).bind fun j=>
 (cg d.1 j.G).bind fun k=>
 if decide ((bb 1 (aR p1 2))>k) then
 some (1,([65533]:List Int))
 else
 some ((bb 1 (aR p1 2)),p2)).bind fun c=>
 (jP d.1 p0 c.1).bind fun f=>
 (p0).bind fun e=>
 (f.place_Pen[e]?).bind fun a=>
 (bz f a.G a.At.Row).bind fun l=>
 (mn f l a.At.Col c.1 c.2).bind fun g=>
 (g.1.place_Pen[e]?).bind fun b=>
 (cg g.1 b.G).bind fun m=>
 (lf (⟨a.At.Row,a.At.Col,false⟩:ai) c.1 m b.Auto).bind fun n=>
 (g.1.set_place_Pen e (⟨b.G,n,b.Auto⟩:bq)).bind fun h=>
 some (h,(⟨a.At.Row,a.At.Col,false⟩:ai))
theorem qW (O0:Own c0 G F) (R0:Rel c0 sg G) (hG:Gl [3,7] c0) (p0:Option Nat) (o:Int) (p2:List Int){r:Sto×ai}(h2:Pt 2 c0 v1 p0) (h4:Sl (RI .i32) c0 v3 p2) (H:je sg p0 o p2=some r): RU 257 #[v1,I o,v3] c0 fun c v=>∃G_:Gm,Own c G_ F/\Rel c r.1 G_/\v= .agg #[I r.2.Row,I r.2.Col,B r.2.Pending]:=by
 unfold je at H;refine en func257 rfl rfl<|sr<|me (al 29 [I 0,I 0,B false] O0) ?_;rintro v8 c7 l7 ⟨b5,rfl,O6⟩;refine Rx<|RB v1<|bn H fun u3 h9 H=>cl (pA O6 R0.m p0 h2.m h9) ?_;rintro v15 e2 u0 ⟨j0,R,P,rfl⟩;refine Ri (!u3.2)<|RF H (fun n2 H=>?_) (fun n2 H=>?_)
 ·refine RB (.agg #[I 0,I 0,B false])<|md (sA 29 [I 0,I 0,B false] 0 R ⟨rfl,rfl,rfl,trivial⟩) ?_;rintro t0 s4 k0;refine RD<|thr ?_;cases H;have u1:=k0.sD 1 [];exact uj (c:=t0) (vs:=[I 0,I 0,B false]) rfl (by kernel_rfl) (by kernel_rfl) (by kernel_rfl) (k0.on 0 rfl _ rfl).1 ⟨_,t0,rfl,rfl,pt,j0,u1,P.m,rfl⟩
 refine RG<|RA o<|Ro (aR o 2)<|vv (I (bb 1 (aR o 2)))<|wln<|bn H fun f g d=>W.seqJ (Jn e2 fun c l=>∃v22,Own c j0 ((Eb b5 29 [I 0,I 0,B false])::F)/\l= [(0,v1),(1,I f.1),(2,v22),(6,Q b5)]/\Sl (RI .i32) c v22 f.2) ?_ ?_
 ·refine RA (bb 1 (aR o 2))<|va v1<|bn g fun f4 q2 g=>?_;obtain ⟨s0,rfl,o2⟩:=((h2.mono (l7.trans u0))).get q2;refine vv (Q s0)<|bn g fun j1 s2 g=>?_;obtain ⟨v27,u2,t2⟩:=Rel.open_place_Pen P s2 o2;refine vx (le1 0 jT (R.gon u2 0 rfl))<|bn g fun n1 v2 g=>cl (cU R P j1.G t2 v2) ?_;rintro v36 f2 t4 ⟨l0,rfl⟩;refine Rj ((bb 1 (aR o 2))>n1)<|RF g (fun w2 g=>?_) (fun w2 g=>?_)
  ·refine W.region<|me (sl (RI .i32) 21 [[J 65533]] ([65533]:List Int) l0 ⟨rfl,trivial⟩) ?_;rintro v42 n4 u4 ⟨w4,w1,x2⟩;refine Ro 1<|va v42<|wln ?_;cases g;obtain ⟨g2,z2,v4,x1,y2⟩:=w1.frz 0 rfl x2;have y1:=x1.sD 2 [1];exact ⟨g2,_,_,z2.symm,pt,us,v42,y1,rfl,y2⟩
  refine RG ?_;cases g;exact jn f2 ⟨v3,l0,rfl,h4.m⟩
 rintro e_ w_ ⟨o4,q4,_,rfl,i3,rfl,v22,z1,rfl,a3⟩;refine RB v1<|Ro f.1<|bn d fun l4 b3 d=>cl (wt z1 P.m (hG.m.le (by decide)) p0 f.1 h2.m b3) ?_;rintro x4 p4 j3 ⟨j,b2,Z,rfl⟩;refine Rx<|rD [] (Kp j []) b2 ?_;intro i2 v0 m0;have w0:=(Kp.nil m0);refine ta 0 v1<|bn d fun g4 c3 d=>?_;obtain ⟨b,rfl,e0⟩:=((h2.mono (l7.trans (u0.trans (i3.trans (j3.trans v0)))))).get c3;refine ta 1 (Q b)<|ta 2 (Qo b 1)<|ta 3 (Qo b 1)<|bn d fun a d3 d=>?_;obtain ⟨y4,f0,e3⟩:=Rel.open_place_Pen (Z.mono v0) d3 e0;refine tkx 4 w0 (fun u k h=>le1 1 u_3 (h.gon f0 0 rfl)) (ta 5 (Q b)<|ta 6 (Q b)<|ta 7 (Qo b 1)<|ta 8 (Qo b 2)<|tkx 9 w0 (fun u k h=>le1 2 u_3 (h.gon f0 0 rfl)) (ta 10 (.agg #[I a.At.Row,I a.At.Col,B false])<|o1 11 (gm 11 (al 29 [I 0,I 0,B false] m0) ?_)));rintro z4 j2 l3 ⟨i,rfl,o0⟩;have q3:=(Kp.nil o0);refine ⟨.inr q3,o1 12 (gD 12 (sA 29 [I a.At.Row,I a.At.Col,B false] 0 o0 ⟨rfl,rfl,rfl,trivial⟩) ?_)⟩;rintro k2 m3 q0;have s3:=(Kp.nil q0);refine ⟨.inr s3,dn (RQ<|rD [11] (Kp j [(Eb i 29 [I a.At.Row,I a.At.Col,B false])]) q0 ?_)⟩;intro l2 n3 U;have g0:=(Kp.cons (U.on 0 rfl) (Kp.nil U));refine ta 0 (Q b)<|ta 1 (Q b)<|ta 2 (Q b)<|tkx 3 g0 (fun u k h=>le1 0 jT (h.gon f0 0 rfl)) (ta 4 (Q i)<|tkx 5 g0 (fun u k h=>le1 0 u_3 (h.on 0 rfl)) (ta 7 (Qo i 1)<|tkx 8 g0 (fun u k h=>le1 1 u_3 (h.on 0 rfl)) (ta 9 (I f.1)<|ta 10 v22<|bn d fun q1 f3 d=>o1 6 (gc 6 (dd U Z.m a.G a.At.Row e3.m f3) ?_))));rintro a5 m2 o3 ⟨_,X,rfl,g3⟩;have t3:=(Kp.cons (X.on 0 rfl) (Kp.nil X));refine ⟨.inr t3,bn d fun m4 h3 d=>o1 11 (gc 11 (yq X Z.m (hG.m.le (by decide)) q1 a.At.Col f.1 f.2 g3 a3.m h3) ?_)⟩;rintro c5 a4 i1 ⟨_,N,c2,a0,rfl,r4⟩;refine ⟨.inl rfl,dn (RQ<|rD [15] (Kp N [(Eb i 29 [I a.At.Row,I a.At.Col,B false])]) c2 ?_)⟩;intro b1 y p;have E:=(Kp.cons (p.on 0 rfl) (Kp.nil p));refine ta 0 (Q b)<|tkx 1 E (fun u k h=>leN 29 0 [I a.At.Row,I a.At.Col,B false] (h.on 0 rfl)) (ta 2 (I f.1)<|ta 3 (Q b)<|ta 4 (Q b)<|ta 5 (Q b)<|bn d fun n e1 d=>?_);obtain ⟨M,x,d0⟩:=Rel.open_place_Pen (a0.mono y) e1 (tm e0);refine tkx 6 E (fun u k h=>le1 0 jT (h.gon x 0 rfl)) (ta 8 (Q b)<|ta 9 (Q b)<|ta 10 (Qo b 4)<|tkx 11 E (fun u k h=>le1 4 u_4 (h.gon x 0 rfl)) (bn d fun s1 f1 d=>o1 7 (gc 7 (cU p a0.m n.G d0 f1) ?_)));rintro j4 c1 z ⟨q,rfl⟩;have k1:=(Kp.cons (q.on 0 rfl) (Kp.nil q));refine ⟨.inr k1,bn d fun e g1 d=>o1 12 (gc 12 (yv q (⟨a.At.Row,a.At.Col,false⟩:ai) f.1 s1 n.Auto g1) ?_)⟩;rintro k4 d1 A ⟨s,rfl⟩;have m1:=(Kp.cons (s.on 0 rfl) (Kp.nil s));refine ⟨.inr m1,ta 13 (Q b) (ta 14 (Qo b 1)<|o1 15 (gD 15 (gB 29 1 [I e.Row,I e.Col,B e.Pending] [M,I e.Row,I e.Col,B e.Pending,B n.Auto] 0 s x ⟨rfl,rfl,rfl,trivial⟩) ?_))⟩;rintro b4 D y0;refine bn d fun t1 h1 d=>?_;obtain ⟨x0,S,a1,c4,z3⟩:=Rel.put_place_Pen y0 (a0.mono (y.trans (z.trans (A.trans D)))) (E':=[(Eb b 73 [M,I e.Row,I e.Col,B e.Pending,B n.Auto])]) h1 ⟨b,M,((l3.trans (m3.trans (n3.trans (o3.trans (i1.trans (y.trans (z.trans (A.trans D)))))))).t _ _ _ e0),rfl,(d0.mono (z.trans (A.trans D)))⟩;refine ⟨.inl rfl,dn (nrm<|sr<|vx (leN 29 0 [I a.At.Row,I a.At.Col,B false] (S.on 0 rfl))<|md (sA 29 [I a.At.Row,I a.At.Col,B false] 1 S ⟨rfl,rfl,rfl,trivial⟩) ?_)⟩;rintro b0 i4 T;refine RD ?_;cases d;have z0:=T.sD 2 [];exact uj (c:=b0) (vs:=[I a.At.Row,I a.At.Col,B false]) rfl (by kernel_rfl) (by kernel_rfl) (by kernel_rfl) (T.on 1 rfl _ rfl).1 ⟨_,b0,rfl,rfl,pt,x0,z0,a1.m,rfl⟩
def bh (p0:Int):Option Int:=
 if decide (p0<1) then
 some 1
 else
 if decide (p0>1024) then
 some 1024
 else
 some p0
theorem lh (b:Own c0 G F) (a:Int){r:Int}(H:bh a=some r): RU 87 #[I a] c0 fun c v=>Own c G F/\v=I r:=by
 unfold bh at H;refine en func87 rfl rfl<|RA 0<|Rx<|RA a<|Rj (a<1)<|RF H (fun d H=>?_) (fun d H=>?_)
 ·refine RA 1<|RD<|thr ?_;cases H;exact Rz c0 ⟨b,rfl⟩
 refine RG<|W.seq<|RA a<|Rj (a>1024)<|RF H (fun e H=>?_) (fun e H=>?_)
 ·refine RA 1024<|RD<|thr ?_;cases H;exact Rz c0 ⟨b,rfl⟩
 refine RG<|sr<|vv (I a)<|RD ?_;cases H;exact Rz c0 ⟨b,rfl⟩
end Go.Proofs.YtkgjnbiiiifoaaaGreatDoor
namespace Go.Proofs.YtkgjnbiiiifoaaaGreatDoor
open Go Go.Lt
set_option maxRecDepth 10000
set_option linter.unusedVariables false
attribute [local irreducible] W WL AC
theorem vq {Q:Program}(w:World) (dT sT ty E:TypeId) (g o dLen dCap:Nat) (a:Addr) (sLen sCap n size:Nat) (us vs:List Value) (T:TypeId)
  (hu:Q.underlying dT=some (.slice E)) (hs:(Q.info? E).map (·.size)=some size) (hn:Nat.min sLen dLen=n) (hul:us.length=n*size)
  (hsrc:∀j v,us[j]? = some v->w.cell? (a.add j)=some v) (hrow:w.heap[g]? = some (.cells vs.toArray T (0,0))) (hl:o+us.length<=vs.length) (h1:∀v∈us,v.oneCell'=true):
  (Builtin.copy_ #[dT,sT] ty #[.slice (some ⟨g,o,none⟩) dLen dCap,.slice (some a) sLen sCap]).run Q w= .ok (goInt n) (w.setRow g (vs.take o++us++vs.drop (o+us.length)).toArray):=by
 obtain ⟨i,hi,hsz⟩:=Option.map_eq_some_iff.1 hs;have hf:=LS (P:=Q) (w:=w) size n a sLen sCap us hul hsrc;have hst:=A5 Q g o T us 0 vs.toArray w hrow (by simpa using hl) h1;simp only [rT] at hst;simp [Builtin.copy_,bU hu,Builtin.lenOf,sizeOf,typeInfo,hi,hsz,hn,hf,hst]
set_option maxHeartbeats 4000000 in
set_option maxRecDepth 100000 in
theorem ED {w:World}{g n cap i vb m vc:Nat}{vs us vs2:List Value}{T T2:TypeId}(hrow:w.heap[g]? = some (.cells vs.toArray T (0,0))) (hrow2:w.heap[vb]? = some (.cells vs2.toArray T2 (0,0)))
  (hi:i<n) (hm:0<m) (hroom:n+m<=cap) (hcap:cap*2<=vs.length) (hc63:cap<=9223372036854775807) (hvb:vb≠g) (hul:us.length=m*2) (hus:∀(j:Nat) (v:Value),us[j]? = some v->vs2[j]? = some v)
  (h1:∀v∈vs.take (n*2),v.oneCell'=true) (h2:∀v∈us,v.oneCell'=true):
  Calls Tryz.prog 217 #[.slice (some ⟨g,0,none⟩) n cap,.int .i64 i,.slice (some ⟨vb,0,none⟩) m vc] w fun e w'=>
   e= .returned (.slice (some ⟨g,0,none⟩) (n+m) cap)/\w'=(w.drew.setRow g (vs.take ((i+m)*2)++(vs.drop (i*2)).take ((n-i)*2)++vs.drop ((n+m)*2)).toArray).setRow g (vs.take (i*2)++us++(vs.drop (i*2)).take ((n-i)*2)++vs.drop ((n+m)*2)).toArray:=by
 have hsz:(Tryz.prog.info? 61).map (·.size)=some 2:=by kernel_rfl
 have hov:∀lb cb,(callFunc 261 #[.slice (some ⟨vb,0,none⟩) m vc,.slice (some ⟨g,(i+m)*2,none⟩) lb cb]).run Tryz.prog w= .ok (.value (.bool false)) w:=fun lb cb=>by
  rw [cW Tryz.func261 (by kernel_rfl) (by kernel_rfl) (by kernel_rfl) (e:=Extern.SlicesOverlaps.overlaps #[54,54] #[4]) (by kernel_rfl)];rw [Lib.run_overlaps_apart w 54 4 61 Tryz.underlying54 2 (fun w=>by kernel_rfl) ⟨vb,0,none⟩ ⟨g,(i+m)*2,none⟩ m vc lb cb hvb T2 T vs2.length vs.length (by simp [World.shape?,hrow2]) (by simp [World.shape?,hrow]) (by omega) (by simp [World.frozen?,hrow2]) (by simp [World.frozen?,hrow2])];rfl
 have hdl:((vs.drop (i*2)).take ((n-i)*2)).length=(n-i)*2:=by rw [aA,br]; omega
 have hcp1:∀ty dc sc,(Builtin.copy_ #[54,54] ty #[.slice (some ⟨g,(i+m)*2,none⟩) (n+m-(i+m)) dc,.slice (some ⟨g,i*2,none⟩) (n+m-i) sc]).run Tryz.prog w.drew= .ok (goInt ((n-i:Nat):Int)) (w.drew.setRow g (vs.take ((i+m)*2)++(vs.drop (i*2)).take ((n-i)*2)++vs.drop ((n+m)*2)).toArray):=fun ty dc sc=>by
  have:=vq (Q:=Tryz.prog) w.drew 54 54 ty 61 g ((i+m)*2) (n+m-(i+m)) dc ⟨g,i*2,none⟩ (n+m-i) sc (n-i) 2 ((vs.drop (i*2)).take ((n-i)*2)) vs T Tryz.underlying54 hsz (by simp only [DG]; split <;> omega) hdl
   (fun j v hj=>by
    rw [fD];rw [aT] at hj;split at hj
    ·rw [bO] at hj;rw [iu w.drew g (i*2+j) vs.toArray T (0,0) hrow,bL];exact hj
    ·cases hj) hrow (by rw [hdl]; omega) (fun v hv=>h1 v (by rw [show (n-i)*2=n*2-i*2 by omega,<-iz] at hv; exact kv hv))
  rw [hdl,show (i+m)*2+(n-i)*2=(n+m)*2 by omega] at this;exact this
 obtain ⟨W1,hW1⟩:∃W1,W1=w.drew.setRow g (vs.take ((i+m)*2)++(vs.drop (i*2)).take ((n-i)*2)++vs.drop ((n+m)*2)).toArray:=⟨_,rfl⟩;have hr1:W1.heap[g]? = some (.cells (vs.take ((i+m)*2)++(vs.drop (i*2)).take ((n-i)*2)++vs.drop ((n+m)*2)).toArray T (0,0)):=by
  rw [hW1];exact C9 w.drew g vs.toArray _ T (0,0) hrow
 have hr2:W1.heap[vb]? = some (.cells vs2.toArray T2 (0,0)):=by
  rw [hW1,JF w.drew g vb _ hvb];exact hrow2
 have hA2:(vs.take ((i+m)*2)++(vs.drop (i*2)).take ((n-i)*2)++vs.drop ((n+m)*2)).take (i*2)=vs.take (i*2):=by
  rw [aO,dP (by rw [aA]; omega),nx,cV (by omega)]
 have hA3:(vs.take ((i+m)*2)++(vs.drop (i*2)).take ((n-i)*2)++vs.drop ((n+m)*2)).drop (i*2+m*2)=(vs.drop (i*2)).take ((n-i)*2)++vs.drop ((n+m)*2):=by
  have hl:(vs.take ((i+m)*2)).length=i*2+m*2:=by rw [aA]; omega
  rw [aO,<-hl,lx]
 have hcp2:∀ty dc,(Builtin.copy_ #[54,54] ty #[.slice (some ⟨g,i*2,none⟩) (n+m-i) dc,.slice (some ⟨vb,0,none⟩) m vc]).run Tryz.prog W1= .ok (goInt m) (W1.setRow g (vs.take (i*2)++us++(vs.drop (i*2)).take ((n-i)*2)++vs.drop ((n+m)*2)).toArray):=fun ty dc=>by
  have:=vq (Q:=Tryz.prog) W1 54 54 ty 61 g (i*2) (n+m-i) dc ⟨vb,0,none⟩ m vc m 2 us _ T Tryz.underlying54 hsz (by simp only [DG]; split <;> omega) hul
   (fun j v hj=>by
    rw [fD,iu W1 vb (0+j) vs2.toArray T2 (0,0) hr2,bL,kr];exact hus j v hj) hr1 (by simp only [ax,aA,br]; omega) h2
  rw [hul,hA2,hA3,<-aO] at this;exact this
 rw [<-hW1] at hcp1|-;have hw1:IntKind.i64.wrap ((i:Int)+(m:Int))=(i:Int)+(m:Int):=by rw [C3]; omega
 have hb1:(0:Int)<=(i:Int)+(m:Int):=by omega
 have hin:i<=n:=by omega
 have hz1:¬((m:Int)=0):=by omega
 have hz2:¬((i:Int)=(n:Int)):=by omega
 have htn:((i:Int)+(m:Int)).toNat=i+m:=by omega
 have hb2:¬(cap=i+m):=by omega
 have hb3:(i:Int)<=(n:Int)+(m:Int):=by omega
 have hb4:¬(cap=i):=by omega
 have mixed:Tryz.prog.follows Departure.mixedOrders=true:=by kernel_rfl
 clear hA2 hA3 hr1 hr2 hW1 hdl h1 h2 hus hul
 go_enter Tryz.func217,Tryz.ntmps217
 go_wp2_with (simp only [hov])
 go_region_law_o (refine step_copy_runI rfl _ _ 54 54 rfl _ _ (by simp [Act.eval,Act.put]) (by simp [Act.eval,Act.put]) (hcp1 _ _ _) ?_)
 go_wp2_with (at_builtin; refine wpList_copy_runI _ rfl _ _ 54 54 rfl _ _ rfl rfl (hcp2 _ _) ?_)
 go_ret
 exact ⟨rfl,by simp only [aO]⟩
def po (k:Nat):List Value:=(Builtin.zeroCells (Value.agg #[.int .i64 0,.slice none 0 0]).cells k).toList
theorem qd (k:Nat):(po k).length=k*2:=by
 unfold po;rw [LW,qT];rfl
set_option maxHeartbeats 4000000 in
set_option maxRecDepth 100000 in
theorem Gv {w:World}{g n cap i vb m vc:Nat}{vs us vs2:List Value}{T T2:TypeId}(hrow:w.heap[g]? = some (.cells vs.toArray T (0,0))) (hrow2:w.heap[vb]? = some (.cells vs2.toArray T2 (0,0)))
  (hi:i<n) (hm:0<m) (hnc:n<=cap) (hroom:cap<n+m) (hcap:cap*2<=vs.length) (hbig:(n+m)*128<=140737488355328) (hul:us.length=m*2) (hus:∀(j:Nat) (v:Value),us[j]? = some v->vs2[j]? = some v)
  (h1:∀v∈vs.take (n*2),v.oneCell'=true) (h2:∀v∈us,v.oneCell'=true):
  Calls Tryz.prog 217 #[.slice (some ⟨g,0,none⟩) n cap,.int .i64 i,.slice (some ⟨vb,0,none⟩) m vc] w fun e w'=>
   e= .returned (.slice (some ⟨w.heap.size,0,none⟩) (n+m) (grownCap w (n+m) cap 61))/\
   w'=(((w.drew.alloc (.cells (vs.take (i*2)++po (n+m-i)++po (grownCap w (n+m) cap 61-(n+m))).toArray 61)).setRow w.heap.size (vs.take (i*2)++us++(po (n+m-i)++po (grownCap w (n+m) cap 61-(n+m))).drop (m*2)).toArray).drew).setRow w.heap.size
    (vs.take (i*2)++us++(vs.drop (i*2)).take ((n-i)*2)++(po (n+m-i)++po (grownCap w (n+m) cap 61-(n+m))).drop ((n+m-i)*2)).toArray:=by
 have hsz:(Tryz.prog.info? 61).map (·.size)=some 2:=by kernel_rfl
 obtain ⟨ti,hti,hzz⟩:=Option.map_eq_some_iff.1 (show (Tryz.prog.info? 61).map (fun i=>(i.zero,i.size,i.bytes))=some (some (Value.agg #[.int .i64 0,.slice none 0 0]),2,32) by kernel_rfl);simp only [ib] at hzz;obtain ⟨hz0,hz3,hz4⟩:=hzz;have hold:(Builtin.firstCells ti.size i (.slice (some ⟨g,0,none⟩) i cap)).run Tryz.prog w.drew= .ok (vs.take (i*2)).toArray w.drew:=by
  rw [hz3];exact LS w.drew 2 i ⟨g,0,none⟩ i cap (vs.take (i*2)) (by rw [aA]; omega) (fun j v hj=>by
   rw [fD,kr,iu w.drew g j vs.toArray T (0,0) hrow,bL];rw [aT] at hj;split at hj
   ·exact hj
   ·cases hj)
 obtain ⟨N,hN⟩:∃N,N=w.heap.size:=⟨_,rfl⟩;obtain ⟨Gc,hGc⟩:∃Gc,Gc=grownCap w (n+m) cap 61:=⟨_,rfl⟩;obtain ⟨Zs,hZs⟩:∃Zs,Zs=po (n+m-i)++po (Gc-(n+m)):=⟨_,rfl⟩;have hZl:Zs.length=(n+m-i)*2+(Gc-(n+m))*2:=by rw [hZs,ax,qd,qd]
 obtain ⟨W2,hW2⟩:∃W2,W2=w.drew.alloc (.cells (vs.take (i*2)++Zs).toArray 61):=⟨_,rfl⟩;have hkk:(n:Int)+(m:Int)-(i:Int)=((n+m-i:Nat):Int):=by omega
 have hrz:∀ty,(Builtin.append_ #[54,3] ty #[.slice (some ⟨g,0,none⟩) i cap,.int .i64 ((n:Int)+(m:Int)-(i:Int))]).run Tryz.prog w= .ok (.slice (some ⟨N,0,none⟩) (n+m) Gc) W2:=fun ty=>by
  have h:=Lib.run_append_grow_zeros (P:=Tryz.prog) w 54 3 ty 61 ti _ .i64 .i64 Tryz.underlying54 Tryz.underlying3 hti hz0 (some ⟨g,0,none⟩) i cap (vs.take (i*2)) hold (n+m-i) (by omega) (by omega) (by omega) (by omega) (by rw [hz4]; omega) (by rw [hz4,show i+(n+m-i)=n+m by omega]; exact growslice_fits hroom (by omega));rw [show i+(n+m-i)=n+m by omega] at h;rw [hkk,hN,hGc,hW2,h,hZs,<-hGc]
  congr 3
  rw [<-aO];apply Mp;simp [po]
 have hNg:g<N:=by rw [hN]; exact (Array.getElem?_eq_some_iff.1 hrow).1
 have hNv:vb<N:=by rw [hN]; exact (Array.getElem?_eq_some_iff.1 hrow2).1
 have r2N:W2.heap[N]? = some (.cells (vs.take (i*2)++Zs).toArray 61 (0,0)):=by
  rw [hW2,hN];exact xY w.drew _
 have r2g:W2.heap[g]? = some (.cells vs.toArray T (0,0)):=by
  rw [hW2,cf w.drew _ g (by rw [hN] at hNg; exact hNg)];exact hrow
 have r2v:W2.heap[vb]? = some (.cells vs2.toArray T2 (0,0)):=by
  rw [hW2,cf w.drew _ vb (by rw [hN] at hNv; exact hNv)];exact hrow2
 have ht:(vs.take (i*2)).length=i*2:=by rw [aA]; omega
 have hGe:n+m<=Gc:=by rw [hGc]; exact Lh w _ _ _
 obtain ⟨W3,hW3⟩:∃W3,W3=W2.setRow N (vs.take (i*2)++us++Zs.drop (m*2)).toArray:=⟨_,rfl⟩;have hcpA:∀ty dc,(Builtin.copy_ #[54,54] ty #[.slice (some ⟨N,i*2,none⟩) (n+m-i) dc,.slice (some ⟨vb,0,none⟩) m vc]).run Tryz.prog W2= .ok (goInt m) W3:=fun ty dc=>by
  have:=vq (Q:=Tryz.prog) W2 54 54 ty 61 N (i*2) (n+m-i) dc ⟨vb,0,none⟩ m vc m 2 us _ 61 Tryz.underlying54 hsz (by simp only [DG]; split <;> omega) hul
   (fun j v hj=>by
    rw [fD,iu W2 vb (0+j) vs2.toArray T2 (0,0) r2v,bL,kr];exact hus j v hj) r2N (by simp only [ax,ht,hZl]; omega) h2
  rw [hul,dP (by omega),aG (by omega),<-dH,List.drop_left' ht] at this;rw [hW3];exact this
 have r3N:W3.heap[N]? = some (.cells (vs.take (i*2)++us++Zs.drop (m*2)).toArray 61 (0,0)):=by
  rw [hW3];exact C9 W2 N _ _ _ (0,0) r2N
 have r3g:W3.heap[g]? = some (.cells vs.toArray T (0,0)):=by
  rw [hW3,JF W2 N g _ (by omega)];exact r2g
 have hcpB:∀ty dc sc,(Builtin.copy_ #[54,54] ty #[.slice (some ⟨N,(i+m)*2,none⟩) (n+m-(i+m)) dc,.slice (some ⟨g,i*2,none⟩) (n-i) sc]).run Tryz.prog W3.drew= .ok (goInt ((n-i:Nat):Int)) (W3.drew.setRow N (vs.take (i*2)++us++(vs.drop (i*2)).take ((n-i)*2)++Zs.drop ((n+m-i)*2)).toArray):=fun ty dc sc=>by
  have hdl:((vs.drop (i*2)).take ((n-i)*2)).length=(n-i)*2:=by rw [aA,br]; omega
  have hau:(vs.take (i*2)++us).length=(i+m)*2:=by rw [ax,ht,hul]; omega
  have:=vq (Q:=Tryz.prog) W3.drew 54 54 ty 61 N ((i+m)*2) (n+m-(i+m)) dc ⟨g,i*2,none⟩ (n-i) sc (n-i) 2 ((vs.drop (i*2)).take ((n-i)*2)) _ 61 Tryz.underlying54 hsz (by simp only [DG]; split <;> omega) hdl
   (fun j v hj=>by
    rw [fD];rw [aT] at hj;split at hj
    ·rw [bO] at hj;rw [iu W3.drew g (i*2+j) vs.toArray T (0,0) r3g,bL];exact hj
    ·cases hj) r3N (by rw [hdl,ax,hau,br,hZl]; omega) (fun v hv=>h1 v (by rw [show (n-i)*2=n*2-i*2 by omega,<-iz] at hv; exact kv hv))
  rw [hdl] at this;rw [this]
  congr 3
  rw [<-hau,Hm,<-dH,lx,dH,show m*2+(n-i)*2=(n+m-i)*2 by omega]
 have hN2:w.heap.size=N:=hN.symm;have hG2:grownCap w (n+m) cap 61=Gc:=hGc.symm;rw [hG2,<-hZs,show vs.take (i*2)++po (n+m-i)++po (Gc-(n+m))=vs.take (i*2)++Zs by rw [hZs,aO],hN2,<-hW2,<-hW3];have hG63:Gc<=9223372036854775807:=by
  have:=Ak w (n+m) cap 61 (by unfold maxLen; omega);rw [<-hGc] at this;unfold maxLen at this;omega
 have hGi:¬(Gc=i):=by omega
 have hGim:¬(Gc=i+m):=by omega
 have hci:¬(cap=i):=by omega
 have hw1:IntKind.i64.wrap ((i:Int)+(m:Int))=(i:Int)+(m:Int):=by rw [C3]; omega
 have hb1:(0:Int)<=(i:Int)+(m:Int):=by omega
 have hin:i<=n:=by omega
 have htn:((i:Int)+(m:Int)).toNat=i+m:=by omega
 have hb3:(i:Int)<=(n:Int):=by omega
 have hz1:¬((m:Int)=0):=by omega
 have hz2:¬((i:Int)=(n:Int)):=by omega
 have hz5:(cap:Int)<(n:Int)+(m:Int):=by omega
 have mixed:Tryz.prog.follows Departure.mixedOrders=true:=by kernel_rfl
 clear hkk hold hZs hZl hW2 hW3 r2N r2g r2v r3N r3g hN hN2 hG2 hGc ht hti hz0 hz3 hz4 h1 h2 hus hul hNg hNv hrow hrow2
 go_enter Tryz.func217,Tryz.ntmps217
 go_wp2_with (first
  | (at_builtin; refine Lib.wpList_append_run _ rfl _ _ _ _ rfl _ _ rfl rfl _ _ (hrz _) ?_)
  | (at_builtin; refine wpList_copy_runI _ rfl _ _ 54 54 rfl _ _ rfl rfl (hcpA _ _) ?_))
 go_region_law_o (refine step_copy_runI rfl _ _ 54 54 rfl (.slice (some ⟨N,(i+m)*2,none⟩) (n+m-(i+m)) (Gc-(i+m))) (.slice (some ⟨g,i*2,none⟩) (n-i) (cap-i)) (by simp [Act.eval,Act.put]) (by simp [Act.eval,Act.put]) (hcpB _ _ _) ?_)
 go_wp2
 go_ret
 exact ⟨rfl,by simp only [aO]⟩
section
variable {c c':Cx}{α:Type}{R:Rp α}
theorem _root_.Go.Lt.AR.take {vs:List Value}{xs:List α}(h:AR R c vs xs) (k:Nat):AR R c (vs.take (k*R.size)) (xs.take k):=fun i x hx=>by
 rw [aT] at hx;split at hx
 ·rename_i hik
  have hm:=kj (s:=R.size) hik;rw [iz,nx,cV (by omega)];exact h i x hx
 ·cases hx
theorem _root_.Go.Lt.AR.drop {vs:List Value}{xs:List α}(h:AR R c vs xs) (k:Nat):AR R c (vs.drop (k*R.size)) (xs.drop k):=fun i x hx=>by
 rw [bO] at hx;rw [dH,<-iw];exact h _ x hx
theorem _root_.Go.Lt.AR.more {vs ts:List Value}{xs:List α}(h:AR R c vs xs) (hl:xs.length*R.size<=vs.length):AR R c (vs++ts) xs:=fun i x hx=>by
 have hi:=(List.getElem?_eq_some_iff.1 hx).1;have hm:=kj (s:=R.size) hi;rw [jE (by omega)];exact h i x hx
theorem _root_.Go.Lt.AR.app {vs us:List Value}{xs ys:List α}(h:AR R c vs xs) (hl:vs.length=xs.length*R.size) (k:AR R c us ys):AR R c (vs++us) (xs++ys):=fun i x hx=>by
 rw [fM] at hx;split at hx
 ·rename_i hi
  have hm:=kj (s:=R.size) hi;rw [jE (by omega)];exact h i x hx
 ·rename_i hi
  rw [show i*R.size=vs.length+(i-xs.length)*R.size by rw [hl,<-iw]; congr 1; omega,<-dH,lx];exact k _ x hx
theorem _root_.Go.Lt.AR.ones {vs:List Value}{xs:List α}(h:AR R c vs xs) (hp:0<R.size):∀v∈vs.take (xs.length*R.size),v.oneCell'=true:=fun v hv=>by
 obtain ⟨j,hj⟩:=List.mem_iff_getElem?.1 hv;rw [aT] at hj;split at hj
 ·rename_i hlt
  have hq:j / R.size<xs.length:=by rw [Nat.div_lt_iff_lt_mul hp]; exact hlt
  have hc:=h _ _ (af hq);refine R.one hc v (List.mem_iff_getElem?.2 ⟨j % R.size,?_⟩);rw [aT,ae (Hl _ hp),bO,Nat.mul_comm,Nat.div_add_mod];exact hj
 ·cases hj
end
def km (p0:List aa) (p1:Int) (p2:List aa):Option (List aa):=if 0<=p1/\p1<p0.length/\1<=p2.length/\p0.length+p2.length<=far then some (p0.take p1.toNat++p2++p0.drop p1.toNat) else none
theorem _root_.Go.Lt.OA.some {c:Cx}{α:Type}{R:Rp α}{v:Value}{vs:List Value}{xs:List α}(h:OA R c v vs xs) (hn:1<=xs.length):∃g cap,v= .slice (some ⟨g,0,none⟩) xs.length cap/\xs.length<=cap/\cap<=maxLen/\cap*R.size<=vs.length/\AR R c vs xs:=by
 rcases h.2.1 with ⟨_,rfl⟩|⟨g,cap,h1,h2,h3,h4⟩
 ·simp at hn
 ·exact ⟨g,cap,h1,h2,h3,h4,h.2.2⟩
theorem wV {c0:Cx}{G:Gm}{F:List En}{v0 v2:Value}{u0 u2:List Value}(p0:List aa) (p1:Int) (p2:List aa) (O0:Own c0 G (es true aw v0 61 u0 p0::es true aw v2 61 u2 p2::F)) (h0:OA aw c0 v0 u0 p0) (h2:OA aw c0 v2 u2 p2){r:List aa}(H:km p0 p1 p2=some r): Calls Tryz.prog 217 #[v0,.int .i64 p1,v2] c0.w (aI c0 fun c v=>∃y1:Value,∃y2:List Value,Own c G (es true aw y1 61 y2 r::F)/\v=y1/\OA aw c y1 y2 r):=by
 unfold km at H;split at H
 ·rename_i hc;obtain ⟨hc1,hc2,hc3,hc4⟩:=hc;obtain ⟨i,rfl⟩:∃i:Nat,p1=(i:Int):=⟨p1.toNat,by omega⟩;rw [bS] at H;obtain rfl:=aL H;obtain ⟨g,cap,rfl,a1,a2,a3,a4⟩:=h0.some (by omega);obtain ⟨vb,vc,rfl,b1,b2,b3,b4⟩:=h2.some hc3;have hsz:aw.size=2:=rfl;have hon0:=O0.on 0 rfl g rfl;have hon2:=O0.on 1 rfl vb rfl;have hne:vb≠g:=fun e=>O0.m.2 (.inl 0) (.inl 1) _ _ rfl rfl (by simp) g rfl (by rw [<-e]; rfl);have o0:=a4.ones (by decide);have o2:=b4.ones (by decide);rw [hsz] at o0 o2 a3 b3;unfold maxLen at a2 b2;unfold far at hc4;have ht0:(u0.take (i*2)).length=i*2:=by rw [aA]; omega
  have ht2:(u2.take (p2.length*2)).length=p2.length*2:=by rw [aA]; omega
  have htl:((u0.drop (i*2)).take ((p0.length-i)*2)).length=(p0.length-i)*2:=by rw [aA,br]; omega
  have hus:∀(j:Nat) (v:Value),(u2.take (p2.length*2))[j]? = some v->u2[j]? = some v:=fun j v hj=>by
   rw [aT] at hj;split at hj
   ·exact hj
   ·cases hj
  have hAR:∀(c:Cx) (ts:List Value),c0.le c->AR aw c (u0.take (i*2)++u2.take (p2.length*2)++(u0.drop (i*2)).take ((p0.length-i)*2)++ts) (p0.take i++p2++p0.drop i):=fun c ts hle=>by
   have k0:AR aw c (u0.take (i*2)) (p0.take i):=(a4.take i).mono hle;have k2:AR aw c (u2.take (p2.length*2)) p2:=by
    have:=(b4.take p2.length).mono hle;rwa [aG (av p2.length)] at this
   have k1:AR aw c ((u0.drop (i*2)).take ((p0.length-i)*2)) (p0.drop i):=by
    have:=((a4.drop i).take (p0.length-i)).mono hle;rwa [aG (l:=p0.drop i) (by rw [br]; exact av _)] at this
   refine AR.more (AR.app (AR.app k0 ?_ k2) ?_ k1) ?_
   ·rw [ht0,aA,cV (by omega),hsz]
   ·rw [ax,ht0,ht2,ax,aA,cV (by omega),hsz,iw]
   ·simp only [ax];rw [ht0,ht2,htl,aA,br,cV (by omega),hsz];omega
  have hrl:(p0.take i++p2++p0.drop i).length=p0.length+p2.length:=by
   rw [ax,ax,aA,br];omega
  rcases aE cap (p0.length+p2.length) with hg|hg
  ·refine (Gv (vs:=u0) (us:=u2.take (p2.length*2)) (vs2:=u2) hon0.1 hon2.1 (by omega) (by omega) a1 hg a3 (by omega) ht2 hus o0 o2).mono ?_;rintro e w' ⟨rfl,rfl⟩;obtain ⟨Gc,hGc⟩:∃Gc,Gc=grownCap c0.w (p0.length+p2.length) cap 61:=⟨_,rfl⟩;have hGe:p0.length+p2.length<=Gc:=by rw [hGc]; exact Lh _ _ _ _
   have hGm:Gc<=maxLen:=by rw [hGc]; exact Ak _ _ _ _ (by unfold maxLen; omega)
   rw [<-hGc];obtain ⟨Zs,hZs⟩:∃Zs,Zs=po (p0.length+p2.length-i)++po (Gc-(p0.length+p2.length)):=⟨_,rfl⟩;have hZl:Zs.length=(p0.length+p2.length-i)*2+(Gc-(p0.length+p2.length))*2:=by rw [hZs,ax,qd,qd]
   rw [aO (u0.take (i*2)),<-hZs];have hd:=Cx.drew_le c0;obtain ⟨c1,e1,e2,e3,e4,e5⟩:=Cx.new ⟨c0.w.drew,c0.A,c0.t⟩ (u0.take (i*2)++Zs) 61 0;have O1:=Own.cons (O0.keep hd) e2 (fun _=>id) (e:=⟨.slice (some ⟨c0.w.heap.size,0,none⟩) (p0.length+p2.length) Gc,61,u0.take (i*2)++Zs,0⟩) (fun b hb=>by
    simp only [blk,aK] at hb;subst hb;exact ⟨e3,e5⟩) (fun b hb=>by
    simp only [blk,aK] at hb;subst hb;exact av _)
   obtain ⟨c2,f1,f2,f3,f4⟩:=Cx.row (m:=u0.take (i*2)++u2.take (p2.length*2)++Zs.drop (p2.length*2)) e3 0 e5 (fun o ho=>by omega) 0 (av _);have O2:=Own.set O1 0 rfl f2 (fun b hb=>by rw [hb]; rfl) (e':=⟨.slice (some ⟨c0.w.heap.size,0,none⟩) (p0.length+p2.length) Gc,61,u0.take (i*2)++u2.take (p2.length*2)++Zs.drop (p2.length*2),0⟩) (fun b hb=>by
    simp only [blk,aK] at hb;subst hb;exact ⟨f3,f4⟩) (fun b hb=> .inl hb)
   have hd2:=Cx.drew_le c2;obtain ⟨c3,g1,g2,g3,g4⟩:=Cx.row (c:=⟨c2.w.drew,c2.A,c2.t⟩) (m:=u0.take (i*2)++u2.take (p2.length*2)++(u0.drop (i*2)).take ((p0.length-i)*2)++Zs.drop ((p0.length+p2.length-i)*2)) (T:=61) (b:=c0.w.heap.size) f3 0 f4 (fun o ho=>by omega) 0 (av _);have O3:=Own.set (O2.keep hd2) 0 rfl g2 (fun b hb=>by rw [hb]; rfl) (e':=es true aw (.slice (some ⟨c0.w.heap.size,0,none⟩) (p0.length+p2.length) Gc) 61 (u0.take (i*2)++u2.take (p2.length*2)++(u0.drop (i*2)).take ((p0.length-i)*2)++Zs.drop ((p0.length+p2.length-i)*2)) (p0.take i++p2++p0.drop i)) (fun b hb=>by
    simp only [es,blk,aK] at hb;subst hb;exact ⟨g3,g4⟩) (fun b hb=> .inl hb)
   have hle:=hd.le.trans (e2.le.trans (f2.le.trans (hd2.le.trans g2.le)));have O4:=O3.selD 3 [0] (by kernel_rfl) (by kernel_rfl);refine ⟨_,c3,rfl,by rw [g1]; show _=(c2.w.drew).setRow _ _; rw [f1,e1]; rfl,hle,_,_,O4,rfl,by decide,.inr ⟨_,Gc,by rw [hrl],by rw [hrl]; exact hGe,hGm,?_⟩,hAR c3 _ hle⟩;rw [hsz,ax,ax,ax,ht0,ht2,htl,br,hZl];omega
  ·refine (ED (vs:=u0) (us:=u2.take (p2.length*2)) (vs2:=u2) hon0.1 hon2.1 (by omega) (by omega) hg a3 a2 hne ht2 hus o0 o2).mono ?_;rintro e w' ⟨rfl,rfl⟩;have hd:=Cx.drew_le c0;obtain ⟨c2,f1,f2,f3,f4⟩:=Cx.row (c:=⟨c0.w.drew,c0.A,c0.t⟩) (l:=u0) (T:=61) (b:=g) (m:=u0.take ((i+p2.length)*2)++(u0.drop (i*2)).take ((p0.length-i)*2)++u0.drop ((p0.length+p2.length)*2)) hon0.1 0 hon0.2 (fun o ho=>by omega) 0 (av _);have O2:=Own.set (O0.keep hd) 0 rfl f2 (fun b hb=>by rw [hb]; rfl) (e':=⟨.slice (some ⟨g,0,none⟩) p0.length cap,61,u0.take ((i+p2.length)*2)++(u0.drop (i*2)).take ((p0.length-i)*2)++u0.drop ((p0.length+p2.length)*2),0⟩) (fun b hb=>by
    simp only [blk,aK] at hb;subst hb;exact ⟨f3,f4⟩) (fun b hb=> .inl hb)
   obtain ⟨c3,g1,g2,g3,g4⟩:=Cx.row (c:=c2) (m:=u0.take (i*2)++u2.take (p2.length*2)++(u0.drop (i*2)).take ((p0.length-i)*2)++u0.drop ((p0.length+p2.length)*2)) (T:=61) (b:=g) f3 0 f4 (fun o ho=>by omega) 0 (av _);have O3:=Own.set O2 0 rfl g2 (fun b hb=>by rw [hb]; rfl) (e':=es true aw (.slice (some ⟨g,0,none⟩) (p0.length+p2.length) cap) 61 (u0.take (i*2)++u2.take (p2.length*2)++(u0.drop (i*2)).take ((p0.length-i)*2)++u0.drop ((p0.length+p2.length)*2)) (p0.take i++p2++p0.drop i)) (fun b hb=>by
    simp only [es,blk,aK] at hb;subst hb;exact ⟨g3,g4⟩) (fun b hb=> .inl hb)
   have hle:=hd.le.trans (f2.le.trans g2.le);have O4:=O3.selD 2 [0] (by kernel_rfl) (by kernel_rfl);refine ⟨_,c3,rfl,by rw [g1,f1],hle,_,_,O4,rfl,by decide,.inr ⟨g,cap,by rw [hrl],by rw [hrl]; exact hg,by unfold maxLen; exact a2,?_⟩,hAR c3 _ hle⟩;rw [hsz,ax,ax,ax,ht0,ht2,htl,br];omega
 ·cases H
theorem Gx (k:Nat):∀v∈po k,v.oneCell'=true:=fun v hv=>by
 unfold po Builtin.zeroCells at hv;simp only [MG,List.mem_map] at hv;obtain ⟨a,_,rfl⟩:=hv;have h2:(Value.agg #[.int .i64 0,.slice none 0 0]).cells= #[.int .i64 0,.slice none 0 0]:=rfl;rw [h2];show (#[Value.int .i64 0,Value.slice none 0 0][a % 2]!).oneCell'=true;rcases Nat.mod_two_eq_zero_or_one a with h|h <;> rw [h] <;> rfl
theorem uI {P:Program}{ops:Array Oper}{o:Oper}{a:Act}{w:World}{K:Act->World->Prop}{Q:Exit->Act->World->Prop}{E:Prop}
  (hg:o.guard=none) (d x:Operand) (dT sT:TypeId) (hop:o.op=Op.call { callee:=Callee.builtin Builtin.append,args:= #[d,x],argTypes:= #[dT,sT]})
  (v u:Value) (hd:a.eval d=v) (hx:a.eval x=u){v':Value}{w':World}(hr:(Builtin.append_ #[dT,sT] o.type #[v,u]).run P w= .ok v' w') (hK:K (a.put o.dst v') w'):
  if Region.wanted o (yielded ops a.tmps)=true then Oper.wp P o a w K Q else E:=by
 have hw:Region.wanted o (yielded ops a.tmps)=true:=by simp [Region.wanted,hg]
 rw [ae hw];unfold Oper.wp;simp [execOp,hop,resolve,invoke,builtin,hd,hx,hr,Result.andThen];exact hK
theorem uF {P:Program}(w:World){ops:Array Oper}{rest:List Oper}{o:Oper}{a:Act}{Q:Exit->Act->World->Prop}(hgd:o.guard=none) (d:Operand) (t:TypeId)
  (ho:o.op= .call { callee:= .builtin .clear,args:= #[d],argTypes:= #[t]}) (v:Value) (hd:a.eval d=v){v':Value}{w':World}
  (hr:(Builtin.clear_ #[t] o.type #[v]).run P w= .ok v' w') (h:wpList P ops Q rest (a.put o.dst v') w'):wpList P ops Q (o::rest) a w:=
 wpList_plain hgd fun _ hK=>by
  unfold Oper.wp execOp;simp only [ho,resolve,invoke,builtin,gZ,Ce,pf,List.map_toArray,zE,List.map_nil,hd,hr];exact hK _ _ h
theorem EO {Q:Program}(w:World) (t ty E:TypeId) (g o k c:Nat) (z:Value) (vs:List Value) (T:TypeId) (hk:k≠0)
  (hu:Q.underlying t=some (.slice E)) (hz:∀w,(zeroValue E).run Q w= .ok z w) (hrow:w.heap[g]? = some (.cells vs.toArray T (0,0))) (hl:o+(Builtin.zeroCells z.cells k).toList.length<=vs.length) (h1:∀v∈(Builtin.zeroCells z.cells k).toList,v.oneCell'=true):
  (Builtin.clear_ #[t] ty #[.slice (some ⟨g,o,none⟩) k c]).run Q w= .ok (.tuple #[]) (w.setRow g (vs.take o++(Builtin.zeroCells z.cells k).toList++vs.drop (o+(Builtin.zeroCells z.cells k).toList.length)).toArray):=by
 have hst:=A5 Q g o T (Builtin.zeroCells z.cells k).toList 0 vs.toArray w hrow (by simpa using hl) h1;simp only [rT] at hst
 cases k with
 | zero=>exact absurd rfl hk
 | succ k=>
  simp [Builtin.clear_,bU hu,hz,hst]
set_option maxHeartbeats 4000000 in
set_option maxRecDepth 100000 in
theorem IP {w:World}{g n cap i j:Nat}{vs:List Value}(hrow:w.heap[g]? = some (.cells vs.toArray 61 (0,0)))
  (hij:i<j) (hjn:j<=n) (hnc:n<=cap) (hcap:cap*2<=vs.length) (hc63:cap<=9223372036854775807) (h1:∀v∈vs.take (n*2),v.oneCell'=true):
  Calls Tryz.prog 220 #[.slice (some ⟨g,0,none⟩) n cap,.int .i64 i,.int .i64 j] w fun e w'=>
   e= .returned (.slice (some ⟨g,0,none⟩) (i+(n-j)) cap)/\w'=(w.drew.setRow g (vs.take (i*2)++(vs.drop (j*2)).take ((n-j)*2)++vs.drop ((i+(n-j))*2)).toArray).setRow g
    (vs.take (i*2)++(vs.drop (j*2)).take ((n-j)*2)++po (j-i)++vs.drop (n*2)).toArray:=by
 obtain ⟨ti,hti,hzz⟩:=Option.map_eq_some_iff.1 (show (Tryz.prog.info? 61).map (fun i=>i.size)=some 2 by kernel_rfl);have hul:((vs.drop (j*2)).take ((n-j)*2)).length=(n-j)*2:=by rw [aA,br]; omega
 have ht:(vs.take (i*2)).length=i*2:=by rw [aA]; omega
 obtain ⟨W1,hW1⟩:∃W1,W1=w.drew.setRow g (vs.take (i*2)++(vs.drop (j*2)).take ((n-j)*2)++vs.drop ((i+(n-j))*2)).toArray:=⟨_,rfl⟩;have hap:∀ty a k,(∀x v,((vs.drop (j*2)).take ((n-j)*2))[x]? = some v->w.drew.cell? (a.add x)=some v)->
   (Builtin.append_ #[54,54] ty #[.slice (some ⟨g,0,none⟩) i cap,.slice (some a) (n-j) k]).run Tryz.prog w.drew= .ok (.slice (some ⟨g,0,none⟩) (i+(n-j)) cap) W1:=fun ty a k hx=>by
  have:=MH (P:=Tryz.prog) w.drew 54 ty 61 ti Tryz.underlying54 hti g i cap vs.toArray hrow a (n-j) k ((vs.drop (j*2)).take ((n-j)*2)) (by rw [hul,hzz]) hx (fun v hv=>h1 v (by rw [show (n-j)*2=n*2-j*2 by omega,<-iz] at hv; exact kv hv)) (by omega) (by rw [hzz,hul]; simp; omega);rw [this,hW1,hzz,hul];simp only [List.toList_toArray,ue];rw [show i*2+(n-j)*2=(i+(n-j))*2 by omega]
 have hr1:W1.heap[g]? = some (.cells (vs.take (i*2)++(vs.drop (j*2)).take ((n-j)*2)++vs.drop ((i+(n-j))*2)).toArray 61 (0,0)):=by
  rw [hW1];exact C9 w.drew g vs.toArray _ 61 (0,0) hrow
 have hau:(vs.take (i*2)++(vs.drop (j*2)).take ((n-j)*2)).length=(i+(n-j))*2:=by rw [ax,ht,hul]; omega
 have hcl:∀ty c,(Builtin.clear_ #[54] ty #[.slice (some ⟨g,(i+(n-j))*2,none⟩) (n-(i+(n-j))) c]).run Tryz.prog W1= .ok (.tuple #[]) (W1.setRow g (vs.take (i*2)++(vs.drop (j*2)).take ((n-j)*2)++po (j-i)++vs.drop (n*2)).toArray):=fun ty c=>by
  have hzl:=qd (j-i);unfold po at hzl;have:=EO (Q:=Tryz.prog) W1 54 ty 61 g ((i+(n-j))*2) (j-i) c (Value.agg #[.int .i64 0,.slice none 0 0]) _ 61 (by omega) Tryz.underlying54 (fun w=>by kernel_rfl) hr1 (by rw [hzl,ax,hau,br]; omega) (fun v hv=>by
   exact Gx _ v hv)
  rw [hzl] at this;rw [show n-(i+(n-j))=j-i by omega,this]
  congr 3
  rw [<-hau,Hm,<-dH,lx,dH,hau,show (i+(n-j))*2+(j-i)*2=n*2 by omega];rfl
 have hcell:∀(x:Nat) (v:Value),((vs.drop (j*2)).take ((n-j)*2))[x]? = some v->w.drew.cell? ((⟨g,j*2,none⟩:Addr).add x)=some v:=fun x v hx=>by
  rw [fD];rw [aT] at hx;split at hx
  ·rw [bO] at hx;rw [iu w.drew g (j*2+x) vs.toArray 61 (0,0) hrow,bL];exact hx
  ·cases hx
 have hnil:cap=j->∀(x:Nat) (v:Value),((vs.drop (j*2)).take ((n-j)*2))[x]? = some v->w.drew.cell? ((⟨g,0,none⟩:Addr).add x)=some v:=fun e x v hx=>by
  rw [show (n-j)*2=0 by omega,iy] at hx;cases hx
 have hWW:cap=j->W1=w.drew:=fun e=>by
  rw [hW1,show n-j=0 by omega,wy,iy,dY,rT,KJ];exact setRow_self w.drew g vs.toArray _ (0,0) hrow
 have hap1:=fun ty k=>hap ty ⟨g,j*2,none⟩ k hcell;have hap2:=fun (e:cap=j) ty k=>hap ty ⟨g,0,none⟩ k (hnil e);rw [<-hW1];have hmixed:Tryz.prog.follows Departure.mixedOrders=true:=by kernel_rfl
 have z1:¬((i:Int)=(j:Int)):=by omega
 have z2:(0:Int)<=(i:Int):=by omega
 have z3:(i:Int)<=(j:Int):=by omega
 have z4:(j:Int)<=(n:Int):=by omega
 have z5:¬(cap=i+(n-j)):=by omega
 have z6:i<=cap:=by omega
 have z7:j<=cap:=by omega
 have z8:i+(n-j)<=n:=by omega
 have z9:n<=cap:=hnc;have z10:¬(n=i):=by omega
 clear hW1 hul ht hr1 hau hap hcell hnil h1 hti hzz hcap hrow
 by_cases hcj:cap=j
 ·have hap3:=hap2 hcj
  clear hap1 hap2 hWW
  subst hcj;obtain rfl:n=cap:=by omega
  simp only [nF,rT,wy,iy,dY] at hap3 hcl z5|-
  go_enter Tryz.func220,Tryz.ntmps220
  go_wp2_with fail
  go_region_law_o (refine uI rfl (.tmp 22) (.tmp 25) 54 54 rfl (.slice (some ⟨g,0,none⟩) i n) (.slice (some ⟨g,0,none⟩) 0 0) (by simp [Act.eval,Act.put]) (by simp [Act.eval,Act.put]) (hap3 _ _) ?_)
  go_wp2_with (at_builtin; refine uF _ rfl _ 54 rfl _ rfl (hcl _ _) ?_)
  go_ret
  exact ⟨rfl,by simp only [aO]⟩
 ·clear hap2 hWW
  go_enter Tryz.func220,Tryz.ntmps220
  go_wp2_with fail
  go_region_law_o (refine uI rfl (.tmp 22) (.tmp 25) 54 54 rfl (.slice (some ⟨g,0,none⟩) i cap) (.slice (some ⟨g,j*2,none⟩) (n-j) (cap-j)) (by simp [Act.eval,Act.put]) (by simp [Act.eval,Act.put]) (hap1 _ _) ?_)
  go_wp2_with (at_builtin; refine uF _ rfl _ 54 rfl _ rfl (hcl _ _) ?_)
  go_ret
  exact ⟨rfl,by simp only [aO]⟩
def kn (p0:List aa) (p1 p2:Int):Option (List aa):=if 0<=p1/\p1<p2/\p2<=p0.length then some (p0.take p1.toNat++p0.drop p2.toNat) else none
theorem wW {c0:Cx}{G:Gm}{F:List En}{v0:Value}{u0:List Value}(p0:List aa) (p1 p2:Int) (O0:Own c0 G (es true aw v0 61 u0 p0::F)) (h0:OA aw c0 v0 u0 p0){r:List aa}(H:kn p0 p1 p2=some r): Calls Tryz.prog 220 #[v0,.int .i64 p1,.int .i64 p2] c0.w (aI c0 fun c v=>∃y1:Value,∃y2:List Value,Own c G (es true aw y1 61 y2 r::F)/\v=y1/\OA aw c y1 y2 r):=by
 unfold kn at H;split at H
 ·rename_i hc;obtain ⟨hc1,hc2,hc3⟩:=hc;obtain ⟨i,rfl⟩:∃i:Nat,p1=(i:Int):=⟨p1.toNat,by omega⟩;obtain ⟨j,rfl⟩:∃j:Nat,p2=(j:Int):=⟨p2.toNat,by omega⟩;rw [bS,bS] at H;obtain rfl:=aL H;obtain ⟨g,cap,rfl,a1,a2,a3,a4⟩:=h0.some (by omega);have hsz:aw.size=2:=rfl;have hon0:=O0.on 0 rfl g rfl;have o0:=a4.ones (by decide);rw [hsz] at o0 a3;unfold maxLen at a2;have ht0:(u0.take (i*2)).length=i*2:=by rw [aA]; omega
  have htl:((u0.drop (j*2)).take ((p0.length-j)*2)).length=(p0.length-j)*2:=by rw [aA,br]; omega
  have hrl:(p0.take i++p0.drop j).length=i+(p0.length-j):=by
   rw [ax,aA,br];omega
  have hAR:∀(c:Cx) (ts:List Value),c0.le c->AR aw c (u0.take (i*2)++(u0.drop (j*2)).take ((p0.length-j)*2)++ts) (p0.take i++p0.drop j):=fun c ts hle=>by
   have k0:AR aw c (u0.take (i*2)) (p0.take i):=(a4.take i).mono hle;have k1:AR aw c ((u0.drop (j*2)).take ((p0.length-j)*2)) (p0.drop j):=by
    have:=((a4.drop j).take (p0.length-j)).mono hle;rwa [aG (l:=p0.drop j) (by rw [br]; exact av _)] at this
   refine AR.more (AR.app k0 ?_ k1) ?_
   ·rw [ht0,aA,cV (by omega),hsz]
   ·rw [hrl,hsz,ax,ht0,htl];omega
  refine (IP (vs:=u0) hon0.1 (by omega) (by omega) a1 a3 (by omega) o0).mono ?_;rintro e w' ⟨rfl,rfl⟩;have hd:=Cx.drew_le c0;obtain ⟨c2,f1,f2,f3,f4⟩:=Cx.row (c:=⟨c0.w.drew,c0.A,c0.t⟩) (l:=u0) (T:=61) (b:=g) (m:=u0.take (i*2)++(u0.drop (j*2)).take ((p0.length-j)*2)++u0.drop ((i+(p0.length-j))*2)) hon0.1 0 hon0.2 (fun o ho=>by omega) 0 (av _);have O2:=Own.set (O0.keep hd) 0 rfl f2 (fun b hb=>by rw [hb]; rfl) (e':=⟨.slice (some ⟨g,0,none⟩) p0.length cap,61,u0.take (i*2)++(u0.drop (j*2)).take ((p0.length-j)*2)++u0.drop ((i+(p0.length-j))*2),0⟩) (fun b hb=>by
   simp only [blk,aK] at hb;subst hb;exact ⟨f3,f4⟩) (fun b hb=> .inl hb)
  obtain ⟨c3,g1,g2,g3,g4⟩:=Cx.row (c:=c2) (m:=u0.take (i*2)++(u0.drop (j*2)).take ((p0.length-j)*2)++po (j-i)++u0.drop (p0.length*2)) (T:=61) (b:=g) f3 0 f4 (fun o ho=>by omega) 0 (av _);have O3:=Own.set O2 0 rfl g2 (fun b hb=>by rw [hb]; rfl) (e':=es true aw (.slice (some ⟨g,0,none⟩) (i+(p0.length-j)) cap) 61 (u0.take (i*2)++(u0.drop (j*2)).take ((p0.length-j)*2)++po (j-i)++u0.drop (p0.length*2)) (p0.take i++p0.drop j)) (fun b hb=>by
   simp only [es,blk,aK] at hb;subst hb;exact ⟨g3,g4⟩) (fun b hb=> .inl hb)
  have hle:=hd.le.trans (f2.le.trans g2.le);refine ⟨_,c3,rfl,by rw [g1,f1],hle,_,_,O3,rfl,by decide,.inr ⟨g,cap,by rw [hrl],by rw [hrl]; omega,by unfold maxLen; exact a2,?_⟩,?_⟩
  ·rw [hsz,ax,ax,ax,ht0,htl,qd,br];omega
  ·rw [aO];exact hAR c3 _ hle
 ·cases H
end Go.Proofs.YtkgjnbiiiifoaaaGreatDoor
namespace Go.Proofs.YtkgjnbiiiifoaaaGreatDoor
open Go Go.Lt
set_option maxRecDepth 10000
set_option linter.unusedVariables false
attribute [local irreducible] W WL AC
open Tryz
variable {c0:Cx}{G:Gm}{F:List En}{sg:Sto}{v1 v2 v3 v4 v5 v6 v7 v8 v9 v10 v11 v12 v13 v14 v15 v16 v17 v18 v19 v20 v21 v22 v23 v24 v25 v26 v27 v28 v29 v30 v31 v32 v33 v34 v35 v36 v37 v38 v39 v40 v41 v42 v43 v44 v45 v46 v47 v48 v49 v50 v51 v52 v53 v54 v55 v56 v57 v58 v59 v60:Value}
def jK (p0:List aa) (p1:Int) (q0_0:Int):Option (List aa):=
 (eI p1).bind fun c=>
 (km p0 q0_0 c).bind fun d=>
 (slc d 0 (p0.length:Int)).bind fun a=>
 ((idx a (w64 ((p0.length:Int)-1))).bind fun e=>
 if (e.Kind==2)=true then
 (idx a (w64 ((p0.length:Int)-1))).bind fun g=>
 (pJ a (w64 ((p0.length:Int)-1)) (⟨0,([]:List Int)⟩:aa)).bind fun b=>
 some b
 else
 some a).bind fun f=>
 some f
theorem wm {e:Value}{q:List Value}{p:Nat}(b:List aa) (o:Int) (q0_0:Int) (O0:Own c0 G (es true aw e 61 q b::F)){r:List aa}(S:OA aw c0 e q b) (m2:∀j u,([I q0_0]:List Value)[j]? = some u->Im c0 p (0+j) u) (H:jK b o q0_0=some r): RU 216 #[e,I o,Q p] c0 fun c v=>∃t y2,Own c G (es true aw t 61 y2 r::F)/\v=t/\OA aw c t y2 r:=by
 unfold jK at H;refine en func216 rfl rfl<|RB Y<|wln<|RB e<|vx (lnO 3 cw S)<|Ro (b.length:Int)<|Rx<|rD [] (Kp G0 []) O0 ?_;intro c3 l3 O4;have p5:Kp G0 [] c3:=Kp.nil0;refine ta 0 e<|tx 1 (fun c' i0=>l1 u_3 ((mm m2) 0 _ rfl))<|ta 2 (I o)<|ta 5 (I (b.length:Int))<|bn H fun s h6 H=>o1 3 (gc 3 (kF O4 o h6) ?_);rintro v7 M g1 ⟨_,u8,y,rfl,h9⟩;have k0:Kp G0 [] M:=Kp.nil0;refine ⟨.inr k0,?_⟩;have z:=y.sD 2 [1,0];refine bn H fun b1 U H=>o1 4 (gc 4 (wV b q0_0 s z S.m h9 U) ?_);rintro v19 h i1 ⟨_,m0,A,rfl,X⟩;have l0:Kp G0 [] h:=Kp.nil0;refine ⟨.inr l0,bn H fun c1 Z H=>?_⟩;obtain ⟨v30,a0,g,d⟩:=Own.cutH (k':= .i64) 0 A rfl cw X (by kernel_rfl) Z;refine AC.take 6 v30 rfl (by kernel_rfl) (by kernel_rfl) (fun c' i0=>(rx (by kernel_rfl) (a0 _))) (ta 7 v30<|dn (nrm<|bn H fun n a x=>W.seqJ (Jn h fun c l=>∃v36 f,Own c G (es true aw v36 61 f n::F)/\l= [(0,v36)]/\OA aw c v36 f n) ?_ ?_))
 ·refine RB v30<|Ro (b.length:Int)<|Rt ((b.length:Int)-1)<|bn a fun k i a=>vx (ixO cw d i)<|Rs (sb v30) ((w64 ((b.length:Int)-1)).toNat*2) ?_;obtain ⟨y0,b0,j0⟩:=OA.at d i;obtain ⟨v42,rfl,f1⟩:=b0;refine vr (I k.Kind) (rx (by kernel_rfl) (sn u_3 rfl (g.on 0 rfl) (d.blk i) (at1 (j:=0) j0 rfl)))<|Ri (k.Kind==2)<|RF a (fun d0 a=>?_) (fun d0 a=>?_)
  ·refine Rv v30<|Ro (b.length:Int)<|Rt ((b.length:Int)-1)<|va (.agg #[I 0,Y])<|bn a fun d1 e0 a=>vx (ixO cw d e0)<|bn a fun a1 f0 a=>md (Own.stW (R:=aw) (T:=61) (us:=[I 0,Y]) (x':=(⟨0,([]:List Int)⟩:aa)) (u:= .agg #[I 0,Y]) 0 g (by kernel_rfl) rfl d f0 rfl (by kernel_rfl) ⟨rfl,rfl,trivial⟩ rfl ⟨(Y),rfl,(Sl.nl _ _)⟩) ?_;rintro N j1 ⟨o0,D,g0⟩;refine wln ?_;cases a;exact jn N ⟨v30,o0,D,rfl,g0⟩
  refine RG ?_;cases a;exact jn h ⟨v30,m0,g,rfl,d⟩
 rintro e_ w_ ⟨P,e1,_,rfl,k1,rfl,v36,f,E,rfl,h0⟩;refine sr<|vv v36<|RD ?_;cases x;exact Rz P ⟨v36,f,E,rfl,h0⟩
def jV (p0:List aa) (p1:Int):Option (List aa):=
 (bw (decide (p1<(p0.length:Int))) ((idx p0 p1).bind fun d=>
 some (d.Kind==3))).bind fun c=>
 if c then
 (idx p0 (w64 (p1-1))).bind fun e=>
 (pJ p0 (w64 (p1-1)) (⟨0,([]:List Int)⟩:aa)).bind fun a=>
 (idx a p1).bind fun f=>
 (pJ a p1 (⟨0,([]:List Int)⟩:aa)).bind fun b=>
 some b
 else
 some p0
theorem qL {a:Value}{e:List Value}(f:List aa) (b:Int) (o:Own c0 G (es true aw a 61 e f::F)){r:List aa}(d:OA aw c0 a e f) (H:jV f b=some r): RU 219 #[a,I b] c0 fun c v=>∃U,Own c G (es true aw a 61 U r::F)/\v= .tuple #[]/\OA aw c a U r:=by
 unfold jV at H;refine en func219 rfl rfl<|W.seq<|bn H fun y E H=>W.join (Jn c0 fun c l=>Own c G (es true aw a 61 e f::F)/\l= [(0,a),(1,I b),(15,B y)]) ?_ ?_
 ·clear H;refine RC b<|va a<|vx (lnO 3 cw d)<|Rj (b<(f.length:Int)) ?_;rcases bo (decide (b<(f.length:Int))) with g|g
  ·have n:=anT g E;refine vb g<|wa a<|wa (I b)<|wn<|bn n fun h p n=>vx (ixO cw d p)<|wa (Qo (sb a) (b.toNat*2))<|wn ?_;obtain ⟨l0,X,Z⟩:=OA.at d p;obtain ⟨v9,rfl,h0⟩:=X;refine vr (I h.Kind) (rx (by kernel_rfl) (sn u_3 rfl (o.on 0 rfl) (d.blk p) (at1 (j:=0) Z rfl)))<|Rn (h.Kind==3) ?_;cases n;exact Ri (h.Kind==3)<|Ry c0 ⟨o,rfl⟩
  obtain rfl:=anF g E;exact vb g<|pz<|pz<|pz<|Ri false<|Ry c0 ⟨o,rfl⟩
 rintro e_ w_ ⟨t,g0,_,rfl,i0,rfl,i,rfl⟩;refine nrm<|cn H (fun z H=>?_) (fun z H=>?_)
 ·refine Rv a<|Ro b<|Rt (b-1)<|va a<|Ro b<|vv (.agg #[I 0,Y])<|bn H fun d0 A H=>vx (ixO cw d.m A)<|bn H fun a0 D H=>md (Own.stW (R:=aw) (T:=61) (us:=[I 0,Y]) (x':=(⟨0,([]:List Int)⟩:aa)) (u:= .agg #[I 0,Y]) 0 i (by kernel_rfl) rfl d.m D rfl (by kernel_rfl) ⟨rfl,rfl,trivial⟩ rfl ⟨(Y),rfl,(Sl.nl _ _)⟩) ?_;rintro f0 j0 ⟨m0,q,k⟩;refine bn H fun e0 M H=>vx (ixO cw k M)<|bn H fun b0 N H=>md (Own.stW (R:=aw) (T:=61) (us:=[I 0,Y]) (x':=(⟨0,([]:List Int)⟩:aa)) (u:= .agg #[I 0,Y]) 0 q (by kernel_rfl) rfl k N rfl (by kernel_rfl) ⟨rfl,rfl,trivial⟩ rfl ⟨(Y),rfl,(Sl.nl _ _)⟩) ?_;rintro x k0 ⟨S,s,P⟩;refine WL.nil ?_;cases H;exact RN x ⟨S,s,rfl,P⟩
 refine W.skip ?_;cases H;exact RN t ⟨e,i,rfl,d.m⟩
def ez (sg:Sto) (p0:Option Nat) (p1:Int) (p2:Int) (p3_0_0:Int):Option Sto:=
 (bN sg p0).bind fun a=>
 (orE (decide (p1<0)) (some (decide (p1>=a)))).bind fun g=>
 (orE g (some (decide (p2<1)))).bind fun b=>
 if b then
 some sg
 else
 (eM sg p0).bind fun c=>
 (jV c p1).bind fun d=>
 (jK d (aR p2 (w64 (a-p1))) p3_0_0).bind fun e=>
 (ei sg p0 0 e).bind fun f=>
 some f.1
theorem ot {b3_0:Nat}(O0:Own c0 G F) (i:Rel c0 sg G) (hG:Gl [3,7] c0) (h:Option Nat) (a:Int) (d:Int) (p3_0_0:Int){r:Sto}(t:Pt 0 c0 v1 h) (m3:∀j u,([I p3_0_0]:List Value)[j]? = some u->Im c0 b3_0 (0+j) u) (H:ez sg h a d p3_0_0=some r): RU 215 #[v1,I a,I d,.func (.func 216) #[] #[Q b3_0]] c0 fun c v=>∃G_:Gm,Own c G_ F/\Rel c r G_/\v= .tuple #[]:=by
 unfold ez at H;refine en func215 rfl rfl<|RB v1<|bn H fun b h4 H=>cl (cH O0 i h t h4) ?_;rintro v10 k l9 ⟨q,rfl⟩;refine Ro b<|Rx<|W.seq<|bn H fun w0 o H=>bn H fun s g H=>W.join (Jn k fun c l=>Own c G F/\l= [(0,v1),(1,I a),(2,I d),(3,.func (.func 216) #[] #[Q b3_0]),(8,I b),(22,B s)]) ?_ ?_
 ·clear H;refine RC a<|Rj (a<0) ?_;rcases bo (decide (a<0)) with e|e
  ·obtain rfl:=orT e o;refine vb e<|pz<|ps<|Ri true ?_;have p:true=true:=rfl;obtain rfl:=orT p g;exact vb p<|pz<|Ri true<|Ry k ⟨q,rfl⟩
  have D:=orF e o;refine vb e<|wa (I a)<|wa (I b)<|Rm (a>=b) ?_;cases D;refine Rj (a>=b) ?_;rcases bo (decide (a>=b)) with f|f
  ·obtain rfl:=orT f g;exact vb f<|pz<|Ri true<|Ry k ⟨q,rfl⟩
  have E:=orF f g;refine vb f<|wa (I d)<|Rm (d<1) ?_;cases E;exact Rj (d<1)<|Ry k ⟨q,rfl⟩
 rintro e_ w_ ⟨X,x0,_,rfl,z0,rfl,n,rfl⟩;refine nrm<|cn H (fun a0 H=>?_) (fun a0 H=>?_)
 ·refine W.ret<|thr ?_;cases H;exact r0<|qq X ⟨G,n,i.m,rfl⟩
 refine RG<|RB v1<|bn H fun x b0 H=>cl (mc n i.m h t.m b0) ?_;rintro v26 s0 a1 ⟨_,f1,M,rfl,d0⟩;refine va v26<|wln<|RB v26<|Ro a<|bn H fun y e0 H=>cl (qL x a M d0 e0) ?_;rintro v44 t0 b1 ⟨g1,N,rfl,f0⟩;refine wln<|Rv v1<|va (.func (.func 216) #[] #[Q b3_0])<|va v26<|Ro d<|Ro b<|Ro a<|Rt (b-a)<|Ro (aR d (w64 (b-a)))<|bn H fun z g0 H=>cl (wm y (aR d (w64 (b-a))) p3_0_0 N f0 (mm m3) g0) ?_;rintro v47 u0 c1 ⟨_,h1,P,rfl,h0⟩;obtain ⟨v0,j0,d1,R,i0⟩:=P.frz 0 rfl h0;refine WL.gh j0 (bn H fun q0 k0 H=>cl (ko R i.m (hG.m.le (by decide)) h 0 z t.m i0 k0) ?_);rintro i1 Z e1 ⟨_,A,S,U,rfl,y0⟩;refine WL.nil ?_;cases H;have T:=S.sD 1 [];exact RN Z ⟨A,T,U,rfl⟩
def kU (sg:Sto) (p0:Option Nat) (p1:Int) (p2:Int):Option Sto:=
 (ez sg p0 p1 p2 p1).bind fun a=>
 some a
theorem yj (j:Own c0 G F) (l:Rel c0 sg G) (hG:Gl [3,7] c0) (d:Option Nat) (a:Int) (b:Int){r:Sto}(o:Pt 0 c0 v1 d) (H:kU sg d a b=some r): RU 153 #[v1,I a,I b] c0 fun c v=>∃G_:Gm,Own c G_ F/\Rel c r G_/\v= .tuple #[]:=by
 unfold kU at H;refine en func153 rfl rfl<|sr<|me (bx 3 [I a] j) ?_;rintro v7 t u ⟨n,rfl,k,h⟩;refine wln<|Rv v1<|vx (l1 u_3 (h 0 _ rfl))<|Ro b<|va (.func (.func 216) #[] #[Q n])<|bn H fun s p H=>cl (ot k l.m (hG.m.le (by decide)) d a b a o.m h p) ?_;rintro v14 g q ⟨i,e,f,rfl⟩;refine WL.nil ?_;cases H;exact RN g ⟨i,e,f,rfl⟩
def jL (p0:List aa) (p1:Int) (q0_0:Int):Option (List aa):=
 (jV p0 (w64 (q0_0+p1))).bind fun d=>
 (kn d q0_0 (w64 (q0_0+p1))).bind fun a=>
 (eI p1).bind fun b=>
 (app a b).bind fun c=>
 some c
theorem wo {b:Value}{f:List Value}{e:Nat}(d:List aa) (a:Int) (q0_0:Int) (P:Own c0 G (es true aw b 61 f d::F)){r:List aa}(S:OA aw c0 b f d) (g:∀j u,([I q0_0]:List Value)[j]? = some u->Im c0 e (0+j) u) (H:jL d a q0_0=some r): RU 218 #[b,I a,Q e] c0 fun c v=>∃h N,Own c G (es true aw h 61 N r::F)/\v=h/\OA aw c h N r:=by
 unfold jL at H;refine en func218 rfl rfl<|RB Y<|wln<|RB b<|vx (l1 u_3 (g 0 _ rfl))<|Ro a<|Rt (q0_0+a)<|bn H fun M T H=>cl (qL d (w64 (q0_0+a)) P S T) ?_;rintro v12 b0 g0 ⟨u5,R,rfl,U⟩;refine wln<|RB b<|vx (l1 u_3 ((mm g) 0 _ rfl))<|vx (l1 u_3 ((mm g) 0 _ rfl))<|Ro a<|Rt (q0_0+a)<|bn H fun X q H=>cl (wW M q0_0 (w64 (q0_0+a)) R U q) ?_;rintro v15 d0 h0 ⟨_,l0,i,rfl,s⟩;refine Ro a<|bn H fun Z t H=>cl (kF i a t) ?_;rintro v25 e0 i0 ⟨_,m0,k,rfl,x⟩;obtain ⟨f0,z,j0,l,y⟩:=k.frz 0 rfl x;refine WL.gh z (bn H fun a0 A H=>me (ap aw (.agg #[I 0,Y]) 32 54 1 l s.m y A cw) ?_);rintro v43 p k0 ⟨E,n,D⟩;refine va v43<|RD ?_;cases H;have o:=n.sD 2 [1];exact Rz p ⟨v43,E,o,rfl,D⟩
def eA (sg:Sto) (p0:Option Nat) (p1:Int) (p2:Int) (p3_0_0:Int):Option Sto:=
 (bN sg p0).bind fun a=>
 (orE (decide (p1<0)) (some (decide (p1>=a)))).bind fun g=>
 (orE g (some (decide (p2<1)))).bind fun b=>
 if b then
 some sg
 else
 (eM sg p0).bind fun c=>
 (jV c p1).bind fun d=>
 (jL d (aR p2 (w64 (a-p1))) p3_0_0).bind fun e=>
 (ei sg p0 0 e).bind fun f=>
 some f.1
theorem ou {b3_0:Nat}(O0:Own c0 G F) (i:Rel c0 sg G) (hG:Gl [3,7] c0) (h:Option Nat) (a:Int) (d:Int) (p3_0_0:Int){r:Sto}(t:Pt 0 c0 v1 h) (m3:∀j u,([I p3_0_0]:List Value)[j]? = some u->Im c0 b3_0 (0+j) u) (H:eA sg h a d p3_0_0=some r): RU 215 #[v1,I a,I d,.func (.func 218) #[] #[Q b3_0]] c0 fun c v=>∃G_:Gm,Own c G_ F/\Rel c r G_/\v= .tuple #[]:=by
 unfold eA at H;refine en func215 rfl rfl<|RB v1<|bn H fun b h4 H=>cl (cH O0 i h t h4) ?_;rintro v10 k l9 ⟨q,rfl⟩;refine Ro b<|Rx<|W.seq<|bn H fun w0 o H=>bn H fun s g H=>W.join (Jn k fun c l=>Own c G F/\l= [(0,v1),(1,I a),(2,I d),(3,.func (.func 218) #[] #[Q b3_0]),(8,I b),(22,B s)]) ?_ ?_
 ·clear H;refine RC a<|Rj (a<0) ?_;rcases bo (decide (a<0)) with e|e
  ·obtain rfl:=orT e o;refine vb e<|pz<|ps<|Ri true ?_;have p:true=true:=rfl;obtain rfl:=orT p g;exact vb p<|pz<|Ri true<|Ry k ⟨q,rfl⟩
  have D:=orF e o;refine vb e<|wa (I a)<|wa (I b)<|Rm (a>=b) ?_;cases D;refine Rj (a>=b) ?_;rcases bo (decide (a>=b)) with f|f
  ·obtain rfl:=orT f g;exact vb f<|pz<|Ri true<|Ry k ⟨q,rfl⟩
  have E:=orF f g;refine vb f<|wa (I d)<|Rm (d<1) ?_;cases E;exact Rj (d<1)<|Ry k ⟨q,rfl⟩
 rintro e_ w_ ⟨X,x0,_,rfl,z0,rfl,n,rfl⟩;refine nrm<|cn H (fun a0 H=>?_) (fun a0 H=>?_)
 ·refine W.ret<|thr ?_;cases H;exact r0<|qq X ⟨G,n,i.m,rfl⟩
 refine RG<|RB v1<|bn H fun x b0 H=>cl (mc n i.m h t.m b0) ?_;rintro v26 s0 a1 ⟨_,f1,M,rfl,d0⟩;refine va v26<|wln<|RB v26<|Ro a<|bn H fun y e0 H=>cl (qL x a M d0 e0) ?_;rintro v44 t0 b1 ⟨g1,N,rfl,f0⟩;refine wln<|Rv v1<|va (.func (.func 218) #[] #[Q b3_0])<|va v26<|Ro d<|Ro b<|Ro a<|Rt (b-a)<|Ro (aR d (w64 (b-a)))<|bn H fun z g0 H=>cl (wo y (aR d (w64 (b-a))) p3_0_0 N f0 (mm m3) g0) ?_;rintro v47 u0 c1 ⟨_,h1,P,rfl,h0⟩;obtain ⟨v0,j0,d1,R,i0⟩:=P.frz 0 rfl h0;refine WL.gh j0 (bn H fun q0 k0 H=>cl (ko R i.m (hG.m.le (by decide)) h 0 z t.m i0 k0) ?_);rintro i1 Z e1 ⟨_,A,S,U,rfl,y0⟩;refine WL.nil ?_;cases H;have T:=S.sD 1 [];exact RN Z ⟨A,T,U,rfl⟩
def kV (sg:Sto) (p0:Option Nat) (p1:Int) (p2:Int):Option Sto:=
 (eA sg p0 p1 p2 p1).bind fun a=>
 some a
theorem yk (j:Own c0 G F) (l:Rel c0 sg G) (hG:Gl [3,7] c0) (d:Option Nat) (a:Int) (b:Int){r:Sto}(o:Pt 0 c0 v1 d) (H:kV sg d a b=some r): RU 154 #[v1,I a,I b] c0 fun c v=>∃G_:Gm,Own c G_ F/\Rel c r G_/\v= .tuple #[]:=by
 unfold kV at H;refine en func154 rfl rfl<|sr<|me (bx 3 [I a] j) ?_;rintro v7 t u ⟨n,rfl,k,h⟩;refine wln<|Rv v1<|vx (l1 u_3 (h 0 _ rfl))<|Ro b<|va (.func (.func 218) #[] #[Q n])<|bn H fun s p H=>cl (ou k l.m (hG.m.le (by decide)) d a b a o.m h p) ?_;rintro v14 g q ⟨i,e,f,rfl⟩;refine WL.nil ?_;cases H;exact RN g ⟨i,e,f,rfl⟩
def ju (p0:Int) (p1:Int) (p2:Int) (p3:Int):Option ai:=
 (ej (⟨p0,p1,false⟩:ai) p2 p3).bind fun a=>
 some a
theorem tZ (j:Own c0 G F) (b:Int) (d:Int) (e:Int) (f:Int){r:ai}(H:ju b d e f=some r): RU 101 #[I b,I d,I e,I f] c0 fun c v=>Own c G F/\v= .agg #[I r.Row,I r.Col,B r.Pending]:=by
 unfold ju at H;refine en func101 rfl rfl<|sr<|me (al 29 [I 0,I 0,B false] j) ?_;rintro v4 s t ⟨q,rfl,k⟩;refine wln<|RA b<|Ro d<|va (.agg #[I b,I d,B false])<|Ro e<|Ro f<|bn H fun a m H=>cl (ek k (⟨b,d,false⟩:ai) e f m) ?_;rintro v11 n o ⟨l,rfl⟩;refine md (sA 29 [I a.Row,I a.Col,B a.Pending] 0 l ⟨rfl,rfl,rfl,trivial⟩) ?_;rintro h p g;refine RD ?_;obtain rfl:=si H;have i:=g.sD 1 [];exact uj (c:=h) (vs:=[I a.Row,I a.Col,B a.Pending]) rfl (by kernel_rfl) (by kernel_rfl) (by kernel_rfl) (g.on 0 rfl _ rfl).1 ⟨_,h,rfl,rfl,pt,i,rfl⟩
def qh (p0:List aa) (p1:Int):Option (List aa):=
 (slc p0 0 p1).bind fun a=>
 ((bw (decide (p1>0)) ((idx a (w64 (p1-1))).bind fun d=>
 some (d.Kind==2))).bind fun b=>
 if b then
 (idx a (w64 (p1-1))).bind fun f=>
 (pJ a (w64 (p1-1)) (⟨0,([]:List Int)⟩:aa)).bind fun c=>
 some c
 else
 some a).bind fun e=>
 some e
theorem ES {h:Value}{f:List Value}(x:List aa) (a:Int) (O0:Own c0 G (es true aw h 61 f x::F)){r:List aa}(h1:OA aw c0 h f x) (H:qh x a=some r): RU 145 #[h,I a] c0 fun c v=>∃y y2,Own c G (es true aw y 61 y2 r::F)/\v=y/\OA aw c y y2 r:=by
 unfold qh at H;refine en func145 rfl rfl<|RB Y<|wln<|RB h<|vv (I a)<|bn H fun d0 h2 H=>?_;obtain ⟨v3,h4,s,i⟩:=Own.cutHM (k2:= .i64) (k':= .i64) 0 O0 rfl cw h1 (by kernel_rfl) h2;refine vr v3 (rx (by kernel_rfl) (h4 _))<|va v3<|wln<|bn H fun q b H8=>W.seqJ (Jn c0 fun c l=>∃v9 g,Own c G (es true aw v9 61 g q::F)/\l= [(0,v9)]/\OA aw c v9 g q) ?_ ?_
 ·refine W.seq<|bn b fun t p b=>W.join (Jn c0 fun c l=>Own c G (es true aw v3 61 f d0::F)/\l= [(0,v3),(1,I a),(19,B t)]) ?_ ?_
  ·clear b;refine RC a<|Rj (a>0) ?_;rcases bo (decide (a>0)) with d|d
   ·have k:=anT d p;refine vb d<|wa v3<|wa (I a)<|wa (I (w64 (a-1)))<|wn<|bn k fun e n k=>vx (ixO cw i n)<|wa (Qo (sb v3) ((w64 (a-1)).toNat*2))<|wn ?_;obtain ⟨l0,N,a0⟩:=OA.at i n;obtain ⟨v18,rfl,u0⟩:=N;refine vr (I e.Kind) (rx (by kernel_rfl) (sn u_3 rfl (s.on 0 rfl) (i.blk n) (at1 (j:=0) a0 rfl)))<|Rn (e.Kind==2) ?_;cases k;exact Ri (e.Kind==2)<|Ry c0 ⟨s,rfl⟩
   obtain rfl:=anF d p;exact vb d<|pz<|pz<|pz<|ps<|Ri false<|Ry c0 ⟨s,rfl⟩
  rintro e_ w_ ⟨D,s0,_,rfl,v0,rfl,o,rfl⟩;refine nrm<|cn b (fun P b=>?_) (fun P b=>?_)
  ·refine Rv v3<|Ro a<|Rt (a-1)<|va (.agg #[I 0,Y])<|bn b fun q0 S b=>vx (ixO cw i.m S)<|bn b fun o0 U b=>md (Own.stW (R:=aw) (T:=61) (us:=[I 0,Y]) (x':=(⟨0,([]:List Int)⟩:aa)) (u:= .agg #[I 0,Y]) 0 o (by kernel_rfl) rfl i.m U rfl (by kernel_rfl) ⟨rfl,rfl,trivial⟩ rfl ⟨(Y),rfl,(Sl.nl _ _)⟩) ?_;rintro E w0 ⟨b0,z,X⟩;refine wln ?_;cases b;exact jn E ⟨v3,b0,z,rfl,X⟩
  refine RG ?_;cases b;exact jn D ⟨v3,f,o,rfl,i.m⟩
 rintro e_ w_ ⟨M,t0,_,rfl,x0,rfl,v9,g,A,rfl,Z⟩;refine sr<|vv v9<|RD ?_;cases H8;exact Rz M ⟨v9,g,A,rfl,Z⟩
def vj (sg:Sto) (p0:List aa):Option (Sto×(Option Nat)):=
 (sy sg p0).bind fun a=>
 if (!a.2.2.isNil)=true then
 some (a.1,(none:Option Nat))
 else
 some (a.1,a.2.1)
theorem GX (l:Own c0 G F) (m:Rel c0 sg G) (hG:Gl [3,7] c0) (f:List aa){r:Sto×(Option Nat)}(o:Sl aw c0 v1 f) (H:vj sg f=some r): RU 146 #[v1] c0 fun c v=>∃k,∃G_:Gm,Own c G_ F/\Rel c r.1 G_/\v=k/\Pt 0 c k r.2:=by
 unfold vj at H;refine en func146 rfl rfl<|RB (.pointer none)<|wln<|RB v1<|bn H fun j p H=>cl (GV l m (hG.le (by decide)) f o p) ?_;rintro v13 e t ⟨v4,v6,g,h,d,rfl,q,s⟩;refine va (.tuple #[v4,v6])<|va v4<|va v6<|va v4<|va v6<|Rx<|RB v6<|vr (B (!j.2.2.isNil)) (by rcases (s).cs with ⟨a,b⟩|⟨n,a,b⟩|⟨n,a,b⟩ <;> (subst a; rw [b]; kernel_rfl))<|RF H (fun i H=>?_) (fun i H=>?_)
 ·refine RB (.pointer none)<|RD<|thr ?_;cases H;exact Rz e ⟨(.pointer none),g,h,d,rfl,rfl⟩
 refine RG<|sr<|vv v4<|RD ?_;cases H;exact Rz e ⟨v4,g,h,d,rfl,q⟩
def ka (sg:Sto) (p0:Option Nat) (p1:Int):Option (Sto×(Option Nat)):=
 if p0.isNone then
 some (sg,(none:Option Nat))
 else
 (eM sg p0).bind fun c=>
 (bN sg p0).bind fun d=>
 (qh c (aR (bb 1 (aR p1 1024)) d)).bind fun a=>
 (eI (w64 ((bb 1 (aR p1 1024))-(a.length:Int)))).bind fun e=>
 (app a e).bind fun f=>
 (vj sg f).bind fun b=>
 some (b.1,b.2)
theorem Aw (o:Own c0 G F) (f:Rel c0 sg G) (hG:Gl [3,7] c0) (b:Option Nat) (a:Int){r:Sto×(Option Nat)}(j:Pt 0 c0 v1 b) (H:ka sg b a=some r): RU 100 #[v1,I a] c0 fun c v=>∃y1,∃G_:Gm,Own c G_ F/\Rel c r.1 G_/\v=y1/\Pt 0 c y1 r.2:=by
 unfold ka at H;refine en func100 rfl rfl<|RB (.pointer none)<|Rx<|RB v1<|vr (B b.isNone) (by rcases (j).cs with ⟨g,i⟩|⟨b_,g,i⟩ <;> (subst g; rw [i]; kernel_rfl))<|RF H (fun h3 H=>?_) (fun h3 H=>?_)
 ·refine RB (.pointer none)<|RD<|thr ?_;cases H;exact Rz c0 ⟨(.pointer none),G,o,f,rfl,rfl⟩
 refine RG<|RA a<|Ro (aR a 1024)<|vv (I (bb 1 (aR a 1024)))<|wln<|RB v1<|bn H fun k h4 H=>cl (mc o f b j h4) ?_;rintro v5 k0 u0 ⟨_,u6,O9,rfl,h7⟩;refine Ro (bb 1 (aR a 1024))<|va v1<|bn H fun d E H=>cl (cH O9 f.m b j.m E) ?_;rintro v20 l0 v0 ⟨p,rfl⟩;refine Ro (aR (bb 1 (aR a 1024)) d)<|bn H fun e M H=>cl (ES k (aR (bb 1 (aR a 1024)) d) p h7.m M) ?_;rintro v23 m0 w0 ⟨_,c1,q,rfl,h⟩;refine va v23<|wln<|RB v23<|Ro (bb 1 (aR a 1024))<|va v23<|vx (lnO 3 cw h)<|Rt ((bb 1 (aR a 1024))-(e.length:Int))<|bn H fun i0 N H=>cl (kF q (w64 ((bb 1 (aR a 1024))-(e.length:Int))) N) ?_;rintro v33 o0 x0 ⟨_,d1,s,rfl,P⟩;obtain ⟨q0,S,y0,t,R⟩:=s.frz 0 rfl P;refine WL.gh S (bn H fun l T H=>me (ap aw (.agg #[I 0,Y]) 32 54 1 t h.m R T cw) ?_);rintro v51 s0 z0 ⟨e1,u,U⟩;obtain ⟨t0,Z,a1,x,X⟩:=u.frz 1 rfl U;refine WL.gh Z (bn H fun j0 a0 H=>cl (GX x f.m (hG.m.le (by decide)) l X a0) ?_);rintro v57 D b1 ⟨_,n,y,A,rfl,b0⟩;refine va v57<|RD ?_;cases H;have z:=y.sD 2 [];exact Rz D ⟨v57,n,z,A,rfl,b0⟩
def lO (sg:Sto) (p0:Option Nat) (p1:Int) (p2:Int):Option Sto:=
 (orE p0.isNone ((p0).bind fun u=>
 (sg.place_Pen[u]?).bind fun v=>
 some v.G.isNone)).bind fun t=>
 if t then
 some sg
 else
 (p0).bind fun l=>
 (sg.place_Pen[l]?).bind fun e=>
 (cg sg e.G).bind fun o=>
 (bM sg e.G).bind fun p=>
 (ej e.At o p).bind fun b=>
 (nM sg (bb 1 (aR p1 1024)) (bb 1 (aR p2 1024))).bind fun c=>
 (cm (σ:=Int×Sto) (τ:=Sto) (((bb 1 (aR p2 1024))-0).toNat+1) (fun a=>
 if decide (a.1<(bb 1 (aR p2 1024))) then
 ((p0).bind fun m=>
 (a.2.place_Pen[m]?).bind fun n=>
 (bz a.2 n.G (w64 ((bb 0 (w64 ((w64 (b.Row-(bb 1 (aR p2 1024))))+1)))+a.1))).bind fun j=>
 if (!j.isNone)=true then
 (ka a.2 j (bb 1 (aR p1 1024))).bind fun k=>
 (eN k.1 c.2 a.1 k.2).bind fun q=>
 some q.1
 else
 some a.2).bind fun s=>
 some (.inl ((w64 (a.1+1)),s))
 else
 some (.inr a.2)) (0,c.1)).bind fun i=>
 (p0).bind fun d=>
 (i.place_Pen[d]?).bind fun f=>
 (i.set_place_Pen d (⟨c.2,f.At,f.Auto⟩:bq)).bind fun h=>
 (ju (w64 (b.Row-(bb 0 (w64 ((w64 (b.Row-(bb 1 (aR p2 1024))))+1))))) b.Col (bb 1 (aR p1 1024)) (bb 1 (aR p2 1024))).bind fun r=>
 (h.set_place_Pen d (⟨c.2,r,f.Auto⟩:bq)).bind fun g=>
 some g
theorem yN (O0:Own c0 G F) (z:Rel c0 sg G) (hG:Gl [3,7] c0) (p0:Option Nat) (o:Int) (b:Int){r:Sto}(h2:Pt 2 c0 v1 p0) (H:lO sg p0 o b=some r): RU 55 #[v1,I o,I b] c0 fun c v=>∃G_:Gm,Own c G_ F/\Rel c r G_/\v= .tuple #[]:=by
 unfold lO at H;refine en func55 rfl rfl<|W.seq<|W.seq<|bn H fun q5 h3 H=>W.join (Jn c0 fun c l=>Own c G F/\l= [(0,v1),(1,I o),(2,I b),(19,B q5)]) ?_ ?_
 ·clear H;refine Rv v1<|vr (B p0.isNone) (by rcases (h2).cs with ⟨t,u⟩|⟨b_,t,u⟩ <;> (subst t; rw [u]; kernel_rfl)) ?_;rcases bo p0.isNone with h4|h4
  ·obtain rfl:=orT h4 h3;exact vb h4<|pz<|pz<|ps<|Ri true<|Ry c0 ⟨O0,rfl⟩
  have H5:=orF h4 h3;refine vb h4<|wa v1<|wn<|bn H5 fun g8 h8 H5=>?_;obtain ⟨b6,rfl,h7⟩:=(h2).get h8;refine va (Q b6)<|wa (Q b6)<|wn<|bn H5 fun k2 h9 H5=>?_;obtain ⟨v10,t5,s5⟩:=Rel.open_place_Pen z h9 h7;refine vx (le1 0 jT (O0.gon t5 0 rfl))<|wn<|vr (B k2.G.isNone) (by rcases (s5).cs with ⟨t,u⟩|⟨b_,t,u⟩ <;> (subst t; rw [u]; kernel_rfl)) ?_;cases H5;exact Ri k2.G.isNone<|Ry c0 ⟨O0,rfl⟩
 rintro e_ w_ ⟨c2,f8,_,rfl,Z,rfl,m1,rfl⟩;refine nrm<|cn H (fun u5 H=>?_) (fun u5 H=>?_)
 ·refine W.ret<|thr ?_;cases H;exact r0<|qq c2 ⟨G,m1,z.m,rfl⟩
 refine RG<|RA o<|Ro (aR o 1024)<|Ro (bb 1 (aR o 1024))<|Ro b<|Ro (aR b 1024)<|Ro (bb 1 (aR b 1024))<|Ro (bb 1 (aR o 1024))<|Ro (bb 1 (aR b 1024))<|Rx<|bn H fun i7 v5 H=>bn H fun h w5 H=>bn H fun D g2 H=>bn H fun E x0 H=>bn H fun a X H=>W.join (Jn c2 fun c l=>∃n,Own c G ((Eb n 29 [I a.Row,I a.Col,B a.Pending])::F)/\l= [(0,v1),(1,I (bb 1 (aR o 1024))),(2,I (bb 1 (aR b 1024))),(6,Q n)]) ?_ ?_
 ·clear H;refine rD [] (Kp G []) m1 ?_;intro g5 j2 k0;have f1:=(Kp.nil k0);refine ta 0 v1 ?_;obtain ⟨s,rfl,y5⟩:=((h2.mono (Z.trans j2))).get v5;refine ta 1 (Q s)<|ta 2 (Qo s 1) ?_;obtain ⟨v31,y0,M⟩:=Rel.open_place_Pen (z.mono (Z.trans j2)) w5 y5;refine tkx 3 f1 (fun c' i2 hk=>leN 29 1 [I h.At.Row,I h.At.Col,B h.At.Pending] (hk.gon y0 0 rfl)) (ta 4 (Q s)<|ta 5 (Q s)<|ta 6 (Q s)<|tkx 7 f1 (fun c' i2 hk=>le1 0 jT (hk.gon y0 0 rfl)) (ta 9 (Q s)<|ta 10 (Q s)<|ta 11 (Q s)<|tkx 12 f1 (fun c' i2 hk=>le1 0 jT (hk.gon y0 0 rfl)) (mn2 8 15 ?_ ?_)))
  ·refine gc 8 (cU k0 z.m h.G M g2) ?_;rintro v39 h5 i8 ⟨l0,rfl⟩;have z5:=(Kp.nil l0);refine ⟨.inr z5,mn2 13 15 ?_ ?_⟩
   ·refine gc 13 (bH l0 z.m h.G M.m x0) ?_;rintro v46 i5 j8 ⟨m0,rfl⟩;have a6:=(Kp.nil m0);refine ⟨.inr a6,mn2 14 15 ?_ ?_⟩
    ·refine gc 14 (ek m0 h.At D E X) ?_;rintro v53 j5 k8 ⟨n1,rfl⟩;have c6:=(Kp.nil n1);refine ⟨.inr c6,o1 15 (gm 15 (al 29 [I 0,I 0,B false] n1) ?_)⟩;rintro v58 k5 l8 ⟨a5,rfl,q1⟩;have d6:=(Kp.nil q1);refine ⟨.inr d6,o1 16 (gD 16 (sA 29 [I a.Row,I a.Col,B a.Pending] 0 q1 ⟨rfl,rfl,rfl,trivial⟩) ?_)⟩;rintro d2 m8 s1;have e6:=(Kp.nil s1);exact ⟨.inr e6,dn (nrm<|jn d2 ⟨a5,s1,rfl⟩)⟩
    refine gm 15 (al 29 [I 0,I 0,B false] m0) ?_;rintro u8 l5 n8 ⟨c5,rfl,t1⟩;have f6:=(Kp.nil t1);refine ⟨.inr f6,o1 14 (gc 14 (ek t1 h.At D E X) ?_)⟩;rintro v8 m5 o8 ⟨u1,rfl⟩;have g6:=(Kp.nil u1);refine ⟨.inr g6,o1 16 (gD 16 (sA 29 [I a.Row,I a.Col,B a.Pending] 0 u1 ⟨rfl,rfl,rfl,trivial⟩) ?_)⟩;rintro e2 p8 w1;have h6:=(Kp.nil w1);exact ⟨.inr h6,dn (nrm<|jn e2 ⟨c5,w1,rfl⟩)⟩
   refine gm 15 (al 29 [I 0,I 0,B false] l0) ?_;rintro w8 n5 q8 ⟨d5,rfl,x1⟩;have i6:=(Kp.nil x1);refine ⟨.inr i6,o1 13 (gc 13 (bH x1 z.m h.G M.m x0) ?_)⟩;rintro x8 o5 r8 ⟨y1,rfl⟩;have j6:=(Kp.nil y1);refine ⟨.inr j6,o1 14 (gc 14 (ek y1 h.At D E X) ?_)⟩;rintro y8 p5 s8 ⟨z1,rfl⟩;have k6:=(Kp.nil z1);refine ⟨.inr k6,o1 16 (gD 16 (sA 29 [I a.Row,I a.Col,B a.Pending] 0 z1 ⟨rfl,rfl,rfl,trivial⟩) ?_)⟩;rintro f2 t8 b2;have l6:=(Kp.nil b2);exact ⟨.inr l6,dn (nrm<|jn f2 ⟨d5,b2,rfl⟩)⟩
  refine gm 15 (al 29 [I 0,I 0,B false] k0) ?_;rintro v7 l3 l7 ⟨k3,rfl,d0⟩;have q4:=(Kp.nil d0);refine ⟨.inr q4,o1 8 (gc 8 (cU d0 z.m h.G M.m g2) ?_)⟩;rintro w7 m3 m7 ⟨e0,rfl⟩;have r4:=(Kp.nil e0);refine ⟨.inr r4,o1 13 (gc 13 (bH e0 z.m h.G M.m x0) ?_)⟩;rintro x7 n3 n7 ⟨f0,rfl⟩;have s4:=(Kp.nil f0);refine ⟨.inr s4,o1 14 (gc 14 (ek f0 h.At D E X) ?_)⟩;rintro y7 o3 o7 ⟨g0,rfl⟩;have t4:=(Kp.nil g0);refine ⟨.inr t4,o1 16 (gD 16 (sA 29 [I a.Row,I a.Col,B a.Pending] 0 g0 ⟨rfl,rfl,rfl,trivial⟩) ?_)⟩;rintro s0 p7 h0;have u4:=(Kp.nil h0);exact ⟨.inr u4,dn (nrm<|jn s0 ⟨k3,h0,rfl⟩)⟩
 rintro e_ w_ ⟨t6,y6,_,rfl,b1,rfl,n,i0,rfl⟩;refine nrm<|RB (Q n)<|vx (le1 0 u_3 (i0.on 0 rfl))<|Ro (bb 1 (aR b 1024))<|Rt (a.Row-(bb 1 (aR b 1024)))<|Rt ((w64 (a.Row-(bb 1 (aR b 1024))))+1)<|vv (I (bb 0 (w64 ((w64 (a.Row-(bb 1 (aR b 1024))))+1))))<|wln<|RA (bb 1 (aR o 1024))<|Ro (bb 1 (aR b 1024))<|bn H fun w4 u3 H=>cl (yt i0 z.m (bb 1 (aR o 1024)) (bb 1 (aR b 1024)) u3) ?_;rintro q R c1 ⟨_,l2,t2,d3,q6,rfl,y⟩;refine va q<|Rx<|RA (bb 1 (aR b 1024))<|Ro 0<|wln<|W.block<|bn H fun u7 u0 g=>lp u0 (fun f=>Jn R fun c l=>∃G_,Own c G_ ((Eb n 29 [I a.Row,I a.Col,B a.Pending])::F)/\l= [(0,v1),(1,I (bb 1 (aR o 1024))),(2,I (bb 1 (aR b 1024))),(6,Q n),(7,I (bb 0 (w64 ((w64 (a.Row-(bb 1 (aR b 1024))))+1)))),(8,q),(50,I (bb 1 (aR b 1024))),(51,I f.1)]/\Rel c f.2 G_) (fun i1 ex e w=>ex= .exit 0/\(Jn R fun c l=>∃G_,Own c G_ ((Eb n 29 [I a.Row,I a.Col,B a.Pending])::F)/\l= [(0,v1),(1,I (bb 1 (aR o 1024))),(2,I (bb 1 (aR b 1024))),(6,Q n),(7,I (bb 0 (w64 ((w64 (a.Row-(bb 1 (aR b 1024))))+1)))),(8,q)]/\Rel c i1 G_) e w) ?_ ?_ ?_
 ·clear g u0;intro f z8 r5 m6 H;revert r5 m6;rintro e_ w_ ⟨t0,z6,_,rfl,o4,rfl,a0,N,rfl,x⟩;refine sr<|Rj (f.1<(bb 1 (aR b 1024)))<|Rx<|cn H (fun v3 H=>?_) (fun v3 H=>?_)
  ·refine RG<|bn H fun y4 d q2=>W.seqJ (Jn t0 fun c l=>∃G_,Own c G_ ((Eb n 29 [I a.Row,I a.Col,B a.Pending])::F)/\l= [(0,v1),(1,I (bb 1 (aR o 1024))),(2,I (bb 1 (aR b 1024))),(6,Q n),(7,I (bb 0 (w64 ((w64 (a.Row-(bb 1 (aR b 1024))))+1)))),(8,q),(50,I (bb 1 (aR b 1024))),(51,I f.1)]/\Rel c y4 G_) ?_ ?_
   ·refine W.block<|sr<|vv (I f.1)<|wln<|RB v1<|bn d fun j7 x3 d=>?_;obtain ⟨q0,rfl,w3⟩:=((h2.mono (Z.trans (b1.trans (c1.trans o4))))).get x3;refine vv (Q q0)<|bn d fun p4 y3 d=>?_;obtain ⟨z7,a4,z3⟩:=Rel.open_place_Pen x y3 w3;refine vx (le1 0 jT (N.gon a4 0 rfl))<|Ro (bb 0 (w64 ((w64 (a.Row-(bb 1 (aR b 1024))))+1)))<|Ro f.1<|Rt ((bb 0 (w64 ((w64 (a.Row-(bb 1 (aR b 1024))))+1)))+f.1)<|bn d fun g1 b4 d=>cl (dd N x p4.G (w64 ((bb 0 (w64 ((w64 (a.Row-(bb 1 (aR b 1024))))+1)))+f.1)) z3 b4) ?_;rintro U p3 q7 ⟨_,j0,rfl,v0⟩;refine va U<|wln<|RB U<|vr (B (!g1.isNone)) (by rcases (v0).cs with ⟨t,u⟩|⟨b_,t,u⟩ <;> (subst t; rw [u]; kernel_rfl))<|RF d (fun c4 d=>?_) (fun c4 d=>?_)
    ·refine Rv q<|Ro f.1<|va U<|Ro (bb 1 (aR o 1024))<|bn d fun x4 d4 d=>cl (Aw j0 x.m (hG.m.le (by decide)) g1 (bb 1 (aR o 1024)) v0 d4) ?_;rintro a8 u6 r7 ⟨_,n6,u2,e3,rfl,e4⟩;refine bn d fun e8 f4 d=>cl (qX u2 e3 w4.2 f.1 x4.2 y.m e4 f4) ?_;rintro b8 q3 s7 ⟨m2,v2,f3,rfl⟩;refine WL.nil<|RH ?_;cases d;exact jn q3 ⟨m2,v2,rfl,f3⟩
    refine W.skip<|RH ?_;cases d;exact jn p3 ⟨a0,j0,rfl,x.m⟩
   rintro e_ w_ ⟨s3,a7,_,rfl,t7,rfl,n2,w2,rfl,g3⟩;refine W.region<|Rq (f.1+1)<|WL.nil ?_;cases q2;exact ⟨_,rfl,jn s3 ⟨n2,w2,rfl,g3⟩⟩
  refine W.exit<|thx ?_;cases H;exact ⟨_,rfl,rfl,jn t0 ⟨a0,N,rfl,x⟩⟩
 ·exact jn R ⟨l2,t2,rfl,d3⟩
 rintro _ e_ w_ ⟨rfl,v6,b7,_,rfl,A,rfl,o6,x2,rfl,o0⟩;refine RJ<|RB v1<|va q<|bn g fun k7 g4 g=>?_;obtain ⟨j,rfl,S⟩:=((h2.mono (Z.trans (b1.trans (c1.trans A))))).get g4;refine vv (Q j) ?_;obtain ⟨p,rfl⟩:=((y.mono A)).form;refine bn g fun i i4 g=>?_;obtain ⟨c8,j4,c7⟩:=Rel.open_place_Pen o0 i4 S;refine md (gC 71 0 (.pointer p) [.pointer p,I i.At.Row,I i.At.Col,B i.At.Pending,B i.Auto] 0 x2 j4 ⟨y.m.one,trivial⟩) ?_;rintro w6 T y2;refine bn g fun z4 l4 g=>?_;obtain ⟨p6,P,i3,k4,r6⟩:=Rel.put_place_Pen y2 (o0.mono T) (E':=[(Eb j 73 [.pointer p,I i.At.Row,I i.At.Col,B i.At.Pending,B i.Auto])]) l4 ⟨j,(.pointer p),(tm S),rfl,(y.mono (A.trans T))⟩;refine wln<|Rv (Q j)<|va (Q n)<|vx (le1 0 u_3 (P.on 0 rfl))<|Ro (bb 0 (w64 ((w64 (a.Row-(bb 1 (aR b 1024))))+1)))<|Rt (a.Row-(bb 0 (w64 ((w64 (a.Row-(bb 1 (aR b 1024))))+1))))<|Rs n 1<|vx (le1 1 u_3 (P.on 0 rfl))<|Ro (bb 1 (aR o 1024))<|Ro (bb 1 (aR b 1024))<|bn g fun k m4 g=>cl (tZ P (w64 (a.Row-(bb 0 (w64 ((w64 (a.Row-(bb 1 (aR b 1024))))+1))))) a.Col (bb 1 (aR o 1024)) (bb 1 (aR b 1024)) m4) ?_;rintro d8 x6 d1 ⟨z2,rfl⟩;refine va (Q j)<|Rs j 1<|md (gB 29 1 [I k.Row,I k.Col,B k.Pending] [.pointer p,I k.Row,I k.Col,B k.Pending,B i.Auto] 0 z2 k4 ⟨rfl,rfl,rfl,trivial⟩) ?_;rintro t3 e1 a3;refine bn g fun v4 n4 g=>?_;obtain ⟨o2,b3,j3,d7,s6⟩:=Rel.put_place_Pen a3 (i3.mono (d1.trans e1)) (E':=[(Eb j 73 [.pointer p,I k.Row,I k.Col,B k.Pending,B i.Auto])]) n4 ⟨j,(.pointer p),(tm S),rfl,(y.mono (A.trans (T.trans (d1.trans e1))))⟩;refine WL.nil ?_;cases g;have c3:=b3.sD 1 [];exact RN t3 ⟨o2,c3,j3,rfl⟩
def ir (p0:Int):Option Bool:=
 (bw (decide (p0>=0)) (some (decide (p0<32)))).bind fun b=>
 (orE b ((bw (decide (p0>=127)) (some (decide (p0<=159)))).bind fun a=>
 some a)).bind fun c=>
 some c
theorem pa (e:Own c0 G F) (a:Int){r:Bool}(H:ir a=some r): RU 83 #[J a] c0 fun c v=>Own c G F/\v=B r:=by
 unfold ir at H;refine en func83 rfl rfl<|Ru false<|Rx<|bn H fun z t H=>bn H fun s n H=>W.join (Jn c0 fun c l=>Own c G F/\l= [(2,B s)]) ?_ ?_
 ·clear H;refine Rv (J a)<|Rj (a>=0) ?_;rcases bo (decide (a>=0)) with f|f
  ·have x:=anT f t;refine vb f<|wa (J a)<|Rm (a<32) ?_;cases x;refine Rj (a<32) ?_;rcases bo (decide (a<32)) with g|g
   ·obtain rfl:=orT g n;exact vb g<|pz<|pz<|pz<|Rk true<|Ry c0 ⟨e,rfl⟩
   have i:=orF g n;refine vb g<|wa (J a)<|Rm (a>=127)<|wn<|bn i fun m u i=>?_;rcases bo (decide (a>=127)) with h|h
   ·have y:=anT h u;refine vb h<|wa (J a)<|Rm (a<=159)<|wn ?_;cases y;refine Rj (a<=159) ?_;cases i;exact vv (B (decide (a<=159)))<|Ry c0 ⟨e,rfl⟩
   obtain rfl:=anF h u;refine vb h<|pz<|Rn false ?_;cases i;exact Rk false<|Ry c0 ⟨e,rfl⟩
  obtain rfl:=anF f t;refine vb f<|pz<|Ri false ?_;have j:false=false:=rfl;have d:=orF j n;refine vb j<|wa (J a)<|Rm (a>=127)<|wn<|bn d fun m k d=>?_;rcases bo (decide (a>=127)) with b|b
  ·have o:=anT b k;refine vb b<|wa (J a)<|Rm (a<=159)<|wn ?_;cases o;refine Rj (a<=159) ?_;cases d;exact vv (B (decide (a<=159)))<|Ry c0 ⟨e,rfl⟩
  obtain rfl:=anF b k;refine vb b<|pz<|Rn false ?_;cases d;exact Rk false<|Ry c0 ⟨e,rfl⟩
 rintro E M ⟨q,A,_,rfl,D,rfl,p,rfl⟩;refine nrm<|W.ret ?_;cases H;exact Rz q ⟨p,rfl⟩
def lT (p0:ai):Option ai:=
 (if decide (p0.Col>0) then
 some ((w64 (p0.Col-1)))
 else
 some p0.Col).bind fun a=>
 some (⟨p0.Row,a,false⟩:ai)
theorem yV (s:Own c0 G F) (a:ai){r:ai}(H:lT a=some r): RU 251 #[.agg #[I a.Row,I a.Col,B a.Pending]] c0 fun c v=>Own c G F/\v= .agg #[I r.Row,I r.Col,B r.Pending]:=by
 unfold lT at H;refine en func251 rfl rfl<|sr<|me (al 29 [I a.Row,I a.Col,B a.Pending] s) ?_;rintro v4 E P ⟨e,rfl,t⟩;refine me (al 29 [I 0,I 0,B false] t) ?_;rintro v8 M R ⟨o,rfl,u⟩;refine RO<|Rs e 2<|md (sC 4 2 (B false) [I a.Row,I a.Col,B false] 1 u ⟨rfl,trivial⟩) ?_;rintro i z f;refine wln<|bn H fun d b k=>W.seqJ (Jn i fun c l=>Own c G ((Eb o 29 [I 0,I 0,B false])::(Eb e 29 [I a.Row,I d,B false])::F)/\l= [(1,Q e),(2,Q o)]) ?_ ?_
 ·refine sr<|Rs e 1<|vx (le1 1 u_3 (f.on 1 rfl))<|Rj (a.Col>0)<|RF b (fun q b=>?_) (fun q b=>?_)
  ·refine W.region<|Rs e 1<|vx (le1 1 u_3 (f.on 1 rfl))<|Rt (a.Col-1)<|Rs e 1<|md (sC 3 1 (I (w64 (a.Col-1))) [I a.Row,I (w64 (a.Col-1)),B false] 1 f ⟨rfl,trivial⟩) ?_;rintro p A m;refine wln ?_;cases b;exact jn p ⟨m,rfl⟩
  refine RG ?_;cases b;exact jn i ⟨f,rfl⟩
 rintro N S ⟨x,y,_,rfl,l16,rfl,g,rfl⟩;refine sr<|vx (leN 29 0 [I a.Row,I d,B false] (g.on 1 rfl))<|md (sA 29 [I a.Row,I d,B false] 0 g ⟨rfl,rfl,rfl,trivial⟩) ?_;rintro j D h;refine RD ?_;cases k;have n:=h.sD 2 [];exact uj (c:=j) (vs:=[I a.Row,I d,B false]) rfl (by kernel_rfl) (by kernel_rfl) (by kernel_rfl) (h.on 0 rfl _ rfl).1 ⟨_,j,rfl,rfl,pt,n,rfl⟩
def qk (sg:Sto) (p0:Option Nat) (p1:Int):Option (Sto×Bool):=
 (ir p1).bind fun s=>
 if (!s)=true then
 some (sg,false)
 else
 (orE p0.isNone ((p0).bind fun j=>
 (sg.place_Pen[j]?).bind fun l=>
 some l.G.isNone)).bind fun i=>
 if i then
 some (sg,true)
 else
 (p0).bind fun k=>
 (sg.place_Pen[k]?).bind fun a=>
 (cg sg a.G).bind fun m=>
 (bM sg a.G).bind fun n=>
 (ej a.At m n).bind fun h=>
 (if (p1==13)=true then
 (dG h).bind fun o=>
 (p0).bind fun d=>
 (sg.place_Pen[d]?).bind fun f=>
 (sg.set_place_Pen d (⟨f.G,o,f.Auto⟩:bq)).bind fun b=>
 some b
 else
 if (p1==10)=true then
 (fA sg p0).bind fun p=>
 some p
 else
 if (p1==8)=true then
 (lT h).bind fun q=>
 (p0).bind fun e=>
 (sg.place_Pen[e]?).bind fun g=>
 (sg.set_place_Pen e (⟨g.G,q,g.Auto⟩:bq)).bind fun c=>
 some c
 else
 some sg).bind fun r=>
 some (r,true)
theorem EV (O0:Own c0 G F) (g:Rel c0 sg G) (p0:Option Nat) (j:Int){r:Sto×Bool}(S:Pt 2 c0 v1 p0) (H:qk sg p0 j=some r): RU 197 #[v1,J j] c0 fun c v=>∃G_:Gm,Own c G_ F/\Rel c r.1 G_/\v=B r.2:=by
 unfold qk at H;refine en func197 rfl rfl<|Ru false<|Rx<|RB (J j)<|bn H fun o5 h3 H=>cl (pa O0 j h3) ?_;rintro v9 c8 o ⟨O5,rfl⟩;refine Ri (!o5)<|RF H (fun t4 H=>?_) (fun t4 H=>?_)
 ·refine Ru false<|RD<|thr ?_;cases H;exact Rz c8 ⟨G,O5,g.m,rfl⟩
 refine RG<|W.seq<|W.seq<|bn H fun c3 s1 H=>W.join (Jn c8 fun c l=>Own c G F/\l= [(0,v1),(1,J j),(17,B c3)]) ?_ ?_
 ·clear H;refine Rv v1<|vr (B p0.isNone) (by rcases S.m.cs with ⟨y,z⟩|⟨b_,y,z⟩ <;> (subst y; rw [z]; kernel_rfl)) ?_;rcases bo p0.isNone with x|x
  ·obtain rfl:=orT x s1;exact vb x<|pz<|pz<|ps<|Ri true<|Ry c8 ⟨O5,rfl⟩
  have u:=orF x s1;refine vb x<|wa v1<|wn<|bn u fun a6 v4 u=>?_;obtain ⟨k1,rfl,u4⟩:=((S.mono o)).get v4;refine va (Q k1)<|wa (Q k1)<|wn<|bn u fun t0 w4 u=>?_;obtain ⟨v18,y4,x4⟩:=Rel.open_place_Pen (g.mono o) w4 u4;refine vx (le1 0 jT (O5.gon y4 0 rfl))<|wn<|vr (B t0.G.isNone) (by rcases (x4).cs with ⟨y,z⟩|⟨b_,y,z⟩ <;> (subst y; rw [z]; kernel_rfl)) ?_;cases u;exact Ri t0.G.isNone<|Ry c8 ⟨O5,rfl⟩
 rintro e_ w_ ⟨m1,w6,_,rfl,n,rfl,a1,rfl⟩;refine nrm<|cn H (fun z4 H=>?_) (fun z4 H=>?_)
 ·refine Ru true<|RD<|thr ?_;cases H;exact Rz m1 ⟨G,a1,g.m,rfl⟩
 refine RG<|W.seq<|bn H fun b6 a5 H=>bn H fun d b5 H=>bn H fun s t1 H=>bn H fun t l0 H=>bn H fun b R H=>W.join (Jn m1 fun c l=>∃P,Own c G ((Eb P 29 [I b.Row,I b.Col,B b.Pending])::F)/\l= [(0,v1),(1,J j),(5,Q P)]) ?_ ?_
 ·clear H;refine rD [] (Kp G []) a1 ?_;intro j4 w1 d0;have x0:=(Kp.nil d0);refine ta 0 v1 ?_;obtain ⟨k,rfl,c5⟩:=((S.mono (o.trans (n.trans w1)))).get a5;refine ta 1 (Q k)<|ta 2 (Qo k 1) ?_;obtain ⟨v39,m0,A⟩:=Rel.open_place_Pen (g.mono (o.trans (n.trans w1))) b5 c5;refine tkx 3 x0 (fun c' u1 hk=>leN 29 1 [I d.At.Row,I d.At.Col,B d.At.Pending] (hk.gon m0 0 rfl)) (ta 4 (Q k)<|ta 5 (Q k)<|ta 6 (Q k)<|tkx 7 x0 (fun c' u1 hk=>le1 0 jT (hk.gon m0 0 rfl)) (ta 9 (Q k)<|ta 10 (Q k)<|ta 11 (Q k)<|tkx 12 x0 (fun c' u1 hk=>le1 0 jT (hk.gon m0 0 rfl)) (mn2 8 15 ?_ ?_)))
  ·refine gc 8 (cU d0 g.m d.G A t1) ?_;rintro v47 k4 x6 ⟨e0,rfl⟩;have d5:=(Kp.nil e0);refine ⟨.inr d5,mn2 13 15 ?_ ?_⟩
   ·refine gc 13 (bH e0 g.m d.G A.m l0) ?_;rintro v54 l4 y6 ⟨f0,rfl⟩;have e5:=(Kp.nil f0);refine ⟨.inr e5,mn2 14 15 ?_ ?_⟩
    ·refine gc 14 (ek f0 d.At s t R) ?_;rintro h7 m4 z6 ⟨b1,rfl⟩;have f5:=(Kp.nil b1);refine ⟨.inr f5,o1 15 (gm 15 (al 29 [I 0,I 0,B false] b1) ?_)⟩;rintro i7 n4 a7 ⟨f4,rfl,c1⟩;have g5:=(Kp.nil c1);refine ⟨.inr g5,o1 16 (gD 16 (sA 29 [I b.Row,I b.Col,B b.Pending] 0 c1 ⟨rfl,rfl,rfl,trivial⟩) ?_)⟩;rintro n1 b7 d1;have h5:=(Kp.nil d1);exact ⟨.inr h5,dn (nrm<|jn n1 ⟨f4,d1,rfl⟩)⟩
    refine gm 15 (al 29 [I 0,I 0,B false] f0) ?_;rintro j7 o4 c7 ⟨g4,rfl,e1⟩;have i5:=(Kp.nil e1);refine ⟨.inr i5,o1 14 (gc 14 (ek e1 d.At s t R) ?_)⟩;rintro k7 p4 d7 ⟨f1,rfl⟩;have j5:=(Kp.nil f1);refine ⟨.inr j5,o1 16 (gD 16 (sA 29 [I b.Row,I b.Col,B b.Pending] 0 f1 ⟨rfl,rfl,rfl,trivial⟩) ?_)⟩;rintro q1 e7 g1;have k5:=(Kp.nil g1);exact ⟨.inr k5,dn (nrm<|jn q1 ⟨g4,g1,rfl⟩)⟩
   refine gm 15 (al 29 [I 0,I 0,B false] e0) ?_;rintro l7 q4 f7 ⟨h4,rfl,h1⟩;have l5:=(Kp.nil h1);refine ⟨.inr l5,o1 13 (gc 13 (bH h1 g.m d.G A.m l0) ?_)⟩;rintro m7 r4 g7 ⟨i1,rfl⟩;have m5:=(Kp.nil i1);refine ⟨.inr m5,o1 14 (gc 14 (ek i1 d.At s t R) ?_)⟩;rintro n6 t2 e6 ⟨j1,rfl⟩;have v3:=(Kp.nil j1);refine ⟨.inr v3,o1 16 (gD 16 (sA 29 [I b.Row,I b.Col,B b.Pending] 0 j1 ⟨rfl,rfl,rfl,trivial⟩) ?_)⟩;rintro g0 f6 T;have w3:=(Kp.nil T);exact ⟨.inr w3,dn (nrm<|jn g0 ⟨h4,T,rfl⟩)⟩
  refine gm 15 (al 29 [I 0,I 0,B false] d0) ?_;rintro o6 u2 g6 ⟨s2,rfl,U⟩;have x3:=(Kp.nil U);refine ⟨.inr x3,o1 8 (gc 8 (cU U g.m d.G A.m t1) ?_)⟩;rintro p6 v2 h6 ⟨X,rfl⟩;have y3:=(Kp.nil X);refine ⟨.inr y3,o1 13 (gc 13 (bH X g.m d.G A.m l0) ?_)⟩;rintro q6 w2 i6 ⟨Z,rfl⟩;have z3:=(Kp.nil Z);refine ⟨.inr z3,o1 14 (gc 14 (ek Z d.At s t R) ?_)⟩;rintro r6 x2 j6 ⟨a0,rfl⟩;have a4:=(Kp.nil a0);refine ⟨.inr a4,o1 16 (gD 16 (sA 29 [I b.Row,I b.Col,B b.Pending] 0 a0 ⟨rfl,rfl,rfl,trivial⟩) ?_)⟩;rintro h0 k6 b0;have b4:=(Kp.nil b0);exact ⟨.inr b4,dn (nrm<|jn h0 ⟨s2,b0,rfl⟩)⟩
 rintro e_ w_ ⟨i0,v5,_,rfl,i,rfl,P,h,rfl⟩;refine nrm<|bn H fun c4 a c2=>W.seqJ (Jn i0 fun c l=>∃G_,Own c G_ ((Eb P 29 [I b.Row,I b.Col,B b.Pending])::F)/\l= []/\Rel c c4 G_) ?_ ?_
 ·refine RB (J j)<|wln<|W.block<|sr<|Rk (j==13)<|RF a (fun d3 a=>?_) (fun d3 a=>?_)
  ·refine Rv v1<|vx (leN 29 0 [I b.Row,I b.Col,B b.Pending] (h.on 0 rfl))<|bn a fun e e3 a=>cl (kp h b e3) ?_;rintro s6 t5 D ⟨d2,rfl⟩;refine bn a fun c6 f3 a=>?_;obtain ⟨p,rfl,j0⟩:=((S.mono (o.trans (n.trans (i.trans D))))).get f3;refine va (Q p)<|Rs p 1<|bn a fun u0 g3 a=>?_;obtain ⟨M,j3,i3⟩:=Rel.open_place_Pen (g.mono (o.trans (n.trans (i.trans D)))) g3 j0;refine md (gB 29 1 [I e.Row,I e.Col,B e.Pending] [M,I e.Row,I e.Col,B e.Pending,B u0.Auto] 0 d2 j3 ⟨rfl,rfl,rfl,trivial⟩) ?_;rintro y2 q0 e2;refine bn a fun d4 k3 a=>?_;obtain ⟨x1,f2,n2,x5,q5⟩:=Rel.put_place_Pen e2 (g.mono (o.trans (n.trans (i.trans (D.trans q0))))) (E':=[(Eb p 73 [M,I e.Row,I e.Col,B e.Pending,B u0.Auto])]) k3 ⟨p,M,(tm j0),rfl,(i3.mono q0)⟩;refine WL.nil<|RH ?_;cases a;exact jn y2 ⟨x1,f2,rfl,n2⟩
  refine sr<|Rk (j==10)<|RF a (fun l3 a=>?_) (fun l3 a=>?_)
  ·refine Rv v1<|bn a fun v6 m3 a=>cl (oH h g.m p0 S.m m3) ?_;rintro t6 z2 l6 ⟨y1,g2,o2,rfl⟩;refine WL.nil<|RH ?_;cases a;exact jn z2 ⟨y1,g2,rfl,o2⟩
  refine sr<|Rk (j==8)<|RF a (fun n3 a=>?_) (fun n3 a=>?_)
  ·refine Rv v1<|vx (leN 29 0 [I b.Row,I b.Col,B b.Pending] (h.on 0 rfl))<|bn a fun f o3 a=>cl (yV h b o3) ?_;rintro u6 u5 E ⟨i2,rfl⟩;refine bn a fun d6 p3 a=>?_;obtain ⟨q,rfl,k0⟩:=((S.mono (o.trans (n.trans (i.trans E))))).get p3;refine va (Q q)<|Rs q 1<|bn a fun v0 q3 a=>?_;obtain ⟨N,t3,s3⟩:=Rel.open_place_Pen (g.mono (o.trans (n.trans (i.trans E)))) q3 k0;refine md (gB 29 1 [I f.Row,I f.Col,B f.Pending] [N,I f.Row,I f.Col,B f.Pending,B v0.Auto] 0 i2 t3 ⟨rfl,rfl,rfl,trivial⟩) ?_;rintro a3 s0 j2;refine bn a fun e4 u3 a=>?_;obtain ⟨z1,k2,p2,y5,r5⟩:=Rel.put_place_Pen j2 (g.mono (o.trans (n.trans (i.trans (E.trans s0))))) (E':=[(Eb q 73 [N,I f.Row,I f.Col,B f.Pending,B v0.Auto])]) u3 ⟨q,N,(tm k0),rfl,(s3.mono s0)⟩;refine WL.nil<|RH ?_;cases a;exact jn a3 ⟨z1,k2,rfl,p2⟩
  refine W.skip<|RH ?_;cases a;exact jn i0 ⟨G,h,rfl,g.m⟩
 rintro e_ w_ ⟨b3,w5,_,rfl,m6,rfl,b2,l2,rfl,q2⟩;refine Ru true<|RD ?_;cases c2;have m2:=l2.sD 1 [];exact Rz b3 ⟨b2,m2,q2,rfl⟩
def eq (p0:Int):Option Bool:=
 (bw (decide (p0>=0)) (some (decide (p0<=31)))).bind fun b=>
 (orE b ((bw (decide (p0>=127)) (some (decide (p0<=159)))).bind fun a=>
 some a)).bind fun c=>
 some c
theorem qP (e:Own c0 G F) (a:Int){r:Bool}(H:eq a=some r): RU 48 #[J a] c0 fun c v=>Own c G F/\v=B r:=by
 unfold eq at H;refine en func48 rfl rfl<|Ru false<|Rx<|bn H fun z t H=>bn H fun s n H=>W.join (Jn c0 fun c l=>Own c G F/\l= [(2,B s)]) ?_ ?_
 ·clear H;refine Rv (J a)<|Rj (a>=0) ?_;rcases bo (decide (a>=0)) with f|f
  ·have x:=anT f t;refine vb f<|wa (J a)<|Rm (a<=31) ?_;cases x;refine Rj (a<=31) ?_;rcases bo (decide (a<=31)) with g|g
   ·obtain rfl:=orT g n;exact vb g<|pz<|pz<|pz<|Rk true<|Ry c0 ⟨e,rfl⟩
   have i:=orF g n;refine vb g<|wa (J a)<|Rm (a>=127)<|wn<|bn i fun m u i=>?_;rcases bo (decide (a>=127)) with h|h
   ·have y:=anT h u;refine vb h<|wa (J a)<|Rm (a<=159)<|wn ?_;cases y;refine Rj (a<=159) ?_;cases i;exact vv (B (decide (a<=159)))<|Ry c0 ⟨e,rfl⟩
   obtain rfl:=anF h u;refine vb h<|pz<|Rn false ?_;cases i;exact Rk false<|Ry c0 ⟨e,rfl⟩
  obtain rfl:=anF f t;refine vb f<|pz<|Ri false ?_;have j:false=false:=rfl;have d:=orF j n;refine vb j<|wa (J a)<|Rm (a>=127)<|wn<|bn d fun m k d=>?_;rcases bo (decide (a>=127)) with b|b
  ·have o:=anT b k;refine vb b<|wa (J a)<|Rm (a<=159)<|wn ?_;cases o;refine Rj (a<=159) ?_;cases d;exact vv (B (decide (a<=159)))<|Ry c0 ⟨e,rfl⟩
  obtain rfl:=anF b k;refine vb b<|pz<|Rn false ?_;cases d;exact Rk false<|Ry c0 ⟨e,rfl⟩
 rintro E M ⟨q,A,_,rfl,D,rfl,p,rfl⟩;refine nrm<|W.ret ?_;cases H;exact Rz q ⟨p,rfl⟩
def iR:Option (List (Int×Int)):=
 some ([(13,13)]:List (Int×Int))
theorem rN (d:Own c0 G F){r:List (Int×Int)}(H:iR=some r): RU 180 #[] c0 fun c v=>∃a b,Own c G (es true aZ a 291 b r::F)/\v=a/\OA aZ c a b r:=by
 unfold iR at H;refine en func180 rfl rfl<|RB Y<|wln<|RB (III 13 13)<|me (sl aZ 291 [[I 13,I 13]] ([(13,13)]:List (Int×Int)) d ⟨rfl,trivial⟩) ?_;rintro v5 f i ⟨h,e,g⟩;refine va v5<|RD ?_;cases H;exact Rz f ⟨v5,h,e,rfl,g⟩
def iQ:Option (List (Int×Int)):=
 some ([(10,10)]:List (Int×Int))
theorem rM (d:Own c0 G F){r:List (Int×Int)}(H:iQ=some r): RU 181 #[] c0 fun c v=>∃a b,Own c G (es true aZ a 291 b r::F)/\v=a/\OA aZ c a b r:=by
 unfold iQ at H;refine en func181 rfl rfl<|RB Y<|wln<|RB (III 10 10)<|me (sl aZ 291 [[I 10,I 10]] ([(10,10)]:List (Int×Int)) d ⟨rfl,trivial⟩) ?_;rintro v5 f i ⟨h,e,g⟩;refine va v5<|RD ?_;cases H;exact Rz f ⟨v5,h,e,rfl,g⟩
def iP:Option (List (Int×Int)):=
 some ([(0,9),(11,12),(14,31),(127,159),(173,173),(1564,1564),(6158,6158),(8203,8203),(8206,8207),(8232,8238),(8288,8303),(65279,65279),(65520,65531),(917504,917535),(917632,917759),(918000,921599)]:List (Int×Int))
theorem rL (d:Own c0 G F){r:List (Int×Int)}(H:iP=some r): RU 182 #[] c0 fun c v=>∃a b,Own c G (es true aZ a 291 b r::F)/\v=a/\OA aZ c a b r:=by
 unfold iP at H;refine en func182 rfl rfl<|RB Y<|wln<|RB (III 0 9)<|va (III 11 12)<|va (III 14 31)<|va (III 127 159)<|va (III 173 173)<|va (III 1564 1564)<|va (III 6158 6158)<|va (III 8203 8203)<|va (III 8206 8207)<|va (III 8232 8238)<|va (III 8288 8303)<|va (III 65279 65279)<|va (III 65520 65531)<|va (III 917504 917535)<|va (III 917632 917759)<|va (III 918000 921599)<|me (sl aZ 291 [[I 0,I 9],[I 11,I 12],[I 14,I 31],[I 127,I 159],[I 173,I 173],[I 1564,I 1564],[I 6158,I 6158],[I 8203,I 8203],[I 8206,I 8207],[I 8232,I 8238],[I 8288,I 8303],[I 65279,I 65279],[I 65520,I 65531],[I 917504,I 917535],[I 917632,I 917759],[I 918000,I 921599]] ([(0,9),(11,12),(14,31),(127,159),(173,173),(1564,1564),(6158,6158),(8203,8203),(8206,8207),(8232,8238),(8288,8303),(65279,65279),(65520,65531),(917504,917535),(917632,917759),(918000,921599)]:List (Int×Int)) d ⟨rfl,rfl,rfl,rfl,rfl,rfl,rfl,rfl,rfl,rfl,rfl,rfl,rfl,rfl,rfl,rfl,trivial⟩) ?_;rintro v5 f i ⟨h,e,g⟩;refine va v5<|RD ?_;cases H;exact Rz f ⟨v5,h,e,rfl,g⟩
def fU:List (Int×Int):=[(768,879),(1155,1161),(1425,1469),(1471,1471),(1473,1474),(1476,1477),(1479,1479),(1552,1562),(1611,1631),(1648,1648),(1750,1756),(1759,1764),(1767,1768),(1770,1773),(1809,1809),(1840,1866),(1958,1968),(2027,2035),(2070,2073),(2075,2083),(2259,2273),(2275,2306),(2362,2362),(2364,2364),(2369,2376),(2381,2381),(2385,2391),(2402,2403),(2433,2433),(2492,2492),(2494,2494),(2497,2500),(2509,2509),(2519,2519),(2530,2531),(2561,2562),(2620,2620),(2625,2626),(2631,2632),(2635,2637),(2748,2748),(2753,2757),(2765,2765),(2876,2876),(2878,2879),(2881,2884),(2893,2893),(2902,2903),(3132,3132),(3134,3136),(3142,3144),(3146,3149),(3276,3277),(3390,3390),(3393,3396),(3405,3405),(3633,3633),(3636,3642),(3655,3662),(3761,3761),(3764,3772),(3864,3865),(3953,3966),(4957,4959),(6832,6862),(7616,7679),(8204,8204),(8400,8432),(12330,12335),(12441,12442),(42607,42610),(64286,64286),(65024,65039),(65056,65071),(127995,127999),(917536,917631),(917760,917999)]
def iO:Option (List (Int×Int)):=
 some fU
theorem rK (d:Own c0 G F){r:List (Int×Int)}(H:iO=some r): RU 183 #[] c0 fun c v=>∃a b,Own c G (es true aZ a 291 b r::F)/\v=a/\OA aZ c a b r:=by
 unfold iO at H;refine en func183 rfl rfl<|RB Y<|RO<|Rh (fU.map fun x=>III x.1 x.2)<|me (Own.sl (R:=aZ) (E:=291) (ls:=fU.map (fun x=>[I x.1,I x.2])) (vs:=(fU.map (fun x=>[I x.1,I x.2])).flatten) (xs:=fU) true d (ba _) rfl (pV.map _ (fun _=>rfl) _) (by kernel_rfl) (by kernel_rfl)) ?_;rintro v5 f i ⟨h,e,g⟩;refine va v5<|RD ?_;cases H;exact Rz f ⟨v5,h,e,rfl,g⟩
def iN:Option (List (Int×Int)):=
 some ([(8205,8205)]:List (Int×Int))
theorem rJ (d:Own c0 G F){r:List (Int×Int)}(H:iN=some r): RU 184 #[] c0 fun c v=>∃a b,Own c G (es true aZ a 291 b r::F)/\v=a/\OA aZ c a b r:=by
 unfold iN at H;refine en func184 rfl rfl<|RB Y<|wln<|RB (III 8205 8205)<|me (sl aZ 291 [[I 8205,I 8205]] ([(8205,8205)]:List (Int×Int)) d ⟨rfl,trivial⟩) ?_;rintro v5 f i ⟨h,e,g⟩;refine va v5<|RD ?_;cases H;exact Rz f ⟨v5,h,e,rfl,g⟩
def iM:Option (List (Int×Int)):=
 some ([(127462,127487)]:List (Int×Int))
theorem rI (d:Own c0 G F){r:List (Int×Int)}(H:iM=some r): RU 185 #[] c0 fun c v=>∃a b,Own c G (es true aZ a 291 b r::F)/\v=a/\OA aZ c a b r:=by
 unfold iM at H;refine en func185 rfl rfl<|RB Y<|wln<|RB (III 127462 127487)<|me (sl aZ 291 [[I 127462,I 127487]] ([(127462,127487)]:List (Int×Int)) d ⟨rfl,trivial⟩) ?_;rintro v5 f i ⟨h,e,g⟩;refine va v5<|RD ?_;cases H;exact Rz f ⟨v5,h,e,rfl,g⟩
def iL:Option (List (Int×Int)):=
 some ([(1536,1541),(1757,1757),(1807,1807),(2192,2193),(2274,2274),(3406,3406),(69821,69821),(69837,69837)]:List (Int×Int))
theorem rH (d:Own c0 G F){r:List (Int×Int)}(H:iL=some r): RU 186 #[] c0 fun c v=>∃a b,Own c G (es true aZ a 291 b r::F)/\v=a/\OA aZ c a b r:=by
 unfold iL at H;refine en func186 rfl rfl<|RB Y<|wln<|RB (III 1536 1541)<|va (III 1757 1757)<|va (III 1807 1807)<|va (III 2192 2193)<|va (III 2274 2274)<|va (III 3406 3406)<|va (III 69821 69821)<|va (III 69837 69837)<|me (sl aZ 291 [[I 1536,I 1541],[I 1757,I 1757],[I 1807,I 1807],[I 2192,I 2193],[I 2274,I 2274],[I 3406,I 3406],[I 69821,I 69821],[I 69837,I 69837]] ([(1536,1541),(1757,1757),(1807,1807),(2192,2193),(2274,2274),(3406,3406),(69821,69821),(69837,69837)]:List (Int×Int)) d ⟨rfl,rfl,rfl,rfl,rfl,rfl,rfl,rfl,trivial⟩) ?_;rintro v5 f i ⟨h,e,g⟩;refine va v5<|RD ?_;cases H;exact Rz f ⟨v5,h,e,rfl,g⟩
def fT:List (Int×Int):=[(2307,2307),(2363,2363),(2366,2368),(2377,2380),(2382,2383),(2434,2435),(2495,2496),(2503,2504),(2507,2508),(2563,2563),(2622,2624),(2691,2691),(2750,2752),(2761,2761),(2818,2819),(2880,2880),(2887,2888),(3073,3075),(3137,3140),(3330,3331),(3391,3392),(3398,3400),(3635,3635),(3763,3763),(3902,3903),(4155,4156)]
def iK:Option (List (Int×Int)):=
 some fT
theorem rG (d:Own c0 G F){r:List (Int×Int)}(H:iK=some r): RU 187 #[] c0 fun c v=>∃a b,Own c G (es true aZ a 291 b r::F)/\v=a/\OA aZ c a b r:=by
 unfold iK at H;refine en func187 rfl rfl<|RB Y<|RO<|Rh (fT.map fun x=>III x.1 x.2)<|me (Own.sl (R:=aZ) (E:=291) (ls:=fT.map (fun x=>[I x.1,I x.2])) (vs:=(fT.map (fun x=>[I x.1,I x.2])).flatten) (xs:=fT) true d (ba _) rfl (pV.map _ (fun _=>rfl) _) (by kernel_rfl) (by kernel_rfl)) ?_;rintro v5 f i ⟨h,e,g⟩;refine va v5<|RD ?_;cases H;exact Rz f ⟨v5,h,e,rfl,g⟩
def dX (p0:List (Int×Int)) (p1:Int):Option Bool:=
 (cm (σ:=Int) (τ:=Bool ⊕ Unit) (((p0.length:Int)-0).toNat+1) (fun b=>
 if decide (b<(p0.length:Int)) then
 (idx p0 b).bind fun d=>
 (bw (decide ((w64 p1)>=d.1)) ((idx p0 b).bind fun e=>
 some (decide ((w64 p1)<=e.2)))).bind fun c=>
 if c then
 some (.inr (.inl true))
 else
 some (.inl ((w64 (b+1))))
 else
 some (.inr (.inr ()))) 0).bind fun a=>
 match a with
 | .inl a=>
 some a
 | .inr a=>
 some false
theorem kg (O0:Own c0 G F) (A:List (Int×Int)) (b:Int){r:Bool}(g:Sl aZ c0 v1 A) (H:dX A b=some r): RU 188 #[v1,J b] c0 fun c v=>Own c G F/\v=B r:=by
 unfold dX at H;refine en func188 rfl rfl<|Ru false<|Rx<|RA 0<|wln<|W.block<|bn H fun h h3 u=>lp h3 (fun a=>Jn c0 fun c l=>Own c G F/\l= [(0,v1),(1,J b),(5,I a)]) (fun t=>match t with|.inl E=>(fun g0 ex e w=>ex= .ret/\(Jn c0 fun c l=>Own c G F/\l= [(4,B g0)]) e w) E|.inr E=>(fun l0 ex e w=>ex= .exit 0/\(Jn c0 fun c l=>Own c G F/\l= []) e w) E) ?_ ?_ ?_
 ·clear u h3;intro a v0 S h0 H;revert S h0;rintro z D ⟨k,g6,_,rfl,l5,rfl,x,rfl⟩;refine W.seq<|RA a<|va v1<|vx (ln 3 ze g.m)<|Rj (a<(A.length:Int))<|RF H (fun U H=>?_) (fun U H=>?_)
  ·refine RG<|RM<|W.seq<|bn H fun i p H=>bn H fun y q H=>W.join (Jn k fun c l=>Own c G F/\l= [(0,v1),(1,J b),(5,I a),(29,B y)]) ?_ ?_
   ·clear H;refine Rv (J b)<|Rt b<|va v1<|Ro a ?_;obtain ⟨j0,X,e0⟩:=Sl.at (g.mono l5) (aP p);obtain rfl:=X;refine vx (ix ze g.m p)<|Rs (sb v1) (so v1+a.toNat*2)<|vx (l1 u_3 (e0 0 _ rfl))<|Rj ((w64 b)>=i.1) ?_;rcases bo (decide ((w64 b)>=i.1)) with d|d
    ·have f:=anT d q;refine vb d<|wa (J b)<|wa (I (w64 b))<|wa v1<|wa (I a)<|wn<|bn f fun j s f=>?_;obtain ⟨k0,Z,f0⟩:=Sl.at (g.mono l5) (aP s);obtain rfl:=Z;refine vx (ix ze g.m s)<|wa (Qo (sb v1) (so v1+a.toNat*2+1))<|wn<|vx (l1 u_3 (f0 1 _ rfl))<|Rm ((w64 b)<=j.2) ?_;cases f;exact Rj ((w64 b)<=j.2)<|Ry k ⟨x,rfl⟩
    obtain rfl:=anF d q;exact vb d<|pz<|pz<|pz<|pz<|Ri false<|Ry k ⟨x,rfl⟩
   rintro z D ⟨o,m0,_,rfl,s0,rfl,n,rfl⟩;refine nrm<|cn H (fun a0 H=>?_) (fun a0 H=>?_)
   ·refine Ru true<|RD<|RK ?_;cases H;exact ⟨_,rfl,⟨rfl,jn o ⟨n,rfl⟩⟩⟩
   refine W.skip<|RH<|RC a<|Rq (a+1)<|WL.nil ?_;cases H;exact ⟨_,rfl,jn o ⟨n,rfl⟩⟩
  refine W.exit<|thx ?_;cases H;exact ⟨_,rfl,rfl,jn k ⟨x,rfl⟩⟩
 ·exact jn c0 ⟨O0,rfl⟩
 rcases h with h|h
 ·intro T; revert T;rintro _ z D ⟨rfl,P,o0,_,rfl,t0,rfl,M,rfl⟩;refine RK ?_;cases u;exact Rz P ⟨M,rfl⟩
 rintro _ z D ⟨rfl,R,q0,_,rfl,u0,rfl,N,rfl⟩;refine RJ<|Ru false<|RD ?_;cases u;exact Rz R ⟨N,rfl⟩
def dM (p0:Int):Option (Int×Int×Int):=
 (orE (decide ((w64 p0)<44032)) (some (decide ((w64 p0)>55203)))).bind fun e=>
 if e then
 some (0,0,0)
 else
 (cm (σ:=Int×Int) (τ:=(Int×Int×Int) ⊕ Unit) (((4370:Int)-4352).toNat+2) (fun d=>
 if decide (d.2<=4370) then
 (cm (σ:=Int×Int) (τ:=(Int×Int×Int) ⊕ Int) (((4469:Int)-4449).toNat+2) (fun a=>
 if decide (a.2<=4469) then
 if decide ((w64 p0)<(w64 (a.1+28))) then
 (if ((w64 ((w64 (4519+(w64 p0)))-a.1))==4519)=true then
 some 0
 else
 some ((w64 ((w64 (4519+(w64 p0)))-a.1)))).bind fun f=>
 some (.inr (.inl (d.2,a.2,f)))
 else
 some (.inl ((w64 (a.1+28)),(w64 (a.2+1))))
 else
 some (.inr (.inr a.1))) (d.1,4449)).bind fun b=>
 match b with
 | .inl b=>
 some (.inr (.inl b))
 | .inr b=>
 some (.inl (b,(w64 (d.2+1))))
 else
 some (.inr (.inr ()))) (44032,4352)).bind fun c=>
 match c with
 | .inl c=>
 some c
 | .inr c=>
 some (0,0,0)
theorem rO (T:Own c0 G F) (d:Int){r:Int×Int×Int}(H:dM d=some r): RU 249 #[J d] c0 fun c v=>Own c G F/\v= .tuple #[I r.1,I r.2.1,I r.2.2]:=by
 unfold dM at H;refine en func249 rfl rfl<|sr<|vv (I 0)<|Ro 0<|wln<|RB (J d)<|Rq d<|Rx<|W.seq<|bn H fun R h1 H=>W.join (Jn c0 fun c l=>Own c G F/\l= [(5,I (w64 d)),(17,B R)]) ?_ ?_
 ·clear H;refine W.region<|Rt d<|Rj ((w64 d)<44032) ?_;rcases bo (decide ((w64 d)<44032)) with A|A
  ·obtain rfl:=orT A h1;exact vb A<|pz<|Ri true<|Ry c0 ⟨T,rfl⟩
  have H3:=orF A h1;refine vb A<|wa (I (w64 d))<|Rm ((w64 d)>55203) ?_;cases H3;exact Rj ((w64 d)>55203)<|Ry c0 ⟨T,rfl⟩
 rintro j n ⟨x,g5,_,rfl,l4,rfl,O6,rfl⟩;refine nrm<|cn H (fun k0 H=>?_) (fun k0 H=>?_)
 ·refine sr<|vv (I 0)<|Ro 0<|RD<|thr ?_;cases H;exact r3 (qq x ⟨O6,rfl⟩)
 refine RG<|RA 44032<|Rx<|RA 4352<|wln<|W.block<|bn H fun k N s=>lp N (fun b=>Jn x fun c l=>Own c G F/\l= [(5,I (w64 d)),(6,I b.1),(7,I b.2)]) (fun t=>match t with|.inl o=>(fun f ex e w=>ex= .ret/\(Jn x fun c l=>Own c G F/\l= [(2,I f.1),(3,I f.2.1),(4,I f.2.2)]) e w) o|.inr o=>(fun t0 ex e w=>ex= .exit 0/\(Jn x fun c l=>Own c G F/\l= []) e w) o) ?_ ?_ ?_
 ·clear s N;intro b s0 y D H;revert y D;rintro j n ⟨h,v0,_,rfl,c1,rfl,M,rfl⟩;refine W.seq<|RA b.2<|Rj (b.2<=4370)<|RF H (fun l0 H=>?_) (fun l0 H=>?_)
  ·refine RG<|RM<|RA 4449<|wln<|W.block<|bn H fun m P u=>lp P (fun a=>Jn h fun c l=>Own c G F/\l= [(5,I (w64 d)),(6,I a.1),(7,I b.2),(8,I a.2)]) (fun t=>match t with|.inl o=>(fun f ex e w=>ex= .ret/\(Jn h fun c l=>Own c G F/\l= [(2,I f.1),(3,I f.2.1),(4,I f.2.2)]) e w) o|.inr o=>(fun E ex e w=>ex= .exit 2/\(Jn h fun c l=>Own c G F/\l= [(5,I (w64 d)),(6,I E),(7,I b.2)]) e w) o) ?_ ?_ ?_
   ·clear u P;intro a s0 y D H;revert y D;rintro j n ⟨i,w0,_,rfl,d1,rfl,q,rfl⟩;refine W.seq<|RA a.2<|Rj (a.2<=4469)<|RF H (fun m0 H=>?_) (fun m0 H=>?_)
    ·refine RG<|RM<|W.seq<|sr<|Rt d<|Ro a.1<|Rt (a.1+28)<|Rj ((w64 d)<(w64 (a.1+28)))<|RF H (fun o0 H=>?_) (fun o0 H=>?_)
     ·refine sr<|Rt d<|Rt (4519+(w64 d))<|Ro a.1<|Rq ((w64 (4519+(w64 d)))-a.1)<|wln<|bn H fun p g S=>W.seqJ (Jn i fun c l=>Own c G F/\l= [(7,I b.2),(8,I a.2),(9,I p)]) ?_ ?_
      ·refine sr<|Rt ((w64 (4519+(w64 d)))-a.1)<|Ri ((w64 ((w64 (4519+(w64 d)))-a.1))==4519)<|RF g (fun q0 g=>?_) (fun q0 g=>?_)
       ·refine RC 0<|wln ?_;cases g;exact jn i ⟨q,rfl⟩
       refine RG ?_;cases g;exact jn i ⟨q,rfl⟩
      rintro j n ⟨e0,x0,_,rfl,e1,rfl,U,rfl⟩;refine RA b.2<|Ro a.2<|Ro p<|Ro b.2<|Ro a.2<|Ro p<|RD<|thr<|RK ?_;cases S;exact ⟨_,rfl,⟨rfl,jn e0 ⟨U,rfl⟩⟩⟩
     refine RG<|RC a.1<|Rq (a.1+28)<|WL.nil<|RH<|RC a.2<|Rq (a.2+1)<|WL.nil ?_;cases H;exact ⟨_,rfl,jn i ⟨q,rfl⟩⟩
    refine W.exit<|thx ?_;cases H;exact ⟨_,rfl,rfl,jn i ⟨q,rfl⟩⟩
   ·exact jn h ⟨M,rfl⟩
   rcases m with m|m
   ·intro z; revert z;rintro _ j n ⟨rfl,f0,y0,_,rfl,f1,rfl,X,rfl⟩;refine bkr<|RK ?_;cases u;exact ⟨_,rfl,⟨rfl,jn f0 ⟨X,rfl⟩⟩⟩
   rintro _ j n ⟨rfl,g0,z0,_,rfl,g1,rfl,Z,rfl⟩;refine bke<|RH<|RC b.2<|Rq (b.2+1)<|WL.nil ?_;cases u;exact ⟨_,rfl,jn g0 ⟨Z,rfl⟩⟩
  refine W.exit<|thx ?_;cases H;exact ⟨_,rfl,rfl,jn h ⟨M,rfl⟩⟩
 ·exact jn x ⟨O6,rfl⟩
 rcases k with k|k
 ·intro z; revert z;rintro _ j n ⟨rfl,h0,a1,_,rfl,i1,rfl,a0,rfl⟩;refine RK ?_;cases s;exact r3 (qq h0 ⟨a0,rfl⟩)
 rintro _ j n ⟨rfl,i0,b1,_,rfl,j1,rfl,b0,rfl⟩;refine RJ<|sr<|vv (I 0)<|Ro 0<|RD ?_;cases s;exact r3 (qq i0 ⟨b0,rfl⟩)
def eF (p0:Int):Option Int:=
 (bw (decide ((w64 p0)>=4352)) (some (decide ((w64 p0)<=4447)))).bind fun j=>
 (orE j ((bw (decide ((w64 p0)>=43360)) (some (decide ((w64 p0)<=43388)))).bind fun c=>
 some c)).bind fun b=>
 if b then
 some 9
 else
 (bw (decide ((w64 p0)>=4448)) (some (decide ((w64 p0)<=4519)))).bind fun d=>
 (orE d ((bw (decide ((w64 p0)>=55216)) (some (decide ((w64 p0)<=55238)))).bind fun f=>
 some f)).bind fun e=>
 if e then
 some 10
 else
 (bw (decide ((w64 p0)>=4520)) (some (decide ((w64 p0)<=4607)))).bind fun g=>
 (orE g ((bw (decide ((w64 p0)>=55243)) (some (decide ((w64 p0)<=55291)))).bind fun i=>
 some i)).bind fun h=>
 if h then
 some 11
 else
 (dM p0).bind fun a=>
 if (a.1==0)=true then
 some 0
 else
 if (a.2.2==0)=true then
 some 12
 else
 some 13
theorem rP (z:Own c0 G F) (a:Int){r:Int}(H:eF a=some r): RU 189 #[J a] c0 fun c v=>Own c G F/\v=I r:=by
 unfold eF at H;refine en func189 rfl rfl<|RA 0<|wln<|RB (J a)<|Rq a<|Rx<|W.seq<|bn H fun s1 h1 H=>bn H fun i0 h2 H=>W.join (Jn c0 fun c l=>Own c G F/\l= [(0,J a),(3,I (w64 a)),(22,B i0)]) ?_ ?_
 ·clear H;refine W.region<|Rt a<|Rj ((w64 a)>=4352) ?_;rcases bo (decide ((w64 a)>=4352)) with M|M
  ·have H4:=anT M h1;refine vb M<|wa (I (w64 a))<|Rm ((w64 a)<=4447) ?_;cases H4;refine Rj ((w64 a)<=4447) ?_;rcases bo (decide ((w64 a)<=4447)) with P|P
   ·obtain rfl:=orT P h2;exact vb P<|pz<|pz<|pz<|Ri true<|Ry c0 ⟨z,rfl⟩
   have S:=orF P h2;refine vb P<|wa (I (w64 a))<|Rm ((w64 a)>=43360)<|wn<|bn S fun j0 h7 S=>?_;rcases bo (decide ((w64 a)>=43360)) with R|R
   ·have H9:=anT R h7;refine vb R<|wa (I (w64 a))<|Rm ((w64 a)<=43388)<|wn ?_;cases H9;refine Rj ((w64 a)<=43388) ?_;cases S;exact Rj ((w64 a)<=43388)<|Ry c0 ⟨z,rfl⟩
   obtain rfl:=anF R h7;refine vb R<|pz<|Rn false ?_;cases S;exact Ri false<|Ry c0 ⟨z,rfl⟩
  obtain rfl:=anF M h1;refine vb M<|pz<|Ri false ?_;have U:false=false:=rfl;have s:=orF U h2;refine vb U<|wa (I (w64 a))<|Rm ((w64 a)>=43360)<|wn<|bn s fun j0 X s=>?_;rcases bo (decide ((w64 a)>=43360)) with h|h
  ·have s0:=anT h X;refine vb h<|wa (I (w64 a))<|Rm ((w64 a)<=43388)<|wn ?_;cases s0;refine Rj ((w64 a)<=43388) ?_;cases s;exact Rj ((w64 a)<=43388)<|Ry c0 ⟨z,rfl⟩
  obtain rfl:=anF h X;refine vb h<|pz<|Rn false ?_;cases s;exact Ri false<|Ry c0 ⟨z,rfl⟩
 rintro e_ w_ ⟨d,t1,_,rfl,w1,rfl,f,rfl⟩;refine nrm<|cn H (fun c1 H=>?_) (fun c1 H=>?_)
 ·refine RA 9<|RD<|thr ?_;cases H;exact Rz d ⟨f,rfl⟩
 refine RG<|W.seq<|W.seq<|bn H fun p1 Z H=>bn H fun k0 E H=>W.join (Jn d fun c l=>Own c G F/\l= [(0,J a),(3,I (w64 a)),(36,B k0)]) ?_ ?_
 ·clear H;refine W.region<|Rt a<|Rj ((w64 a)>=4448) ?_;rcases bo (decide ((w64 a)>=4448)) with i|i
  ·have t0:=anT i Z;refine vb i<|wa (I (w64 a))<|Rm ((w64 a)<=4519) ?_;cases t0;refine Rj ((w64 a)<=4519) ?_;rcases bo (decide ((w64 a)<=4519)) with j|j
   ·obtain rfl:=orT j E;exact vb j<|pz<|pz<|pz<|Ri true<|Ry d ⟨f,rfl⟩
   have t:=orF j E;refine vb j<|wa (I (w64 a))<|Rm ((w64 a)>=55216)<|wn<|bn t fun l0 a0 t=>?_;rcases bo (decide ((w64 a)>=55216)) with k|k
   ·have u0:=anT k a0;refine vb k<|wa (I (w64 a))<|Rm ((w64 a)<=55238)<|wn ?_;cases u0;refine Rj ((w64 a)<=55238) ?_;cases t;exact Rj ((w64 a)<=55238)<|Ry d ⟨f,rfl⟩
   obtain rfl:=anF k a0;refine vb k<|pz<|Rn false ?_;cases t;exact Ri false<|Ry d ⟨f,rfl⟩
  obtain rfl:=anF i Z;refine vb i<|pz<|Ri false ?_;have b0:false=false:=rfl;have u:=orF b0 E;refine vb b0<|wa (I (w64 a))<|Rm ((w64 a)>=55216)<|wn<|bn u fun l0 d0 u=>?_;rcases bo (decide ((w64 a)>=55216)) with m|m
  ·have v0:=anT m d0;refine vb m<|wa (I (w64 a))<|Rm ((w64 a)<=55238)<|wn ?_;cases v0;refine Rj ((w64 a)<=55238) ?_;cases u;exact Rj ((w64 a)<=55238)<|Ry d ⟨f,rfl⟩
  obtain rfl:=anF m d0;refine vb m<|pz<|Rn false ?_;cases u;exact Ri false<|Ry d ⟨f,rfl⟩
 rintro e_ w_ ⟨e,u1,_,rfl,x1,rfl,g,rfl⟩;refine nrm<|cn H (fun d1 H=>?_) (fun d1 H=>?_)
 ·refine RA 10<|RD<|thr ?_;cases H;exact Rz e ⟨g,rfl⟩
 refine RG<|W.seq<|W.seq<|bn H fun q1 e0 H=>bn H fun m0 N H=>W.join (Jn e fun c l=>Own c G F/\l= [(0,J a),(50,B m0)]) ?_ ?_
 ·clear H;refine W.region<|Rt a<|Rj ((w64 a)>=4520) ?_;rcases bo (decide ((w64 a)>=4520)) with n|n
  ·have w0:=anT n e0;refine vb n<|wa (I (w64 a))<|Rm ((w64 a)<=4607) ?_;cases w0;refine Rj ((w64 a)<=4607) ?_;rcases bo (decide ((w64 a)<=4607)) with o|o
   ·obtain rfl:=orT o N;exact vb o<|pz<|pz<|pz<|Ri true<|Ry e ⟨g,rfl⟩
   have x:=orF o N;refine vb o<|wa (I (w64 a))<|Rm ((w64 a)>=55243)<|wn<|bn x fun o0 f0 x=>?_;rcases bo (decide ((w64 a)>=55243)) with p|p
   ·have x0:=anT p f0;refine vb p<|wa (I (w64 a))<|Rm ((w64 a)<=55291)<|wn ?_;cases x0;refine Rj ((w64 a)<=55291) ?_;cases x;exact Rj ((w64 a)<=55291)<|Ry e ⟨g,rfl⟩
   obtain rfl:=anF p f0;refine vb p<|pz<|Rn false ?_;cases x;exact Ri false<|Ry e ⟨g,rfl⟩
  obtain rfl:=anF n e0;refine vb n<|pz<|Ri false ?_;have g0:false=false:=rfl;have y:=orF g0 N;refine vb g0<|wa (I (w64 a))<|Rm ((w64 a)>=55243)<|wn<|bn y fun o0 h0 y=>?_;rcases bo (decide ((w64 a)>=55243)) with q|q
  ·have y0:=anT q h0;refine vb q<|wa (I (w64 a))<|Rm ((w64 a)<=55291)<|wn ?_;cases y0;refine Rj ((w64 a)<=55291) ?_;cases y;exact Rj ((w64 a)<=55291)<|Ry e ⟨g,rfl⟩
  obtain rfl:=anF q h0;refine vb q<|pz<|Rn false ?_;cases y;exact Ri false<|Ry e ⟨g,rfl⟩
 rintro e_ w_ ⟨z0,v1,_,rfl,y1,rfl,T,rfl⟩;refine nrm<|cn H (fun e1 H=>?_) (fun e1 H=>?_)
 ·refine RA 11<|RD<|thr ?_;cases H;exact Rz z0 ⟨T,rfl⟩
 refine RG<|RB (J a)<|bn H fun b f1 H=>cl (rO T a f1) ?_;rintro b2 D z1 ⟨A,rfl⟩;refine va (.tuple #[I b.1,I b.2.1,I b.2.2])<|Ro b.1<|Ro b.2.1<|Ro b.2.2<|Ro b.1<|Ro b.2.1<|Ro b.2.2<|Rx<|RA b.1<|Ri (b.1==0)<|RF H (fun i1 H=>?_) (fun i1 H=>?_)
 ·refine RA 0<|RD<|thr ?_;cases H;exact Rz D ⟨A,rfl⟩
 refine RG<|W.seq<|RA b.2.2<|Ri (b.2.2==0)<|RF H (fun j1 H=>?_) (fun j1 H=>?_)
 ·refine RA 12<|RD<|thr ?_;cases H;exact Rz D ⟨A,rfl⟩
 refine RG<|RA 13<|RD ?_;cases H;exact Rz D ⟨A,rfl⟩
def iq (p0:Int):Option Int:=
 (iR).bind fun d=>
 (iQ).bind fun e=>
 (iP).bind fun f=>
 (iO).bind fun g=>
 (iN).bind fun h=>
 (iM).bind fun i=>
 (iL).bind fun j=>
 (iK).bind fun c=>
 (cm (σ:=Int) (τ:=Int ⊕ Unit) (((([d,e,f,g,h,i,j,c]:List (List (Int×Int))).length:Int)-0).toNat+1) (fun b=>
 if (decide (b<(([d,e,f,g,h,i,j,c]:List (List (Int×Int))).length:Int)))=true then
 (idx ([d,e,f,g,h,i,j,c]:List (List (Int×Int))) b).bind fun k=>
 (dX k p0).bind fun l=>
 if l then
 some (.inr (.inl (w64 (b+1))))
 else
 some (.inl ((w64 (b+1))))
 else
 some (.inr (.inr ()))) 0).bind fun a=>
 match a with
 | .inl a=>
 some a
 | .inr a=>
 (eF p0).bind fun m=>
 some m
theorem uB (O0:Own c0 G F) (p0:Int){r:Int}(H:iq p0=some r): RU 134 #[J p0] c0 fun c v=>Own c G F/\v=I r:=by
 unfold iq at H;refine en func134 rfl rfl<|RA 0<|RO<|bn H fun x h1 H=>cl (rN O0 h1) ?_;rintro v2 c9 l9 ⟨_,u3,O6,rfl,h4⟩;refine bn H fun y x3 H=>cl (rM O6 x3) ?_;rintro v12 q5 q4 ⟨_,u1,g3,rfl,y3⟩;refine bn H fun z z3 H=>cl (rL g3 z3) ?_;rintro v22 r5 t1 ⟨_,v1,h3,rfl,a4⟩;refine bn H fun A b4 H=>cl (rK h3 b4) ?_;rintro v32 s5 j1 ⟨_,w1,i3,rfl,c4⟩;refine bn H fun D d4 H=>cl (rJ i3 d4) ?_;rintro v42 t5 b1 ⟨_,x1,j3,rfl,e4⟩;refine bn H fun E f4 H=>cl (rI j3 f4) ?_;rintro v52 u5 w0 ⟨_,y1,k3,rfl,g4⟩;refine bn H fun M i4 H=>cl (rH k3 i4) ?_;rintro c6 v5 u ⟨_,z1,l3,rfl,j4⟩;refine bn H fun h k4 H=>cl (rG l3 k4) ?_;rintro d6 w5 k ⟨_,b2,m3,rfl,l4⟩;obtain ⟨x5,m4,n,n3,m1⟩:=m3.frz 7 rfl (h4.mono (q4.trans (t1.trans (j1.trans (b1.trans (w0.trans (u.trans k)))))));refine WL.gh m4 ?_;obtain ⟨y5,n4,o,o3,n1⟩:=n3.frz 6 rfl (y3.mono (t1.trans (j1.trans (b1.trans (w0.trans (u.trans (k.trans n)))))));refine WL.gh n4 ?_;obtain ⟨z5,o4,p,p3,p1⟩:=o3.frz 5 rfl (a4.mono (j1.trans (b1.trans (w0.trans (u.trans (k.trans (n.trans o)))))));refine WL.gh o4 ?_;obtain ⟨a6,p4,q,q3,q1⟩:=p3.frz 4 rfl (c4.mono (b1.trans (w0.trans (u.trans (k.trans (n.trans (o.trans p)))))));refine WL.gh p4 ?_;obtain ⟨b6,o2,s,s3,s1⟩:=q3.frz 3 rfl (e4.mono (w0.trans (u.trans (k.trans (n.trans (o.trans (p.trans q)))))));refine WL.gh o2 ?_;obtain ⟨z4,p2,b,c2,e1⟩:=s3.frz 2 rfl (g4.mono (u.trans (k.trans (n.trans (o.trans (p.trans (q.trans s)))))));refine WL.gh p2 ?_;obtain ⟨a5,q2,d,d2,f1⟩:=c2.frz 1 rfl (j4.mono (k.trans (n.trans (o.trans (p.trans (q.trans (s.trans b)))))));refine WL.gh q2 ?_;obtain ⟨b5,s2,f,e2,g1⟩:=d2.frz 0 rfl (l4.mono (n.trans (o.trans (p.trans (q.trans (s.trans (b.trans d)))))));refine WL.gh s2 ?_;obtain ⟨N,P,R,rfl⟩:=((m1.mono (o.trans (p.trans (q.trans (s.trans (b.trans (d.trans f)))))))).form;obtain ⟨S,T,U,rfl⟩:=((n1.mono (p.trans (q.trans (s.trans (b.trans (d.trans f))))))).form;obtain ⟨X,Z,a0,rfl⟩:=((p1.mono (q.trans (s.trans (b.trans (d.trans f)))))).form;obtain ⟨b0,d0,e0,rfl⟩:=((q1.mono (s.trans (b.trans (d.trans f))))).form;obtain ⟨f0,g0,h0,rfl⟩:=((s1.mono (b.trans (d.trans f)))).form;obtain ⟨i0,j0,k0,rfl⟩:=((e1.mono (d.trans f))).form;obtain ⟨l0,m0,o0,rfl⟩:=((f1.mono f)).form;obtain ⟨q0,s0,t0,rfl⟩:=(g1).form;refine me (sl (RL aZ) 243 [[.slice N P R],[.slice S T U],[.slice X Z a0],[.slice b0 d0 e0],[.slice f0 g0 h0],[.slice i0 j0 k0],[.slice l0 m0 o0],[.slice q0 s0 t0]] ([x,y,z,A,D,E,M,h]:List (List (Int×Int))) e2 ⟨⟨(.slice N P R),rfl,m1.m⟩,⟨(.slice S T U),rfl,n1.m⟩,⟨(.slice X Z a0),rfl,p1.m⟩,⟨(.slice b0 d0 e0),rfl,q1.m⟩,⟨(.slice f0 g0 h0),rfl,s1.m⟩,⟨(.slice i0 j0 k0),rfl,e1.m⟩,⟨(.slice l0 m0 o0),rfl,f1.m⟩,⟨(.slice q0 s0 t0),rfl,g1⟩,trivial⟩) ?_;rintro g u0 i5 ⟨k1,f2,v0⟩;refine va g<|Rx<|RA 0<|wln<|W.block<|bn H fun a1 i1 i=>lp i1 (fun a=>Jn u0 fun c l=>Own c G (es true (RL aZ) g 243 k1 ([x,y,z,A,D,E,M,h]:List (List (Int×Int)))::es false aZ (.slice q0 s0 t0) 291 b2 h::es false aZ (.slice l0 m0 o0) 291 z1 M::es false aZ (.slice i0 j0 k0) 291 y1 E::es false aZ (.slice f0 g0 h0) 291 x1 D::es false aZ (.slice b0 d0 e0) 291 w1 A::es false aZ (.slice X Z a0) 291 v1 z::es false aZ (.slice S T U) 291 u1 y::es false aZ (.slice N P R) 291 u3 x::F)/\l= [(0,J p0),(3,g),(4,I a)]) (fun t=>match t with|.inl x_=>(fun r4 ex e w=>ex= .ret/\(Jn u0 fun c l=>Own c G F/\l= [(2,I r4)]) e w) x_|.inr x_=>(fun w4 ex e w=>ex= .exit 0/\(Jn u0 fun c l=>Own c G (es true (RL aZ) g 243 k1 ([x,y,z,A,D,E,M,h]:List (List (Int×Int)))::es false aZ (.slice q0 s0 t0) 291 b2 h::es false aZ (.slice l0 m0 o0) 291 z1 M::es false aZ (.slice i0 j0 k0) 291 y1 E::es false aZ (.slice f0 g0 h0) 291 x1 D::es false aZ (.slice b0 d0 e0) 291 w1 A::es false aZ (.slice X Z a0) 291 v1 z::es false aZ (.slice S T U) 291 u1 y::es false aZ (.slice N P R) 291 u3 x::F)/\l= [(0,J p0)]) e w) x_) ?_ ?_ ?_
 ·clear i i1;intro a e6 v3 u4 H;revert v3 u4;rintro e_ w_ ⟨l2,d5,_,rfl,a3,rfl,y0,rfl⟩;refine W.seq<|RA a<|va g<|vx (lnO 3 zd v0.m)<|Rj (a<(([x,y,z,A,D,E,M,h]:List (List (Int×Int))).length:Int))<|RF H (fun t2 H=>?_) (fun t2 H=>?_)
  ·refine RG<|RM<|RB g<|Ro a<|bn H fun e3 z0 H=>vx (ixO zd v0.m z0) ?_;obtain ⟨v4,u2,b3⟩:=OA.at (v0.mono a3) z0;obtain ⟨c3,rfl,w2⟩:=u2;refine vr c3 (rx (by kernel_rfl) (sn ze rfl (y0.on 0 rfl) (v0.m.blk z0) (at1 (j:=0) b3 rfl)))<|va (J p0)<|bn H fun p5 x2 H=>cl (kg y0 e3 p0 w2 x2) ?_;rintro n5 d1 j5 ⟨c1,rfl⟩;refine RF H (fun y2 H=>?_) (fun y2 H=>?_)
   ·refine RA a<|Rq (a+1)<|RD<|RK ?_;cases H;refine ⟨_,rfl,⟨rfl,?_⟩⟩;have g2:=c1.sD 9 [];exact jn d1 ⟨g2,rfl⟩
   refine W.skip<|RH<|RC a<|Rq (a+1)<|WL.nil ?_;cases H;exact ⟨_,rfl,jn d1 ⟨c1,rfl⟩⟩
  refine W.exit<|thx ?_;cases H;exact ⟨_,rfl,rfl,jn l2 ⟨y0,rfl⟩⟩
 ·exact jn u0 ⟨f2,rfl⟩
 rcases a1 with a1|a1
 ·intro w3; revert w3;rintro _ e_ w_ ⟨rfl,m2,e5,_,rfl,k5,rfl,h2,rfl⟩;refine RK ?_;cases i;exact Rz m2 ⟨h2,rfl⟩
 rintro _ e_ w_ ⟨rfl,c5,f5,_,rfl,l5,rfl,i2,rfl⟩;refine RJ<|RB (J p0)<|bn i fun f3 z2 i=>cl (rP i2 p0 z2) ?_;rintro o5 n2 m5 ⟨j2,rfl⟩;refine Ro f3<|RD ?_;cases i;have k2:=j2.sD 9 [];exact Rz n2 ⟨k2,rfl⟩
def gw:List (Int×Int):=[(169,169),(174,174),(8252,8252),(8265,8265),(8482,8482),(8505,8505),(8596,8601),(8617,8618),(8986,8987),(9000,9000),(9096,9096),(9167,9167),(9193,9203),(9208,9210),(9410,9410),(9642,9643),(9654,9654),(9664,9664),(9723,9726),(9728,9733),(9735,9746),(9748,9861),(9872,9989),(9992,10002),(10004,10004),(10006,10006),(10013,10013),(10017,10017),(10024,10024),(10035,10036),(10052,10052),(10055,10055),(10060,10060),(10062,10062),(10067,10069),(10071,10071),(10083,10087),(10133,10135),(10145,10145),(10160,10160),(10175,10175),(10548,10549),(11013,11015),(11035,11036),(11088,11088),(11093,11093),(12336,12336),(12349,12349),(12951,12951),(12953,12953),(126976,127231),(127245,127247),(127279,127279),(127340,127345),(127358,127359),(127374,127374),(127377,127386),(127405,127461),(127489,127503),(127514,127514),(127535,127535),(127538,127546),(127548,127551),(127561,127994),(128000,128317),(128326,128591),(128640,128767),(128884,128895),(128981,129023),(129036,129039),(129096,129103),(129114,129119),(129160,129167),(129198,129279),(129292,129338),(129340,129349),(129351,129791),(130048,131069)]
def jj:Option (List (Int×Int)):=
 some gw
theorem sU (d:Own c0 G F){r:List (Int×Int)}(H:jj=some r): RU 190 #[] c0 fun c v=>∃a b,Own c G (es true aZ a 291 b r::F)/\v=a/\OA aZ c a b r:=by
 unfold jj at H;refine en func190 rfl rfl<|RB Y<|RO<|Rh (gw.map fun x=>III x.1 x.2)<|me (Own.sl (R:=aZ) (E:=291) (ls:=gw.map (fun x=>[I x.1,I x.2])) (vs:=(gw.map (fun x=>[I x.1,I x.2])).flatten) (xs:=gw) true d (ba _) rfl (pV.map _ (fun _=>rfl) _) (by kernel_rfl) (by kernel_rfl)) ?_;rintro v5 f i ⟨h,e,g⟩;refine va v5<|RD ?_;cases H;exact Rz f ⟨v5,h,e,rfl,g⟩
def ip (p0:Int):Option Bool:=
 (jj).bind fun a=>
 (dX a p0).bind fun b=>
 some b
theorem uA (l:Own c0 G F) (a:Int){r:Bool}(H:ip a=some r): RU 135 #[J a] c0 fun c v=>Own c G F/\v=B r:=by
 unfold ip at H;refine en func135 rfl rfl<|Ru false<|RO<|bn H fun j n H=>cl (sU l n) ?_;rintro v2 t u ⟨_,x,m,rfl,o⟩;refine va (J a) ?_;obtain ⟨p,h,q,b,g⟩:=m.frz 0 rfl o;refine WL.gh h (bn H fun k i H=>cl (kg b j a g i) ?_);rintro v21 f s ⟨d,rfl⟩;refine Ri k<|RD ?_;cases H;have e:=d.sD 1 [];exact Rz f ⟨e,rfl⟩
def fS:List (Int×Int):=[(2325,2361),(2392,2399),(2424,2431),(2453,2472),(2474,2480),(2482,2482),(2486,2489),(2524,2525),(2527,2527),(2544,2545),(2709,2728),(2730,2736),(2738,2739),(2741,2745),(2809,2809),(2837,2856),(2858,2864),(2866,2867),(2869,2873),(2908,2909),(2911,2911),(2929,2929),(3093,3112),(3114,3129),(3160,3162),(3349,3386)]
def iJ:Option (List (Int×Int)):=
 some fS
theorem rF (d:Own c0 G F){r:List (Int×Int)}(H:iJ=some r): RU 191 #[] c0 fun c v=>∃a b,Own c G (es true aZ a 291 b r::F)/\v=a/\OA aZ c a b r:=by
 unfold iJ at H;refine en func191 rfl rfl<|RB Y<|RO<|Rh (fS.map fun x=>III x.1 x.2)<|me (Own.sl (R:=aZ) (E:=291) (ls:=fS.map (fun x=>[I x.1,I x.2])) (vs:=(fS.map (fun x=>[I x.1,I x.2])).flatten) (xs:=fS) true d (ba _) rfl (pV.map _ (fun _=>rfl) _) (by kernel_rfl) (by kernel_rfl)) ?_;rintro v5 f i ⟨h,e,g⟩;refine va v5<|RD ?_;cases H;exact Rz f ⟨v5,h,e,rfl,g⟩
def iI:Option (List (Int×Int)):=
 some ([(2381,2381),(2509,2509),(2765,2765),(2893,2893),(3149,3149),(3405,3405)]:List (Int×Int))
theorem rC (d:Own c0 G F){r:List (Int×Int)}(H:iI=some r): RU 192 #[] c0 fun c v=>∃a b,Own c G (es true aZ a 291 b r::F)/\v=a/\OA aZ c a b r:=by
 unfold iI at H;refine en func192 rfl rfl<|RB Y<|wln<|RB (III 2381 2381)<|va (III 2509 2509)<|va (III 2765 2765)<|va (III 2893 2893)<|va (III 3149 3149)<|va (III 3405 3405)<|me (sl aZ 291 [[I 2381,I 2381],[I 2509,I 2509],[I 2765,I 2765],[I 2893,I 2893],[I 3149,I 3149],[I 3405,I 3405]] ([(2381,2381),(2509,2509),(2765,2765),(2893,2893),(3149,3149),(3405,3405)]:List (Int×Int)) d ⟨rfl,rfl,rfl,rfl,rfl,rfl,trivial⟩) ?_;rintro v5 f i ⟨h,e,g⟩;refine va v5<|RD ?_;cases H;exact Rz f ⟨v5,h,e,rfl,g⟩
def iH:Option (List (Int×Int)):=
 some ([(768,879),(1155,1159),(1425,1469),(1552,1562),(1611,1631),(2364,2364),(2385,2388),(2492,2492),(2748,2748),(2876,2876),(3132,3132),(6832,6845),(7616,7679),(8205,8205),(8400,8412),(12330,12335),(12441,12442),(65056,65071)]:List (Int×Int))
theorem rB (d:Own c0 G F){r:List (Int×Int)}(H:iH=some r): RU 193 #[] c0 fun c v=>∃a b,Own c G (es true aZ a 291 b r::F)/\v=a/\OA aZ c a b r:=by
 unfold iH at H;refine en func193 rfl rfl<|RB Y<|wln<|RB (III 768 879)<|va (III 1155 1159)<|va (III 1425 1469)<|va (III 1552 1562)<|va (III 1611 1631)<|va (III 2364 2364)<|va (III 2385 2388)<|va (III 2492 2492)<|va (III 2748 2748)<|va (III 2876 2876)<|va (III 3132 3132)<|va (III 6832 6845)<|va (III 7616 7679)<|va (III 8205 8205)<|va (III 8400 8412)<|va (III 12330 12335)<|va (III 12441 12442)<|va (III 65056 65071)<|me (sl aZ 291 [[I 768,I 879],[I 1155,I 1159],[I 1425,I 1469],[I 1552,I 1562],[I 1611,I 1631],[I 2364,I 2364],[I 2385,I 2388],[I 2492,I 2492],[I 2748,I 2748],[I 2876,I 2876],[I 3132,I 3132],[I 6832,I 6845],[I 7616,I 7679],[I 8205,I 8205],[I 8400,I 8412],[I 12330,I 12335],[I 12441,I 12442],[I 65056,I 65071]] ([(768,879),(1155,1159),(1425,1469),(1552,1562),(1611,1631),(2364,2364),(2385,2388),(2492,2492),(2748,2748),(2876,2876),(3132,3132),(6832,6845),(7616,7679),(8205,8205),(8400,8412),(12330,12335),(12441,12442),(65056,65071)]:List (Int×Int)) d ⟨rfl,rfl,rfl,rfl,rfl,rfl,rfl,rfl,rfl,rfl,rfl,rfl,rfl,rfl,rfl,rfl,rfl,rfl,trivial⟩) ?_;rintro v5 f i ⟨h,e,g⟩;refine va v5<|RD ?_;cases H;exact Rz f ⟨v5,h,e,rfl,g⟩
def io (p0:Int):Option Int:=
 (iJ).bind fun c=>
 (iI).bind fun d=>
 (iH).bind fun e=>
 (cm (σ:=Int) (τ:=Int ⊕ Unit) (((([c,d,e]:List (List (Int×Int))).length:Int)-0).toNat+1) (fun b=>
 if (decide (b<(([c,d,e]:List (List (Int×Int))).length:Int)))=true then
 (idx ([c,d,e]:List (List (Int×Int))) b).bind fun f=>
 (dX f p0).bind fun g=>
 if g then
 some (.inr (.inl (w64 (b+1))))
 else
 some (.inl ((w64 (b+1))))
 else
 some (.inr (.inr ()))) 0).bind fun a=>
 match a with
 | .inl a=>
 some a
 | .inr a=>
 some 0
theorem uz (O0:Own c0 G F) (E:Int){r:Int}(H:io E=some r): RU 136 #[J E] c0 fun c v=>Own c G F/\v=I r:=by
 unfold io at H;refine en func136 rfl rfl<|RA 0<|RO<|bn H fun b h1 H=>cl (rF O0 h1) ?_;rintro v2 c9 l9 ⟨_,u3,O6,rfl,h4⟩;refine bn H fun d a1 H=>cl (rC O6 a1) ?_;rintro v12 g2 p1 ⟨_,b0,h0,rfl,b1⟩;refine bn H fun f c1 H=>cl (rB h0 c1) ?_;rintro v22 h2 U ⟨_,d0,i0,rfl,d1⟩;obtain ⟨i2,e1,X,j0,P⟩:=i0.frz 2 rfl (h4.mono (p1.trans U));refine WL.gh e1 ?_;obtain ⟨j2,f1,Z,k0,R⟩:=j0.frz 1 rfl (b1.mono (U.trans X));refine WL.gh f1 ?_;obtain ⟨k2,g1,a0,l0,S⟩:=k0.frz 0 rfl (d1.mono (X.trans Z));refine WL.gh g1 ?_;obtain ⟨h,i,k,rfl⟩:=((P.mono (Z.trans a0))).form;obtain ⟨n,o,p,rfl⟩:=((R.mono a0)).form;obtain ⟨q,s,u,rfl⟩:=(S).form;refine me (sl (RL aZ) 243 [[.slice h i k],[.slice n o p],[.slice q s u]] ([b,d,f]:List (List (Int×Int))) l0 ⟨⟨(.slice h i k),rfl,P.m⟩,⟨(.slice n o p),rfl,R.m⟩,⟨(.slice q s u),rfl,S⟩,trivial⟩) ?_;rintro v56 x o2 ⟨e0,m0,y⟩;refine va v56<|Rx<|RA 0<|wln<|W.block<|bn H fun g T z=>lp T (fun a=>Jn x fun c l=>Own c G (es true (RL aZ) v56 243 e0 ([b,d,f]:List (List (Int×Int)))::es false aZ (.slice q s u) 291 d0 f::es false aZ (.slice n o p) 291 b0 d::es false aZ (.slice h i k) 291 u3 b::F)/\l= [(0,J E),(3,v56),(4,I a)]) (fun t=>match t with|.inl x_=>(fun t1 ex e w=>ex= .ret/\(Jn x fun c l=>Own c G F/\l= [(2,I t1)]) e w) x_|.inr x_=>(fun y1 ex e w=>ex= .exit 0/\(Jn x fun c l=>Own c G (es true (RL aZ) v56 243 e0 ([b,d,f]:List (List (Int×Int)))::es false aZ (.slice q s u) 291 d0 f::es false aZ (.slice n o p) 291 b0 d::es false aZ (.slice h i k) 291 u3 b::F)/\l= []) e w) x_) ?_ ?_ ?_
 ·clear z T;intro a u2 y0 x1 H;revert y0 x1;rintro e_ w_ ⟨u0,l2,_,rfl,q1,rfl,A,rfl⟩;refine W.seq<|RA a<|va v56<|vx (lnO 3 zd y.m)<|Rj (a<(([b,d,f]:List (List (Int×Int))).length:Int))<|RF H (fun i1 H=>?_) (fun i1 H=>?_)
  ·refine RG<|RM<|RB v56<|Ro a<|bn H fun g0 D H=>vx (ixO zd y.m D) ?_;obtain ⟨e2,j1,s1⟩:=OA.at (y.mono q1) D;obtain ⟨v1,rfl,k1⟩:=j1;refine vr v1 (rx (by kernel_rfl) (sn ze rfl (A.on 0 rfl) (y.m.blk D) (at1 (j:=0) s1 rfl)))<|va (J E)<|bn H fun f2 m1 H=>cl (kg A g0 E k1 m1) ?_;rintro t2 N p2 ⟨M,rfl⟩;refine RF H (fun n1 H=>?_) (fun n1 H=>?_)
   ·refine RA a<|Rq (a+1)<|RD<|RK ?_;cases H;refine ⟨_,rfl,⟨rfl,?_⟩⟩;have o0:=M.sD 4 [];exact jn N ⟨o0,rfl⟩
   refine W.skip<|RH<|RC a<|Rq (a+1)<|WL.nil ?_;cases H;exact ⟨_,rfl,jn N ⟨M,rfl⟩⟩
  refine W.exit<|thx ?_;cases H;exact ⟨_,rfl,rfl,jn u0 ⟨A,rfl⟩⟩
 ·exact jn x ⟨m0,rfl⟩
 rcases g with g|g
 ·intro z0; revert z0;rintro _ e_ w_ ⟨rfl,v0,m2,_,rfl,q2,rfl,q0,rfl⟩;refine RK ?_;cases z;exact Rz v0 ⟨q0,rfl⟩
 rintro _ e_ w_ ⟨rfl,w0,n2,_,rfl,s2,rfl,s0,rfl⟩;refine RJ<|RA 0<|RD ?_;cases z;have t0:=s0.sD 4 [];exact Rz w0 ⟨t0,rfl⟩
def fE:List (Int×Int):=[(4352,4447),(8986,8987),(9001,9002),(9193,9196),(9200,9200),(9203,9203),(9725,9726),(9748,9749),(9800,9811),(9855,9855),(9875,9875),(9889,9889),(9898,9899),(9917,9918),(9924,9925),(9934,9934),(9940,9940),(9962,9962),(9970,9971),(9973,9973),(9978,9978),(9981,9981),(9989,9989),(9994,9995),(10024,10024),(10060,10060),(10062,10062),(10067,10069),(10071,10071),(10133,10135),(10160,10160),(10175,10175),(11035,11036),(11088,11088),(11093,11093),(11904,11929),(11931,12019),(12032,12245),(12272,12287),(12289,12350),(12353,12438),(12441,12543),(12549,12591),(12593,12686),(12688,12771),(12784,12830),(12832,12871),(12880,19903),(19968,42124),(42128,42182),(43360,43388),(44032,55203),(63744,64255),(65040,65049),(65072,65106),(65108,65126),(65128,65131),(94176,94180),(94208,100343),(100352,101589),(110592,110882),(126980,126980),(127183,127183),(127374,127374),(127377,127386),(127488,127490),(127504,127547),(127552,127560),(127568,127569),(127584,127589),(127744,127776),(127789,127797),(127799,127868),(127870,127891),(127904,127946),(127951,127955),(127968,127984),(127988,127988),(127992,128062),(128064,128064),(128066,128252),(128255,128317),(128331,128334),(128336,128359),(128378,128378),(128405,128406),(128420,128420),(128507,128591),(128640,128709),(128716,128716),(128720,128722),(128725,128727),(128732,128735),(128747,128748),(128756,128764),(128992,129003),(129008,129008),(129292,129338),(129340,129349),(129351,129535),(129648,129660),(129664,129672),(129680,129725),(129727,129733),(129742,129755),(129760,129768),(129776,129784),(131072,196605),(196608,262141)]
def iG:Option (List (Int×Int)):=
 some fE
theorem rA (d:Own c0 G F){r:List (Int×Int)}(H:iG=some r): RU 194 #[] c0 fun c v=>∃a b,Own c G (es true aZ a 291 b r::F)/\v=a/\OA aZ c a b r:=by
 unfold iG at H;refine en func194 rfl rfl<|RB Y<|RO<|Rh (fE.map fun x=>III x.1 x.2)<|me (Own.sl (R:=aZ) (E:=291) (ls:=fE.map (fun x=>[I x.1,I x.2])) (vs:=(fE.map (fun x=>[I x.1,I x.2])).flatten) (xs:=fE) true d (ba _) rfl (pV.map _ (fun _=>rfl) _) (by kernel_rfl) (by kernel_rfl)) ?_;rintro v5 f i ⟨h,e,g⟩;refine va v5<|RD ?_;cases H;exact Rz f ⟨v5,h,e,rfl,g⟩
def iF:Option (List (Int×Int)):=
 some ([(12288,12288),(65281,65376),(65504,65510)]:List (Int×Int))
theorem ry (d:Own c0 G F){r:List (Int×Int)}(H:iF=some r): RU 195 #[] c0 fun c v=>∃a b,Own c G (es true aZ a 291 b r::F)/\v=a/\OA aZ c a b r:=by
 unfold iF at H;refine en func195 rfl rfl<|RB Y<|wln<|RB (III 12288 12288)<|va (III 65281 65376)<|va (III 65504 65510)<|me (sl aZ 291 [[I 12288,I 12288],[I 65281,I 65376],[I 65504,I 65510]] ([(12288,12288),(65281,65376),(65504,65510)]:List (Int×Int)) d ⟨rfl,rfl,rfl,trivial⟩) ?_;rintro v5 f i ⟨h,e,g⟩;refine va v5<|RD ?_;cases H;exact Rz f ⟨v5,h,e,rfl,g⟩
def iE:Option (List (Int×Int)):=
 some ([(8361,8361),(65377,65470),(65474,65479),(65482,65487),(65490,65495),(65498,65500),(65512,65518)]:List (Int×Int))
theorem ru (d:Own c0 G F){r:List (Int×Int)}(H:iE=some r): RU 196 #[] c0 fun c v=>∃a b,Own c G (es true aZ a 291 b r::F)/\v=a/\OA aZ c a b r:=by
 unfold iE at H;refine en func196 rfl rfl<|RB Y<|wln<|RB (III 8361 8361)<|va (III 65377 65470)<|va (III 65474 65479)<|va (III 65482 65487)<|va (III 65490 65495)<|va (III 65498 65500)<|va (III 65512 65518)<|me (sl aZ 291 [[I 8361,I 8361],[I 65377,I 65470],[I 65474,I 65479],[I 65482,I 65487],[I 65490,I 65495],[I 65498,I 65500],[I 65512,I 65518]] ([(8361,8361),(65377,65470),(65474,65479),(65482,65487),(65490,65495),(65498,65500),(65512,65518)]:List (Int×Int)) d ⟨rfl,rfl,rfl,rfl,rfl,rfl,rfl,trivial⟩) ?_;rintro v5 f i ⟨h,e,g⟩;refine va v5<|RD ?_;cases H;exact Rz f ⟨v5,h,e,rfl,g⟩
def il (p0:Int):Option Int:=
 (iG).bind fun c=>
 (iF).bind fun d=>
 (iE).bind fun e=>
 (cm (σ:=Int) (τ:=Int ⊕ Unit) (((([c,d,e]:List (List (Int×Int))).length:Int)-0).toNat+1) (fun b=>
 if (decide (b<(([c,d,e]:List (List (Int×Int))).length:Int)))=true then
 (idx ([c,d,e]:List (List (Int×Int))) b).bind fun f=>
 (dX f p0).bind fun g=>
 if g then
 some (.inr (.inl (w64 (b+1))))
 else
 some (.inl ((w64 (b+1))))
 else
 some (.inr (.inr ()))) 0).bind fun a=>
 match a with
 | .inl a=>
 some a
 | .inr a=>
 some 0
theorem uy (O0:Own c0 G F) (E:Int){r:Int}(H:il E=some r): RU 137 #[J E] c0 fun c v=>Own c G F/\v=I r:=by
 unfold il at H;refine en func137 rfl rfl<|RA 0<|RO<|bn H fun b h1 H=>cl (rA O0 h1) ?_;rintro v2 c9 l9 ⟨_,u3,O6,rfl,h4⟩;refine bn H fun d a1 H=>cl (ry O6 a1) ?_;rintro v12 g2 p1 ⟨_,b0,h0,rfl,b1⟩;refine bn H fun f c1 H=>cl (ru h0 c1) ?_;rintro v22 h2 U ⟨_,d0,i0,rfl,d1⟩;obtain ⟨i2,e1,X,j0,P⟩:=i0.frz 2 rfl (h4.mono (p1.trans U));refine WL.gh e1 ?_;obtain ⟨j2,f1,Z,k0,R⟩:=j0.frz 1 rfl (b1.mono (U.trans X));refine WL.gh f1 ?_;obtain ⟨k2,g1,a0,l0,S⟩:=k0.frz 0 rfl (d1.mono (X.trans Z));refine WL.gh g1 ?_;obtain ⟨h,i,k,rfl⟩:=((P.mono (Z.trans a0))).form;obtain ⟨n,o,p,rfl⟩:=((R.mono a0)).form;obtain ⟨q,s,u,rfl⟩:=(S).form;refine me (sl (RL aZ) 243 [[.slice h i k],[.slice n o p],[.slice q s u]] ([b,d,f]:List (List (Int×Int))) l0 ⟨⟨(.slice h i k),rfl,P.m⟩,⟨(.slice n o p),rfl,R.m⟩,⟨(.slice q s u),rfl,S⟩,trivial⟩) ?_;rintro v56 x o2 ⟨e0,m0,y⟩;refine va v56<|Rx<|RA 0<|wln<|W.block<|bn H fun g T z=>lp T (fun a=>Jn x fun c l=>Own c G (es true (RL aZ) v56 243 e0 ([b,d,f]:List (List (Int×Int)))::es false aZ (.slice q s u) 291 d0 f::es false aZ (.slice n o p) 291 b0 d::es false aZ (.slice h i k) 291 u3 b::F)/\l= [(0,J E),(3,v56),(4,I a)]) (fun t=>match t with|.inl x_=>(fun t1 ex e w=>ex= .ret/\(Jn x fun c l=>Own c G F/\l= [(2,I t1)]) e w) x_|.inr x_=>(fun y1 ex e w=>ex= .exit 0/\(Jn x fun c l=>Own c G (es true (RL aZ) v56 243 e0 ([b,d,f]:List (List (Int×Int)))::es false aZ (.slice q s u) 291 d0 f::es false aZ (.slice n o p) 291 b0 d::es false aZ (.slice h i k) 291 u3 b::F)/\l= []) e w) x_) ?_ ?_ ?_
 ·clear z T;intro a u2 y0 x1 H;revert y0 x1;rintro e_ w_ ⟨u0,l2,_,rfl,q1,rfl,A,rfl⟩;refine W.seq<|RA a<|va v56<|vx (lnO 3 zd y.m)<|Rj (a<(([b,d,f]:List (List (Int×Int))).length:Int))<|RF H (fun i1 H=>?_) (fun i1 H=>?_)
  ·refine RG<|RM<|RB v56<|Ro a<|bn H fun g0 D H=>vx (ixO zd y.m D) ?_;obtain ⟨e2,j1,s1⟩:=OA.at (y.mono q1) D;obtain ⟨v1,rfl,k1⟩:=j1;refine vr v1 (rx (by kernel_rfl) (sn ze rfl (A.on 0 rfl) (y.m.blk D) (at1 (j:=0) s1 rfl)))<|va (J E)<|bn H fun f2 m1 H=>cl (kg A g0 E k1 m1) ?_;rintro t2 N p2 ⟨M,rfl⟩;refine RF H (fun n1 H=>?_) (fun n1 H=>?_)
   ·refine RA a<|Rq (a+1)<|RD<|RK ?_;cases H;refine ⟨_,rfl,⟨rfl,?_⟩⟩;have o0:=M.sD 4 [];exact jn N ⟨o0,rfl⟩
   refine W.skip<|RH<|RC a<|Rq (a+1)<|WL.nil ?_;cases H;exact ⟨_,rfl,jn N ⟨M,rfl⟩⟩
  refine W.exit<|thx ?_;cases H;exact ⟨_,rfl,rfl,jn u0 ⟨A,rfl⟩⟩
 ·exact jn x ⟨m0,rfl⟩
 rcases g with g|g
 ·intro z0; revert z0;rintro _ e_ w_ ⟨rfl,v0,m2,_,rfl,q2,rfl,q0,rfl⟩;refine RK ?_;cases z;exact Rz v0 ⟨q0,rfl⟩
 rintro _ e_ w_ ⟨rfl,w0,n2,_,rfl,s2,rfl,s0,rfl⟩;refine RJ<|RA 0<|RD ?_;cases z;have t0:=s0.sD 4 [];exact Rz w0 ⟨t0,rfl⟩
def dW (p0:Int):Option an:=
 (iq p0).bind fun b=>
 (ip p0).bind fun c=>
 (io p0).bind fun d=>
 (il p0).bind fun a=>
 some (⟨b,c,d,a⟩:an)
theorem oZ (p:Own c0 G F) (a:Int){r:an}(H:dW a=some r): RU 91 #[J a] c0 fun c v=>Own c G F/\v= .agg #[I r.Break,B r.Pict,I r.Conj,I r.East]:=by
 unfold dW at H;refine en func91 rfl rfl<|sr<|me (al 162 [I 0,B false,I 0,I 0] p) ?_;rintro v4 R S ⟨P,rfl,q⟩;refine wln<|RB (J a)<|bn H fun d t H=>cl (uB q a t) ?_;rintro v11 u A ⟨s,rfl⟩;refine va (J a)<|bn H fun e m H=>cl (uA s a m) ?_;rintro v18 x D ⟨i,rfl⟩;refine va (J a)<|bn H fun f n H=>cl (uz i a n) ?_;rintro v25 y E ⟨j,rfl⟩;refine va (J a)<|bn H fun b o H=>cl (uy j a o) ?_;rintro v32 z M ⟨k,rfl⟩;refine va (.agg #[I d,B e,I f,I b])<|md (sA 162 [I d,B e,I f,I b] 0 k ⟨rfl,rfl,rfl,rfl,trivial⟩) ?_;rintro h N g;refine RD ?_;cases H;have l:=g.sD 1 [];exact uj (c:=h) (vs:=[I d,B e,I f,I b]) rfl (by kernel_rfl) (by kernel_rfl) (by kernel_rfl) (g.on 0 rfl _ rfl).1 ⟨_,h,rfl,rfl,pt,l,rfl⟩
end Go.Proofs.YtkgjnbiiiifoaaaGreatDoor
