/- Parts of the proofs of MirrorRuns: the walk through the code, and plain Lean. No condition. -/
import Derived.Test.YtclmdpamofdoiaaGreatDoorMrA
import Derived.Test.YtclmdpamofdoiaaGreatDoorProg
import Derived.Shelf.Spec.SlicesInsertGrow
import Derived.Shelf.Slices.Delete
set_option linter.unusedVariables false
set_option linter.unusedSimpArgs false
namespace Go.Proofs.YtclmdpamofdoiaaGreatDoor
open Go Go.Lt
set_option maxRecDepth 10000
set_option linter.unusedVariables false
attribute [local irreducible] W WL AC
open Tryz
variable {c0:Cx}{G:Gm}{F:List En}{sg:Sto}{v1 v2 v3 v4 v5 v6 v7 v8 v9 v10 v11 v12 v13 v14 v15 v16 v17 v18 v19 v20 v21 v22 v23 v24 v25 v26 v27 v28 v29 v30 v31 v32 v33 v34 v35 v36 v37 v38 v39 v40 v41 v42 v43 v44 v45 v46 v47 v48 v49 v50 v51 v52 v53 v54 v55 v56 v57 v58 v59 v60:Value}
def bQ (sg:Sto) (p0:Option Nat):Option Int:=
 if p0.isNone then
 some 0
 else
 (p0).bind fun b=>
 (sg.grid_Grid[b]?).bind fun a=>
 some (a.rows.length:Int)
theorem bK (d:Own c0 G F) (k:Rel c0 sg G) (f:Option Nat){r:Int}(j:Pt 1 c0 v1 f) (H:bQ sg f=some r): KP 78 #[v1] c0 fun c v=>Own c G F/\v=I r:=by
 unfold bQ at H;refine en func78 rfl rfl<|KD 0<|KA<|KE v1<|vr (B f.isNone) (by rcases (j).cs with ⟨a,b⟩|⟨q,a,b⟩ <;> (subst a; rw [b]; kernel_rfl))<|KH H (fun l H=>?_) (fun l H=>?_)
 ·refine KD 0<|KG<|thr ?_;cases H;exact KC c0 ⟨d,rfl⟩
 refine KI<|KE v1<|bn H fun p n H=>?_;obtain ⟨g,rfl,m⟩:=(j).get n;refine vv (Q g)<|bn H fun e o H=>?_;obtain ⟨v8,s,i,h⟩:=Rel.open_grid_Grid k o m;refine vx (le1 0 nJ (d.gon i 0 rfl))<|vx (lnO 3 nJ h)<|Ku (e.rows.length:Int)<|KG ?_;cases H;exact KC c0 ⟨d,rfl⟩
def mP (sg:Sto) (p0:Option Nat) (p1:Int) (p2:Int) (p3:Int):Option (iQ×Bool):=
 (bQ sg p0).bind fun b=>
 (bQ sg p0).bind fun a=>
 (bL (decide ((aK 0 (aE p1 b))<(aK 0 (aE p2 a)))) (some (decide (p3>0)))).bind fun c=>
 some ((⟨(aK 0 (aE p1 b)),(aK 0 (aE p2 a)),(aE p3 (w64 ((aK 0 (aE p2 a))-(aK 0 (aE p1 b)))))⟩:iQ),c)
theorem vZ (S:Own c0 G F) (z:Rel c0 sg G) (j:Option Nat) (d:Int) (e:Int) (f:Int){r:iQ×Bool}(R:Pt 1 c0 v1 j) (H:mP sg j d e f=some r): KP 238 #[v1,I d,I e,I f] c0 fun c v=>Own c G F/\v= .tuple #[.agg #[I r.1.from_,I r.1.to_,I r.1.n],B r.2]:=by
 unfold mP at H;refine en func238 rfl rfl<|sr<|me (al 300 [I 0,I 0,I 0] S) ?_;rintro v6 c5 l5 ⟨D,rfl,T⟩;refine Kq false<|wln<|KD d<|va v1<|bn H fun b X H=>cl (bK T z.m j R.m X) ?_;rintro v13 Z e0 ⟨U,rfl⟩;refine Ku (aE d b)<|Ku (aK 0 (aE d b))<|Ku e<|va v1<|bn H fun a P H=>cl (bK U z.m j R.m P) ?_;rintro v20 a0 f0 ⟨s,rfl⟩;refine Ku (aE e a)<|Ku (aK 0 (aE e a))<|Ku (aK 0 (aE d b))<|Ku (aK 0 (aE e a))<|wln<|KD (aK 0 (aE d b))<|Ku (aK 0 (aE e a))<|Ku f<|Ku (aK 0 (aE e a))<|Ku (aK 0 (aE d b))<|Kx ((aK 0 (aE e a))-(aK 0 (aE d b)))<|Ku (aE f (w64 ((aK 0 (aE e a))-(aK 0 (aE d b)))))<|va (.agg #[I (aK 0 (aE d b)),I (aK 0 (aE e a)),I (aE f (w64 ((aK 0 (aE e a))-(aK 0 (aE d b)))))])<|me (al 300 [I 0,I 0,I 0] s) ?_;rintro v24 b0 g0 ⟨A,rfl,t⟩;refine md (sA 300 [I (aK 0 (aE d b)),I (aK 0 (aE e a)),I (aE f (w64 ((aK 0 (aE e a))-(aK 0 (aE d b)))))] 0 t ⟨rfl,rfl,rfl,trivial⟩) ?_;rintro E h0 h;refine KA<|bn H fun i p H=>W.join (Jn E fun c l=>Own c G ((Eb A 300 [I (aK 0 (aE d b)),I (aK 0 (aE e a)),I (aE f (w64 ((aK 0 (aE e a))-(aK 0 (aE d b)))))])::(Eb D 300 [I (aK 0 (aE d b)),I (aK 0 (aE e a)),I (aE f (w64 ((aK 0 (aE e a))-(aK 0 (aE d b)))))])::F)/\l= [(8,Q D),(9,B i)]) ?_ ?_
 ·clear H;refine W.region<|vx (leN 300 0 [I (aK 0 (aE d b)),I (aK 0 (aE e a)),I (aE f (w64 ((aK 0 (aE e a))-(aK 0 (aE d b)))))] (h.on 0 rfl))<|Ku (aK 0 (aE d b))<|Ku (aK 0 (aE e a))<|Kr ((aK 0 (aE d b))<(aK 0 (aE e a))) ?_;rcases bo (decide ((aK 0 (aE d b))<(aK 0 (aE e a)))) with g|g
  ·have q:=anT g p;refine vb g<|wa (I f)<|Ks (f>0) ?_;cases q;refine Kr (f>0)<|md (sA 300 [I (aK 0 (aE d b)),I (aK 0 (aE e a)),I (aE f (w64 ((aK 0 (aE e a))-(aK 0 (aE d b)))))] 1 h ⟨rfl,rfl,rfl,trivial⟩) ?_;rintro M i0 u;exact Kr (f>0)<|KB M ⟨u,rfl⟩
  obtain rfl:=anF g p;refine vb g<|pz<|Kq false<|md (sA 300 [I (aK 0 (aE d b)),I (aK 0 (aE e a)),I (aE f (w64 ((aK 0 (aE e a))-(aK 0 (aE d b)))))] 1 h ⟨rfl,rfl,rfl,trivial⟩) ?_;rintro N j0 x;exact Kq false<|KB N ⟨x,rfl⟩
 rintro e_ w_ ⟨o,d0,_,rfl,k0,rfl,k,rfl⟩;refine nrm<|W.ret ?_;cases H;have y:=k.sD 2 [];exact qR (c:=o) (vs:=[I (aK 0 (aE d b)),I (aK 0 (aE e a)),I (aE f (w64 ((aK 0 (aE e a))-(aK 0 (aE d b)))))]) (v:=B i) rfl (by kernel_rfl) (by kernel_rfl) (by kernel_rfl) (by kernel_rfl) (k.on 1 rfl _ rfl).1 ⟨_,o,rfl,rfl,pt,y,rfl⟩
def bF (sg:Sto) (p0:Option Nat) (p1:Int):Option (Option Nat):=
 (orE (decide (p1<0)) ((bQ sg p0).bind fun e=>
 some (decide (p1>=e)))).bind fun d=>
 if d then
 some (none:Option Nat)
 else
 (p0).bind fun a=>
 (sg.grid_Grid[a]?).bind fun b=>
 (idx b.rows p1).bind fun c=>
 some c
theorem dk (p:Own c0 G F) (q:Rel c0 sg G) (o:Option Nat) (a:Int){r:Option Nat}(x:Pt 1 c0 v1 o) (H:bF sg o a=some r): KP 118 #[v1,I a] c0 fun c v=>∃P,Own c G F/\v=P/\Pt 0 c P r:=by
 unfold bF at H;refine en func118 rfl rfl<|KE (.pointer none)<|KA<|W.seq<|bn H fun t D H=>W.join (Jn c0 fun c l=>Own c G F/\l= [(0,v1),(1,I a),(12,B t)]) ?_ ?_
 ·clear H;refine KF a<|Kr (a<0) ?_;rcases bo (decide (a<0)) with f|f
  ·obtain rfl:=orT f D;exact vb f<|pz<|pz<|Kq true<|KB c0 ⟨p,rfl⟩
  have n:=orF f D;refine vb f<|wa (I a)<|wa v1<|wn<|bn n fun m S n=>cl (bK p q o x S) ?_;rintro v12 s b0 ⟨R,rfl⟩;refine Ks (a>=m) ?_;cases n;exact Kr (a>=m)<|KB s ⟨R,rfl⟩
 rintro e_ w_ ⟨h,a0,_,rfl,k,rfl,b,rfl⟩;refine nrm<|cn H (fun u H=>?_) (fun u H=>?_)
 ·refine KE (.pointer none)<|KG<|thr ?_;cases H;exact KC h ⟨(.pointer none),b,rfl,rfl⟩
 refine KI<|KE v1<|bn H fun T z H=>?_;obtain ⟨g,rfl,y⟩:=((x.mono k)).get z;refine vv (Q g)<|bn H fun X A H=>?_;obtain ⟨v24,d0,i,d⟩:=Rel.open_grid_Grid (q.mono k) A y;refine vx (le1 0 nJ (b.gon i 0 rfl))<|Ku a<|bn H fun Z e H=>vx (ixO nJ d e) ?_;obtain ⟨U,E,N⟩:=OA.at d e;obtain ⟨v32,rfl,M⟩:=E;refine vr v32 (rx (by kernel_rfl) (lM BT rfl (b.gon i 1 rfl) (d.blk e) (at1 (j:=0) N rfl)))<|va v32<|KG ?_;cases H;exact KC h ⟨v32,b,rfl,M⟩
def fi (sg:Sto) (p0:Option Nat) (p1:Int) (p2:Option Nat):Option (Sto×Bool):=
 (orE p2.isNone ((bF sg p0 p1).bind fun h=>
 (bU sg h).bind fun e=>
 (bU sg p2).bind fun f=>
 some (e != f))).bind fun g=>
 if g then
 some (sg,false)
 else
 (p0).bind fun b=>
 (sg.grid_Grid[b]?).bind fun c=>
 (idx c.rows p1).bind fun i=>
 (oK c.rows p1 p2).bind fun d=>
 (sg.set_grid_Grid b (⟨d⟩:ck)).bind fun a=>
 some (a,true)
theorem qX (M:Own c0 G F) (e:Rel c0 sg G) (z:Option Nat) (f:Int) (g:Option Nat){r:Sto×Bool}(h2:Pt 1 c0 v1 z) (j:Pt 0 c0 v3 g) (H:fi sg z f g=some r): KP 119 #[v1,I f,v3] c0 fun c v=>∃G_:Gm,Own c G_ F/\Rel c r.1 G_/\v=B r.2:=by
 unfold fi at H;refine en func119 rfl rfl<|Ky false<|KA<|W.seq<|bn H fun g0 h5 H=>W.join (Jn c0 fun c l=>Own c G F/\l= [(0,v1),(1,I f),(2,v3),(17,B g0)]) ?_ ?_
 ·clear H;refine Kz v3<|vr (B g.isNone) (by rcases (j).cs with ⟨p,q⟩|⟨b_,p,q⟩ <;> (subst p; rw [q]; kernel_rfl)) ?_;rcases bo g.isNone with k|k
  ·obtain rfl:=orT k h5;exact vb k<|pz<|pz<|pz<|ps<|Kq true<|KB c0 ⟨M,rfl⟩
  have a:=orF k h5;refine vb k<|wa v1<|wa (I f)<|wn<|bn a fun x0 h8 a=>cl (dk M e z f h2 h8) ?_;rintro v9 d1 h1 ⟨_,N,rfl,h0⟩;refine wn<|bn a fun n i0 a=>cl (cQ N e.m x0 h0 i0) ?_;rintro v23 e1 i1 ⟨P,rfl⟩;refine wa v3<|wn<|bn a fun o k0 a=>cl (cQ P e.m g j.m k0) ?_;rintro v30 d0 j1 ⟨S,rfl⟩;refine Kt (n != o) ?_;cases a;exact Kq (n != o)<|KB d0 ⟨S,rfl⟩
 rintro e_ w_ ⟨e0,f1,_,rfl,d,rfl,h,rfl⟩;refine nrm<|cn H (fun l0 H=>?_) (fun l0 H=>?_)
 ·refine Ky false<|KG<|thr ?_;cases H;exact KC e0 ⟨G,h,e.m,rfl⟩
 refine KI<|KE v1<|bn H fun z0 m0 H=>?_;obtain ⟨b,rfl,s⟩:=((h2.mono d)).get m0;refine vv (Q b)<|bn H fun a1 o0 H=>?_;obtain ⟨v42,k1,x,t⟩:=Rel.open_grid_Grid (e.mono d) o0 s;refine vx (le1 0 nJ (h.gon x 0 rfl))<|Ku f<|va v3<|bn H fun b1 q0 H=>vx (ixO nJ t q0) ?_;obtain ⟨i,rfl⟩:=((j.mono d)).form;have U:=h.borrow 1 x rfl;refine bn H fun A s0 H=>md (Own.stW (R:=(RP 0)) (T:=168) (us:=[.pointer i]) (x':=g) (u:= .pointer i) 0 U (by kernel_rfl) rfl t s0 rfl (by kernel_rfl) ⟨j.m.one,trivial⟩ rfl ⟨(.pointer i),rfl,j.m⟩) ?_;rintro f0 w0 ⟨y,X,u0⟩;have Z:=X.giveB 1 rfl;refine bn H fun D v0 H=>?_;obtain ⟨E,a0,b0,g1,c1⟩:=Rel.put_grid_Grid Z (e.mono (d.trans w0)) (E':=[(Eb b 176 [v42]),es true (RP 0) v42 168 y A]) v0 ⟨b,v42,y,(tm s),rfl,u0⟩;refine wln<|Ky true<|KG ?_;cases H;exact KC f0 ⟨E,a0,b0,rfl⟩
def ft (sg:Sto) (p0:iQ) (p1:Option Nat) (p2:List (Option Nat)):Option Sto:=
 (cH (σ:=Int×Sto) (τ:=Sto) (((p2.length:Int)-0).toNat+1) (fun a=>
 if decide (a.1<(p2.length:Int)) then
 (idx p2 a.1).bind fun c=>
 (fi a.2 p1 (w64 (p0.from_+a.1)) c).bind fun d=>
 some (.inl ((w64 (a.1+1)),d.1))
 else
 some (.inr a.2)) (0,sg)).bind fun b=>
 (bF b p1 (w64 (p0.from_-1))).bind fun e=>
 (fP b e false).bind fun f=>
 some f
theorem oC (O0:Own c0 G F) (R0:Rel c0 sg G) (b:iQ) (g:Option Nat) (h:List (Option Nat)){r:Sto}(h2:Pt 1 c0 v1 g) (s:Sl (RP 0) c0 v3 h) (H:ft sg b g h=some r): KP 239 #[.agg #[I b.from_,I b.to_,I b.n],v1,v3] c0 fun c v=>∃G_:Gm,Own c G_ F/\Rel c r G_/\v= .tuple #[]:=by
 unfold ft at H;refine en func239 rfl rfl<|sr<|me (bx 300 [I b.from_,I b.to_,I b.n] O0) ?_;rintro v9 q l8 ⟨f,rfl,O6,m7⟩;refine KA<|KE v3<|vx (ln 3 nJ s.m)<|Ku 0<|wln<|W.block<|bn H fun h1 o d=>lp o (fun a=>Jn q fun c l=>∃G_,Own c G_ F/\l= [(1,v1),(3,Q f),(8,v3),(9,I (h.length:Int)),(10,I a.1)]/\Rel c a.2 G_) (fun t ex e w=>ex= .exit 0/\(Jn q fun c l=>∃G_,Own c G_ F/\l= [(1,v1),(3,Q f)]/\Rel c t G_) e w) ?_ ?_ ?_
 ·clear d o;intro a i1 X l0 H;revert X l0;rintro e_ w_ ⟨S,b1,_,rfl,i0,rfl,y,i,rfl,j⟩;refine sr<|Kr (a.1<(h.length:Int))<|KA<|cn H (fun Z H=>?_) (fun Z H=>?_)
  ·refine KI<|KM<|KD a.1<|bn H fun u p H=>?_;obtain ⟨u0,b0,j0⟩:=Sl.at (s.mono (l8.trans i0)) (aS p);obtain ⟨v23,rfl,d0⟩:=b0;refine vx (ix nJ s.m p)<|vx (l1 BT (j0 0 _ rfl))<|Ku a.1<|va v23<|wln<|Kz v1<|va (Q f)<|vx (l1 u_3 ((mm m7) 0 _ rfl))<|Ku a.1<|Kx (b.from_+a.1)<|va v23<|bn H fun w0 e0 H=>cl (qX i j g (w64 (b.from_+a.1)) u h2.m d0 e0) ?_;rintro v31 T d1 ⟨z,D,P,rfl⟩;refine WL.nil<|KJ<|W.region<|Kv (a.1+1)<|WL.nil ?_;cases H;exact ⟨_,rfl,jn T ⟨z,D,rfl,P⟩⟩
  refine W.exit<|thx ?_;cases H;exact ⟨_,rfl,rfl,jn S ⟨y,i,rfl,j⟩⟩
 ·exact jn q ⟨G,O6,rfl,R0.m⟩
 rintro _ e_ w_ ⟨rfl,z0,c1,_,rfl,e1,rfl,y0,E,rfl,k⟩;refine KK<|Kz v1<|va (Q f)<|vx (l1 u_3 ((mm m7) 0 _ rfl))<|Kx (b.from_-1)<|bn d fun x f0 d=>cl (dk E k g (w64 (b.from_-1)) h2.m f0) ?_;rintro v39 a1 f1 ⟨_,M,rfl,g0⟩;refine bn d fun x0 h0 d=>cl (nq M k.m x false g0 h0) ?_;rintro v53 U g1 ⟨A,N,R,rfl⟩;refine WL.nil ?_;cases d;exact n0<|qq U ⟨A,N,R,rfl⟩
def kU (sg:Sto) (p0:Option Nat) (p1:Int) (p2:Int):Option (List (Option Nat)):=
 (cH (σ:=(List (Option Nat))×Int) (τ:=(List (Option Nat))) ((p2-p1).toNat+1) (fun a=>
 if decide (a.2<p2) then
 (bF sg p0 a.2).bind fun b=>
 (app a.1 ([b]:List (Option Nat))).bind fun c=>
 some (.inl (c,(w64 (a.2+1))))
 else
 some (.inr a.1)) (([]:List (Option Nat)),p1)).bind fun d=>
 some d
theorem tP (O0:Own c0 G F) (R0:Rel c0 sg G) (o:Option Nat) (f:Int) (d:Int){r:List (Option Nat)}(h2:Pt 1 c0 v1 o) (H:kU sg o f d=some r): KP 240 #[v1,I f,I d] c0 fun c v=>∃q y2,Own c G (es true (RP 0) q 168 y2 r::F)/\v=q/\OA (RP 0) c q y2 r:=by
 unfold kU at H;refine en func240 rfl rfl<|KE Y<|wln<|KE Y<|KA<|sr<|vv (I f)<|wln<|W.block<|bn H fun b1 T s=>lp T (fun a=>Jn c0 fun c l=>∃v5 g,Own c G (es true (RP 0) v5 168 g a.1::F)/\l= [(0,v1),(2,I d),(7,v5),(8,I a.2)]/\OA (RP 0) c v5 g a.1) (fun b ex e w=>ex= .exit 0/\(Jn c0 fun c l=>∃v7 h,Own c G (es true (RP 0) v7 168 h b::F)/\l= [(7,v7)]/\OA (RP 0) c v7 h b) e w) ?_ ?_ ?_
 ·clear s T;intro a d1 N f0 H;revert N f0;rintro e_ w_ ⟨c9,u0,_,rfl,l9,rfl,v5,g,i,rfl,k⟩;refine W.seq<|KD a.2<|Ku d<|Kr (a.2<d)<|KH H (fun P H=>?_) (fun P H=>?_)
  ·refine KI<|KM<|Kz v5<|va v1<|Ku a.2<|bn H fun p R H=>cl (dk i R0.m o a.2 h2.m R) ?_;rintro v18 q0 w0 ⟨_,t,rfl,n⟩;obtain ⟨j,rfl⟩:=(n).form;refine me (sl (RP 0) 168 [[.pointer j]] ([p]:List (Option Nat)) t ⟨⟨(.pointer j),rfl,n⟩,trivial⟩) ?_;rintro v31 s0 x0 ⟨c1,u,S⟩;obtain ⟨t0,X,y0,x,U⟩:=u.frz 0 rfl S;refine WL.gh X (bn H fun o0 Z H=>me (ap (RP 0) (.pointer none) 8 174 1 x k.m U Z nJ) ?_);rintro v41 E z0 ⟨e0,y,a0⟩;refine va v41<|WL.nil<|KJ<|KF a.2<|Kv (a.2+1)<|WL.nil ?_;cases H;refine ⟨_,rfl,?_⟩;have z:=y.sD 2 [1];exact jn E ⟨v41,e0,z,rfl,a0⟩
  refine W.exit<|thx ?_;cases H;exact ⟨_,rfl,rfl,jn c9 ⟨v5,g,i,rfl,k⟩⟩
 ·have b0:OA (RP 0) c0 Y [] []:=OA.nil (aO _);have A:=O0.addHole (e:=es true (RP 0) Y 168 [] ([]:List (Option Nat))) rfl;exact jn c0 ⟨(Y),[],A,rfl,b0⟩
 rintro _ e_ w_ ⟨rfl,M,v0,_,rfl,a1,rfl,v7,h,D,rfl,d0⟩;refine KK<|sr<|vv v7<|KG ?_;cases s;exact KC M ⟨v7,h,D,rfl,d0⟩
def ci (sg:Sto) (p0:Option Nat):Option Int:=
 (bF sg p0 0).bind fun a=>
 (bU sg a).bind fun b=>
 some b
theorem cK (i:Own c0 G F) (d:Rel c0 sg G) (a:Option Nat){r:Int}(k:Pt 1 c0 v1 a) (H:ci sg a=some r): KP 77 #[v1] c0 fun c v=>Own c G F/\v=I r:=by
 unfold ci at H;refine en func77 rfl rfl<|KD 0<|wln<|KE v1<|bn H fun g l H=>cl (dk i d a 0 k l) ?_;rintro v4 o p ⟨_,j,rfl,n⟩;refine bn H fun h f H=>cl (cQ j d.m g n f) ?_;rintro v18 e q ⟨b,rfl⟩;refine Ku h<|KG ?_;cases H;exact KC e ⟨b,rfl⟩
def jF (sg:Sto) (p0:Option Nat) (p1:Int):Option (Sto×(List (Option Nat))):=
 (cH (σ:=(List (Option Nat))×Int×Sto) (τ:=((List (Option Nat))×Sto)) ((p1-0).toNat+1) (fun a=>
 if decide (a.2.1<p1) then
 (ci a.2.2 p0).bind fun d=>
 (lO a.2.2 d).bind fun b=>
 (app a.1 ([b.2]:List (Option Nat))).bind fun e=>
 some (.inl (e,(w64 (a.2.1+1)),b.1))
 else
 some (.inr (a.1,a.2.2))) (([]:List (Option Nat)),0,sg)).bind fun c=>
 some (c.2,c.1)
theorem qU (O0:Own c0 G F) (R0:Rel c0 sg G) (p:Option Nat) (f:Int){r:Sto×(List (Option Nat))}(h2:Pt 1 c0 v1 p) (H:jF sg p f=some r): KP 241 #[v1,I f] c0 fun c v=>∃t y2,∃G_:Gm,Own c G_ (es true (RP 0) t 168 y2 r.2::F)/\Rel c r.1 G_/\fq G G_/\v=t/\OA (RP 0) c t y2 r.2:=by
 unfold jF at H;refine en func241 rfl rfl<|KE Y<|wln<|KE Y<|KA<|KD f<|Ku 0<|wln<|W.block<|bn H fun t1 h3 z=>lp h3 (fun a=>Jn c0 fun c l=>∃v5 g G_,Own c G_ (es true (RP 0) v5 168 g a.1::F)/\l= [(0,v1),(5,v5),(6,I f),(7,I a.2.1)]/\Rel c a.2.2 G_/\fq G G_/\OA (RP 0) c v5 g a.1) (fun b ex e w=>ex= .exit 0/\(Jn c0 fun c l=>∃v7 h G_,Own c G_ (es true (RP 0) v7 168 h b.1::F)/\l= [(5,v7)]/\Rel c b.2 G_/\fq G G_/\OA (RP 0) c v7 h b.1) e w) ?_ ?_ ?_
 ·clear z h3;intro a w1 e0 u0 H;revert e0 u0;rintro e_ w_ ⟨c9,h1,_,rfl,l9,rfl,v5,g,u,i,rfl,d,j,n⟩;refine sr<|Kr (a.2.1<f)<|KA<|cn H (fun f0 H=>?_) (fun f0 H=>?_)
  ·refine KI<|KM<|Kz v5<|va v1<|bn H fun q g0 H=>cl (cK i d p h2.m g0) ?_;rintro v23 d1 j1 ⟨A,rfl⟩;refine bn H fun s h0 H=>cl (vJ A d.m q h0) ?_;rintro v25 e1 k1 ⟨_,x,D,T,X,rfl,o⟩;have Z:=j.trans X;obtain ⟨k,rfl⟩:=(o).form;refine me (sl (RP 0) 168 [[.pointer k]] ([s.2]:List (Option Nat)) D ⟨⟨(.pointer k),rfl,o⟩,trivial⟩) ?_;rintro v39 f1 m1 ⟨u1,E,j0⟩;obtain ⟨g1,l0,n1,M,k0⟩:=E.frz 0 rfl j0;refine WL.gh l0 (bn H fun c1 m0 H=>me (ap (RP 0) (.pointer none) 8 174 1 M n.m k0 m0 nJ) ?_);rintro v49 b0 q1 ⟨t0,N,o0⟩;refine va v49<|WL.nil<|KJ<|W.region<|Kv (a.2.1+1)<|WL.nil ?_;cases H;refine ⟨_,rfl,?_⟩;have P:=N.sD 2 [1];exact jn b0 ⟨v49,t0,x,P,rfl,T.m,Z,o0⟩
  refine W.exit<|thx ?_;cases H;exact ⟨_,rfl,rfl,jn c9 ⟨v5,g,u,i,rfl,d,j,n⟩⟩
 ·have q0:OA (RP 0) c0 Y [] []:=OA.nil (aO _);have R:=O0.addHole (e:=es true (RP 0) Y 168 [] ([]:List (Option Nat))) rfl;exact jn c0 ⟨(Y),[],G,R,rfl,R0,(fq.refl _),q0⟩
 rintro _ e_ w_ ⟨rfl,d0,i1,_,rfl,s1,rfl,v7,h,y,S,rfl,U,a0,s0⟩;refine KK<|sr<|vv v7<|KG ?_;cases z;exact KC d0 ⟨v7,h,y,S,U,a0,rfl,s0⟩
def lv (sg:Sto) (p0:Option Nat) (p1:Int) (p2:Int) (p3:Int):Option Sto:=
 (mP sg p0 p1 p2 p3).bind fun a=>
 if a.2 then
 (kU sg p0 (w64 (a.1.from_+a.1.n)) a.1.to_).bind fun c=>
 (jF sg p0 a.1.n).bind fun b=>
 (app c b.2).bind fun d=>
 (ft b.1 a.1 p0 d).bind fun e=>
 some e
 else
 some sg
theorem sy (O0:Own c0 G F) (h:Rel c0 sg G) (g:Option Nat) (k:Int) (l:Int) (o:Int){r:Sto}(j:Pt 1 c0 v1 g) (H:lv sg g k l o=some r): KP 188 #[v1,I k,I l,I o] c0 fun c v=>∃G_:Gm,Own c G_ F/\Rel c r G_/\v= .tuple #[]:=by
 unfold lv at H;refine en func188 rfl rfl<|KE v1<|Ku k<|Ku l<|Ku o<|bn H fun a h3 H=>cl (vZ O0 h g k l o j h3) ?_;rintro v9 c8 l8 ⟨O5,rfl⟩;refine va (.tuple #[.agg #[I a.1.from_,I a.1.to_,I a.1.n],B a.2])<|va (.agg #[I a.1.from_,I a.1.to_,I a.1.n])<|Kq a.2<|me (al 300 [I 0,I 0,I 0] O5) ?_;rintro v13 j1 k1 ⟨b,rfl,M⟩;refine md (sA 300 [I a.1.from_,I a.1.to_,I a.1.n] 0 M ⟨rfl,rfl,rfl,trivial⟩) ?_;rintro T m1 p;refine Kq a.2<|wln<|Ky a.2<|KH H (fun e0 H=>?_) (fun e0 H=>?_)
 ·refine rD [] (Kp G0 [(Eb b 300 [I a.1.from_,I a.1.to_,I a.1.n])]) p ?_;intro U n1 q;have e:=(Kp.cons (q.on 0 rfl) Kp.nil0);refine tkx 0 e (fun i f d=>leN 300 0 [I a.1.from_,I a.1.to_,I a.1.n] (d.on 0 rfl)) (ta 1 v1<|ta 2 v1<|ta 3 (Q b)<|tkx 4 e (fun i f d=>le1 0 u_3 (d.on 0 rfl)) (ta 5 (Qo b 2)<|tkx 6 e (fun i f d=>le1 2 u_3 (d.on 0 rfl)) (ta 7 (I (w64 (a.1.from_+a.1.n)))<|ta 8 (Qo b 1)<|tkx 9 e (fun i f d=>le1 1 u_3 (d.on 0 rfl)) (ta 11 v1<|ta 12 (Qo b 2)<|tkx 13 e (fun i f d=>le1 2 u_3 (d.on 0 rfl)) (bn H fun e1 f0 H=>o1 10 (gc 10 (tP q h.m g (w64 (a.1.from_+a.1.n)) a.1.to_ j.m f0) ?_))))));rintro v21 X q1 ⟨_,w1,s,rfl,g0⟩;have v0:=(Kp.cons (s.on 1 rfl) Kp.nil0);refine ⟨.inr v0,bn H fun f1 h0 H=>o1 14 (gc 14 (qU s h.m g a.1.n j.m h0) ?_)⟩;rintro v32 Z s1 ⟨_,x1,h1,t,R,i1,rfl,i0⟩;have w0:=(Kp.cons (t.on 2 rfl) Kp.nil0);refine ⟨.inr w0,?_⟩;obtain ⟨a0,k0,t0,u,j0⟩:=t.frz 0 rfl i0;have x0:=(Kp.cons (u.on 2 rfl) Kp.nil0);refine AC.gh k0 t0 (fun _=>x0) (bn H fun D l0 H=>o1 15 (gm 15 (ap (RP 0) (.pointer none) 8 174 1 u g0.m j0 l0 nJ) ?_));rintro v52 b0 t1 ⟨y1,x,m0⟩;have y0:=(Kp.cons (x.on 2 rfl) Kp.nil0);refine ⟨.inr y0,?_⟩;obtain ⟨d0,q0,u0,y,o0⟩:=x.frz 1 rfl m0;have z0:=(Kp.cons (y.on 2 rfl) Kp.nil0);refine AC.gh q0 u0 (fun _=>z0) (bn H fun g1 s0 H=>o1 16 (gc 16 (oC y R.m a.1 g D j.m o0 s0) ?_));rintro z1 A u1 ⟨E,z,S,rfl⟩;have a1:=(Kp.cons (z.on 2 rfl) Kp.nil0);refine ⟨.inr a1,dn ?_⟩;cases H;have N:=z.sD 3 [];exact n0<|qq A ⟨E,N,S,rfl⟩
 refine W.skip ?_;cases H;have P:=p.sD 1 [];exact n0<|qq T ⟨G,P,h.m,rfl⟩
def kV (sg:Sto) (p0:Option Nat) (p1:Int) (p2:Int) (p3:Int):Option Sto:=
 (mP sg p0 p1 p2 p3).bind fun a=>
 if a.2 then
 (jF sg p0 a.1.n).bind fun b=>
 (kU b.1 p0 a.1.from_ (w64 (a.1.to_-a.1.n))).bind fun d=>
 (app b.2 d).bind fun e=>
 (ft b.1 a.1 p0 e).bind fun c=>
 (bF c p0 (w64 (a.1.to_-1))).bind fun f=>
 (fP c f false).bind fun g=>
 some g
 else
 some sg
theorem tQ (O0:Own c0 G F) (D:Rel c0 sg G) (f:Option Nat) (k:Int) (l:Int) (o:Int){r:Sto}(i:Pt 1 c0 v1 f) (H:kV sg f k l o=some r): KP 189 #[v1,I k,I l,I o] c0 fun c v=>∃G_:Gm,Own c G_ F/\Rel c r G_/\v= .tuple #[]:=by
 unfold kV at H;refine en func189 rfl rfl<|KE v1<|Ku k<|Ku l<|Ku o<|bn H fun a h3 H=>cl (vZ O0 D f k l o i h3) ?_;rintro v9 c8 l8 ⟨O5,rfl⟩;refine va (.tuple #[.agg #[I a.1.from_,I a.1.to_,I a.1.n],B a.2])<|va (.agg #[I a.1.from_,I a.1.to_,I a.1.n])<|Kq a.2<|me (al 300 [I 0,I 0,I 0] O5) ?_;rintro v13 y1 b2 ⟨b,rfl,P⟩;refine md (sA 300 [I a.1.from_,I a.1.to_,I a.1.n] 0 P ⟨rfl,rfl,rfl,trivial⟩) ?_;rintro Z c2 p;refine Kq a.2<|wln<|Ky a.2<|KH H (fun j0 H=>?_) (fun j0 H=>?_)
 ·refine W.seq<|rD [] (Kp G0 [(Eb b 300 [I a.1.from_,I a.1.to_,I a.1.n])]) p ?_;intro a0 d2 q;have e:=(Kp.cons (q.on 0 rfl) Kp.nil0);refine tkx 0 e (fun j g d=>leN 300 0 [I a.1.from_,I a.1.to_,I a.1.n] (d.on 0 rfl)) (ta 1 v1<|ta 2 v1<|ta 3 (Qo b 2)<|tkx 4 e (fun j g d=>le1 2 u_3 (d.on 0 rfl)) (ta 6 v1<|ta 7 (Q b)<|tkx 8 e (fun j g d=>le1 0 u_3 (d.on 0 rfl)) (ta 9 (Qo b 1)<|tkx 10 e (fun j g d=>le1 1 u_3 (d.on 0 rfl)) (ta 11 (Qo b 2)<|tkx 12 e (fun j g d=>le1 2 u_3 (d.on 0 rfl)) (ta 13 (I (w64 (a.1.to_-a.1.n)))<|bn H fun n1 k0 H=>o1 5 (gc 5 (qU q D.m f a.1.n i.m k0) ?_))))));rintro v21 b0 e2 ⟨_,l2,u1,s,z,x1,rfl,l0⟩;have d1:=(Kp.cons (s.on 1 rfl) Kp.nil0);refine ⟨.inr d1,bn H fun q1 m0 H=>o1 14 (gc 14 (tP s z f a.1.from_ (w64 (a.1.to_-a.1.n)) i.m m0) ?_)⟩;rintro v32 d0 f2 ⟨_,m2,t,rfl,o0⟩;have e1:=(Kp.cons (t.on 2 rfl) Kp.nil0);refine ⟨.inr e1,?_⟩;obtain ⟨e0,s0,b1,u,q0⟩:=t.frz 0 rfl o0;have f1:=(Kp.cons (u.on 2 rfl) Kp.nil0);refine AC.gh s0 b1 (fun _=>f1) (bn H fun E t0 H=>o1 15 (gm 15 (ap (RP 0) (.pointer none) 8 174 1 u l0.m q0 t0 nJ) ?_));rintro v52 f0 g2 ⟨n2,x,u0⟩;have g1:=(Kp.cons (x.on 2 rfl) Kp.nil0);refine ⟨.inr g1,?_⟩;obtain ⟨g0,w0,c1,y,v0⟩:=x.frz 1 rfl u0;have h1:=(Kp.cons (y.on 2 rfl) Kp.nil0);refine AC.gh w0 c1 (fun _=>h1) (bn H fun s1 x0 H=>o1 16 (gc 16 (oC y z.m a.1 f E i.m v0 x0) ?_));rintro o2 h0 i2 ⟨w1,h,A,rfl⟩;have i1:=(Kp.cons (h.on 2 rfl) Kp.nil0);refine ⟨.inr i1,dn (nrm<|Kz v1<|Kw b 1<|vx (le1 1 u_3 (h.on 2 rfl))<|Kx (a.1.to_-1)<|bn H fun M y0 H=>cl (dk h A f (w64 (a.1.to_-1)) i.m y0) ?_)⟩;rintro q2 z1 j2 ⟨_,R,rfl,z0⟩;refine bn H fun t1 a1 H=>cl (nq R A.m M false z0 a1) ?_;rintro s2 i0 k2 ⟨N,S,X,rfl⟩;refine WL.nil ?_;cases H;have T:=S.sD 3 [];exact n0<|qq i0 ⟨N,T,X,rfl⟩
 refine W.skip ?_;cases H;have U:=p.sD 1 [];exact n0<|qq Z ⟨G,U,D.m,rfl⟩
def il (sg:Sto) (p0:Option Nat):Option (List aj):=
 (bQ sg p0).bind fun c=>
 (cH (σ:=(List aj)×Int) (τ:=(List aj)) ((c-0).toNat+1) (fun a=>
 if decide (a.2<c) then
 (p0).bind fun d=>
 (sg.grid_Grid[d]?).bind fun b=>
 (idx b.rows a.2).bind fun e=>
 (idx b.rows a.2).bind fun f=>
 (fh sg e).bind fun g=>
 (kb sg f).bind fun h=>
 (app a.1 ([(⟨g,h⟩:aj)]:List aj)).bind fun i=>
 some (.inl (i,(w64 (a.2+1))))
 else
 some (.inr a.1)) (([]:List aj),0)).bind fun j=>
 some j
theorem pE (O0:Own c0 G F) (z:Rel c0 sg G) (p0:Option Nat){r:List aj}(h2:Pt 1 c0 v1 p0) (H:il sg p0=some r): KP 79 #[v1] c0 fun c v=>∃y1 y2,Own c G (es true av y1 48 y2 r::F)/\v=y1/\OA av c y1 y2 r:=by
 unfold il at H;refine en func79 rfl rfl<|KE Y<|wln<|KE Y<|KA<|KE v1<|bn H fun g0 h3 H=>cl (bK O0 z p0 h2 h3) ?_;rintro v9 A l8 ⟨O5,rfl⟩;refine Ku 0<|wln<|W.block<|bn H fun j3 Z D=>lp Z (fun a=>Jn A fun c l=>∃v12 n,Own c G (es true av v12 48 n a.1::F)/\l= [(0,v1),(3,v12),(6,I g0),(7,I a.2)]/\OA av c v12 n a.1) (fun y ex e w=>ex= .exit 0/\(Jn A fun c l=>∃v14 o,Own c G (es true av v14 48 o y::F)/\l= [(3,v14)]/\OA av c v14 o y) e w) ?_ ?_ ?_
 ·clear D Z;intro a p3 a1 o2 H;revert a1 o2;rintro e_ w_ ⟨s0,c3,_,rfl,l16,rfl,v12,n,E,rfl,a0⟩;refine sr<|Kr (a.2<g0)<|KA<|cn H (fun c1 H=>?_) (fun c1 H=>?_)
  ·refine KI<|KM<|sr<|vv (I a.2)<|wln<|rD [] (Kp G []) E ?_;intro t0 d0 M;have k:=(Kp.nil M);refine ta 0 v12<|ta 1 v1<|bn H fun v2 e1 H=>?_;obtain ⟨d,rfl,d1⟩:=((h2.mono (l8.trans (l16.trans d0)))).get e1;refine ta 2 (Q d)<|ta 3 (Q d)<|bn H fun z2 f1 H=>?_;obtain ⟨v31,k3,i,b⟩:=Rel.open_grid_Grid (z.mono (l8.trans (l16.trans d0))) f1 d1;refine tkx 4 k (fun t f g=>le1 0 nJ (g.gon i 0 rfl)) (ta 5 (I a.2)<|bn H fun i0 u H=>tx 6 (fun t f=>ixO nJ b u) ?_);obtain ⟨w2,g1,e2⟩:=OA.at b u;obtain ⟨v39,rfl,h1⟩:=g1;refine AC.takeK 7 v39 k rfl (by kernel_rfl) (by kernel_rfl) (by kernel_rfl) (fun t f g=>(rx (by kernel_rfl) (lM BT rfl (g.gon i 1 rfl) (b.blk u) (at1 (j:=0) e2 rfl)))) (ta 9 (Q d)<|ta 10 (Q d)<|ta 11 (Q d)<|tkx 12 k (fun t f g=>le1 0 nJ (g.gon i 0 rfl)) (ta 13 (I a.2)<|bn H fun j0 x H=>tx 14 (fun t f=>ixO nJ b x) ?_));obtain ⟨x2,i1,f2⟩:=OA.at b x;obtain ⟨v45,rfl,j1⟩:=i1;refine AC.takeK 15 v45 k rfl (by kernel_rfl) (by kernel_rfl) (by kernel_rfl) (fun t f g=>(rx (by kernel_rfl) (lM BT rfl (g.gon i 1 rfl) (b.blk x) (at1 (j:=0) f2 rfl)))) (bn H fun k0 k1 H=>o1 8 (gc 8 (mH M z.m i0 h1 k1) ?_));rintro v48 u0 e3 ⟨_,l3,N,rfl,b0⟩;have g2:=(Kp.nil N);refine ⟨.inr g2,bn H fun h m1 H=>o1 16 (gc 16 (xw N z.m j0 j1.m m1) ?_)⟩;rintro n3 v0 e0 ⟨P,rfl⟩;have i2:=(Kp.nil P);refine ⟨.inr i2,?_⟩;obtain ⟨p,q,s,rfl⟩:=((b0.mono e0)).form;refine ta 17 (.agg #[.slice p q s,B h]) ?_;obtain ⟨w0,p1,b2,R,n1⟩:=P.frz 0 rfl (b0.mono e0);have j2:=(Kp.nil R);refine AC.gh p1 b2 (fun _=>j2) (o1 18 (gm 18 (sl av 48 [[.slice p q s,B h]] ([(⟨k0,h⟩:aj)]:List aj) R ⟨⟨(.slice p q s),rfl,n1⟩,trivial⟩) ?_));rintro o3 x0 f3 ⟨m3,S,q1⟩;have k2:=(Kp.nil S);refine ⟨.inr k2,?_⟩;obtain ⟨y0,t1,d2,T,s1⟩:=S.frz 0 rfl q1;have l2:=(Kp.nil T);refine AC.gh t1 d2 (fun _=>l2) (bn H fun b3 u1 H=>o1 19 (gm 19 (ap av (.agg #[Y,B false]) 32 27 2 T a0.m s1 u1 fJ) ?_));rintro f0 X g3 ⟨n2,U,w1⟩;have m2:=(Kp.nil U);refine ⟨.inr m2,ta 20 f0 (dn (KJ<|W.region<|Kv (a.2+1)<|WL.nil ?_))⟩;cases H;refine ⟨_,rfl,?_⟩;have m0:=U.sD 3 [2];exact jn X ⟨f0,n2,m0,rfl,w1⟩
  refine W.exit<|thx ?_;cases H;exact ⟨_,rfl,rfl,jn s0 ⟨v12,n,E,rfl,a0⟩⟩
 ·have x1:OA av A Y [] []:=OA.nil (aO _);have o0:=O5.addHole (e:=es true av Y 48 [] ([]:List aj)) rfl;exact jn A ⟨(Y),[],o0,rfl,x1⟩
 rintro _ e_ w_ ⟨rfl,z0,d3,_,rfl,i3,rfl,v14,o,q0,rfl,z1⟩;refine KK<|sr<|vv v14<|KG ?_;cases D;exact KC z0 ⟨v14,o,q0,rfl,z1⟩
def fy (p0:List aj) (p1:List aj):Option Bool:=
 if ((p0.length:Int) != (p1.length:Int))=true then
 some false
 else
 (cH (σ:=Int) (τ:=Bool ⊕ Unit) (((p0.length:Int)-0).toNat+1) (fun a=>
 if decide (a<(p0.length:Int)) then
 (idx p0 a).bind fun d=>
 (idx p1 a).bind fun e=>
 (orE (!(d.Wrap==e.Wrap)) ((idx p0 a).bind fun f=>
 (idx p1 a).bind fun g=>
 (ep f.Cells g.Cells).bind fun h=>
 some (!h))).bind fun c=>
 if c then
 some (.inr (.inl false))
 else
 some (.inl ((w64 (a+1))))
 else
 some (.inr (.inr ()))) 0).bind fun b=>
 match b with
 | .inl b=>
 some b
 | .inr b=>
 some true
theorem sL (O0:Own c0 G F) (s:List aj) (X:List aj){r:Bool}(j:Sl av c0 v1 s) (k:Sl av c0 v3 X) (H:fy s X=some r): KP 82 #[v1,v3] c0 fun c v=>Own c G F/\v=B r:=by
 unfold fy at H;refine en func82 rfl rfl<|Ky false<|KA<|KE v1<|vx (ln 3 fJ j)<|va v3<|vx (ln 3 fJ k)<|Kq ((s.length:Int) != (X.length:Int))<|KH H (fun h5 H=>?_) (fun h5 H=>?_)
 ·refine Ky false<|KG<|thr ?_;cases H;exact KC c0 ⟨O0,rfl⟩
 refine KI<|W.seq<|KD 0<|wln<|W.block<|bn H fun h h6 S=>lp h6 (fun a=>Jn c0 fun c l=>Own c G F/\l= [(0,v1),(1,v3),(5,I a)]) (fun t=>match t with|.inl x_=>(fun f1 ex e w=>ex= .ret/\(Jn c0 fun c l=>Own c G F/\l= [(4,B f1)]) e w) x_|.inr x_=>(fun h1 ex e w=>ex= .exit 0/\(Jn c0 fun c l=>Own c G F/\l= []) e w) x_) ?_ ?_ ?_
 ·clear S h6;intro a d2 l0 g1 H;revert l0 g1;rintro U Z ⟨c8,g9,_,rfl,q,rfl,u,rfl⟩;refine W.seq<|KD a<|va v1<|vx (ln 3 fJ j.m)<|Kr (a<(s.length:Int))<|KH H (fun o0 H=>?_) (fun o0 H=>?_)
  ·refine KI<|KM<|W.seq<|bn H fun n E H=>bn H fun o M H=>bn H fun T N H=>W.join (Jn c8 fun c l=>Own c G F/\l= [(0,v1),(1,v3),(5,I a),(41,B T)]) ?_ ?_
   ·clear H;refine rD [] (Kp G0 []) u ?_;intro z i x;have c2:Kp G0 [] z:=Kp.nil0;refine ta 0 v1<|ta 1 (I a) ?_;obtain ⟨j1,q0,a1⟩:=Sl.at (j.mono (q.trans i)) (aS E);obtain ⟨v24,rfl,u1⟩:=q0;refine tx 2 (fun f b=>ix fJ j.m E)<|ta 3 (Qo (sb v1) (so v1+a.toNat*2+1))<|tx 4 (fun f b=>l1 u_4 ((mm a1) 1 _ rfl))<|ta 5 v3<|ta 6 (I a) ?_;obtain ⟨k1,s0,b1⟩:=Sl.at (k.mono (q.trans i)) (aS M);obtain ⟨v29,rfl,w1⟩:=s0;refine tx 7 (fun f b=>ix fJ k.m M)<|ta 8 (Qo (sb v3) (so v3+a.toNat*2+1))<|tx 9 (fun f b=>l1 u_4 ((mm b1) 1 _ rfl))<|ta 10 (B (!(n.Wrap==o.Wrap))) ?_;rcases bo (!(n.Wrap==o.Wrap)) with g|g
    ·obtain rfl:=orT g N;exact AC.takeb 11 g rfl (by kernel_rfl) (by kernel_rfl) (fun f b=>(by kernel_rfl)) (tp 12<|tp 13<|tp 14<|tp 15<|tp 16<|tp 17<|tp 18<|tp 19<|tp 20<|tp 21<|tp 22<|tp 23<|ta 24 (B true)<|dn (nrm<|jn z ⟨x,rfl⟩))
    have d:=orF g N;refine bn d fun b0 P d=>bn d fun d0 R d=>bn d fun p t0 d=>AC.takeb 11 g rfl (by kernel_rfl) (by kernel_rfl) (fun f b=>(by kernel_rfl)) (ta 12 v1<|ta 13 (I a) ?_);obtain ⟨m1,u0,c1⟩:=Sl.at (j.mono (q.trans i)) (aS P);obtain ⟨v39,rfl,v0⟩:=u0;refine tx 14 (fun f b=>ix fJ j.m P)<|ta 15 (Qo (sb v1) (so v1+a.toNat*2))<|tx 16 (fun f b=>l1 cD ((mm c1) 0 _ rfl))<|ta 17 v3<|ta 18 (I a) ?_;obtain ⟨n1,w0,d1⟩:=Sl.at (k.mono (q.trans i)) (aS R);obtain ⟨v44,rfl,x0⟩:=w0;refine tx 19 (fun f b=>ix fJ k.m R)<|ta 20 (Qo (sb v3) (so v3+a.toNat*2))<|tx 21 (fun f b=>l1 cD ((mm d1) 0 _ rfl))<|o1 22 (gc 22 (sM x b0.Cells d0.Cells v0 x0 t0) ?_);rintro v51 A x1 ⟨f0,rfl⟩;have e1:Kp G0 [] A:=Kp.nil0;refine ⟨.inr e1,ta 23 (B (!p)) ?_⟩;cases d;exact ta 24 (B (!p))<|dn (nrm<|jn A ⟨f0,rfl⟩)
   rintro U Z ⟨D,q1,_,rfl,y1,rfl,y,rfl⟩;refine nrm<|cn H (fun y0 H=>?_) (fun y0 H=>?_)
   ·refine Ky false<|KG<|KL ?_;cases H;exact ⟨_,rfl,⟨rfl,jn D ⟨y,rfl⟩⟩⟩
   refine W.skip<|KJ<|KF a<|Kv (a+1)<|WL.nil ?_;cases H;exact ⟨_,rfl,jn D ⟨y,rfl⟩⟩
  refine W.exit<|thx ?_;cases H;exact ⟨_,rfl,rfl,jn c8 ⟨u,rfl⟩⟩
 ·exact jn c0 ⟨O0,rfl⟩
 rcases h with h|h
 ·intro m0; revert m0;rintro _ U Z ⟨rfl,i0,s1,_,rfl,z1,rfl,g0,rfl⟩;refine KL ?_;cases S;exact KC i0 ⟨g0,rfl⟩
 rintro _ U Z ⟨rfl,j0,t1,_,rfl,b2,rfl,h0,rfl⟩;refine KK<|Ky true<|KG ?_;cases S;exact KC j0 ⟨h0,rfl⟩
def em (p0:List aj) (p1:Int) (p2:Int) (p3:Int) (p4:Bool):Option (List aj):=
 (orE (decide ((aK 0 (aE p1 (p0.length:Int)))>=(aK 0 (aE p2 (p0.length:Int))))) (some (decide (p3<1)))).bind fun j=>
 if j then
 some p0
 else
 (cH (σ:=(List aj)×Int) (τ:=(List aj)) (((p0.length:Int)-0).toNat+1) (fun a=>
 if decide (a.2<(p0.length:Int)) then
 (idx p0 a.2).bind fun c=>
 ((bL (decide (a.2>=(aK 0 (aE p1 (p0.length:Int))))) (some (decide (a.2<(aK 0 (aE p2 (p0.length:Int))))))).bind fun k=>
 if k then
 (if (!p4)=true then
 some ((w64 (a.2-(aE p3 (w64 ((aK 0 (aE p2 (p0.length:Int)))-(aK 0 (aE p1 (p0.length:Int)))))))))
 else
 some ((w64 (a.2+(aE p3 (w64 ((aK 0 (aE p2 (p0.length:Int)))-(aK 0 (aE p1 (p0.length:Int)))))))))).bind fun b=>
 (idx p0 a.2).bind fun n=>
 (rep (n.Cells.length:Int) (⟨0,([]:List Int)⟩:ab)).bind fun o=>
 (bL (decide (b>=(aK 0 (aE p1 (p0.length:Int))))) (some (decide (b<(aK 0 (aE p2 (p0.length:Int))))))).bind fun l=>
 if l then
 (idx p0 b).bind fun d=>
 some (d.Cells,d.Wrap)
 else
 some (o,false)
 else
 some (c.Cells,c.Wrap)).bind fun e=>
 ((orE ((w64 (a.2+1))==(aK 0 (aE p1 (p0.length:Int)))) ((bL (!p4) (some ((w64 (a.2+1))==(aK 0 (aE p2 (p0.length:Int)))))).bind fun g=>
 some g)).bind fun f=>
 if f then
 some false
 else
 some e.2).bind fun i=>
 (app a.1 ([(⟨e.1,i⟩:aj)]:List aj)).bind fun h=>
 some (.inl (h,(w64 (a.2+1))))
 else
 some (.inr a.1)) (([]:List aj),0)).bind fun m=>
 some m
theorem lD (O0:Own c0 G F) (a:List aj) (f:Int) (d:Int) (g:Int) (q:Bool){r:List aj}(U:Sl av c0 v1 a) (H:em a f d g q=some r): KP 144 #[v1,I f,I d,I g,B q] c0 fun c v=>∃y1,Own c G F/\v=y1/\Sl av c y1 r:=by
 unfold em at H;refine en func144 rfl rfl<|KE Y<|wln<|KE v1<|vx (ln 3 fJ U)<|Ku (a.length:Int)<|wln<|KD f<|Ku (a.length:Int)<|Ku (aE f (a.length:Int))<|vv (I (aK 0 (aE f (a.length:Int))))<|wln<|KD d<|Ku (a.length:Int)<|Ku (aE d (a.length:Int))<|vv (I (aK 0 (aE d (a.length:Int))))<|KA<|W.seq<|bn H fun j3 h3 H=>W.join (Jn c0 fun c l=>Own c G F/\l= [(0,v1),(1,I (aK 0 (aE f (a.length:Int)))),(2,I (aK 0 (aE d (a.length:Int)))),(3,I g),(4,B q),(11,I (a.length:Int)),(32,B j3)]) ?_ ?_
 ·clear H;refine KF (aK 0 (aE f (a.length:Int)))<|Ku (aK 0 (aE d (a.length:Int)))<|Kr ((aK 0 (aE f (a.length:Int)))>=(aK 0 (aE d (a.length:Int)))) ?_;rcases bo (decide ((aK 0 (aE f (a.length:Int)))>=(aK 0 (aE d (a.length:Int))))) with h4|h4
  ·obtain rfl:=orT h4 h3;exact vb h4<|pz<|Kq true<|KB c0 ⟨O0,rfl⟩
  have H5:=orF h4 h3;refine vb h4<|wa (I g)<|Ks (g<1) ?_;cases H5;exact Kr (g<1)<|KB c0 ⟨O0,rfl⟩
 rintro T w_ ⟨c6,g7,_,rfl,l6,rfl,O8,rfl⟩;refine nrm<|cn H (fun r4 H=>?_) (fun r4 H=>?_)
 ·refine sr<|vv v1<|KG<|thr ?_;cases H;exact KC c6 ⟨v1,O8,rfl,U.m⟩
 refine KI<|KD g<|Ku (aK 0 (aE d (a.length:Int)))<|Ku (aK 0 (aE f (a.length:Int)))<|Kx ((aK 0 (aE d (a.length:Int)))-(aK 0 (aE f (a.length:Int))))<|vv (I (aE g (w64 ((aK 0 (aE d (a.length:Int)))-(aK 0 (aE f (a.length:Int)))))))<|wln<|KE Y<|KA<|KD 0<|wln<|W.block<|bn H fun h6 w1 j1=>lp w1 (fun b=>Jn c6 fun c l=>∃v15 p,Own c G (es true av v15 48 p b.1::F)/\l= [(0,v1),(1,I (aK 0 (aE f (a.length:Int)))),(2,I (aK 0 (aE d (a.length:Int)))),(3,I (aE g (w64 ((aK 0 (aE d (a.length:Int)))-(aK 0 (aE f (a.length:Int))))))),(4,B q),(11,I (a.length:Int)),(12,v15),(13,I b.2)]/\OA av c v15 p b.1) (fun k0 ex e w=>ex= .exit 0/\(Jn c6 fun c l=>∃v17 f1,Own c G (es true av v17 48 f1 k0::F)/\l= [(12,v17)]/\OA av c v17 f1 k0) e w) ?_ ?_ ?_
 ·clear j1 w1;intro b w6 q4 g5 H;revert q4 g5;rintro T w_ ⟨o4,p6,_,rfl,d1,rfl,v15,p,k1,rfl,x1⟩;refine W.seq<|KD b.2<|Ku (a.length:Int)<|Kr (b.2<(a.length:Int))<|KH H (fun s4 H=>?_) (fun s4 H=>?_)
  ·refine KI<|KM<|KE v1<|Ku b.2<|bn H fun e0 z1 H=>?_;obtain ⟨e6,t4,c5⟩:=Sl.at (U.mono (l6.trans d1)) (aS z1);obtain ⟨v31,rfl,z0⟩:=t4;refine vx (ix fJ U.m z1)<|vx (lN 48 c5)<|me (al 48 [Y,B false] k1) ?_;rintro v36 k6 e1 ⟨k,rfl,k4⟩;obtain ⟨f0,g0,h0,rfl⟩:=((z0.mono e1)).form;refine md (sA 48 [.slice f0 g0 h0,B e0.Wrap] 0 k4 ⟨z0.m.one,rfl,trivial⟩) ?_;rintro i0 g2 m1;refine wln<|bn H fun E s f4=>W.seqJ (Jn i0 fun c l=>∃v44,Own c G ((Eb k 48 [v44,B E.2])::es true av v15 48 p b.1::F)/\l= [(0,v1),(1,I (aK 0 (aE f (a.length:Int)))),(2,I (aK 0 (aE d (a.length:Int)))),(3,I (aE g (w64 ((aK 0 (aE d (a.length:Int)))-(aK 0 (aE f (a.length:Int))))))),(4,B q),(11,I (a.length:Int)),(12,v15),(13,I b.2),(14,Q k)]/\Sl ah c v44 E.1) ?_ ?_
   ·refine W.seq<|bn s fun k3 b2 s=>W.join (Jn i0 fun c l=>Own c G ((Eb k 48 [.slice f0 g0 h0,B e0.Wrap])::es true av v15 48 p b.1::F)/\l= [(0,v1),(1,I (aK 0 (aE f (a.length:Int)))),(2,I (aK 0 (aE d (a.length:Int)))),(3,I (aE g (w64 ((aK 0 (aE d (a.length:Int)))-(aK 0 (aE f (a.length:Int))))))),(4,B q),(11,I (a.length:Int)),(12,v15),(13,I b.2),(14,Q k),(55,B k3)]) ?_ ?_
    ·clear s;refine KF b.2<|Ku (aK 0 (aE f (a.length:Int)))<|Kr (b.2>=(aK 0 (aE f (a.length:Int)))) ?_;rcases bo (decide (b.2>=(aK 0 (aE f (a.length:Int))))) with X|X
     ·have g4:=anT X b2;refine vb X<|wa (I b.2)<|wa (I (aK 0 (aE d (a.length:Int))))<|Ks (b.2<(aK 0 (aE d (a.length:Int)))) ?_;cases g4;exact Kr (b.2<(aK 0 (aE d (a.length:Int))))<|KB i0 ⟨m1,rfl⟩
     obtain rfl:=anF X b2;exact vb X<|pz<|ps<|Kq false<|KB i0 ⟨m1,rfl⟩
    rintro T w_ ⟨j0,q6,_,rfl,i2,rfl,o0,rfl⟩;refine nrm<|cn s (fun v4 s=>?_) (fun v4 s=>?_)
    ·refine KD b.2<|Ku (aE g (w64 ((aK 0 (aE d (a.length:Int)))-(aK 0 (aE f (a.length:Int))))))<|Kv (b.2+(aE g (w64 ((aK 0 (aE d (a.length:Int)))-(aK 0 (aE f (a.length:Int)))))))<|wln<|bn s fun n M h=>W.seqJ (Jn j0 fun c l=>Own c G ((Eb k 48 [.slice f0 g0 h0,B e0.Wrap])::es true av v15 48 p b.1::F)/\l= [(0,v1),(1,I (aK 0 (aE f (a.length:Int)))),(2,I (aK 0 (aE d (a.length:Int)))),(3,I (aE g (w64 ((aK 0 (aE d (a.length:Int)))-(aK 0 (aE f (a.length:Int))))))),(4,B q),(11,I (a.length:Int)),(12,v15),(13,I b.2),(14,Q k),(15,I n)]) ?_ ?_
     ·refine Ky q<|Kq (!q)<|KH M (fun w4 M=>?_) (fun w4 M=>?_)
      ·refine KF b.2<|Ku (aE g (w64 ((aK 0 (aE d (a.length:Int)))-(aK 0 (aE f (a.length:Int))))))<|Kv (b.2-(aE g (w64 ((aK 0 (aE d (a.length:Int)))-(aK 0 (aE f (a.length:Int)))))))<|wln ?_;cases M;exact jn j0 ⟨o0,rfl⟩
      refine KI ?_;cases M;exact jn j0 ⟨o0,rfl⟩
     rintro T w_ ⟨m6,r6,_,rfl,j2,rfl,l4,rfl⟩;refine KE v1<|Ku b.2<|bn h fun h1 c2 h=>?_;obtain ⟨f6,x4,d5⟩:=Sl.at (U.mono (l6.trans (d1.trans (e1.trans (g2.trans (i2.trans j2)))))) (aS c2);obtain ⟨t6,rfl,y4⟩:=x4;refine vx (ix fJ U.m c2)<|Kw (sb v1) (so v1+b.2.toNat*2)<|vx (l1 cD (d5 0 _ rfl))<|vx (ln 3 cD y4)<|bn h fun d4 d2 h=>me (Own.mkS (kl:= .i64) (kc:= .i64) (R:=ah) (z:= .agg #[I 0,Y]) (lz:=[I 0,Y]) (x:=(⟨0,([]:List Int)⟩:ab)) (by_:=32) (i:=(h1.Cells.length:Int)) (j:=(h1.Cells.length:Int)) true l4 (aO _) d2 (nC _) (sa d2) cD (by kernel_rfl) rfl rfl (fun _=>⟨(Y),rfl,(Sl.nl _ _)⟩) (by kernel_rfl) (by kernel_rfl)) ?_;rintro u6 n6 b5 ⟨f5,m4,b1⟩;obtain ⟨N,P,S,rfl⟩:=(b1).form;refine va (.agg #[.slice N P S,B false])<|md (sA 48 [.slice N P S,B false] 1 m4 ⟨(b1).one,rfl,trivial⟩) ?_;rintro v0 k2 n1;refine KA<|bn h fun l3 e2 h=>W.join (Jn v0 fun c l=>Own c G (es true ah (.slice N P S) 114 f5 d4::(Eb k 48 [.slice N P S,B false])::es true av v15 48 p b.1::F)/\l= [(0,v1),(1,I (aK 0 (aE f (a.length:Int)))),(2,I (aK 0 (aE d (a.length:Int)))),(3,I (aE g (w64 ((aK 0 (aE d (a.length:Int)))-(aK 0 (aE f (a.length:Int))))))),(4,B q),(11,I (a.length:Int)),(12,v15),(13,I b.2),(14,Q k),(15,I n),(79,B l3)]) ?_ ?_
     ·clear h;refine KF n<|Ku (aK 0 (aE f (a.length:Int)))<|Kr (n>=(aK 0 (aE f (a.length:Int)))) ?_;rcases bo (decide (n>=(aK 0 (aE f (a.length:Int))))) with Z|Z
      ·have i4:=anT Z e2;refine vb Z<|wa (I n)<|wa (I (aK 0 (aE d (a.length:Int))))<|Ks (n<(aK 0 (aE d (a.length:Int)))) ?_;cases i4;exact Kr (n<(aK 0 (aE d (a.length:Int))))<|KB v0 ⟨n1,rfl⟩
      obtain rfl:=anF Z e2;exact vb Z<|pz<|ps<|Kq false<|KB v0 ⟨n1,rfl⟩
     rintro T w_ ⟨o6,s6,_,rfl,l2,rfl,q1,rfl⟩;refine nrm<|cn h (fun z4 h=>?_) (fun z4 h=>?_)
     ·refine Kz v1<|Ku n<|bn h fun e4 f2 h=>?_;obtain ⟨g6,a5,e5⟩:=Sl.at (U.mono (l6.trans (d1.trans (e1.trans (g2.trans (i2.trans (j2.trans (b5.trans (k2.trans l2))))))))) (aS f2);obtain ⟨v6,rfl,c1⟩:=a5;refine vx (ix fJ U.m f2)<|vx (lN 48 e5) ?_;obtain ⟨s1,t1,u1,rfl⟩:=(c1).form;refine md (sA 48 [.slice s1 t1 u1,B e4.Wrap] 1 q1 ⟨c1.one,rfl,trivial⟩) ?_;rintro c3 t5 n2;refine wln ?_;cases h;have o2:=n2.sD 3 [1,2];exact jn c3 ⟨(.slice s1 t1 u1),o2,rfl,c1.m⟩
     refine KI ?_;cases h;obtain ⟨d3,n3,u5,q2,m3⟩:=q1.frz 0 rfl (b1.mono (k2.trans l2));have s2:=q2.sD 3 [1,2];exact ⟨d3,_,_,n3.symm,pt,us,(.slice N P S),s2,rfl,m3⟩
    refine KI ?_;cases s;exact jn j0 ⟨(.slice f0 g0 h0),o0,rfl,z0.m⟩
   rintro T w_ ⟨u,p5,_,rfl,v5,rfl,v44,d0,rfl,w0⟩;refine bn f4 fun t o b0=>W.seqJ (Jn u fun c l=>Own c G ((Eb k 48 [v44,B t])::es true av v15 48 p b.1::F)/\l= [(0,v1),(1,I (aK 0 (aE f (a.length:Int)))),(2,I (aK 0 (aE d (a.length:Int)))),(3,I (aE g (w64 ((aK 0 (aE d (a.length:Int)))-(aK 0 (aE f (a.length:Int))))))),(4,B q),(11,I (a.length:Int)),(12,v15),(13,I b.2),(14,Q k)]) ?_ ?_
   ·refine W.seq<|bn o fun i1 x0 o=>W.join (Jn u fun c l=>Own c G ((Eb k 48 [v44,B E.2])::es true av v15 48 p b.1::F)/\l= [(0,v1),(1,I (aK 0 (aE f (a.length:Int)))),(2,I (aK 0 (aE d (a.length:Int)))),(3,I (aE g (w64 ((aK 0 (aE d (a.length:Int)))-(aK 0 (aE f (a.length:Int))))))),(4,B q),(11,I (a.length:Int)),(12,v15),(13,I b.2),(14,Q k),(97,B i1)]) ?_ ?_
    ·clear o;refine KF b.2<|Kx (b.2+1)<|Ku (aK 0 (aE f (a.length:Int)))<|Kq ((w64 (b.2+1))==(aK 0 (aE f (a.length:Int)))) ?_;rcases bo ((w64 (b.2+1))==(aK 0 (aE f (a.length:Int)))) with y|y
     ·obtain rfl:=orT y x0;exact vb y<|pz<|pz<|pz<|pz<|Kq true<|KB u ⟨d0,rfl⟩
     have D:=orF y x0;refine vb y<|Kt q<|Kt (!q)<|wn<|bn D fun i5 y0 D=>?_;rcases bo (!q) with A|A
     ·have m2:=anT A y0;refine vb A<|wa (I b.2)<|wa (I (w64 (b.2+1)))<|wa (I (aK 0 (aE d (a.length:Int))))<|Kt ((w64 (b.2+1))==(aK 0 (aE d (a.length:Int))))<|wn ?_;cases m2;refine Kq ((w64 (b.2+1))==(aK 0 (aE d (a.length:Int)))) ?_;cases D;exact Kq ((w64 (b.2+1))==(aK 0 (aE d (a.length:Int))))<|KB u ⟨d0,rfl⟩
     obtain rfl:=anF A y0;refine vb A<|pz<|pz<|Kt false ?_;cases D;exact Kq false<|KB u ⟨d0,rfl⟩
    rintro T w_ ⟨e3,q5,_,rfl,w5,rfl,l0,rfl⟩;refine nrm<|cn o (fun o3 o=>?_) (fun o3 o=>?_)
    ·refine W.region<|Kw k 1<|md (sC 4 1 (B false) [v44,B false] 0 l0 ⟨rfl,trivial⟩) ?_;rintro f3 x5 t2;refine wln ?_;cases o;exact jn f3 ⟨t2,rfl⟩
    refine KI ?_;cases o;exact jn e3 ⟨l0,rfl⟩
   rintro T w_ ⟨l5,r5,_,rfl,a4,rfl,m0,rfl⟩;refine Kz v15<|vx (leN 48 0 [v44,B t] (m0.on 0 rfl)) ?_;obtain ⟨q0,s0,t0,rfl⟩:=((w0.mono a4)).form;refine me (sl av 48 [[.slice q0 s0 t0,B t]] ([(⟨E.1,t⟩:aj)]:List aj) m0 ⟨⟨(.slice q0 s0 t0),rfl,w0.m⟩,trivial⟩) ?_;rintro j6 m5 y5 ⟨i6,u2,q3⟩;obtain ⟨n5,t3,z5,v2,s3⟩:=u2.frz 0 rfl q3;refine WL.gh t3 (bn b0 fun j5 u3 b0=>me (ap av (.agg #[Y,B false]) 32 27 2 v2 x1.m s3 u3 fJ) ?_);rintro g1 g3 a6 ⟨c4,w2,v3⟩;refine va g1<|WL.nil<|KJ<|KF b.2<|Kv (b.2+1)<|WL.nil ?_;cases b0;refine ⟨_,rfl,?_⟩;have x2:=w2.sD 3 [2];exact jn g3 ⟨g1,c4,x2,rfl,v3⟩
  refine W.exit<|thx ?_;cases H;exact ⟨_,rfl,rfl,jn o4 ⟨v15,p,k1,rfl,x1⟩⟩
 ·have w3:OA av c6 Y [] []:=OA.nil (aO _);have y2:=O8.addHole (e:=es true av Y 48 [] ([]:List aj)) rfl;exact jn c6 ⟨(Y),[],y2,rfl,w3⟩
 rintro _ T w_ ⟨rfl,o5,s5,_,rfl,b6,rfl,v17,f1,z2,rfl,x3⟩;refine KK<|sr<|vv v17<|KG ?_;cases j1;obtain ⟨i3,z3,d6,a3,y3⟩:=z2.frz 0 rfl x3;have b3:=a3.sD 1 [];exact BL z3 (KC i3 ⟨v17,b3,rfl,y3⟩)
def ka (p0:List Int):Option (List Int):=
 (rep 0 0).bind fun g=>
 (rep (p0.length:Int) 0).bind fun h=>
 (cH (σ:=(List Int)×Int) (τ:=(List Int)) (((p0.length:Int)-0).toNat+1) (fun a=>
 if decide (a.2<(p0.length:Int)) then
 (idx p0 a.2).bind fun b=>
 ((fO b).bind fun d=>
 if (!d)=true then
 some 65533
 else
 some b).bind fun f=>
 (app a.1 ([f]:List Int)).bind fun e=>
 some (.inl (e,(w64 (a.2+1))))
 else
 some (.inr a.1)) (g,0)).bind fun c=>
 some c
theorem vI (O0:Own c0 G F) (n:List Int){r:List Int}(p:Sl (RI .i32) c0 v1 n) (H:ka n=some r): KP 72 #[v1] c0 fun c v=>∃P y2,Own c G (es true (RI .i32) P 21 y2 r::F)/\v=P/\OA (RI .i32) c P y2 r:=by
 unfold ka at H;refine en func72 rfl rfl<|KE Y<|wln<|KE v1<|vx (ln 3 cI p)<|bn H fun b2 h3 H=>bn H fun d2 h4 H=>me (Own.mkS (kl:= .i64) (kc:= .i64) (R:=(RI .i32)) (z:=J 0) (lz:=[J 0]) (x:=0) (by_:=4) (i:=0) (j:=(n.length:Int)) true O0 (aO _) h3 (Hr h4) (sa h4) cI (by kernel_rfl) rfl rfl (fun _=>rfl) (by kernel_rfl) (by kernel_rfl)) ?_;rintro v9 M l8 ⟨u6,O5,h7⟩;refine va v9<|KA<|KE v1<|vx (ln 3 cI p.m)<|Ku 0<|wln<|W.block<|bn H fun f1 A q=>lp A (fun a=>Jn M fun c l=>∃v12 f,Own c G (es true (RI .i32) v12 21 f a.1::F)/\l= [(3,v12),(9,v1),(10,I (n.length:Int)),(11,I a.2)]/\OA (RI .i32) c v12 f a.1) (fun h ex e w=>ex= .exit 0/\(Jn M fun c l=>∃v14 k,Own c G (es true (RI .i32) v14 21 k h::F)/\l= [(3,v14)]/\OA (RI .i32) c v14 k h) e w) ?_ ?_ ?_
 ·clear q A;intro a c2 f0 x0 H;revert f0 x0;rintro e_ w_ ⟨u,m1,_,rfl,l16,rfl,v12,f,s,rfl,D⟩;refine sr<|Kr (a.2<(n.length:Int))<|KA<|cn H (fun g0 H=>?_) (fun g0 H=>?_)
  ·refine KI<|KM<|sr<|bn H fun g E H=>?_;obtain ⟨e1,h0,u0⟩:=Sl.at (p.mono (l8.trans l16)) (aS E);obtain rfl:=h0;refine vx (ix cI p.m E)<|vx (l1 mj (u0 0 _ rfl))<|va (J g)<|wln<|bn H fun d b o=>W.seqJ (Jn u fun c l=>Own c G (es true (RI .i32) v12 21 f a.1::F)/\l= [(3,v12),(5,J d),(9,v1),(10,I (n.length:Int)),(11,I a.2)]) ?_ ?_
   ·refine KE (J g)<|bn b fun N i0 b=>cl (ph s g i0) ?_;rintro v36 y q1 ⟨t,rfl⟩;refine Kq (!N)<|KH b (fun j0 b=>?_) (fun j0 b=>?_)
    ·refine Kz (J 65533)<|wln ?_;cases b;exact jn y ⟨t,rfl⟩
    refine KI ?_;cases b;exact jn y ⟨t,rfl⟩
   rintro e_ w_ ⟨i1,n1,_,rfl,s1,rfl,S,rfl⟩;refine Kz v12<|va (J d)<|me (sl (RI .i32) 21 [[J d]] ([d]:List Int) S ⟨rfl,trivial⟩) ?_;rintro v48 j1 t1 ⟨z1,T,l0⟩;obtain ⟨k1,o0,u1,U,m0⟩:=T.frz 0 rfl l0;refine WL.gh o0 (bn o fun h1 q0 o=>me (ap (RI .i32) (J 0) 4 32 1 U D.m m0 q0 cI) ?_);rintro v58 b0 w1 ⟨v0,X,s0⟩;refine va v58<|WL.nil<|KJ<|W.region<|Kv (a.2+1)<|WL.nil ?_;cases o;refine ⟨_,rfl,?_⟩;have Z:=X.sD 2 [1];exact jn b0 ⟨v58,v0,Z,rfl,s0⟩
  refine W.exit<|thx ?_;cases H;exact ⟨_,rfl,rfl,jn u ⟨v12,f,s,rfl,D⟩⟩
 ·exact jn M ⟨v9,u6,O5,rfl,h7⟩
 rintro _ e_ w_ ⟨rfl,d0,p1,_,rfl,x1,rfl,v14,k,a0,rfl,t0⟩;refine KK<|sr<|vv v14<|KG ?_;cases q;exact KC d0 ⟨v14,k,a0,rfl,t0⟩
def qo (p0:Int) (p1:List Int):Option (List ab):=
 (if decide (p0>=2) then
 (app ([(⟨0,([]:List Int)⟩:ab)]:List ab) ([(⟨0,([]:List Int)⟩:ab)]:List ab)).bind fun e=>
 some e
 else
 some (([(⟨0,([]:List Int)⟩:ab)]:List ab))).bind fun c=>
 if ((p1.length:Int)==0)=true then
 some c
 else
 (slc p1 0 (aE (p1.length:Int) 16)).bind fun f=>
 (ka f).bind fun g=>
 (idx c 0).bind fun k=>
 (oK c 0 (⟨1,g⟩:ab)).bind fun a=>
 (if decide (p0>=2) then
 (idx a 0).bind fun h=>
 (oK a 0 (⟨2,h.Text⟩:ab)).bind fun b=>
 (idx b 1).bind fun i=>
 (oK b 1 (⟨3,i.Text⟩:ab)).bind fun d=>
 some d
 else
 some a).bind fun j=>
 some j
theorem Dq (O0:Own c0 G F) (i:Int) (A:List Int){r:List ab}(h2:Sl (RI .i32) c0 v1 A) (H:qo i A=some r): KP 235 #[I i,v1] c0 fun c v=>∃y1 y2,Own c G (es true ah y1 114 y2 r::F)/\v=y1/\OA ah c y1 y2 r:=by
 unfold qo at H;refine en func235 rfl rfl<|KE Y<|wln<|KE (.agg #[I 0,Y])<|me (sl ah 114 [[I 0,Y]] ([(⟨0,([]:List Int)⟩:ab)]:List ab) O0 ⟨⟨(Y),rfl,(Sl.nl _ _)⟩,trivial⟩) ?_;rintro v7 c6 l6 ⟨u4,O3,h5⟩;refine va v7<|wln<|bn H fun a0 h b=>W.seqJ (Jn c6 fun c l=>∃v10 n,Own c G (es true ah v10 114 n a0::F)/\l= [(0,I i),(1,v1),(5,v10)]/\OA ah c v10 n a0) ?_ ?_
 ·refine KD i<|Kr (i>=2)<|KH h (fun b1 h=>?_) (fun b1 h=>?_)
  ·refine Kz v7<|va (.agg #[I 0,Y])<|me (sl ah 114 [[I 0,Y]] ([(⟨0,([]:List Int)⟩:ab)]:List ab) O3 ⟨⟨(Y),rfl,(Sl.nl _ _)⟩,trivial⟩) ?_;rintro v17 d3 l16 ⟨t3,h0,c1⟩;obtain ⟨e3,e1,k3,i0,d1⟩:=h0.frz 0 rfl c1;refine WL.gh e1 (bn h fun b3 f1 h=>me (ap ah (.agg #[I 0,Y]) 32 46 1 i0 h5.m d1 f1 cD) ?_);rintro v27 w0 l3 ⟨k2,j0,g1⟩;refine va v27<|wln ?_;cases h;have k0:=j0.sD 2 [1];exact jn w0 ⟨v27,k2,k0,rfl,g1⟩
  refine KI ?_;cases h;exact jn c6 ⟨v7,u4,O3,rfl,h5⟩
 rintro e_ w_ ⟨x0,i3,_,rfl,g2,rfl,v10,n,D,rfl,p⟩;refine W.seq<|KE v1<|vx (ln 3 cI h2.m)<|Kq ((A.length:Int)==0)<|KH b (fun h1 b=>?_) (fun h1 b=>?_)
 ·refine sr<|vv v10<|KG<|thr ?_;cases b;exact KC x0 ⟨v10,n,D,rfl,p⟩
 refine KI<|KE v10<|vv v1<|vx (ln 3 cI h2.m)<|Ku (aE (A.length:Int) 16)<|bn b fun e0 i1 b=>?_;obtain ⟨v38,j1,k1⟩:=rZ (k':= .i64) cI (by kernel_rfl) (h2.mono (l6.trans g2)) i1;refine vr v38 (rx (by kernel_rfl) (j1 _))<|bn b fun s m1 b=>cl (vI D e0 k1 m1) ?_;rintro v42 f3 m3 ⟨_,l2,m0,rfl,N⟩;obtain ⟨e,f,g,rfl⟩:=(N).form;refine va (.agg #[I 1,.slice e f g])<|bn b fun c3 q1 b=>vx (ixO cD p.m q1) ?_;obtain ⟨g3,s1,n3,o0,P⟩:=m0.frz 0 rfl N;refine WL.gh s1 (bn b fun x2 t1 b=>md (Own.stW (R:=ah) (T:=114) (us:=[I 1,.slice e f g]) (x':=(⟨1,s⟩:ab)) (u:= .agg #[I 1,.slice e f g]) 1 o0 (by kernel_rfl) rfl p.m t1 rfl (by kernel_rfl) ⟨rfl,P.one,trivial⟩ rfl ⟨(.slice e f g),rfl,P⟩) ?_);rintro M o3 ⟨m2,E,k⟩;refine wln<|bn b fun z a g0=>W.seqJ (Jn M fun c l=>∃d o,Own c G (es true ah d 114 o z::es false (RI .i32) (.slice e f g) 21 l2 s::F)/\l= [(5,d)]/\OA ah c d o z) ?_ ?_
 ·refine KD i<|Kr (i>=2)<|KH a (fun u1 a=>?_) (fun u1 a=>?_)
  ·refine W.region<|vv v10<|bn a fun t S a=>vx (ixO cD k S)<|Kw (sb v10) ((0:Int).toNat*2) ?_;obtain ⟨t2,w1,i2⟩:=OA.at k S;obtain ⟨X,rfl,x1⟩:=w1;refine bn a fun z2 z1 a=>md (Own.stO (R:=ah) (T:=3) (us:=[I 2]) (x':=(⟨2,t.Text⟩:ab)) (u:=I 2) (x:=(⟨2,t.Text⟩:ab)) (j:=0) (l':=[I 2,X]) 1 E (by kernel_rfl) rfl k z1 i2 rfl (by kernel_rfl) ⟨rfl,trivial⟩ (by kernel_rfl) rfl ⟨X,rfl,x1⟩) ?_;rintro h3 p3 ⟨u3,q0,q⟩;refine bn a fun y U a=>vx (ixO cD q U)<|Kw (sb v10) ((1:Int).toNat*2) ?_;obtain ⟨u2,b2,j2⟩:=OA.at q U;obtain ⟨Z,rfl,c2⟩:=b2;refine bn a fun a3 d2 a=>md (Own.stO (R:=ah) (T:=3) (us:=[I 3]) (x':=(⟨3,y.Text⟩:ab)) (u:=I 3) (x:=(⟨3,y.Text⟩:ab)) (j:=0) (l':=[I 3,Z]) 1 q0 (by kernel_rfl) rfl q d2 j2 rfl (by kernel_rfl) ⟨rfl,trivial⟩ (by kernel_rfl) rfl ⟨Z,rfl,c2⟩) ?_;rintro z0 q3 ⟨n2,s0,e2⟩;refine wln ?_;cases a;have t0:=s0.sD 2 [1,0];exact jn z0 ⟨v10,n2,t0,rfl,e2⟩
  refine KI ?_;cases a;have u0:=E.sD 2 [1,0];exact jn M ⟨v10,m2,u0,rfl,k⟩
 rintro e_ w_ ⟨a1,j3,_,rfl,s3,rfl,d,o,v0,rfl,f2⟩;refine sr<|vv d<|KG ?_;cases g0;have b0:=v0.sD 2 [0];exact KC a1 ⟨d,o,b0,rfl,f2⟩
def mJ (sg:Sto) (p0:Option Nat) (p1:Int) (p2:Int) (p3:List Int):Option (Sto×Er):=
 (qo p2 p3).bind fun b=>
 (ez sg p0 p1 b).bind fun a=>
 some (a.1,a.2)
theorem xx (u:Own c0 G F) (x:Rel c0 sg G) (hG:Gl [2,4] c0) (d:Option Nat) (a:Int) (b:Int) (e:List Int){r:Sto×Er}(y:Pt 0 c0 v1 d) (z:Sl (RI .i32) c0 v3 e) (H:mJ sg d a b e=some r): KP 178 #[v1,I a,I b,v3] c0 fun c v=>∃t,∃G_:Gm,Own c G_ F/\Rel c r.1 G_/\v=t/\RE 350 144 c t r.2:=by
 unfold mJ at H;refine en func178 rfl rfl<|KE (.nilIface)<|wln<|KE v1<|Ku a<|Ku b<|va v3<|bn H fun s A H=>cl (Dq u b e z A) ?_;rintro v6 E N ⟨_,T,g,rfl,D⟩;obtain ⟨M,o,P,h,n⟩:=g.frz 0 rfl D;refine WL.gh o (bn H fun S p H=>cl (kN h x.m (hG.m.le (by decide)) d a s y.m n p) ?_);rintro v20 l R ⟨_,f,i,k,rfl,q⟩;refine va v20<|KG ?_;cases H;have j:=i.sD 1 [];exact KC l ⟨v20,f,j,k,rfl,q⟩
def qh (sg:Sto) (p0:Option Nat) (p1:Int):Option (Int×dU×Bool):=
 (gX sg p0 p1).bind fun b=>
 ((bL b.2 (some (b.1.Kind==3))).bind fun d=>
 if d then
 (gX sg p0 (w64 (p1-1))).bind fun c=>
 some ((w64 (p1-1)),c.2,c.1.Kind,c.1.Text)
 else
 some (p1,b.2,b.1.Kind,b.1.Text)).bind fun a=>
 (bL a.2.1 (some (a.2.2.1==1))).bind fun e=>
 if e then
 some (a.1,(⟨1,a.2.2.2⟩:dU),true)
 else
 (bL a.2.1 (some (a.2.2.1==2))).bind fun f=>
 if f then
 some (a.1,(⟨2,a.2.2.2⟩:dU),true)
 else
 some (0,(⟨0,([]:List Int)⟩:dU),false)
theorem Dm (O0:Own c0 G F) (R0:Rel c0 sg G) (p0:Option Nat) (j:Int){r:Int×dU×Bool}(h2:Pt 0 c0 v1 p0) (H:qh sg p0 j=some r): KP 319 #[v1,I j] c0 fun c v=>∃y1 y2,Own c G (es true (RI .i32) y1 21 y2 r.2.1.Text::F)/\v= .tuple #[I r.1,.agg #[I r.2.1.Wide,y1],B r.2.2]/\OA (RI .i32) c y1 y2 r.2.1.Text:=by
 unfold qh at H;refine en func319 rfl rfl<|KD 0<|me (al 165 [I 0,Y] O0) ?_;rintro v6 c5 l5 ⟨u,rfl,O4⟩;refine Kq false<|wln<|KE v1<|Ku j<|bn H fun f h7 H=>cl (sG O4 R0.m p0 j h2.m h7) ?_;rintro v16 d3 l3 ⟨v8,u9,k1,rfl,e0⟩;refine va (.tuple #[.agg #[I f.1.Kind,v8],B f.2])<|va (.agg #[I f.1.Kind,v8])<|Kq f.2<|me (al 114 [I 0,Y] k1) ?_;rintro v20 e3 k2 ⟨b,rfl,m1⟩;obtain ⟨N,P,R,rfl⟩:=((e0.mono k2)).form;refine md (sA 114 [I f.1.Kind,.slice N P R] 0 m1 ⟨rfl,e0.m.one,trivial⟩) ?_;rintro S m3 U;refine Kq f.2<|wln<|bn H fun a g d=>W.seqJ (Jn S fun c l=>∃v28 i,Own c G (es true (RI .i32) v28 21 i a.2.2.2::(Eb b 114 [I a.2.2.1,v28])::(Eb u 165 [I 0,Y])::F)/\l= [(1,I a.1),(5,Q u),(6,B a.2.1),(7,Q b)]/\OA (RI .i32) c v28 i a.2.2.2) ?_ ?_
 ·refine W.seq<|bn g fun y0 q0 g=>W.join (Jn S fun c l=>Own c G ((Eb b 114 [I f.1.Kind,.slice N P R])::es true (RI .i32) (.slice N P R) 21 u9 f.1.Text::(Eb u 165 [I 0,Y])::F)/\l= [(0,v1),(1,I j),(5,Q u),(6,B f.2),(7,Q b),(19,B y0)]) ?_ ?_
  ·clear g;refine W.region<|Kq f.2 ?_;rcases bo f.2 with x|x
   ·have h1:=anT x q0;refine vb x<|wa (Q b)<|wn<|vx (le1 0 u_3 (U.on 0 rfl))<|Kt (f.1.Kind==3) ?_;cases h1;exact Kq (f.1.Kind==3)<|KB S ⟨U,rfl⟩
   obtain rfl:=anF x q0;exact vb x<|pz<|ps<|Kq false<|KB S ⟨U,rfl⟩
  rintro e_ w_ ⟨x1,h3,_,rfl,n3,rfl,h0,rfl⟩;refine nrm<|cn g (fun e2 g=>?_) (fun e2 g=>?_)
  ·refine KD j<|Kv (j-1)<|wln<|Kz v1<|Kx (j-1)<|bn g fun h f2 g=>cl (sG h0 R0.m p0 (w64 (j-1)) h2.m f2) ?_;rintro v49 f3 o3 ⟨v41,s2,n1,rfl,f0⟩;refine va (.tuple #[.agg #[I h.1.Kind,v41],B h.2])<|va (.agg #[I h.1.Kind,v41])<|Kq h.2 ?_;obtain ⟨l0,m0,o0,rfl⟩:=(f0).form;refine md (sA 114 [I h.1.Kind,.slice l0 m0 o0] 1 n1 ⟨rfl,(f0).one,trivial⟩) ?_;rintro z1 p3 q1;refine Kq h.2<|wln ?_;cases g;have s1:=q1.sD 4 [0,1,3];exact jn z1 ⟨(.slice l0 m0 o0),s2,s1,rfl,f0.m⟩
  refine KI ?_;cases g;have t1:=h0.sD 3 [1,0,2];exact jn x1 ⟨(.slice N P R),u9,t1,rfl,e0.m⟩
 rintro e_ w_ ⟨a0,i3,_,rfl,q3,rfl,v28,i,X,rfl,k⟩;refine KM<|W.seq<|bn d fun z0 s0 d=>W.join (Jn a0 fun c l=>Own c G (es true (RI .i32) v28 21 i a.2.2.2::(Eb b 114 [I a.2.2.1,v28])::(Eb u 165 [I 0,Y])::F)/\l= [(1,I a.1),(5,Q u),(6,B a.2.1),(7,Q b),(28,B z0)]) ?_ ?_
 ·clear d;refine W.region<|Kq a.2.1 ?_;rcases bo a.2.1 with y|y
  ·have i1:=anT y s0;refine vb y<|wa (Q b)<|wn<|vx (le1 0 u_3 (X.on 1 rfl))<|Kt (a.2.2.1==1) ?_;cases i1;exact vv (B (a.2.2.1==1))<|KB a0 ⟨X,rfl⟩
  obtain rfl:=anF y s0;exact vb y<|pz<|ps<|vv (B false)<|KB a0 ⟨X,rfl⟩
 rintro e_ w_ ⟨b0,j3,_,rfl,u0,rfl,M,rfl⟩;refine nrm<|cn d (fun g2 d=>?_) (fun g2 d=>?_)
 ·refine W.seq<|rD [] (Kp G0 [(Eb b 114 [I a.2.2.1,v28])]) M ?_;intro b2 l2 i0;have o2:=(Kp.cons (i0.on 1 rfl) Kp.nil0);refine ta 0 (I a.1)<|ta 1 (Qo b 1)<|tkx 2 o2 (fun c' j2 hk=>le1 1 cI (hk.on 0 rfl)) ?_;obtain ⟨n,o,p,rfl⟩:=((k.mono (u0.trans l2))).form;refine ta 3 (.agg #[I 1,.slice n o p])<|ta 4 (I a.1)<|o1 5 (gD 5 (sA 165 [I 1,.slice n o p] 2 i0 ⟨rfl,k.m.one,trivial⟩) ?_);rintro d0 s3 Z;have p2:=(Kp.cons (Z.on 1 rfl) Kp.nil0);refine ⟨.inr p2,ta 6 (B true) (dn (nrm<|W.ret<|KL ?_))⟩;cases d;have u1:=Z.sD 3 [0];exact Bm (c:=d0) (vs:=[I 1,.slice n o p]) (v:=B true) (v':=I a.1) rfl (by kernel_rfl) (by kernel_rfl) (by kernel_rfl) (by kernel_rfl) (by kernel_rfl) (Z.on 2 rfl _ rfl).1 ⟨_,d0,rfl,rfl,pt,(.slice n o p),i,u1,rfl,k.m⟩
 refine W.seq<|bn d fun a1 t0 d=>W.join (Jn b0 fun c l=>Own c G (es true (RI .i32) v28 21 i a.2.2.2::(Eb b 114 [I a.2.2.1,v28])::(Eb u 165 [I 0,Y])::F)/\l= [(1,I a.1),(5,Q u),(7,Q b),(39,B a1)]) ?_ ?_
 ·clear d;refine W.region<|Kq a.2.1 ?_;rcases bo a.2.1 with z|z
  ·have j1:=anT z t0;refine vb z<|wa (Q b)<|wn<|vx (le1 0 u_3 (M.on 1 rfl))<|Kt (a.2.2.1==2) ?_;cases j1;exact vv (B (a.2.2.1==2))<|KB b0 ⟨M,rfl⟩
  obtain rfl:=anF z t0;exact vb z<|pz<|ps<|vv (B false)<|KB b0 ⟨M,rfl⟩
 rintro e_ w_ ⟨g3,k3,_,rfl,m2,rfl,j0,rfl⟩;refine nrm<|cn d (fun i2 d=>?_) (fun i2 d=>?_)
 ·refine W.seq<|rD [] (Kp G0 [(Eb b 114 [I a.2.2.1,v28])]) j0 ?_;intro c2 n2 k0;have q2:=(Kp.cons (k0.on 1 rfl) Kp.nil0);refine ta 0 (I a.1)<|ta 1 (Qo b 1)<|tkx 2 q2 (fun c' j2 hk=>le1 1 cI (hk.on 0 rfl)) ?_;obtain ⟨q,s,t,rfl⟩:=((k.mono (u0.trans (m2.trans n2)))).form;refine ta 3 (.agg #[I 2,.slice q s t])<|ta 4 (I a.1)<|o1 5 (gD 5 (sA 165 [I 2,.slice q s t] 2 k0 ⟨rfl,k.m.one,trivial⟩) ?_);rintro D a3 A;have e1:=(Kp.cons (A.on 1 rfl) Kp.nil0);refine ⟨.inr e1,ta 6 (B true) (dn (nrm<|W.ret<|KL ?_))⟩;cases d;have v0:=A.sD 3 [0];exact Bm (c:=D) (vs:=[I 2,.slice q s t]) (v:=B true) (v':=I a.1) rfl (by kernel_rfl) (by kernel_rfl) (by kernel_rfl) (by kernel_rfl) (by kernel_rfl) (A.on 2 rfl _ rfl).1 ⟨_,D,rfl,rfl,pt,(.slice q s t),i,v0,rfl,k.m⟩
 refine W.skip<|KJ<|KE (.agg #[I 0,Y])<|Ku 0<|md (sA 165 [I 0,Y] 2 j0 ⟨rfl,rfl,trivial⟩) ?_;rintro E c3 w0;refine Kq false<|KG ?_;cases d;have c1:OA (RI .i32) E Y [] []:=OA.nil (aO _);have T:=w0.addHole (e:=es true (RI .i32) Y 21 [] ([]:List Int)) rfl;have x0:=T.sD 4 [0];exact Bm (c:=E) (vs:=[I 0,Y]) (v:=B false) (v':=I 0) rfl (by kernel_rfl) (by kernel_rfl) (by kernel_rfl) (by kernel_rfl) (by kernel_rfl) (T.on 3 rfl _ rfl).1 ⟨_,E,rfl,rfl,pt,(Y),[],x0,rfl,c1⟩
def pb (sg:Sto) (p0:Option Nat) (p1:Int) (p2:Int):Option (Sto×Bool):=
 (qh sg p0 p1).bind fun a=>
 (orE (!a.2.2) (some (decide ((a.2.1.Text.length:Int)>=16)))).bind fun c=>
 if c then
 some (sg,false)
 else
 (app a.2.1.Text ([p2]:List Int)).bind fun d=>
 (mJ sg p0 a.1 a.2.1.Wide d).bind fun b=>
 some (b.1,b.2.isNil)
theorem BI (O0:Own c0 G F) (R:Rel c0 sg G) (hG:Gl [2,4] c0) (q:Option Nat) (s:Int) (h:Int){r:Sto×Bool}(h2:Pt 0 c0 v1 q) (H:pb sg q s h=some r): KP 308 #[v1,I s,J h] c0 fun c v=>∃G_:Gm,Own c G_ F/\Rel c r.1 G_/\v=B r.2:=by
 unfold pb at H;refine en func308 rfl rfl<|Ky false<|wln<|KE v1<|Ku s<|bn H fun a h3 H=>cl (Dm O0 R q s h2 h3) ?_;rintro v12 q1 u1 ⟨v4,u5,O8,rfl,p⟩;refine va (.tuple #[I a.1,.agg #[I a.2.1.Wide,v4],B a.2.2])<|Ku a.1<|va (.agg #[I a.2.1.Wide,v4])<|Kq a.2.2<|me (al 165 [I 0,Y] O8) ?_;rintro v16 s1 a1 ⟨b,rfl,a0⟩;refine Ku a.1 ?_;obtain ⟨d,e,f,rfl⟩:=((p.mono a1)).form;refine md (sA 165 [I a.2.1.Wide,.slice d e f] 0 a0 ⟨rfl,p.m.one,trivial⟩) ?_;rintro j w1 i;refine Kq a.2.2<|KA<|W.seq<|bn H fun S M H=>W.join (Jn j fun c l=>Own c G ((Eb b 165 [I a.2.1.Wide,.slice d e f])::es true (RI .i32) (.slice d e f) 21 u5 a.2.1.Text::F)/\l= [(0,v1),(2,J h),(7,I a.1),(8,Q b),(24,B S)]) ?_ ?_
 ·clear H;refine W.region<|Kq a.2.2<|Kq (!a.2.2) ?_;rcases bo (!a.2.2) with g|g
  ·obtain rfl:=orT g M;exact vb g<|pz<|pz<|Kq true<|KB j ⟨i,rfl⟩
  have Z:=orF g M;refine vb g<|wa (Qo b 1)<|wn<|vx (le1 1 cI (i.on 0 rfl))<|wn<|vx (lnO 3 cI p.m)<|Ks ((a.2.1.Text.length:Int)>=16) ?_;cases Z;exact Kr ((a.2.1.Text.length:Int)>=16)<|KB j ⟨i,rfl⟩
 rintro e_ w_ ⟨g0,t1,_,rfl,x1,rfl,t,rfl⟩;refine nrm<|cn H (fun o0 H=>?_) (fun o0 H=>?_)
 ·refine Ky false<|KG<|thr ?_;cases H;have b0:=t.sD 2 [];exact KC g0 ⟨G,b0,R.m,rfl⟩
 refine KI<|W.seq<|rD [] (Kp G0 [(Eb b 165 [I a.2.1.Wide,.slice d e f])]) t ?_;intro h0 y1 u;have P:=(Kp.cons (u.on 0 rfl) Kp.nil0);refine ta 0 v1<|ta 1 (I a.1)<|ta 2 (Q b)<|tkx 3 P (fun c' N T=>le1 0 u_3 (T.on 0 rfl)) (ta 4 (Qo b 1)<|tkx 5 P (fun c' N T=>le1 1 cI (T.on 0 rfl)) (ta 6 (J h)<|o1 7 (gm 7 (sl (RI .i32) 21 [[J h]] ([h]:List Int) u ⟨rfl,trivial⟩) ?_)));rintro v40 i0 z1 ⟨d2,x,q0⟩;have d1:=(Kp.cons (x.on 1 rfl) Kp.nil0);refine ⟨.inr d1,?_⟩;obtain ⟨j0,t0,b1,y,s0⟩:=x.frz 0 rfl q0;have e1:=(Kp.cons (y.on 1 rfl) Kp.nil0);refine AC.gh t0 b1 (fun _=>e1) (bn H fun U u0 H=>o1 8 (gm 8 (ap (RI .i32) (J 0) 4 32 2 y p.m s0 u0 cI) ?_));rintro v52 k0 b2 ⟨e2,z,v0⟩;have f1:=(Kp.cons (z.on 1 rfl) Kp.nil0);refine ⟨.inr f1,?_⟩;obtain ⟨l0,x0,c1,A,w0⟩:=z.frz 2 rfl v0;have g1:=(Kp.cons (A.on 1 rfl) Kp.nil0);refine AC.gh x0 c1 (fun _=>g1) (bn H fun o y0 H=>o1 9 (gc 9 (xx A R.m (hG.m.le (by decide)) q a.1 a.2.1.Wide U h2.m w0 y0) ?_));rintro v60 E c2 ⟨_,X,D,e0,rfl,z0⟩;have h1:=(Kp.cons (D.on 1 rfl) Kp.nil0);refine ⟨.inr h1,AC.take 10 (B o.2.isNil) rfl (by kernel_rfl) (by kernel_rfl) (fun c' N=>(by rcases (z0).cs with ⟨k,n⟩|⟨b_,k,n⟩|⟨b_,k,n⟩ <;> (subst k; rw [n]; kernel_rfl))) (ta 11 (B o.2.isNil)<|dn (nrm<|W.ret ?_))⟩;cases H;have d0:=D.sD 3 [];exact KC E ⟨X,d0,e0,rfl⟩
def nU (sg:Sto) (p0:Int) (p1:Int):Option (Sto×(Option Nat)):=
 (some (sg.add_grid_Grid (⟨([]:List (Option Nat))⟩:ck))).bind fun c=>
 (cH (σ:=Int×Sto) (τ:=Sto) (((aK 1 (aE p1 1024))-0).toNat+1) (fun a=>
 if decide (a.1<(aK 1 (aE p1 1024))) then
 (a.2.grid_Grid[sg.grid_Grid.length]?).bind fun f=>
 (lO a.2 p0).bind fun d=>
 (app f.rows ([d.2]:List (Option Nat))).bind fun g=>
 (d.1.set_grid_Grid sg.grid_Grid.length (⟨g⟩:ck)).bind fun b=>
 some (.inl ((w64 (a.1+1)),b))
 else
 some (.inr a.2)) (0,c)).bind fun e=>
 some (e,(some sg.grid_Grid.length))
theorem xz (O0:Own c0 G F) (R0:Rel c0 sg G) (y:Int) (n:Int){r:Sto×(Option Nat)}(H:nU sg y n=some r): KP 112 #[I y,I n] c0 fun c v=>∃y1,∃G_:Gm,Own c G_ F/\Rel c r.1 G_/\fq G G_/\v=y1/\Pt 1 c y1 r.2:=by
 unfold nU at H;refine en func112 rfl rfl<|KE (.pointer none)<|wln<|KE (.agg #[Y]) ?_;have h2:OA (RP 0) c0 Y [] []:=OA.nil (aO _);have O1:=O0.addHole (e:=es true (RP 0) Y 168 [] ([]:List (Option Nat))) rfl;refine me (al 176 [(Y)] O1) ?_;rintro v6 c5 l5 ⟨a,rfl,O4⟩;have O7:=O4.sD 2 [0,1];refine bn H fun q2 h8 H=>?_;obtain ⟨z,l0,t1,l9,p,q0,U,l3,u1,a16⟩:=Rel.new_grid_Grid (E:=[(Eb a 176 [(Y)]),es true (RP 0) Y 168 [] ([]:List (Option Nat))]) (F:=F) (x:=(⟨([]:List (Option Nat))⟩:ck)) (b:=a) O7 (R0.mono l5) (fun c_ hle_=>⟨a,(Y),[],rfl,rfl,((h2.mono l5).mono hle_)⟩);rw [bi h8] at U;refine WL.gh t1.1 ?_;have v1:=fq.nil (fq.refl _) u1;have c1:=(fq.refl _).trans a16;have w1:Pt 1 z (Q a) (some sg.grid_Grid.length):=⟨a,rfl,p⟩;refine va (Q a)<|KA<|KD n<|Ku (aE n 1024)<|Ku (aK 1 (aE n 1024))<|Ku 0<|wln<|W.block<|bn H fun e3 a0 D=>lp a0 (fun d=>Jn z fun c l=>∃G_,Own c G_ F/\l= [(0,I y),(5,Q a),(10,I (aK 1 (aE n 1024))),(11,I d.1)]/\Rel c d.2 G_/\fq G G_) (fun A ex e w=>ex= .exit 0/\(Jn z fun c l=>∃G_,Own c G_ F/\l= [(5,Q a)]/\Rel c A G_/\fq G G_) e w) ?_ ?_ ?_
 ·clear D a0;intro d t3 s1 s2 H;revert s1 s2;rintro e_ w_ ⟨h1,j3,_,rfl,j2,rfl,f,M,rfl,o,X⟩;refine sr<|Kr (d.1<(aK 1 (aE n 1024)))<|KA<|cn H (fun x1 H=>?_) (fun x1 H=>?_)
  ·refine KI<|KM<|rD [8,11] (Kp f []) M ?_;intro i1 e0 N;have m2:=(Kp.nil N);refine ta 0 (Q a)<|ta 1 (Q a)<|ta 2 (Q a)<|ta 3 (Q a)<|bn H fun f3 z1 H=>?_;obtain ⟨v35,p3,b0,b2⟩:=Rel.open_grid_Grid (o.mono e0) z1 (tm p);refine tkx 4 m2 (fun c' n3 hk=>le1 0 nJ (hk.gon b0 0 rfl)) (ta 5 (I y)<|bn H fun i0 c2 H=>o1 6 (gc 6 (vJ N o.m y c2) ?_));rintro v40 j1 k2 ⟨_,h3,P,z0,k,rfl,d0⟩;have d1:=X.trans k;have n2:Kp f [] j1:=(Kp.adds P k);refine ⟨.inr n2,?_⟩;obtain ⟨Z,rfl⟩:=(d0).form;refine o1 7 (gm 7 (sl (RP 0) 168 [[.pointer Z]] ([i0.2]:List (Option Nat)) P ⟨⟨(.pointer Z),rfl,d0⟩,trivial⟩) ?_);rintro v55 k1 f0 ⟨q3,R,d2⟩;have o2:Kp f [] k1:=(Kp.adds R k);refine ⟨.inr o2,?_⟩;obtain ⟨m1,f2,s,S,e2⟩:=R.frz 0 rfl d2;have p2:Kp f [] m1:=(Kp.adds S k);refine AC.gh f2 s (fun _=>p2) (bn H fun j0 g2 H=>?_);have s0:=S.borrow 1 (k.get b0) rfl;refine o1 8 (gm 8 (ap (RP 0) (.pointer none) 8 174 0 s0 b2.m e2 g2 nJ) ?_);rintro s3 i3 g0 ⟨h0,t0,q⟩;have u0:=t0.giveB 1 rfl;refine ⟨.inl rfl,ta 9 (Q a) (ta 10 (Q a) ?_)⟩;obtain ⟨g,h,i,rfl⟩:=(q).form;refine o1 11 (gD 11 (Own.stGB (T:=174) (j:=0) (us:=[.slice g h i]) (nw:=[.slice g h i]) (v:= .slice g h i) 0 u0 (by kernel_rfl) rfl rfl rfl rfl (by kernel_rfl) ⟨(q).one,trivial⟩ (by kernel_rfl) rfl) ?_);rintro n1 u v0;refine bn H fun k0 i2 H=>?_;obtain ⟨m0,w0,a1,m3,e1⟩:=Rel.put_grid_Grid v0 (z0.mono (f0.trans (s.trans (g0.trans u)))) (E':=[(Eb a 176 [.slice g h i]),es true (RP 0) (.slice g h i) 168 h0 j0]) i2 ⟨a,(.slice g h i),h0,((j2.trans (e0.trans (k2.trans (f0.trans (s.trans (g0.trans u)))))).t _ _ _ p),rfl,(q.mono u)⟩;have f1:=e1 _ d1 v1;refine ⟨.inl rfl,dn (KJ<|W.region<|Kv (d.1+1)<|WL.nil ?_)⟩;cases H;refine ⟨_,rfl,?_⟩;have x0:=w0.sD 1 [];exact jn n1 ⟨m0,x0,rfl,a1,f1⟩
  refine W.exit<|thx ?_;cases H;exact ⟨_,rfl,rfl,jn h1 ⟨f,M,rfl,o,X⟩⟩
 ·exact jn z ⟨l0,q0,rfl,U,c1⟩
 rintro _ e_ w_ ⟨rfl,q1,k3,_,rfl,o3,rfl,o0,y0,rfl,b1,g1⟩;refine KK<|sr<|vv (Q a)<|KG ?_;cases D;exact KC q1 ⟨(Q a),o0,y0,b1,g1,rfl,w1.m⟩
def mR (sg:Sto) (p0:Int) (p1:Int):Option (Sto×(Option Nat)):=
 (nU sg p0 p1).bind fun b=>
 (some (b.1.add_place_Pen (⟨b.2,(⟨0,0,false⟩:ai),true⟩:bv))).bind fun a=>
 some (a,(some b.1.place_Pen.length))
theorem wb (N:Own c0 G F) (R:Rel c0 sg G) (e:Int) (f:Int){r:Sto×(Option Nat)}(H:mR sg e f=some r): KP 73 #[I e,I f] c0 fun c v=>∃M,∃G_:Gm,Own c G_ F/\Rel c r.1 G_/\fq G G_/\v=M/\Pt 2 c M r.2:=by
 unfold mR at H;refine en func73 rfl rfl<|KE (.pointer none)<|wln<|KD e<|Ku f<|bn H fun k U H=>cl (xz N R e f U) ?_;rintro v2 c8 l8 ⟨_,G4,P,S,T,rfl,z⟩;have h:=(fq.refl _).trans T;obtain ⟨d,rfl⟩:=(z).form;refine va (.agg #[.pointer d,I 0,I 0,B false,B true])<|me (al 126 [.pointer d,I 0,I 0,B false,B true] P) ?_;rintro v15 X j ⟨a,rfl,m⟩;have n:=m.sD 1 [0];refine bn H fun D s H=>?_;obtain ⟨i,l,t,b0,u,o,g,Z,y,p⟩:=Rel.new_place_Pen (E:=[(Eb a 126 [.pointer d,I 0,I 0,B false,B true])]) (F:=F) (x:=(⟨k.2,(⟨0,0,false⟩:ai),true⟩:bv)) (b:=a) n (S.mono j) (fun c_ hle_=>⟨a,(.pointer d),rfl,rfl,(z.mono (j.trans hle_))⟩);rw [bi s] at g;refine WL.gh t.1 ?_;have a0:=fq.nil h y;have q:=h.trans p;have A:Pt 2 i (Q a) (some k.1.place_Pen.length):=⟨a,rfl,u⟩;refine va (Q a)<|KG ?_;cases H;exact KC i ⟨(Q a),l,o,g,q,rfl,A⟩
def iy (p0:Int) (p1:Int):Option (List aj):=
 (cH (σ:=(List aj)×Int) (τ:=(List aj)) ((p1-0).toNat+1) (fun a=>
 if decide (a.2<p1) then
 (rep p0 (⟨0,([]:List Int)⟩:ab)).bind fun b=>
 (app a.1 ([(⟨b,false⟩:aj)]:List aj)).bind fun c=>
 some (.inl (c,(w64 (a.2+1))))
 else
 some (.inr a.1)) (([]:List aj),0)).bind fun d=>
 some d
theorem tD (O0:Own c0 G F) (b:Int) (k:Int){r:List aj}(H:iy b k=some r): KP 104 #[I b,I k] c0 fun c v=>∃u y2,Own c G (es true av u 48 y2 r::F)/\v=u/\OA av c u y2 r:=by
 unfold iy at H;refine en func104 rfl rfl<|KE Y<|wln<|KE Y<|KA<|KD 0<|wln<|W.block<|bn H fun k1 h1 y=>lp h1 (fun a=>Jn c0 fun c l=>∃v3 n,Own c G (es true av v3 48 n a.1::F)/\l= [(0,I b),(1,I k),(5,v3),(6,I a.2)]/\OA av c v3 n a.1) (fun h ex e w=>ex= .exit 0/\(Jn c0 fun c l=>∃v5 o,Own c G (es true av v5 48 o h::F)/\l= [(5,v5)]/\OA av c v5 o h) e w) ?_ ?_ ?_
 ·clear y h1;intro a q1 a0 q0 H;revert a0 q0;rintro e_ w_ ⟨c7,g8,_,rfl,l7,rfl,v3,n,U,rfl,p⟩;refine W.seq<|KD a.2<|Ku k<|Kr (a.2<k)<|KH H (fun d0 H=>?_) (fun d0 H=>?_)
  ·refine KI<|KM<|Kz v3<|Ku b<|bn H fun t q H=>me (Own.mkS (kl:= .i64) (kc:= .i64) (R:=ah) (z:= .agg #[I 0,Y]) (lz:=[I 0,Y]) (x:=(⟨0,([]:List Int)⟩:ab)) (by_:=32) (i:=b) (j:=b) true U (aO _) q (nC _) (sa q) cD (by kernel_rfl) rfl rfl (fun _=>⟨(Y),rfl,(Sl.nl _ _)⟩) (by kernel_rfl) (by kernel_rfl)) ?_;rintro v20 y0 d1 ⟨m1,A,s⟩;obtain ⟨d,f,g,rfl⟩:=(s).form;refine va (.agg #[.slice d f g,B false]) ?_;obtain ⟨z0,f0,e1,D,e0⟩:=A.frz 0 rfl s;refine WL.gh f0 (me (sl av 48 [[.slice d f g,B false]] ([(⟨t,false⟩:aj)]:List aj) D ⟨⟨(.slice d f g),rfl,e0⟩,trivial⟩) ?_);rintro v32 a1 f1 ⟨n1,E,g0⟩;obtain ⟨b1,i0,g1,M,h0⟩:=E.frz 0 rfl g0;refine WL.gh i0 (bn H fun x0 j0 H=>me (ap av (.agg #[Y,B false]) 32 27 2 M p.m h0 j0 fJ) ?_);rintro v42 X i1 ⟨o0,N,k0⟩;refine va v42<|WL.nil<|KJ<|KF a.2<|Kv (a.2+1)<|WL.nil ?_;cases H;refine ⟨_,rfl,?_⟩;have P:=N.sD 3 [2];exact jn X ⟨v42,o0,P,rfl,k0⟩
  refine W.exit<|thx ?_;cases H;exact ⟨_,rfl,rfl,jn c7 ⟨v3,n,U,rfl,p⟩⟩
 ·have l0:OA av c0 Y [] []:=OA.nil (aO _);have S:=O0.addHole (e:=es true av Y 48 [] ([]:List aj)) rfl;exact jn c0 ⟨(Y),[],S,rfl,l0⟩
 rintro _ e_ w_ ⟨rfl,Z,c1,_,rfl,j1,rfl,v5,o,T,rfl,m0⟩;refine KK<|sr<|vv v5<|KG ?_;cases y;exact KC Z ⟨v5,o,T,rfl,m0⟩
def iw (p0:Int) (p1:Int):Option aa:=
 (iy p0 p1).bind fun a=>
 some (⟨a,(⟨0,0,false⟩:ai),true⟩:aa)
theorem tC (n:Own c0 G F) (d:Int) (e:Int){r:aa}(H:iw d e=some r): KP 63 #[I d,I e] c0 fun c v=>∃i l,Own c G (es true av i 48 l r.L::F)/\v= .agg #[i,I r.At.Row,I r.At.Col,B r.At.Pending,B r.Auto]/\OA av c i l r.L:=by
 unfold iw at H;refine en func63 rfl rfl<|sr<|me (al 31 [Y,I 0,I 0,B false,B false] n) ?_;rintro v4 z A ⟨y,rfl,o⟩;refine wln<|KD d<|Ku e<|bn H fun x p H=>cl (tD o d e p) ?_;rintro v6 s t ⟨_,q,j,rfl,h⟩;obtain ⟨a,a16,b,rfl⟩:=(h).form;refine va (.agg #[.slice a a16 b,I 0,I 0,B false,B true])<|md (sA 31 [.slice a a16 b,I 0,I 0,B false,B true] 1 j ⟨(h).one,rfl,rfl,rfl,rfl,trivial⟩) ?_;rintro g u f;refine KG ?_;cases H;have k:=f.sD 2 [0];exact km (c:=g) (vs:=[.slice a a16 b,I 0,I 0,B false,B true]) rfl (by kernel_rfl) (by kernel_rfl) (by kernel_rfl) (f.on 1 rfl _ rfl).1 ⟨_,g,rfl,rfl,pt,(.slice a a16 b),q,k,rfl,h.m⟩
def iK (p0:Int):Option Int:=
 some (aK 1 (aE p0 1024))
theorem ol (b:Own c0 G F) (a:Int){r:Int}(H:iK a=some r): KP 183 #[I a] c0 fun c v=>Own c G F/\v=I r:=by
 unfold iK at H;refine en func183 rfl rfl<|KD 0<|wln<|KD a<|Ku (aE a 1024)<|vv (I (aK 1 (aE a 1024)))<|KG ?_;cases H;exact KC c0 ⟨b,rfl⟩
def mw (p0:Int) (p1:Int):Option Int:=
 some (aK 0 (aE p0 (w64 (p1-1))))
theorem tS (d:Own c0 G F) (b:Int) (a:Int){r:Int}(H:mw b a=some r): KP 184 #[I b,I a] c0 fun c v=>Own c G F/\v=I r:=by
 unfold mw at H;refine en func184 rfl rfl<|KD 0<|wln<|KD b<|Ku a<|Kx (a-1)<|Ku (aE b (w64 (a-1)))<|vv (I (aK 0 (aE b (w64 (a-1)))))<|KG ?_;cases H;exact KC c0 ⟨d,rfl⟩
def gR (p0:ai) (p1:Int) (p2:Int):Option ai:=
 (iK p1).bind fun a=>
 (iK p2).bind fun e=>
 (mw p0.Row e).bind fun c=>
 (mw p0.Col a).bind fun d=>
 (bL p0.Pending (some (p0.Col==(w64 (a-1))))).bind fun b=>
 some (⟨c,d,b⟩:ai)
theorem fa (O0:Own c0 G F) (a:ai) (n:Int) (o:Int){r:ai}(H:gR a n o=some r): KP 117 #[.agg #[I a.Row,I a.Col,B a.Pending],I n,I o] c0 fun c v=>Own c G F/\v= .agg #[I r.Row,I r.Col,B r.Pending]:=by
 unfold gR at H;refine en func117 rfl rfl<|sr<|me (bx 29 [I a.Row,I a.Col,B a.Pending] O0) ?_;rintro v5 c4 l4 ⟨k,rfl,O2,m⟩;refine me (al 29 [I 0,I 0,B false] O2) ?_;rintro v9 c8 l8 ⟨R,rfl,O7⟩;refine wln<|KD n<|bn H fun b Z H=>cl (ol O7 n Z) ?_;rintro v16 l0 o0 ⟨z,rfl⟩;refine Ku o<|bn H fun j a0 H=>cl (ol z o a0) ?_;rintro v23 S q0 ⟨A,rfl⟩;refine Ku b<|Ku j<|KA<|bn H fun d b0 H=>bn H fun e d0 H=>bn H fun i x H=>W.join (Jn S fun c l=>Own c G ((Eb R 29 [I d,I e,B i])::F)/\l= [(6,Q R)]) ?_ ?_
 ·clear H;refine rD [] (Kp G0 []) A ?_;intro T s0 D;have y0:Kp G0 [] T:=Kp.nil0;refine ta 0 (Q k)<|tx 1 (fun h g=>l1 u_3 ((mm m) 0 _ rfl))<|ta 2 (I j)<|ta 4 (Qo k (0+1))<|tx 5 (fun h g=>l1 u_3 ((mm m) 1 _ rfl))<|ta 6 (I b)<|ta 8 (Qo k (0+2))<|tx 9 (fun h g=>l1 u_4 ((mm m) 2 _ rfl))<|o1 3 (gc 3 (tS D a.Row j b0) ?_);rintro v35 U t0 ⟨E,rfl⟩;have e0:Kp G0 [] U:=Kp.nil0;refine ⟨.inr e0,o1 7 (gc 7 (tS E a.Col b d0) ?_)⟩;rintro v42 X u0 ⟨p,rfl⟩;have f0:Kp G0 [] X:=Kp.nil0;refine ⟨.inr f0,?_⟩;rcases bo a.Pending with f|f
  ·have y:=anT f x;refine AC.takeb 10 f rfl (by kernel_rfl) (by kernel_rfl) (fun h g=>(by kernel_rfl)) (ta 11 (Qo k (0+1))<|tx 12 (fun h g=>l1 u_3 ((mm m) 1 _ rfl))<|ta 13 (I b)<|ta 14 (I (w64 (b-1)))<|ta 15 (B (a.Col==(w64 (b-1)))) ?_);cases y;refine ta 16 (B (a.Col==(w64 (b-1))))<|ta 17 (.agg #[I d,I e,B (a.Col==(w64 (b-1)))])<|o1 18 (gD 18 (sA 29 [I d,I e,B (a.Col==(w64 (b-1)))] 0 p ⟨rfl,rfl,rfl,trivial⟩) ?_);rintro s v0 M;have g0:Kp G0 [] s:=Kp.nil0;exact ⟨.inr g0,dn (nrm<|jn s ⟨M,rfl⟩)⟩
  obtain rfl:=anF f x;refine AC.takeb 10 f rfl (by kernel_rfl) (by kernel_rfl) (fun h g=>(by kernel_rfl)) (tp 11<|tp 12<|tp 13<|tp 14<|tp 15<|ta 16 (B false)<|ta 17 (.agg #[I d,I e,B false])<|o1 18 (gD 18 (sA 29 [I d,I e,B false] 0 p ⟨rfl,rfl,rfl,trivial⟩) ?_));rintro t w0 N;have h0:Kp G0 [] t:=Kp.nil0;exact ⟨.inr h0,dn (nrm<|jn t ⟨N,rfl⟩)⟩
 rintro e_ w_ ⟨u,m0,_,rfl,x0,rfl,q,rfl⟩;refine nrm<|W.ret ?_;cases H;have P:=q.sD 1 [];exact km (c:=u) (vs:=[I d,I e,B i]) rfl (by kernel_rfl) (by kernel_rfl) (by kernel_rfl) (q.on 0 rfl _ rfl).1 ⟨_,u,rfl,rfl,pt,P,rfl⟩
def ik (sg:Sto) (p0:Option Nat):Option (Sto×Bool):=
 (orE p0.isNone ((p0).bind fun i=>
 (sg.place_Pen[i]?).bind fun d=>
 some d.G.isNone)).bind fun h=>
 if h then
 some (sg,false)
 else
 (p0).bind fun c=>
 (sg.place_Pen[c]?).bind fun a=>
 (ci sg a.G).bind fun e=>
 (bQ sg a.G).bind fun f=>
 (gR a.At e f).bind fun g=>
 (sg.set_place_Pen c (⟨a.G,g,a.Auto⟩:bv)).bind fun b=>
 some (b,true)
theorem pD (S:Own c0 G F) (h:Rel c0 sg G) (t:Option Nat){r:Sto×Bool}(T:Pt 2 c0 v1 t) (H:ik sg t=some r): KP 176 #[v1] c0 fun c v=>∃G_:Gm,Own c G_ F/\Rel c r.1 G_/\v=B r.2:=by
 unfold ik at H;refine en func176 rfl rfl<|Ky false<|KA<|W.seq<|bn H fun o0 h3 H=>W.join (Jn c0 fun c l=>Own c G F/\l= [(0,v1),(11,B o0)]) ?_ ?_
 ·clear H;refine Kz v1<|vr (B t.isNone) (by rcases (T).cs with ⟨e,f⟩|⟨b_,e,f⟩ <;> (subst e; rw [f]; kernel_rfl)) ?_;rcases bo t.isNone with k|k
  ·obtain rfl:=orT k h3;exact vb k<|pz<|pz<|ps<|Kq true<|KB c0 ⟨S,rfl⟩
  have i:=orF k h3;refine vb k<|wa v1<|wn<|bn i fun n1 h8 i=>?_;obtain ⟨b6,rfl,h7⟩:=(T).get h8;refine va (Q b6)<|wa (Q b6)<|wn<|bn i fun q h9 i=>?_;obtain ⟨v10,s0,q0⟩:=Rel.open_place_Pen h h9 h7;refine vx (le1 0 fm (S.gon s0 0 rfl))<|wn<|vr (B q.G.isNone) (by rcases (q0).cs with ⟨e,f⟩|⟨b_,e,f⟩ <;> (subst e; rw [f]; kernel_rfl)) ?_;cases i;exact Kq q.G.isNone<|KB c0 ⟨S,rfl⟩
 rintro e_ w_ ⟨h0,k1,_,rfl,o,rfl,u,rfl⟩;refine nrm<|cn H (fun t0 H=>?_) (fun t0 H=>?_)
 ·refine Ky false<|KG<|thr ?_;cases H;exact KC h0 ⟨G,u,h.m,rfl⟩
 refine KI<|W.seq<|rD [18] (Kp G []) u ?_;intro i0 p x;have s:=(Kp.nil x);refine ta 0 v1<|ta 1 v1<|bn H fun i1 u0 H=>?_;obtain ⟨b,rfl,D⟩:=((T.mono (o.trans p))).get u0;refine ta 2 (Q b)<|ta 3 (Qo b 1)<|bn H fun d v0 H=>?_;obtain ⟨v27,g,j⟩:=Rel.open_place_Pen (h.mono (o.trans p)) v0 D;refine tkx 4 s (fun c' E n=>leN 29 1 [I d.At.Row,I d.At.Col,B d.At.Pending] (n.gon g 0 rfl)) (ta 5 (Q b)<|ta 6 (Q b)<|ta 7 (Q b)<|tkx 8 s (fun c' E n=>le1 0 fm (n.gon g 0 rfl)) (ta 10 (Q b)<|ta 11 (Q b)<|ta 12 (Q b)<|tkx 13 s (fun c' E n=>le1 0 fm (n.gon g 0 rfl)) (bn H fun U x0 H=>o1 9 (gc 9 (cK x h.m d.G j x0) ?_))));rintro v36 j0 M ⟨y,rfl⟩;have b1:=(Kp.nil y);refine ⟨.inr b1,bn H fun X y0 H=>o1 14 (gc 14 (bK y h.m d.G j.m y0) ?_)⟩;rintro v44 k0 N ⟨z,rfl⟩;have c1:=(Kp.nil z);refine ⟨.inr c1,bn H fun a z0 H=>o1 15 (gc 15 (fa z d.At U X z0) ?_)⟩;rintro v52 l0 P ⟨A,rfl⟩;have d1:=(Kp.nil A);refine ⟨.inr d1,ta 16 (Q b) (ta 17 (Qo b 1)<|o1 18 (gD 18 (gB 29 1 [I a.Row,I a.Col,B a.Pending] [v27,I a.Row,I a.Col,B a.Pending,B d.Auto] 0 A g ⟨rfl,rfl,rfl,trivial⟩) ?_))⟩;rintro m0 R b0;refine bn H fun Z a1 H=>?_;obtain ⟨a0,d0,e0,m1,j1⟩:=Rel.put_place_Pen b0 (h.mono (o.trans (p.trans (M.trans (N.trans (P.trans R)))))) (E':=[(Eb b 126 [v27,I a.Row,I a.Col,B a.Pending,B d.Auto])]) a1 ⟨b,v27,(tm D),rfl,(j.mono (M.trans (N.trans (P.trans R))))⟩;refine ⟨.inl rfl,dn (nrm<|Ky true<|KG ?_)⟩;cases H;exact KC m0 ⟨a0,d0,e0,rfl⟩
def dJ (p0:ai):Option ai:=
 some (⟨p0.Row,0,false⟩:ai)
theorem kO (f:Own c0 G F) (a:ai){r:ai}(H:dJ a=some r): KP 180 #[.agg #[I a.Row,I a.Col,B a.Pending]] c0 fun c v=>Own c G F/\v= .agg #[I r.Row,I r.Col,B r.Pending]:=by
 unfold dJ at H;refine en func180 rfl rfl<|sr<|me (bx 29 [I a.Row,I a.Col,B a.Pending] f) ?_;rintro v5 m o ⟨i,rfl,g,j⟩;refine me (al 29 [I 0,I 0,B false] g) ?_;rintro v9 n p ⟨l,rfl,h⟩;refine wln<|KE (Q i)<|vx (l1 u_3 ((mm j) 0 _ rfl))<|va (.agg #[I a.Row,I 0,B false])<|md (sA 29 [I a.Row,I 0,B false] 0 h ⟨rfl,rfl,rfl,trivial⟩) ?_;rintro d k b;refine KG ?_;cases H;have e:=b.sD 1 [];exact km (c:=d) (vs:=[I a.Row,I 0,B false]) rfl (by kernel_rfl) (by kernel_rfl) (by kernel_rfl) (b.on 0 rfl _ rfl).1 ⟨_,d,rfl,rfl,pt,e,rfl⟩
def og (p0:ai) (p1:Int):Option (ai×Bool):=
 (iK p1).bind fun a=>
 if decide (p0.Row>=(w64 (a-1))) then
 some ((⟨p0.Row,p0.Col,false⟩:ai),true)
 else
 some ((⟨(w64 (p0.Row+1)),p0.Col,false⟩:ai),false)
theorem pQ (x:Own c0 G F) (a:ai) (f:Int){r:ai×Bool}(H:og a f=some r): KP 236 #[.agg #[I a.Row,I a.Col,B a.Pending],I f] c0 fun c v=>Own c G F/\v= .tuple #[.agg #[I r.1.Row,I r.1.Col,B r.1.Pending],B r.2]:=by
 unfold og at H;refine en func236 rfl rfl<|sr<|me (al 29 [I a.Row,I a.Col,B a.Pending] x) ?_;rintro v4 c3 l3 ⟨d,rfl,y⟩;refine me (al 29 [I 0,I 0,B false] y) ?_;rintro v8 c7 l7 ⟨Z,rfl,z⟩;refine Kq false<|KN<|Kw d 2<|md (sC 4 2 (B false) [I a.Row,I a.Col,B false] 1 z ⟨rfl,trivial⟩) ?_;rintro E P A;refine KA<|W.seq<|rD [] (Kp G0 [(Eb d 29 [I a.Row,I a.Col,B false])]) A ?_;intro o R g;have t:=(Kp.cons (g.on 1 rfl) Kp.nil0);refine ta 0 (Q d)<|tkx 1 t (fun c' N D=>le1 0 u_3 (D.on 0 rfl)) (ta 2 (I f)<|bn H fun e q H=>o1 3 (gc 3 (ol g f q) ?_));rintro v20 p S ⟨b,rfl⟩;have u:=(Kp.cons (b.on 1 rfl) Kp.nil0);refine ⟨.inr u,ta 4 (I (w64 (e-1))) (ta 5 (B (decide (a.Row>=(w64 (e-1)))))<|dn (nrm<|cn H (fun s H=>?_) (fun s H=>?_)))⟩
 ·refine sr<|vx (leN 29 0 [I a.Row,I a.Col,B false] (b.on 1 rfl))<|md (sA 29 [I a.Row,I a.Col,B false] 0 b ⟨rfl,rfl,rfl,trivial⟩) ?_;rintro k T h;refine Kq true<|KG<|thr ?_;cases H;have m:=h.sD 2 [];exact qR (c:=k) (vs:=[I a.Row,I a.Col,B false]) (v:=B true) rfl (by kernel_rfl) (by kernel_rfl) (by kernel_rfl) (by kernel_rfl) (h.on 0 rfl _ rfl).1 ⟨_,k,rfl,rfl,pt,m,rfl⟩
 refine KI<|KE (Q d)<|vx (le1 0 u_3 (b.on 1 rfl))<|Kx (a.Row+1)<|va (Q d)<|md (sC 3 0 (I (w64 (a.Row+1))) [I (w64 (a.Row+1)),I a.Col,B false] 1 b ⟨rfl,trivial⟩) ?_;rintro M U i;refine KN<|vx (leN 29 0 [I (w64 (a.Row+1)),I a.Col,B false] (i.on 1 rfl))<|md (sA 29 [I (w64 (a.Row+1)),I a.Col,B false] 0 i ⟨rfl,rfl,rfl,trivial⟩) ?_;rintro l X j;refine Kq false<|KG ?_;cases H;have n:=j.sD 2 [];exact qR (c:=l) (vs:=[I (w64 (a.Row+1)),I a.Col,B false]) (v:=B false) rfl (by kernel_rfl) (by kernel_rfl) (by kernel_rfl) (by kernel_rfl) (j.on 0 rfl _ rfl).1 ⟨_,l,rfl,rfl,pt,n,rfl⟩
def fX (sg:Sto) (p0:Option Nat):Option Sto:=
 (ik sg p0).bind fun b=>
 if (!b.2)=true then
 some b.1
 else
 (p0).bind fun j=>
 (b.1.place_Pen[j]?).bind fun f=>
 (bQ b.1 f.G).bind fun g=>
 (og f.At g).bind fun e=>
 (p0).bind fun d=>
 (b.1.place_Pen[d]?).bind fun c=>
 (b.1.set_place_Pen d (⟨c.G,e.1,c.Auto⟩:bv)).bind fun a=>
 if e.2 then
 (bQ a c.G).bind fun h=>
 (lv a c.G 0 h 1).bind fun i=>
 some i
 else
 some a
theorem oP (O0:Own c0 G F) (R0:Rel c0 sg G) (p0:Option Nat){r:Sto}(h2:Pt 2 c0 v1 p0) (H:fX sg p0=some r): KP 181 #[v1] c0 fun c v=>∃G_:Gm,Own c G_ F/\Rel c r G_/\v= .tuple #[]:=by
 unfold fX at H;refine en func181 rfl rfl<|W.seq<|KE v1<|bn H fun y2 h3 H=>cl (pD O0 R0 p0 h2 h3) ?_;rintro v9 c8 l8 ⟨d,O5,n,rfl⟩;refine Kq (!y2.2)<|KH H (fun d2 H=>?_) (fun d2 H=>?_)
 ·refine W.ret<|thr ?_;cases H;exact r0<|qq c8 ⟨d,O5,n,rfl⟩
 refine KI<|W.seq<|bn H fun n3 e2 H=>bn H fun e f2 H=>bn H fun j h0 H=>bn H fun a x H=>W.join (Jn c8 fun c l=>∃t,Own c d ((Eb t 29 [I a.1.Row,I a.1.Col,B a.1.Pending])::F)/\l= [(0,v1),(2,Q t),(3,B a.2)]) ?_ ?_
 ·clear H;refine rD [] (Kp d []) O5 ?_;intro p1 l16 q;have m0:=(Kp.nil q);refine ta 0 v1 ?_;obtain ⟨g,rfl,g2⟩:=((h2.mono (l8.trans l16))).get e2;refine ta 1 (Q g)<|ta 2 (Qo g 1) ?_;obtain ⟨v21,j0,i0⟩:=Rel.open_place_Pen (n.mono l16) f2 g2;refine tkx 3 m0 (fun c' z i=>leN 29 1 [I e.At.Row,I e.At.Col,B e.At.Pending] (i.gon j0 0 rfl)) (ta 4 (Q g)<|ta 5 (Q g)<|ta 6 (Q g)<|tkx 7 m0 (fun c' z i=>le1 0 fm (i.gon j0 0 rfl)) (mn2 8 13 ?_ ?_))
  ·refine gc 8 (bK q n.m e.G i0 h0) ?_;rintro v29 q1 o3 ⟨s,rfl⟩;have m2:=(Kp.nil s);refine ⟨.inr m2,mn2 9 13 ?_ ?_⟩
   ·refine gc 9 (pQ s e.At j x) ?_;rintro v36 s1 p3 ⟨M,rfl⟩;have n2:=(Kp.nil M);refine ⟨.inr n2,ta 10 (.tuple #[.agg #[I a.1.Row,I a.1.Col,B a.1.Pending],B a.2]) (ta 11 (.agg #[I a.1.Row,I a.1.Col,B a.1.Pending])<|ta 12 (B a.2)<|o1 13 (gm 13 (al 29 [I 0,I 0,B false] M) ?_))⟩;rintro v41 t1 q3 ⟨k1,rfl,N⟩;have o2:=(Kp.nil N);refine ⟨.inr o2,o1 14 (gD 14 (sA 29 [I a.1.Row,I a.1.Col,B a.1.Pending] 0 N ⟨rfl,rfl,rfl,trivial⟩) ?_)⟩;rintro e0 s3 P;have p2:=(Kp.nil P);exact ⟨.inr p2,ta 15 (B a.2) (dn (nrm<|jn e0 ⟨k1,P,rfl⟩))⟩
   refine gm 13 (al 29 [I 0,I 0,B false] s) ?_;rintro v49 u1 t3 ⟨m1,rfl,R⟩;have q2:=(Kp.nil R);refine ⟨.inr q2,o1 9 (gc 9 (pQ R e.At j x) ?_)⟩;rintro v56 w1 u3 ⟨S,rfl⟩;have s2:=(Kp.nil S);refine ⟨.inr s2,ta 10 (.tuple #[.agg #[I a.1.Row,I a.1.Col,B a.1.Pending],B a.2]) (ta 11 (.agg #[I a.1.Row,I a.1.Col,B a.1.Pending])<|ta 12 (B a.2)<|o1 14 (gD 14 (sA 29 [I a.1.Row,I a.1.Col,B a.1.Pending] 0 S ⟨rfl,rfl,rfl,trivial⟩) ?_))⟩;rintro f0 v3 T;have t2:=(Kp.nil T);exact ⟨.inr t2,ta 15 (B a.2) (dn (nrm<|jn f0 ⟨m1,T,rfl⟩))⟩
  refine gm 13 (al 29 [I 0,I 0,B false] q) ?_;rintro a4 x1 w3 ⟨n1,rfl,U⟩;have u2:=(Kp.nil U);refine ⟨.inr u2,o1 8 (gc 8 (bK U n.m e.G i0.m h0) ?_)⟩;rintro b4 y1 x3 ⟨X,rfl⟩;have v2:=(Kp.nil X);refine ⟨.inr v2,o1 9 (gc 9 (pQ X e.At j x) ?_)⟩;rintro c4 z1 y3 ⟨Z,rfl⟩;have w2:=(Kp.nil Z);refine ⟨.inr w2,ta 10 (.tuple #[.agg #[I a.1.Row,I a.1.Col,B a.1.Pending],B a.2]) (ta 11 (.agg #[I a.1.Row,I a.1.Col,B a.1.Pending])<|ta 12 (B a.2)<|o1 14 (gD 14 (sA 29 [I a.1.Row,I a.1.Col,B a.1.Pending] 0 Z ⟨rfl,rfl,rfl,trivial⟩) ?_))⟩;rintro g0 z3 a0;have x2:=(Kp.nil a0);exact ⟨.inr x2,ta 15 (B a.2) (dn (nrm<|jn g0 ⟨n1,a0,rfl⟩))⟩
 rintro e_ w_ ⟨l3,m3,_,rfl,A,rfl,t,b0,rfl⟩;refine nrm<|KE v1<|vx (leN 29 0 [I a.1.Row,I a.1.Col,B a.1.Pending] (b0.on 0 rfl))<|bn H fun d3 i2 H=>?_;obtain ⟨b,rfl,k0⟩:=((h2.mono (l8.trans A))).get i2;refine va (Q b)<|Kw b 1<|bn H fun f j2 H=>?_;obtain ⟨E,k2,y⟩:=Rel.open_place_Pen (n.mono A) j2 k0;refine md (gB 29 1 [I a.1.Row,I a.1.Col,B a.1.Pending] [E,I a.1.Row,I a.1.Col,B a.1.Pending,B f.Auto] 0 b0 k2 ⟨rfl,rfl,rfl,trivial⟩) ?_;rintro c2 l0 j1;refine bn H fun h1 z0 H=>?_;obtain ⟨k,d0,h,u,b3⟩:=Rel.put_place_Pen j1 (n.mono (A.trans l0)) (E':=[(Eb b 126 [E,I a.1.Row,I a.1.Col,B a.1.Pending,B f.Auto])]) z0 ⟨b,E,(tm k0),rfl,(y.mono l0)⟩;refine wln<|Ky a.2<|KH H (fun a1 H=>?_) (fun a1 H=>?_)
 ·refine rD [9] (Kp k []) d0 ?_;intro w0 e3 o;have D:=(Kp.nil o);refine ta 0 (Q b)<|ta 1 (Q b)<|ta 2 (Q b)<|tkx 3 D (fun c' z i=>le1 0 fm (i.gon u 0 rfl)) (ta 4 (Q b)<|ta 5 (Q b)<|ta 6 (Q b)<|tkx 7 D (fun c' z i=>le1 0 fm (i.gon u 0 rfl)) (bn H fun g1 b1 H=>o1 8 (gc 8 (bK o h.m f.G y.m b1) ?_)));rintro i3 x0 f3 ⟨p,rfl⟩;have f1:=(Kp.nil p);refine ⟨.inr f1,bn H fun k3 c1 H=>o1 9 (gc 9 (sy p h.m f.G 0 g1 1 y.m c1) ?_)⟩;rintro j3 y0 g3 ⟨o0,q0,u0,rfl⟩;refine ⟨.inl rfl,dn ?_⟩;cases H;have s0:=q0.sD 1 [];exact n0<|qq y0 ⟨o0,s0,u0,rfl⟩
 refine W.skip ?_;cases H;have t0:=d0.sD 1 [];exact n0<|qq c2 ⟨k,t0,h,rfl⟩
def gy (sg:Sto) (p0:Option Nat):Option Sto:=
 (p0).bind fun c=>
 (sg.place_Pen[c]?).bind fun e=>
 (bF sg e.G e.At.Row).bind fun f=>
 (fP sg f true).bind fun d=>
 (d.place_Pen[c]?).bind fun a=>
 (dJ a.At).bind fun g=>
 (d.set_place_Pen c (⟨a.G,g,a.Auto⟩:bv)).bind fun b=>
 (fX b p0).bind fun h=>
 some h
theorem qt (O0:Own c0 G F) (n:Rel c0 sg G) (q:Option Nat){r:Sto}(U:Pt 2 c0 v1 q) (H:gy sg q=some r): KP 233 #[v1] c0 fun c v=>∃G_:Gm,Own c G_ F/\Rel c r G_/\v= .tuple #[]:=by
 unfold gy at H;refine en func233 rfl rfl<|W.seq<|rD [10] (Kp G []) O0 ?_;intro c3 l3 y;have p5:=(Kp.nil y);refine ta 0 v1<|bn H fun a1 h8 H=>?_;obtain ⟨b,rfl,o⟩:=((U.mono l3)).get h8;refine ta 1 (Q b)<|ta 2 (Q b)<|bn H fun l h9 H=>?_;obtain ⟨v10,h,R⟩:=Rel.open_place_Pen (n.mono l3) h9 o;refine tkx 3 p5 (fun c' f0 p=>le1 0 fm (p.gon h 0 rfl)) (ta 4 (Q b)<|ta 5 (Q b)<|ta 6 (Qo b 1)<|ta 7 (Qo b 1)<|tkx 8 p5 (fun c' f0 p=>le1 1 u_3 (p.gon h 0 rfl)) (bn H fun s S H=>o1 9 (gc 9 (dk y n.m l.G l.At.Row R S) ?_)));rintro v14 N b1 ⟨_,e,rfl,T⟩;have h0:=(Kp.nil e);refine ⟨.inr h0,bn H fun q0 X H=>o1 10 (gc 10 (nq e n.m s true T X) ?_)⟩;rintro v29 w0 c1 ⟨t0,f,g,rfl⟩;refine ⟨.inl rfl,dn (nrm<|sr<|vv (Q b)<|va (Q b)<|Kw b 1<|bn H fun d Z H=>?_)⟩;obtain ⟨v31,i,a0⟩:=Rel.open_place_Pen g Z (tm o);refine vx (leN 29 1 [I d.At.Row,I d.At.Col,B d.At.Pending] (f.gon i 0 rfl))<|bn H fun a b0 H=>cl (kO f d.At b0) ?_;rintro v40 x0 j ⟨x,rfl⟩;refine va (Q b)<|Kw b 1<|md (gB 29 1 [I a.Row,I a.Col,B a.Pending] [v31,I a.Row,I a.Col,B a.Pending,B d.Auto] 0 x i ⟨rfl,rfl,rfl,trivial⟩) ?_;rintro y0 k z;refine bn H fun t d0 H=>?_;obtain ⟨u0,A,E,z0,v0⟩:=Rel.put_place_Pen z (g.mono (j.trans k)) (E':=[(Eb b 126 [v31,I a.Row,I a.Col,B a.Pending,B d.Auto])]) d0 ⟨b,v31,(tm o),rfl,(a0.mono (j.trans k))⟩;refine wln<|Kz (Q b)<|bn H fun s0 e0 H=>cl (oP A E q U.m e0) ?_;rintro v55 P d1 ⟨u,D,M,rfl⟩;refine WL.nil ?_;cases H;exact n0<|qq P ⟨u,D,M,rfl⟩
def ke (sg:Sto) (p0:Option Nat) (p1:Int):Option Sto:=
 ((p0).bind fun k=>
 (sg.place_Pen[k]?).bind fun l=>
 if l.At.Pending then
 (gy sg p0).bind fun m=>
 some m
 else
 some sg).bind fun b=>
 (p0).bind fun d=>
 (b.place_Pen[d]?).bind fun a=>
 (ci b a.G).bind fun e=>
 (orE (p1==1) (some (decide (a.At.Col<(w64 (e-1)))))).bind fun f=>
 if f then
 some b
 else
 if a.Auto then
 (bF b a.G a.At.Row).bind fun g=>
 (eY 1).bind fun h=>
 (ez b g (w64 (e-1)) h).bind fun i=>
 (gy i.1 p0).bind fun j=>
 some j
 else
 (b.set_place_Pen d (⟨a.G,(⟨a.At.Row,(w64 (a.At.Col-1)),a.At.Pending⟩:ai),a.Auto⟩:bv)).bind fun c=>
 some c
theorem vK (T:Own c0 G F) (X:Rel c0 sg G) (hG:Gl [2,4] c0) (u:Option Nat) (n:Int){r:Sto}(t:Pt 2 c0 v1 u) (H:ke sg u n=some r): KP 177 #[v1,I n] c0 fun c v=>∃G_:Gm,Own c G_ F/\Rel c r G_/\v= .tuple #[]:=by
 unfold ke at H;refine en func177 rfl rfl<|bn H fun g2 g d=>W.seqJ (Jn c0 fun c l=>∃G_,Own c G_ F/\l= [(0,v1),(1,I n)]/\Rel c g2 G_) ?_ ?_
 ·refine KE v1<|bn g fun b3 h7 g=>?_;obtain ⟨s,rfl,h6⟩:=(t).get h7;refine va (Q s)<|Kw s 1<|Kw s 3<|bn g fun i3 h8 g=>?_;obtain ⟨v9,e1,z2⟩:=Rel.open_place_Pen X h8 h6;refine vx (le1 3 u_4 (T.gon e1 0 rfl))<|KH g (fun f1 g=>?_) (fun f1 g=>?_)
  ·refine Kz (Q s)<|bn g fun n3 g1 g=>cl (qt T X u t g1) ?_;rintro v19 w0 c3 ⟨h0,l0,t0,rfl⟩;refine wln ?_;cases g;exact jn w0 ⟨h0,l0,rfl,t0⟩
  refine KI ?_;cases g;exact jn c0 ⟨G,T,rfl,X⟩
 rintro e_ w_ ⟨v2,x2,_,rfl,b2,rfl,f,x,rfl,i⟩;refine KE v1<|bn d fun p2 h1 d=>?_;obtain ⟨a,rfl,E⟩:=((t.mono b2)).get h1;refine vv (Q a)<|bn d fun b i1 d=>?_;obtain ⟨v30,h,q⟩:=Rel.open_place_Pen i i1 E;refine vx (le1 0 fm (x.gon h 0 rfl))<|bn d fun e j1 d=>cl (cK x i b.G q j1) ?_;rintro v39 p N ⟨o,rfl⟩;refine Kv (e-1)<|wln<|W.block<|W.seq<|bn d fun a0 M d=>W.join (Jn p fun c l=>Own c f F/\l= [(0,Q a),(4,I (w64 (e-1))),(27,B a0)]) ?_ ?_
 ·clear d;refine KF n<|Kq (n==1) ?_;rcases bo (n==1) with k|k
  ·obtain rfl:=orT k M;exact vb k<|pz<|pz<|pz<|ps<|vv (B true)<|KB p ⟨o,rfl⟩
  have k0:=orF k M;refine vb k<|wa (Q a)<|wa (Q a)<|wa (Qo a 1)<|wa (Qo a 2)<|wn<|vx (le1 2 u_3 (o.gon h 0 rfl))<|wa (I (w64 (e-1)))<|Ks (b.At.Col<(w64 (e-1))) ?_;cases k0;exact vv (B (decide (b.At.Col<(w64 (e-1)))))<|KB p ⟨o,rfl⟩
 rintro e_ w_ ⟨x0,y2,_,rfl,P,rfl,j,rfl⟩;refine nrm<|cn d (fun k1 d=>?_) (fun k1 d=>?_)
 ·refine W.ret<|bkr ?_;cases d;exact r0<|qq x0 ⟨f,j,i.m,rfl⟩
 refine sr<|vv (Q a)<|Kw a 4<|vx (le1 4 u_4 (j.gon h 0 rfl))<|Kq b.Auto<|KH d (fun m1 d=>?_) (fun m1 d=>?_)
 ·refine W.seq<|rD [12] (Kp f []) j ?_;intro y0 d3 y;have S:=(Kp.nil y);refine ta 0 (Q a)<|ta 1 (Q a)<|ta 2 (Q a)<|tkx 3 S (fun c' z1 hk=>le1 0 fm (hk.gon h 0 rfl)) (ta 4 (Q a)<|ta 5 (Q a)<|ta 6 (Qo a 1)<|ta 7 (Qo a 1)<|tkx 8 S (fun c' z1 hk=>le1 1 u_3 (hk.gon h 0 rfl)) (ta 10 (I (w64 (e-1)))<|bn d fun e0 n1 d=>o1 9 (gc 9 (dk y i.m b.G b.At.Row q.m n1) ?_)));rintro v55 z0 e3 ⟨_,z,rfl,q1⟩;have d2:=(Kp.nil z);refine ⟨.inr d2,bn d fun f0 s1 d=>o1 11 (gc 11 (kX z 1 s1) ?_)⟩;rintro k3 a1 f3 ⟨_,j3,A,rfl,t1⟩;have e2:=(Kp.nil A);refine ⟨.inr e2,?_⟩;obtain ⟨b1,w1,c2,D,u1⟩:=A.frz 0 rfl t1;have f2:=(Kp.nil D);refine AC.gh w1 c2 (fun _=>f2) (bn d fun s2 x1 d=>o1 12 (gc 12 (kN D i.m (hG.m.le (by decide)) e0 (w64 (e-1)) f0 q1.m u1 x1) ?_));rintro l3 w2 g3 ⟨_,u2,m0,u0,rfl,a3⟩;refine ⟨.inl rfl,dn (nrm<|Kz (Q a)<|bn d fun t2 y1 d=>cl (qt m0 u0 u t.m y1) ?_)⟩;rintro m3 c1 h3 ⟨i0,o0,v0,rfl⟩;refine WL.nil<|bkn ?_;cases d;have q0:=o0.sD 1 [];exact n0<|qq c1 ⟨i0,q0,v0,rfl⟩
 refine W.region<|vv (Q a)<|Kw a 1<|Kw a 2<|vx (le1 2 u_3 (j.gon h 0 rfl))<|Kx (b.At.Col-1)<|va (Q a)<|Kw a 1<|Kw a 2<|md (gC 3 2 (I (w64 (b.At.Col-1))) [v30,I b.At.Row,I (w64 (b.At.Col-1)),B b.At.Pending,B b.Auto] 0 j h ⟨rfl,trivial⟩) ?_;rintro d1 R s0;refine bn d fun g0 b0 d=>?_;obtain ⟨j0,U,Z,l2,i2⟩:=Rel.put_place_Pen s0 (i.mono (N.trans (P.trans R))) (E':=[(Eb a 126 [v30,I b.At.Row,I (w64 (b.At.Col-1)),B b.At.Pending,B b.Auto])]) b0 ⟨a,v30,(tm E),rfl,(q.mono (N.trans (P.trans R)))⟩;refine WL.nil<|bkn ?_;cases d;exact n0<|qq d1 ⟨j0,U,Z,rfl⟩
def lB (p0:ai) (p1:Int) (p2:Int) (p3:Bool):Option ai:=
 (iK p2).bind fun a=>
 if (decide (p0.Col<(w64 (a-(aK 1 (aE p1 2))))))=true then
 some (⟨p0.Row,(w64 (p0.Col+(aK 1 (aE p1 2)))),false⟩:ai)
 else
 some (⟨p0.Row,(w64 (a-1)),p3⟩:ai)
theorem xA (s:Own c0 G F) (a:ai) (b:Int) (h:Int) (e:Bool){r:ai}(H:lB a b h e=some r): KP 179 #[.agg #[I a.Row,I a.Col,B a.Pending],I b,I h,B e] c0 fun c v=>Own c G F/\v= .agg #[I r.Row,I r.Col,B r.Pending]:=by
 unfold lB at H;refine en func179 rfl rfl<|sr<|me (bx 29 [I a.Row,I a.Col,B a.Pending] s) ?_;rintro v5 E N ⟨f,rfl,t,g⟩;refine me (al 29 [I 0,I 0,B false] t) ?_;rintro v9 M P ⟨D,rfl,u⟩;refine wln<|KD b<|Ku (aE b 2)<|Ku (aK 1 (aE b 2))<|Ku h<|bn H fun d p H=>cl (ol u h p) ?_;rintro v16 x y ⟨i,rfl⟩;refine Ku (aK 1 (aE b 2))<|Ku d<|KA<|sr<|Kw f (0+1)<|vx (l1 u_3 ((mm g) 1 _ rfl))<|Ku d<|Ku (aK 1 (aE b 2))<|Kx (d-(aK 1 (aE b 2)))<|Kr (a.Col<(w64 (d-(aK 1 (aE b 2)))))<|KH H (fun q H=>?_) (fun q H=>?_)
 ·refine KE (Q f)<|vx (l1 u_3 ((mm g) 0 _ rfl))<|Kw f (0+1)<|vx (l1 u_3 ((mm g) 1 _ rfl))<|Ku (aK 1 (aE b 2))<|Kx (a.Col+(aK 1 (aE b 2)))<|va (.agg #[I a.Row,I (w64 (a.Col+(aK 1 (aE b 2)))),B false])<|md (sA 29 [I a.Row,I (w64 (a.Col+(aK 1 (aE b 2)))),B false] 0 i ⟨rfl,rfl,rfl,trivial⟩) ?_;rintro l z j;refine KG<|thr ?_;cases H;have n:=j.sD 1 [];exact km (c:=l) (vs:=[I a.Row,I (w64 (a.Col+(aK 1 (aE b 2)))),B false]) rfl (by kernel_rfl) (by kernel_rfl) (by kernel_rfl) (j.on 0 rfl _ rfl).1 ⟨_,l,rfl,rfl,pt,n,rfl⟩
 refine KI<|KE (Q f)<|vx (l1 u_3 ((mm g) 0 _ rfl))<|Ku d<|Kx (d-1)<|Kq e<|va (.agg #[I a.Row,I (w64 (d-1)),B e])<|md (sA 29 [I a.Row,I (w64 (d-1)),B e] 0 i ⟨rfl,rfl,rfl,trivial⟩) ?_;rintro m A k;refine KG ?_;cases H;have o:=k.sD 1 [];exact km (c:=m) (vs:=[I a.Row,I (w64 (d-1)),B e]) rfl (by kernel_rfl) (by kernel_rfl) (by kernel_rfl) (k.on 0 rfl _ rfl).1 ⟨_,m,rfl,rfl,pt,o,rfl⟩
def iq (sg:Sto) (p0:Option Nat) (p1:Int) (p2:List Int):Option (Sto×ai):=
 (ik sg p0).bind fun d=>
 if (!d.2)=true then
 some (d.1,(⟨0,0,false⟩:ai))
 else
 ((p0).bind fun i=>
 (d.1.place_Pen[i]?).bind fun j=>
 (ci d.1 j.G).bind fun k=>
 if decide ((aK 1 (aE p1 2))>k) then
 some (1,([65533]:List Int))
 else
 some ((aK 1 (aE p1 2)),p2)).bind fun c=>
 (ke d.1 p0 c.1).bind fun f=>
 (p0).bind fun e=>
 (f.place_Pen[e]?).bind fun a=>
 (bF f a.G a.At.Row).bind fun l=>
 (mJ f l a.At.Col c.1 c.2).bind fun g=>
 (g.1.place_Pen[e]?).bind fun b=>
 (ci g.1 b.G).bind fun m=>
 (lB (⟨a.At.Row,a.At.Col,false⟩:ai) c.1 m b.Auto).bind fun n=>
 (g.1.set_place_Pen e (⟨b.G,n,b.Auto⟩:bv)).bind fun h=>
 some (h,(⟨a.At.Row,a.At.Col,false⟩:ai))
theorem oM (O0:Own c0 G F) (R0:Rel c0 sg G) (hG:Gl [2,4] c0) (p0:Option Nat) (o:Int) (p2:List Int){r:Sto×ai}(h2:Pt 2 c0 v1 p0) (h4:Sl (RI .i32) c0 v3 p2) (H:iq sg p0 o p2=some r): KP 115 #[v1,I o,v3] c0 fun c v=>∃G_:Gm,Own c G_ F/\Rel c r.1 G_/\v= .agg #[I r.2.Row,I r.2.Col,B r.2.Pending]:=by
 unfold iq at H;refine en func115 rfl rfl<|sr<|me (al 29 [I 0,I 0,B false] O0) ?_;rintro v8 c7 l7 ⟨b5,rfl,O6⟩;refine KA<|KE v1<|bn H fun u3 h9 H=>cl (pD O6 R0.m p0 h2.m h9) ?_;rintro v15 e2 u0 ⟨j0,R,P,rfl⟩;refine Kq (!u3.2)<|KH H (fun n2 H=>?_) (fun n2 H=>?_)
 ·refine KE (.agg #[I 0,I 0,B false])<|md (sA 29 [I 0,I 0,B false] 0 R ⟨rfl,rfl,rfl,trivial⟩) ?_;rintro t0 s4 k0;refine KG<|thr ?_;cases H;have u1:=k0.sD 1 [];exact km (c:=t0) (vs:=[I 0,I 0,B false]) rfl (by kernel_rfl) (by kernel_rfl) (by kernel_rfl) (k0.on 0 rfl _ rfl).1 ⟨_,t0,rfl,rfl,pt,j0,u1,P.m,rfl⟩
 refine KI<|KD o<|Ku (aE o 2)<|vv (I (aK 1 (aE o 2)))<|wln<|bn H fun f g d=>W.seqJ (Jn e2 fun c l=>∃v22,Own c j0 ((Eb b5 29 [I 0,I 0,B false])::F)/\l= [(0,v1),(1,I f.1),(2,v22),(6,Q b5)]/\Sl (RI .i32) c v22 f.2) ?_ ?_
 ·refine KD (aK 1 (aE o 2))<|va v1<|bn g fun f4 q2 g=>?_;obtain ⟨s0,rfl,o2⟩:=((h2.mono (l7.trans u0))).get q2;refine vv (Q s0)<|bn g fun j1 s2 g=>?_;obtain ⟨v27,u2,t2⟩:=Rel.open_place_Pen P s2 o2;refine vx (le1 0 fm (R.gon u2 0 rfl))<|bn g fun n1 v2 g=>cl (cK R P j1.G t2 v2) ?_;rintro v36 f2 t4 ⟨l0,rfl⟩;refine Kr ((aK 1 (aE o 2))>n1)<|KH g (fun w2 g=>?_) (fun w2 g=>?_)
  ·refine W.region<|me (sl (RI .i32) 21 [[J 65533]] ([65533]:List Int) l0 ⟨rfl,trivial⟩) ?_;rintro v42 n4 u4 ⟨w4,w1,x2⟩;refine Ku 1<|va v42<|wln ?_;cases g;obtain ⟨g2,z2,v4,x1,y2⟩:=w1.frz 0 rfl x2;have y1:=x1.sD 2 [1];exact ⟨g2,_,_,z2.symm,pt,us,v42,y1,rfl,y2⟩
  refine KI ?_;cases g;exact jn f2 ⟨v3,l0,rfl,h4.m⟩
 rintro e_ w_ ⟨o4,q4,_,rfl,i3,rfl,v22,z1,rfl,a3⟩;refine KE v1<|Ku f.1<|bn d fun l4 b3 d=>cl (vK z1 P.m (hG.m.le (by decide)) p0 f.1 h2.m b3) ?_;rintro x4 p4 j3 ⟨j,b2,Z,rfl⟩;refine KA<|rD [] (Kp j []) b2 ?_;intro i2 v0 m0;have w0:=(Kp.nil m0);refine ta 0 v1<|bn d fun g4 c3 d=>?_;obtain ⟨b,rfl,e0⟩:=((h2.mono (l7.trans (u0.trans (i3.trans (j3.trans v0)))))).get c3;refine ta 1 (Q b)<|ta 2 (Qo b 1)<|ta 3 (Qo b 1)<|bn d fun a d3 d=>?_;obtain ⟨y4,f0,e3⟩:=Rel.open_place_Pen (Z.mono v0) d3 e0;refine tkx 4 w0 (fun u k h=>le1 1 u_3 (h.gon f0 0 rfl)) (ta 5 (Q b)<|ta 6 (Q b)<|ta 7 (Qo b 1)<|ta 8 (Qo b 2)<|tkx 9 w0 (fun u k h=>le1 2 u_3 (h.gon f0 0 rfl)) (ta 10 (.agg #[I a.At.Row,I a.At.Col,B false])<|o1 11 (gm 11 (al 29 [I 0,I 0,B false] m0) ?_)));rintro z4 j2 l3 ⟨i,rfl,o0⟩;have q3:=(Kp.nil o0);refine ⟨.inr q3,o1 12 (gD 12 (sA 29 [I a.At.Row,I a.At.Col,B false] 0 o0 ⟨rfl,rfl,rfl,trivial⟩) ?_)⟩;rintro k2 m3 q0;have s3:=(Kp.nil q0);refine ⟨.inr s3,dn (nrm<|W.seq<|rD [11] (Kp j [(Eb i 29 [I a.At.Row,I a.At.Col,B false])]) q0 ?_)⟩;intro l2 n3 U;have g0:=(Kp.cons (U.on 0 rfl) (Kp.nil U));refine ta 0 (Q b)<|ta 1 (Q b)<|ta 2 (Q b)<|tkx 3 g0 (fun u k h=>le1 0 fm (h.gon f0 0 rfl)) (ta 4 (Q i)<|tkx 5 g0 (fun u k h=>le1 0 u_3 (h.on 0 rfl)) (ta 7 (Qo i 1)<|tkx 8 g0 (fun u k h=>le1 1 u_3 (h.on 0 rfl)) (ta 9 (I f.1)<|ta 10 v22<|bn d fun q1 f3 d=>o1 6 (gc 6 (dk U Z.m a.G a.At.Row e3.m f3) ?_))));rintro a5 m2 o3 ⟨_,X,rfl,g3⟩;have t3:=(Kp.cons (X.on 0 rfl) (Kp.nil X));refine ⟨.inr t3,bn d fun m4 h3 d=>o1 11 (gc 11 (xx X Z.m (hG.m.le (by decide)) q1 a.At.Col f.1 f.2 g3 a3.m h3) ?_)⟩;rintro c5 a4 i1 ⟨_,N,c2,a0,rfl,r4⟩;refine ⟨.inl rfl,dn (nrm<|W.seq<|rD [15] (Kp N [(Eb i 29 [I a.At.Row,I a.At.Col,B false])]) c2 ?_)⟩;intro b1 y p;have E:=(Kp.cons (p.on 0 rfl) (Kp.nil p));refine ta 0 (Q b)<|tkx 1 E (fun u k h=>leN 29 0 [I a.At.Row,I a.At.Col,B false] (h.on 0 rfl)) (ta 2 (I f.1)<|ta 3 (Q b)<|ta 4 (Q b)<|ta 5 (Q b)<|bn d fun n e1 d=>?_);obtain ⟨M,x,d0⟩:=Rel.open_place_Pen (a0.mono y) e1 (tm e0);refine tkx 6 E (fun u k h=>le1 0 fm (h.gon x 0 rfl)) (ta 8 (Q b)<|ta 9 (Q b)<|ta 10 (Qo b 4)<|tkx 11 E (fun u k h=>le1 4 u_4 (h.gon x 0 rfl)) (bn d fun s1 f1 d=>o1 7 (gc 7 (cK p a0.m n.G d0 f1) ?_)));rintro j4 c1 z ⟨q,rfl⟩;have k1:=(Kp.cons (q.on 0 rfl) (Kp.nil q));refine ⟨.inr k1,bn d fun e g1 d=>o1 12 (gc 12 (xA q (⟨a.At.Row,a.At.Col,false⟩:ai) f.1 s1 n.Auto g1) ?_)⟩;rintro k4 d1 A ⟨s,rfl⟩;have m1:=(Kp.cons (s.on 0 rfl) (Kp.nil s));refine ⟨.inr m1,ta 13 (Q b) (ta 14 (Qo b 1)<|o1 15 (gD 15 (gB 29 1 [I e.Row,I e.Col,B e.Pending] [M,I e.Row,I e.Col,B e.Pending,B n.Auto] 0 s x ⟨rfl,rfl,rfl,trivial⟩) ?_))⟩;rintro b4 D y0;refine bn d fun t1 h1 d=>?_;obtain ⟨x0,S,a1,c4,z3⟩:=Rel.put_place_Pen y0 (a0.mono (y.trans (z.trans (A.trans D)))) (E':=[(Eb b 126 [M,I e.Row,I e.Col,B e.Pending,B n.Auto])]) h1 ⟨b,M,((l3.trans (m3.trans (n3.trans (o3.trans (i1.trans (y.trans (z.trans (A.trans D)))))))).t _ _ _ e0),rfl,(d0.mono (z.trans (A.trans D)))⟩;refine ⟨.inl rfl,dn (nrm<|sr<|vx (leN 29 0 [I a.At.Row,I a.At.Col,B false] (S.on 0 rfl))<|md (sA 29 [I a.At.Row,I a.At.Col,B false] 1 S ⟨rfl,rfl,rfl,trivial⟩) ?_)⟩;rintro b0 i4 T;refine KG ?_;cases d;have z0:=T.sD 2 [];exact km (c:=b0) (vs:=[I a.At.Row,I a.At.Col,B false]) rfl (by kernel_rfl) (by kernel_rfl) (by kernel_rfl) (T.on 1 rfl _ rfl).1 ⟨_,b0,rfl,rfl,pt,x0,z0,a1.m,rfl⟩
def eC (p0:Int) (p1:Int):Option Int:=
 if decide (p0<0) then
 some 0
 else
 if decide (p0>=p1) then
 some (w64 (p1-1))
 else
 some p0
theorem ns (d:Own c0 G F) (a:Int) (b:Int){r:Int}(H:eC a b=some r): KP 206 #[I a,I b] c0 fun c v=>Own c G F/\v=I r:=by
 unfold eC at H;refine en func206 rfl rfl<|KD 0<|KA<|KD a<|Kr (a<0)<|KH H (fun e H=>?_) (fun e H=>?_)
 ·refine KD 0<|KG<|thr ?_;cases H;exact KC c0 ⟨d,rfl⟩
 refine KI<|W.seq<|KD a<|Ku b<|Kr (a>=b)<|KH H (fun f H=>?_) (fun f H=>?_)
 ·refine KD b<|Kv (b-1)<|KG<|thr ?_;cases H;exact KC c0 ⟨d,rfl⟩
 refine KI<|sr<|vv (I a)<|KG ?_;cases H;exact KC c0 ⟨d,rfl⟩
def cg (p0:Int):Option Int:=
 if decide (p0<1) then
 some 1
 else
 if decide (p0>1024) then
 some 1024
 else
 some p0
theorem ey (b:Own c0 G F) (a:Int){r:Int}(H:cg a=some r): KP 137 #[I a] c0 fun c v=>Own c G F/\v=I r:=by
 unfold cg at H;refine en func137 rfl rfl<|KD 0<|KA<|KD a<|Kr (a<1)<|KH H (fun d H=>?_) (fun d H=>?_)
 ·refine KD 1<|KG<|thr ?_;cases H;exact KC c0 ⟨b,rfl⟩
 refine KI<|W.seq<|KD a<|Kr (a>1024)<|KH H (fun e H=>?_) (fun e H=>?_)
 ·refine KD 1024<|KG<|thr ?_;cases H;exact KC c0 ⟨b,rfl⟩
 refine KI<|sr<|vv (I a)<|KG ?_;cases H;exact KC c0 ⟨b,rfl⟩
def fA (p0:ai) (p1:Int) (p2:Int):Option ai:=
 (cg p2).bind fun b=>
 (eC p0.Row b).bind fun c=>
 (cg p1).bind fun d=>
 (eC p0.Col d).bind fun e=>
 (bL p0.Pending ((cg p1).bind fun f=>
 some (p0.Col==(w64 (f-1))))).bind fun a=>
 some (⟨c,e,a⟩:ai)
theorem oF (O0:Own c0 G F) (a:ai) (h:Int) (o:Int){r:ai}(H:fA a h o=some r): KP 139 #[.agg #[I a.Row,I a.Col,B a.Pending],I h,I o] c0 fun c v=>Own c G F/\v= .agg #[I r.Row,I r.Col,B r.Pending]:=by
 unfold fA at H;refine en func139 rfl rfl<|sr<|me (bx 29 [I a.Row,I a.Col,B a.Pending] O0) ?_;rintro v5 c4 l4 ⟨m,rfl,O2,n⟩;refine me (al 29 [I 0,I 0,B false] O2) ?_;rintro v9 c8 l8 ⟨T,rfl,O7⟩;refine KA<|bn H fun y e0 H=>bn H fun b f0 H=>bn H fun z g0 H=>bn H fun d h0 H=>bn H fun k x H=>W.join (Jn c8 fun c l=>Own c G ((Eb T 29 [I b,I d,B k])::F)/\l= [(6,Q T)]) ?_ ?_
 ·clear H;refine rD [] (Kp G0 []) O7 ?_;intro U y0 A;have i1:Kp G0 [] U:=Kp.nil0;refine ta 0 (Q m)<|tx 1 (fun j g=>l1 u_3 ((mm n) 0 _ rfl))<|ta 2 (I o)<|ta 5 (Qo m (0+1))<|tx 6 (fun j g=>l1 u_3 ((mm n) 1 _ rfl))<|ta 7 (I h)<|ta 10 (Qo m (0+2))<|tx 11 (fun j g=>l1 u_4 ((mm n) 2 _ rfl))<|o1 3 (gc 3 (ey A o e0) ?_);rintro v23 X z0 ⟨D,rfl⟩;have j0:Kp G0 [] X:=Kp.nil0;refine ⟨.inr j0,o1 4 (gc 4 (ns D a.Row y f0) ?_)⟩;rintro v30 Z a1 ⟨E,rfl⟩;have k0:Kp G0 [] Z:=Kp.nil0;refine ⟨.inr k0,o1 8 (gc 8 (ey E h g0) ?_)⟩;rintro v37 a0 c1 ⟨M,rfl⟩;have l0:Kp G0 [] a0:=Kp.nil0;refine ⟨.inr l0,o1 9 (gc 9 (ns M a.Col z h0) ?_)⟩;rintro v44 b0 d1 ⟨p,rfl⟩;have m0:Kp G0 [] b0:=Kp.nil0;refine ⟨.inr m0,?_⟩;rcases bo a.Pending with f|f
  ·have i:=anT f x;refine bn i fun e i0 i=>AC.takeb 12 f rfl (by kernel_rfl) (by kernel_rfl) (fun j g=>(by kernel_rfl)) (ta 13 (Qo m (0+1))<|tx 14 (fun j g=>l1 u_3 ((mm n) 1 _ rfl))<|ta 15 (I h)<|o1 16 (gc 16 (ey p h i0) ?_));rintro v54 d0 e1 ⟨N,rfl⟩;have o0:Kp G0 [] d0:=Kp.nil0;refine ⟨.inr o0,ta 17 (I (w64 (e-1))) (ta 18 (B (a.Col==(w64 (e-1)))) ?_)⟩;cases i;refine ta 19 (B (a.Col==(w64 (e-1))))<|ta 20 (.agg #[I b,I d,B (a.Col==(w64 (e-1)))])<|o1 21 (gD 21 (sA 29 [I b,I d,B (a.Col==(w64 (e-1)))] 0 N ⟨rfl,rfl,rfl,trivial⟩) ?_);rintro s f1 P;have q0:Kp G0 [] s:=Kp.nil0;exact ⟨.inr q0,dn (nrm<|jn s ⟨P,rfl⟩)⟩
  obtain rfl:=anF f x;refine AC.takeb 12 f rfl (by kernel_rfl) (by kernel_rfl) (fun j g=>(by kernel_rfl)) (tp 13<|tp 14<|tp 15<|tp 16<|tp 17<|tp 18<|ta 19 (B false)<|ta 20 (.agg #[I b,I d,B false])<|o1 21 (gD 21 (sA 29 [I b,I d,B false] 0 p ⟨rfl,rfl,rfl,trivial⟩) ?_));rintro t g1 R;have s0:Kp G0 [] t:=Kp.nil0;exact ⟨.inr s0,dn (nrm<|jn t ⟨R,rfl⟩)⟩
 rintro e_ w_ ⟨u,x0,_,rfl,h1,rfl,q,rfl⟩;refine nrm<|W.ret ?_;cases H;have S:=q.sD 1 [];exact km (c:=u) (vs:=[I b,I d,B k]) rfl (by kernel_rfl) (by kernel_rfl) (by kernel_rfl) (q.on 0 rfl _ rfl).1 ⟨_,u,rfl,rfl,pt,S,rfl⟩
def cX (p0:aa):Option Int:=
 (idx p0.L 0).bind fun a=>
 some (a.Cells.length:Int)
theorem gU (l:Own c0 G F) (a:aa){r:Int}(g:Sl av c0 v1 a.L) (H:cX a=some r): KP 83 #[.agg #[v1,I a.At.Row,I a.At.Col,B a.At.Pending,B a.Auto]] c0 fun c v=>Own c G F/\v=I r:=by
 unfold cX at H;refine en func83 rfl rfl<|sr ?_;obtain ⟨d,e,f,rfl⟩:=(g).form;refine me (bx 31 [.slice d e f,I a.At.Row,I a.At.Col,B a.At.Pending,B a.Auto] l) ?_;rintro v10 p q ⟨o,rfl,n,t⟩;refine Ku 0<|wln<|KE (Q o)<|vx (l1 fJ (t 0 _ rfl))<|bn H fun k b H=>?_;obtain ⟨s,h,j⟩:=Sl.at (g.mono q) (aS b);obtain ⟨v15,rfl,i⟩:=h;refine vx (ix fJ g.m b)<|Kw (sb (.slice d e f)) (so (.slice d e f)+(0:Int).toNat*2)<|vx (l1 cD (j 0 _ rfl))<|vx (ln 3 cD i)<|Ku (k.Cells.length:Int)<|KG ?_;cases H;exact KC p ⟨n,rfl⟩
def cp (p0:aa):Option aa:=
 (cX p0).bind fun a=>
 (fA p0.At a (p0.L.length:Int)).bind fun b=>
 some (⟨p0.L,b,p0.Auto⟩:aa)
theorem dN (S:Own c0 G F) (a:aa){r:aa}(h:Sl av c0 v1 a.L) (H:cp a=some r): KP 136 #[.agg #[v1,I a.At.Row,I a.At.Col,B a.At.Pending,B a.Auto]] c0 fun c v=>∃R,Own c G F/\v= .agg #[R,I r.At.Row,I r.At.Col,B r.At.Pending,B r.Auto]/\Sl av c R r.L:=by
 unfold cp at H;refine en func136 rfl rfl<|sr ?_;obtain ⟨d,e,f,rfl⟩:=(h).form;refine me (al 31 [.slice d e f,I a.At.Row,I a.At.Col,B a.At.Pending,B a.Auto] S) ?_;rintro v9 c8 l8 ⟨g,rfl,T⟩;refine me (al 31 [Y,I 0,I 0,B false,B false] T) ?_;rintro v13 X a0 ⟨U,rfl,x⟩;refine KA<|rD [9] (Kp G0 [(Eb g 31 [.slice d e f,I a.At.Row,I a.At.Col,B a.At.Pending,B a.Auto])]) x ?_;intro z b0 l;have k:=(Kp.cons (l.on 1 rfl) Kp.nil0);refine ta 0 (.pointer (some ⟨g,1,none⟩))<|tkx 1 k (fun t j i=>leN 29 1 [I a.At.Row,I a.At.Col,B a.At.Pending] (i.on 0 rfl)) (tkx 2 k (fun t j i=>leN 31 0 [.slice d e f,I a.At.Row,I a.At.Col,B a.At.Pending,B a.Auto] (i.on 0 rfl)) (ta 4 (Q g)<|tkx 5 k (fun t j i=>le1 0 fJ (i.on 0 rfl)) (tx 6 (fun t j=>ln 3 fJ h.m)<|bn H fun u E H=>o1 3 (gc 3 (gU l a h.m E) ?_))));rintro v23 A d0 ⟨n,rfl⟩;have N:=(Kp.cons (n.on 1 rfl) Kp.nil0);refine ⟨.inr N,bn H fun b M H=>o1 7 (gc 7 (oF n a.At u (a.L.length:Int) M) ?_)⟩;rintro v31 D e0 ⟨o,rfl⟩;have P:=(Kp.cons (o.on 1 rfl) Kp.nil0);refine ⟨.inr P,ta 8 (.pointer (some ⟨g,1,none⟩)) (o1 9 (gD 9 (sB 29 1 [I b.Row,I b.Col,B b.Pending] [.slice d e f,I b.Row,I b.Col,B b.Pending,B a.Auto] 1 o ⟨rfl,rfl,rfl,trivial⟩) ?_))⟩;rintro Z f0 p;refine ⟨.inl rfl,dn (nrm<|sr<|vx (leN 31 0 [.slice d e f,I b.Row,I b.Col,B b.Pending,B a.Auto] (p.on 1 rfl))<|md (sA 31 [.slice d e f,I b.Row,I b.Col,B b.Pending,B a.Auto] 0 p ⟨h.m.one,rfl,rfl,rfl,rfl,trivial⟩) ?_)⟩;rintro s g0 q;refine KG ?_;cases H;have y:=q.sD 2 [];exact km (c:=s) (vs:=[.slice d e f,I b.Row,I b.Col,B b.Pending,B a.Auto]) rfl (by kernel_rfl) (by kernel_rfl) (by kernel_rfl) (q.on 0 rfl _ rfl).1 ⟨_,s,rfl,rfl,pt,(.slice d e f),y,rfl,h.m⟩
def du (p0:aa):Option aa:=
 (cp p0).bind fun a=>
 if decide ((w64 (a.At.Row+1))<(a.L.length:Int)) then
 some (⟨a.L,(⟨(w64 (a.At.Row+1)),a.At.Col,false⟩:ai),a.Auto⟩:aa)
 else
 (em a.L 0 (a.L.length:Int) 1 true).bind fun b=>
 some (⟨b,(⟨a.At.Row,a.At.Col,false⟩:ai),a.Auto⟩:aa)
theorem lg (Z:Own c0 G F) (b:aa){r:aa}(S:Sl av c0 v1 b.L) (H:du b=some r): KP 200 #[.agg #[v1,I b.At.Row,I b.At.Col,B b.At.Pending,B b.Auto]] c0 fun c v=>∃X,Own c G F/\v= .agg #[X,I r.At.Row,I r.At.Col,B r.At.Pending,B r.Auto]/\Sl av c X r.L:=by
 unfold du at H;refine en func200 rfl rfl<|sr ?_;obtain ⟨M,N,P,rfl⟩:=(S).form;refine me (al 31 [.slice M N P,I b.At.Row,I b.At.Col,B b.At.Pending,B b.Auto] Z) ?_;rintro v9 c8 l8 ⟨d,rfl,O7⟩;refine me (al 31 [Y,I 0,I 0,B false,B false] O7) ?_;rintro v13 e0 l0 ⟨d0,rfl,o⟩;refine KN<|vx (leN 31 0 [.slice M N P,I b.At.Row,I b.At.Col,B b.At.Pending,B b.Auto] (o.on 1 rfl))<|bn H fun a R H=>cl (dN o b S.m R) ?_;rintro v22 f0 m0 ⟨v15,y,rfl,i⟩;obtain ⟨f,g,h,rfl⟩:=(i).form;refine md (sA 31 [.slice f g h,I a.At.Row,I a.At.Col,B a.At.Pending,B a.Auto] 1 y ⟨i.one,rfl,rfl,rfl,rfl,trivial⟩) ?_;rintro g0 o0 z;refine KN<|Kw d 1<|Kw d 3<|md (sC 4 3 (B false) [.slice f g h,I a.At.Row,I a.At.Col,B false,B a.Auto] 1 z ⟨rfl,trivial⟩) ?_;rintro h0 q0 e;refine KA<|sr<|vv (Qo d 1)<|vx (le1 1 u_3 (e.on 1 rfl))<|Kx (a.At.Row+1)<|va (Q d)<|vx (le1 0 fJ (e.on 1 rfl))<|vx (ln 3 fJ i.m)<|Kr ((w64 (a.At.Row+1))<(a.L.length:Int))<|KH H (fun T H=>?_) (fun T H=>?_)
 ·refine sr<|vv (Qo d 1)<|vx (le1 1 u_3 (e.on 1 rfl))<|Kx (a.At.Row+1)<|vv (Qo d 1)<|md (sC 3 1 (I (w64 (a.At.Row+1))) [.slice f g h,I (w64 (a.At.Row+1)),I a.At.Col,B false,B a.Auto] 1 e ⟨rfl,trivial⟩) ?_;rintro i0 s0 p;refine KN<|vx (leN 31 0 [.slice f g h,I (w64 (a.At.Row+1)),I a.At.Col,B false,B a.Auto] (p.on 1 rfl))<|md (sA 31 [.slice f g h,I (w64 (a.At.Row+1)),I a.At.Col,B false,B a.Auto] 0 p ⟨i.m.one,rfl,rfl,rfl,rfl,trivial⟩) ?_;rintro u t0 q;refine KG<|thr ?_;cases H;have A:=q.sD 2 [];exact km (c:=u) (vs:=[.slice f g h,I (w64 (a.At.Row+1)),I a.At.Col,B false,B a.Auto]) rfl (by kernel_rfl) (by kernel_rfl) (by kernel_rfl) (q.on 0 rfl _ rfl).1 ⟨_,u,rfl,rfl,pt,(.slice f g h),A,rfl,i.m⟩
 refine KI<|KE (Q d)<|vx (le1 0 fJ (e.on 1 rfl))<|va (Q d)<|vx (le1 0 fJ (e.on 1 rfl))<|vx (ln 3 fJ i.m)<|bn H fun b0 U H=>cl (lD e a.L 0 (a.L.length:Int) 1 true i.m U) ?_;rintro v37 j0 u0 ⟨_,D,rfl,n⟩;refine va (Q d) ?_;obtain ⟨j,k,l,rfl⟩:=(n).form;refine md (sC 27 0 (.slice j k l) [.slice j k l,I a.At.Row,I a.At.Col,B false,B a.Auto] 1 D ⟨n.one,trivial⟩) ?_;rintro k0 v0 s;refine KN<|vx (leN 31 0 [.slice j k l,I a.At.Row,I a.At.Col,B false,B a.Auto] (s.on 1 rfl))<|md (sA 31 [.slice j k l,I a.At.Row,I a.At.Col,B false,B a.Auto] 0 s ⟨n.m.one,rfl,rfl,rfl,rfl,trivial⟩) ?_;rintro x w0 t;refine KG ?_;cases H;have E:=t.sD 2 [];exact km (c:=x) (vs:=[.slice j k l,I a.At.Row,I a.At.Col,B false,B a.Auto]) rfl (by kernel_rfl) (by kernel_rfl) (by kernel_rfl) (t.on 0 rfl _ rfl).1 ⟨_,x,rfl,rfl,pt,(.slice j k l),E,rfl,n.m⟩
def co (p0:aa) (p1:Int) (p2:aj):Option aa:=
 (app ([]:List aj) p0.L).bind fun a=>
 (idx a p1).bind fun c=>
 (oK a p1 p2).bind fun b=>
 some (⟨b,p0.At,p0.Auto⟩:aa)
theorem gS (O0:Own c0 G F) (a:aa) (x:Int) (f:aj){r:aa}(M:Sl av c0 v1 a.L) (t:Sl ah c0 v3 f.Cells) (H:co a x f=some r): KP 145 #[.agg #[v1,I a.At.Row,I a.At.Col,B a.At.Pending,B a.Auto],I x,.agg #[v3,B f.Wrap]] c0 fun c v=>∃y y2,Own c G (es true av y 48 y2 r.L::F)/\v= .agg #[y,I r.At.Row,I r.At.Col,B r.At.Pending,B r.Auto]/\OA av c y y2 r.L:=by
 unfold co at H;refine en func145 rfl rfl<|sr ?_;obtain ⟨a5,a6,a7,rfl⟩:=(M).form;refine me (al 31 [.slice a5 a6 a7,I a.At.Row,I a.At.Col,B a.At.Pending,B a.Auto] O0) ?_;rintro v11 m0 X ⟨s,rfl,O9⟩;obtain ⟨g,h,i,rfl⟩:=((t.mono X)).form;refine me (bx 48 [.slice g h i,B f.Wrap] O9) ?_;rintro v19 o0 w0 ⟨k0,rfl,z,Z⟩;refine me (al 31 [Y,I 0,I 0,B false,B false] z) ?_;rintro v23 q0 x0 ⟨l0,rfl,A⟩;refine KN<|me (sl av 48 [] ([]:List aj) A trivial) ?_;rintro v28 s0 y0 ⟨d1,k,N⟩;refine va (Q s)<|vx (le1 0 fJ (k.on 2 rfl))<|bn H fun f1 P H=>me (ap av (.agg #[Y,B false]) 32 27 0 k N M.m P fJ) ?_;rintro v34 t0 z0 ⟨e1,D,j⟩;refine va (Q s) ?_;obtain ⟨b,d,e,rfl⟩:=(j).form;refine md (sC 27 0 (.slice b d e) [.slice b d e,I a.At.Row,I a.At.Col,B a.At.Pending,B a.Auto] 2 D ⟨(j).one,trivial⟩) ?_;rintro u0 a1 l;refine wln<|KE (Q s)<|vx (le1 0 fJ (l.on 2 rfl))<|Ku x<|vx (lN 48 (mm Z))<|bn H fun j0 S H=>vx (ixO fJ j.m S)<|bn H fun i0 U H=>md (Own.stW (R:=av) (T:=48) (us:=[.slice g h i,B f.Wrap]) (x':=f) (u:= .agg #[.slice g h i,B f.Wrap]) 0 l (by kernel_rfl) rfl j.m U rfl (by kernel_rfl) ⟨t.m.one,rfl,trivial⟩ rfl ⟨(.slice g h i),rfl,t.m⟩) ?_;rintro v0 b1 ⟨a0,n,q⟩;refine KN<|vx (leN 31 0 [.slice b d e,I a.At.Row,I a.At.Col,B a.At.Pending,B a.Auto] (n.on 2 rfl))<|md (sA 31 [.slice b d e,I a.At.Row,I a.At.Col,B a.At.Pending,B a.Auto] 1 n ⟨(q).one,rfl,rfl,rfl,rfl,trivial⟩) ?_;rintro p c1 o;refine KG ?_;cases H;have E:=o.sD 3 [0];exact km (c:=p) (vs:=[.slice b d e,I a.At.Row,I a.At.Col,B a.At.Pending,B a.Auto]) rfl (by kernel_rfl) (by kernel_rfl) (by kernel_rfl) (o.on 1 rfl _ rfl).1 ⟨_,p,rfl,rfl,pt,(.slice b d e),a0,E,rfl,q.m⟩
def cF (p0:aa):Option aa:=
 (idx p0.L p0.At.Row).bind fun b=>
 (co p0 p0.At.Row (⟨b.Cells,true⟩:aj)).bind fun a=>
 (du (⟨a.L,(⟨a.At.Row,0,false⟩:ai),a.Auto⟩:aa)).bind fun c=>
 some c
theorem mA (O0:Own c0 G F) (a:aa){r:aa}(y:Sl av c0 v1 a.L) (H:cF a=some r): KP 196 #[.agg #[v1,I a.At.Row,I a.At.Col,B a.At.Pending,B a.Auto]] c0 fun c v=>∃y1,Own c G F/\v= .agg #[y1,I r.At.Row,I r.At.Col,B r.At.Pending,B r.Auto]/\Sl av c y1 r.L:=by
 unfold cF at H;refine en func196 rfl rfl<|sr ?_;obtain ⟨g,h,i,rfl⟩:=(y).form;refine me (al 31 [.slice g h i,I a.At.Row,I a.At.Col,B a.At.Pending,B a.Auto] O0) ?_;rintro v9 c8 l8 ⟨e,rfl,O7⟩;refine me (al 31 [Y,I 0,I 0,B false,B false] O7) ?_;rintro v13 a1 l0 ⟨z0,rfl,T⟩;refine KA<|rD [14] (Kp G0 [(Eb e 31 [.slice g h i,I a.At.Row,I a.At.Col,B a.At.Pending,B a.Auto])]) T ?_;intro e0 m0 z;have k:=(Kp.cons (z.on 1 rfl) Kp.nil0);refine tkx 0 k (fun t f j=>leN 31 0 [.slice g h i,I a.At.Row,I a.At.Col,B a.At.Pending,B a.Auto] (j.on 0 rfl)) (ta 1 (Qo e 1)<|ta 2 (Qo e 1)<|tkx 3 k (fun t f j=>le1 1 u_3 (j.on 0 rfl)) (ta 4 (Q e)<|tkx 5 k (fun t f j=>le1 0 fJ (j.on 0 rfl)) (ta 6 (Qo e 1)<|ta 7 (Qo e 1)<|tkx 8 k (fun t f j=>le1 1 u_3 (j.on 0 rfl)) (bn H fun S P H=>?_))));obtain ⟨y0,g0,s0⟩:=Sl.at (y.mono (l8.trans (l0.trans m0))) (aS P);obtain ⟨v21,rfl,R⟩:=g0;refine tx 9 (fun t f=>ix fJ y.m P)<|ta 10 (Qo (sb (.slice g h i)) (so (.slice g h i)+a.At.Row.toNat*2))<|tx 11 (fun t f=>l1 cD ((mm s0) 0 _ rfl)) ?_;obtain ⟨a0,b0,d0,rfl⟩:=(R).form;refine ta 12 (.agg #[.slice a0 b0 d0,B true])<|bn H fun b h0 H=>o1 13 (gc 13 (gS z a a.At.Row (⟨S.Cells,true⟩:aj) y.m R h0) ?_);rintro v35 f0 f1 ⟨v27,j1,A,rfl,u⟩;have t0:=(Kp.cons (A.on 2 rfl) Kp.nil0);refine ⟨.inr t0,?_⟩;obtain ⟨l,n,o,rfl⟩:=(u).form;refine o1 14 (gD 14 (sA 31 [.slice l n o,I b.At.Row,I b.At.Col,B b.At.Pending,B b.Auto] 2 A ⟨(u).one,rfl,rfl,rfl,rfl,trivial⟩) ?_);rintro b1 o0 D;refine ⟨.inl rfl,dn (nrm<|sr<|vv (Qo e 1)<|vx (le1 1 u_3 (D.on 2 rfl))<|va (.agg #[I b.At.Row,I 0,B false])<|Kw e 1<|md (sB 29 1 [I b.At.Row,I 0,B false] [.slice l n o,I b.At.Row,I 0,B false,B b.Auto] 2 D ⟨rfl,rfl,rfl,trivial⟩) ?_)⟩;rintro c1 q0 E;refine KN<|vx (leN 31 0 [.slice l n o,I b.At.Row,I 0,B false,B b.Auto] (E.on 2 rfl)) ?_;obtain ⟨d1,j0,g1,U,i0⟩:=E.frz 0 rfl (u.mono (o0.trans q0));refine WL.gh j0 (bn H fun d k0 H=>cl (lg U (⟨b.L,(⟨b.At.Row,0,false⟩:ai),b.Auto⟩:aa) i0 k0) ?_);rintro v56 e1 h1 ⟨v49,X,rfl,x⟩;obtain ⟨p,q,s,rfl⟩:=(x).form;refine md (sA 31 [.slice p q s,I d.At.Row,I d.At.Col,B d.At.Pending,B d.Auto] 1 X ⟨x.one,rfl,rfl,rfl,rfl,trivial⟩) ?_;rintro N i1 M;refine KG ?_;obtain rfl:=si H;have Z:=M.sD 3 [];exact km (c:=N) (vs:=[.slice p q s,I d.At.Row,I d.At.Col,B d.At.Pending,B d.Auto]) rfl (by kernel_rfl) (by kernel_rfl) (by kernel_rfl) (M.on 1 rfl _ rfl).1 ⟨_,N,rfl,rfl,pt,(.slice p q s),Z,rfl,x.m⟩
def ce (p0:aa) (p1:Int) (p2:Int) (p3:List ab):Option aa:=
 (idx p0.L p1).bind fun d=>
 (idx p0.L p1).bind fun b=>
 (eO d.Cells b.Wrap p2 p3).bind fun a=>
 (co p0 p1 (⟨a.1,a.2⟩:aj)).bind fun c=>
 some c
theorem lY (O0:Own c0 G F) (d:aa) (f:Int) (s:Int) (M:List ab){r:aa}(g:Sl av c0 v1 d.L) (h4:Sl ah c0 v3 M) (H:ce d f s M=some r): KP 197 #[.agg #[v1,I d.At.Row,I d.At.Col,B d.At.Pending,B d.Auto],I f,I s,v3] c0 fun c v=>∃P y2,Own c G (es true av P 48 y2 r.L::F)/\v= .agg #[P,I r.At.Row,I r.At.Col,B r.At.Pending,B r.Auto]/\OA av c P y2 r.L:=by
 unfold ce at H;refine en func197 rfl rfl<|sr ?_;obtain ⟨h,i,n,rfl⟩:=(g).form;refine me (bx 31 [.slice h i n,I d.At.Row,I d.At.Col,B d.At.Pending,B d.Auto] O0) ?_;rintro v12 d1 A ⟨b8,rfl,O9,q⟩;refine me (al 31 [Y,I 0,I 0,B false,B false] O9) ?_;rintro v16 e1 D ⟨c1,rfl,R⟩;refine KA<|rD [] (Kp G0 []) R ?_;intro f0 E S;have n1:Kp G0 [] f0:=Kp.nil0;refine ta 0 (Q b8)<|tx 1 (fun o e=>l1 fJ ((mm q) 0 _ rfl))<|ta 2 (I f)<|bn H fun v0 x H=>?_;obtain ⟨a1,h0,q0⟩:=Sl.at (g.mono (A.trans (D.trans E))) (aS x);obtain ⟨v24,rfl,i0⟩:=h0;refine tx 3 (fun o e=>ix fJ g.m x)<|ta 4 (Qo (sb (.slice h i n)) (so (.slice h i n)+f.toNat*2))<|tx 5 (fun o e=>l1 cD ((mm q0) 0 _ rfl))<|ta 6 (Q b8)<|tx 7 (fun o e=>l1 fJ ((mm q) 0 _ rfl))<|ta 8 (I f)<|bn H fun N y H=>?_;obtain ⟨b1,j0,s0⟩:=Sl.at (g.mono (A.trans (D.trans E))) (aS y);obtain ⟨v30,rfl,h1⟩:=j0;refine tx 9 (fun o e=>ix fJ g.m y)<|ta 10 (Qo (sb (.slice h i n)) (so (.slice h i n)+f.toNat*2+1))<|tx 11 (fun o e=>l1 u_4 ((mm s0) 1 _ rfl))<|ta 12 (I s)<|ta 13 v3<|bn H fun b k0 H=>o1 14 (gc 14 (nL S v0.Cells N.Wrap s M i0 h4.m k0) ?_);rintro v41 g0 i1 ⟨v33,q1,T,rfl,z⟩;have t0:Kp G0 [] g0:=Kp.nil0;refine ⟨.inr t0,ta 15 (.tuple #[v33,B b.2]) (ta 16 v33<|ta 17 (B b.2)<|ta 18 v33<|ta 19 (B b.2)<|dn (nrm<|sr<|vx (lN 31 (mm q))<|Ku f<|va v33<|Kq b.2 ?_))⟩;obtain ⟨a0,b0,d0,rfl⟩:=(z).form;refine va (.agg #[.slice a0 b0 d0,B b.2]) ?_;obtain ⟨f1,m0,j1,U,l0⟩:=T.frz 0 rfl z;refine WL.gh m0 (bn H fun a o0 H=>cl (gS U d f (⟨b.1,b.2⟩:aj) g.m l0 o0) ?_);rintro v59 g1 k1 ⟨v51,u0,X,rfl,p⟩;obtain ⟨j,k,l,rfl⟩:=(p).form;refine md (sA 31 [.slice j k l,I a.At.Row,I a.At.Col,B a.At.Pending,B a.Auto] 2 X ⟨(p).one,rfl,rfl,rfl,rfl,trivial⟩) ?_;rintro u m1 t;refine KG ?_;obtain rfl:=si H;have Z:=t.sD 3 [0];exact km (c:=u) (vs:=[.slice j k l,I a.At.Row,I a.At.Col,B a.At.Pending,B a.Auto]) rfl (by kernel_rfl) (by kernel_rfl) (by kernel_rfl) (t.on 2 rfl _ rfl).1 ⟨_,u,rfl,rfl,pt,(.slice j k l),u0,Z,rfl,p.m⟩
def gk (p0:ai) (p1:Int) (p2:Int) (p3:Bool):Option ai:=
 (if decide (p1>1) then
 some 2
 else
 some 1).bind fun a=>
 (cg p2).bind fun b=>
 if decide (p0.Col>=(w64 (b-a))) then
 (cg p2).bind fun c=>
 some (⟨p0.Row,(w64 (c-1)),p3⟩:ai)
 else
 some (⟨p0.Row,(w64 (p0.Col+a)),false⟩:ai)
theorem rm (O0:Own c0 G F) (a:ai) (n:Int) (g:Int) (h:Bool){r:ai}(H:gk a n g h=some r): KP 199 #[.agg #[I a.Row,I a.Col,B a.Pending],I n,I g,B h] c0 fun c v=>Own c G F/\v= .agg #[I r.Row,I r.Col,B r.Pending]:=by
 unfold gk at H;refine en func199 rfl rfl<|sr<|me (bx 29 [I a.Row,I a.Col,B a.Pending] O0) ?_;rintro v5 c4 l4 ⟨i,rfl,O2,m⟩;refine me (al 29 [I 0,I 0,B false] O2) ?_;rintro v9 t l8 ⟨M,rfl,E⟩;refine wln<|KD 1<|wln<|bn H fun d f b=>W.seqJ (Jn t fun c l=>Own c G ((Eb M 29 [I 0,I 0,B false])::F)/\l= [(2,I g),(3,B h),(4,Q i),(8,Q M),(9,I d)]) ?_ ?_
 ·refine KD n<|Kr (n>1)<|KH f (fun T f=>?_) (fun T f=>?_)
  ·refine KF 2<|wln ?_;cases f;exact jn t ⟨E,rfl⟩
  refine KI ?_;cases f;exact jn t ⟨E,rfl⟩
 rintro e_ w_ ⟨i0,j0,_,rfl,k0,rfl,u,rfl⟩;refine W.seq<|W.seq<|rD [] (Kp G0 []) u ?_;intro N l0 x;have u0:Kp G0 [] N:=Kp.nil0;refine ta 0 (.pointer (some ⟨i,0+1,none⟩))<|tx 1 (fun c' a0=>l1 u_3 ((mm m) 1 _ rfl))<|ta 2 (I g)<|ta 4 (I d)<|bn b fun k U b=>o1 3 (gc 3 (ey x g U) ?_);rintro v28 P m0 ⟨o,rfl⟩;have b0:Kp G0 [] P:=Kp.nil0;refine ⟨.inr b0,ta 5 (I (w64 (k-d))) (ta 6 (B (decide (a.Col>=(w64 (k-d)))))<|dn (nrm<|cn b (fun X b=>?_) (fun X b=>?_)))⟩
 ·refine W.seq<|rD [] (Kp G0 []) o ?_;intro R o0 y;have v0:Kp G0 [] R:=Kp.nil0;refine ta 0 (Q i)<|tx 1 (fun c' a0=>l1 u_3 ((mm m) 0 _ rfl))<|ta 2 (I g)<|ta 5 (B h)<|bn b fun e Z b=>o1 3 (gc 3 (ey y g Z) ?_);rintro v40 S q0 ⟨z,rfl⟩;have d0:Kp G0 [] S:=Kp.nil0;refine ⟨.inr d0,ta 4 (I (w64 (e-1))) (ta 6 (.agg #[I a.Row,I (w64 (e-1)),B h])<|o1 7 (gD 7 (sA 29 [I a.Row,I (w64 (e-1)),B h] 0 z ⟨rfl,rfl,rfl,trivial⟩) ?_))⟩;rintro j s0 p;have e0:Kp G0 [] j:=Kp.nil0;refine ⟨.inr e0,dn (nrm<|W.ret<|thr ?_)⟩;cases b;have A:=p.sD 1 [];exact km (c:=j) (vs:=[I a.Row,I (w64 (e-1)),B h]) rfl (by kernel_rfl) (by kernel_rfl) (by kernel_rfl) (p.on 0 rfl _ rfl).1 ⟨_,j,rfl,rfl,pt,A,rfl⟩
 refine KI<|KE (Q i)<|vx (l1 u_3 ((mm m) 0 _ rfl))<|Kw i (0+1)<|vx (l1 u_3 ((mm m) 1 _ rfl))<|Ku d<|Kx (a.Col+d)<|va (.agg #[I a.Row,I (w64 (a.Col+d)),B false])<|md (sA 29 [I a.Row,I (w64 (a.Col+d)),B false] 0 o ⟨rfl,rfl,rfl,trivial⟩) ?_;rintro s t0 q;refine KG ?_;cases b;have D:=q.sD 1 [];exact km (c:=s) (vs:=[I a.Row,I (w64 (a.Col+d)),B false]) rfl (by kernel_rfl) (by kernel_rfl) (by kernel_rfl) (q.on 0 rfl _ rfl).1 ⟨_,s,rfl,rfl,pt,D,rfl⟩
def be (p0:aa) (p1:Int) (p2:List Int):Option (aa×ai):=
 (cp p0).bind fun c=>
 (cX c).bind fun d=>
 (if decide ((aK 1 (aE p1 2))>d) then
 some (1,([65533]:List Int))
 else
 some ((aK 1 (aE p1 2)),p2)).bind fun g=>
 (if c.At.Pending then
 (cF c).bind fun e=>
 some (e.L,e.At.Row,e.At.Col,e.At.Pending,e.Auto)
 else
 some (c.L,c.At.Row,c.At.Col,c.At.Pending,c.Auto)).bind fun a=>
 ((bL (g.1==2) (some (a.2.2.1==(w64 (d-1))))).bind fun i=>
 if i then
 if a.2.2.2.2 then
 (rep 1 (⟨0,([]:List Int)⟩:ab)).bind fun j=>
 (ce (⟨a.1,(⟨a.2.1,a.2.2.1,a.2.2.2.1⟩:ai),a.2.2.2.2⟩:aa) a.2.1 (w64 (d-1)) j).bind fun k=>
 (cF k).bind fun f=>
 some (f.L,f.At.Row,f.At.Col,f.At.Pending,f.Auto)
 else
 some (a.1,a.2.1,(w64 (d-2)),a.2.2.2.1,a.2.2.2.2)
 else
 some (a.1,a.2.1,a.2.2.1,a.2.2.2.1,a.2.2.2.2)).bind fun b=>
 (iU g.1 g.2).bind fun l=>
 (ce (⟨b.1,(⟨b.2.1,b.2.2.1,b.2.2.2.1⟩:ai),b.2.2.2.2⟩:aa) b.2.1 b.2.2.1 l).bind fun h=>
 (gk (⟨b.2.1,b.2.2.1,false⟩:ai) g.1 d h.Auto).bind fun m=>
 some ((⟨h.L,m,h.Auto⟩:aa),(⟨b.2.1,b.2.2.1,false⟩:ai))
theorem qu (O0:Own c0 G F) (u:aa) (p1:Int) (p2:List Int){r:aa×ai}(h2:Sl av c0 v1 u.L) (h4:Sl (RI .i32) c0 v3 p2) (H:be u p1 p2=some r): KP 128 #[.agg #[v1,I u.At.Row,I u.At.Col,B u.At.Pending,B u.Auto],I p1,v3] c0 fun c v=>∃y1 y2,Own c G (es true av y1 48 y2 r.1.L::F)/\v= .tuple #[.agg #[y1,I r.1.At.Row,I r.1.At.Col,B r.1.At.Pending,B r.1.Auto],.agg #[I r.2.Row,I r.2.Col,B r.2.Pending]]/\OA av c y1 y2 r.1.L:=by
 unfold be at H;refine en func128 rfl rfl<|sr ?_;obtain ⟨a5,a6,a7,rfl⟩:=(h2).form;refine me (al 31 [.slice a5 a6 a7,I u.At.Row,I u.At.Col,B u.At.Pending,B u.Auto] O0) ?_;rintro v11 n7 x7 ⟨f,rfl,O9⟩;refine me (al 31 [Y,I 0,I 0,B false,B false] O9) ?_;rintro v15 o7 y7 ⟨D,rfl,v4⟩;refine me (al 29 [I 0,I 0,B false] v4) ?_;rintro v19 p7 z7 ⟨E,rfl,s1⟩;refine KN<|vx (leN 31 0 [.slice a5 a6 a7,I u.At.Row,I u.At.Col,B u.At.Pending,B u.Auto] (s1.on 2 rfl))<|bn H fun h k5 H=>cl (dN s1 u h2.m k5) ?_;rintro v28 q7 a8 ⟨v21,w4,rfl,e0⟩;obtain ⟨a0,b0,d0,rfl⟩:=(e0).form;refine md (sA 31 [.slice a0 b0 d0,I h.At.Row,I h.At.Col,B h.At.Pending,B h.Auto] 2 w4 ⟨e0.one,rfl,rfl,rfl,rfl,trivial⟩) ?_;rintro r7 c8 t1;refine wln<|KD p1<|Ku (aE p1 2)<|vv (I (aK 1 (aE p1 2)))<|KN<|vx (leN 31 0 [.slice a0 b0 d0,I h.At.Row,I h.At.Col,B h.At.Pending,B h.Auto] (t1.on 2 rfl))<|bn H fun e l5 H=>cl (gU t1 h e0.m l5) ?_;rintro v40 b2 d8 ⟨u1,rfl⟩;refine Ku e<|wln<|bn H fun n Z s4=>W.seqJ (Jn b2 fun c l=>∃v43,Own c G ((Eb E 29 [I 0,I 0,B false])::(Eb D 31 [Y,I 0,I 0,B false,B false])::(Eb f 31 [.slice a0 b0 d0,I h.At.Row,I h.At.Col,B h.At.Pending,B h.Auto])::F)/\l= [(1,I n.1),(2,v43),(3,Q f),(6,Q D),(7,Q E),(8,I e)]/\Sl (RI .i32) c v43 n.2) ?_ ?_
 ·refine KD (aK 1 (aE p1 2))<|Ku e<|Kr ((aK 1 (aE p1 2))>e)<|KH Z (fun m5 Z=>?_) (fun m5 Z=>?_)
  ·refine KD 1<|wln<|W.region<|me (sl (RI .i32) 21 [[J 65533]] ([65533]:List Int) u1 ⟨rfl,trivial⟩) ?_;rintro v49 s7 e8 ⟨l8,x4,n5⟩;refine va v49<|wln ?_;cases Z;obtain ⟨g5,p5,f8,y4,o5⟩:=x4.frz 0 rfl n5;have z4:=y4.sD 4 [1,2,3];exact ⟨g5,_,_,p5.symm,pt,us,v49,z4,rfl,o5⟩
  refine KI ?_;cases Z;exact jn b2 ⟨v3,u1,rfl,h4.m⟩
 rintro e_ w_ ⟨c2,u7,_,rfl,g8,rfl,v43,v0,rfl,q5⟩;refine bn s4 fun b M t4=>W.seqJ (Jn c2 fun c l=>∃p,Own c G ((Eb E 29 [I 0,I 0,B false])::(Eb D 31 [Y,I 0,I 0,B false,B false])::(Eb f 31 [p,I b.2.1,I b.2.2.1,B b.2.2.2.1,B b.2.2.2.2])::F)/\l= [(1,I n.1),(2,v43),(3,Q f),(6,Q D),(7,Q E),(8,I e)]/\Sl av c p b.1) ?_ ?_
 ·refine sr<|Kw f 1<|Kw f 3<|vx (le1 3 u_4 (v0.on 2 rfl))<|KH M (fun r5 M=>?_) (fun r5 M=>?_)
  ·refine W.region<|vx (leN 31 0 [.slice a0 b0 d0,I h.At.Row,I h.At.Col,B h.At.Pending,B h.Auto] (v0.on 2 rfl))<|bn M fun U s5 M=>cl (mA v0 h e0.m s5) ?_;rintro n8 t7 h8 ⟨m8,b5,rfl,k1⟩;obtain ⟨w1,x1,z1,rfl⟩:=(k1).form;refine md (sA 31 [.slice w1 x1 z1,I U.At.Row,I U.At.Col,B U.At.Pending,B U.Auto] 2 b5 ⟨k1.one,rfl,rfl,rfl,rfl,trivial⟩) ?_;rintro h5 i8 c5;refine wln ?_;cases M;exact jn h5 ⟨(.slice w1 x1 z1),c5,rfl,k1.m⟩
  refine KI ?_;cases M;exact jn c2 ⟨(.slice a0 b0 d0),v0,rfl,e0.m⟩
 rintro e_ w_ ⟨x0,v7,_,rfl,j8,rfl,p,f1,rfl,m1⟩;refine bn t4 fun a g N=>W.seqJ (Jn x0 fun c l=>∃y,Own c G ((Eb E 29 [I 0,I 0,B false])::(Eb D 31 [Y,I 0,I 0,B false,B false])::(Eb f 31 [y,I a.2.1,I a.2.2.1,B a.2.2.2.1,B a.2.2.2.2])::F)/\l= [(1,I n.1),(2,v43),(3,Q f),(6,Q D),(7,Q E),(8,I e)]/\Sl av c y a.1) ?_ ?_
 ·refine W.seq<|bn g fun e3 d2 g=>W.join (Jn x0 fun c l=>Own c G ((Eb E 29 [I 0,I 0,B false])::(Eb D 31 [Y,I 0,I 0,B false,B false])::(Eb f 31 [p,I b.2.1,I b.2.2.1,B b.2.2.2.1,B b.2.2.2.2])::F)/\l= [(1,I n.1),(2,v43),(3,Q f),(6,Q D),(7,Q E),(8,I e),(35,B e3)]) ?_ ?_
  ·clear g;refine KF n.1<|Kq (n.1==2) ?_;rcases bo (n.1==2) with f0|f0
   ·have u4:=anT f0 d2;refine vb f0<|wa (Qo f 1)<|wa (Qo f 2)<|wn<|vx (le1 2 u_3 (f1.on 2 rfl))<|wa (I e)<|wa (I (w64 (e-1)))<|Kt (b.2.2.1==(w64 (e-1))) ?_;cases u4;exact Kq (b.2.2.1==(w64 (e-1)))<|KB x0 ⟨f1,rfl⟩
   obtain rfl:=anF f0 d2;exact vb f0<|pz<|pz<|pz<|Kq false<|KB x0 ⟨f1,rfl⟩
  rintro e_ w_ ⟨i5,w7,_,rfl,k8,rfl,w0,rfl⟩;refine nrm<|cn g (fun t5 g=>?_) (fun t5 g=>?_)
  ·refine sr<|Kw f 4<|vx (le1 4 u_4 (w0.on 2 rfl))<|KH g (fun g3 g=>?_) (fun g3 g=>?_)
   ·refine rD [9] (Kp G0 [(Eb f 31 [p,I b.2.1,I b.2.2.1,B b.2.2.2.1,B b.2.2.2.2])]) w0 ?_;intro n2 h6 z0;have n1:=(Kp.cons (z0.on 2 rfl) Kp.nil0);refine tkx 0 n1 (fun c' S A=>leN 31 0 [p,I b.2.1,I b.2.2.1,B b.2.2.2.1,B b.2.2.2.2] (A.on 0 rfl)) (ta 1 (Qo f 1)<|ta 2 (Qo f 1)<|tkx 3 n1 (fun c' S A=>le1 1 u_3 (A.on 0 rfl)) (ta 4 (I e)<|ta 5 (I (w64 (e-1)))<|bn g fun o4 j1 g=>o1 6 (gm 6 (Own.mkS (kl:= .i64) (kc:= .i64) (R:=ah) (z:= .agg #[I 0,Y]) (lz:=[I 0,Y]) (x:=(⟨0,([]:List Int)⟩:ab)) (by_:=32) (i:=1) (j:=1) true z0 (aO _) j1 (nC _) (sa j1) cD (by kernel_rfl) rfl rfl (fun _=>⟨(Y),rfl,(Sl.nl _ _)⟩) (by kernel_rfl) (by kernel_rfl)) ?_)));rintro d7 o2 i6 ⟨z6,a1,h3⟩;have b4:=(Kp.cons (a1.on 3 rfl) Kp.nil0);refine ⟨.inr b4,?_⟩;obtain ⟨q2,j3,y3,b1,i3⟩:=a1.frz 0 rfl h3;have c4:=(Kp.cons (b1.on 3 rfl) Kp.nil0);refine AC.gh j3 y3 (fun _=>c4) (bn g fun p4 k3 g=>o1 7 (gc 7 (lY b1 (⟨b.1,(⟨b.2.1,b.2.2.1,b.2.2.2.1⟩:ai),b.2.2.2.2⟩:aa) b.2.1 (w64 (e-1)) o4 m1.m i3 k3) ?_));rintro f7 s2 j6 ⟨e7,b7,c1,rfl,l3⟩;have d4:=(Kp.cons (c1.on 4 rfl) Kp.nil0);refine ⟨.inr d4,?_⟩;obtain ⟨t2,n3,z3,d1,m3⟩:=c1.frz 0 rfl l3;have e4:=(Kp.cons (d1.on 4 rfl) Kp.nil0);refine AC.gh n3 z3 (fun _=>e4) (bn g fun X o3 g=>o1 8 (gc 8 (mA d1 p4 m3 o3) ?_));rintro h7 u2 k6 ⟨g7,e1,rfl,t0⟩;have f4:=(Kp.cons (e1.on 4 rfl) Kp.nil0);refine ⟨.inr f4,?_⟩;obtain ⟨g1,h1,i1,rfl⟩:=(t0).form;refine o1 9 (gD 9 (sA 31 [.slice g1 h1 i1,I X.At.Row,I X.At.Col,B X.At.Pending,B X.Auto] 4 e1 ⟨t0.one,rfl,rfl,rfl,rfl,trivial⟩) ?_);rintro v2 l6 e2;refine ⟨.inl rfl,dn (nrm ?_)⟩;cases g;have f2:=e2.sD 5 [2,3,4];exact jn v2 ⟨(.slice g1 h1 i1),f2,rfl,t0.m⟩
   refine KF e<|Kx (e-2)<|Kw f 1<|Kw f 2<|md (sC 3 2 (I (w64 (e-2))) [p,I b.2.1,I (w64 (e-2)),B b.2.2.2.1,B b.2.2.2.2] 2 w0 ⟨rfl,trivial⟩) ?_;rintro w2 m6 g2;refine wln ?_;cases g;exact jn w2 ⟨p,g2,rfl,m1.m⟩
  refine KI ?_;cases g;exact jn i5 ⟨p,w0,rfl,m1.m⟩
 rintro e_ w_ ⟨y5,f6,_,rfl,n6,rfl,y,h0,rfl,p3⟩;refine sr<|vv (Qo f 1)<|vx (le1 1 u_3 (h0.on 2 rfl))<|Kw f 1<|Kw f 2<|vx (le1 2 u_3 (h0.on 2 rfl))<|va (.agg #[I a.2.1,I a.2.2.1,B false])<|me (al 29 [I 0,I 0,B false] h0) ?_;rintro i7 z5 o6 ⟨o,rfl,i2⟩;refine md (sA 29 [I a.2.1,I a.2.2.1,B false] 0 i2 ⟨rfl,rfl,rfl,trivial⟩) ?_;rintro b6 p6 j2;refine KA<|rD [9] (Kp G0 [(Eb f 31 [y,I a.2.1,I a.2.2.1,B a.2.2.2.1,B a.2.2.2.2]),(Eb o 29 [I a.2.1,I a.2.2.1,B false])]) j2 ?_;intro x2 q6 i0;have u0:=(Kp.cons (i0.on 3 rfl) (Kp.cons (i0.on 0 rfl) Kp.nil0));refine tkx 0 u0 (fun c' S A=>leN 31 0 [y,I a.2.1,I a.2.2.1,B a.2.2.2.1,B a.2.2.2.2] (A.on 0 rfl)) (ta 1 (Q o)<|tkx 2 u0 (fun c' S A=>le1 0 u_3 (A.on 1 rfl)) (ta 3 (Qo o 1)<|tkx 4 u0 (fun c' S A=>le1 1 u_3 (A.on 1 rfl)) (ta 5 (I n.1)<|ta 6 v43<|bn N fun q4 q3 N=>o1 7 (gc 7 (uh i0 n.1 n.2 q5.m q3) ?_))));rintro j7 z2 r6 ⟨_,c7,j0,rfl,s3⟩;have g4:=(Kp.cons (j0.on 4 rfl) (Kp.cons (j0.on 1 rfl) Kp.nil0));refine ⟨.inr g4,?_⟩;obtain ⟨a3,u3,a4,k0,t3⟩:=j0.frz 0 rfl s3;have i4:=(Kp.cons (k0.on 4 rfl) (Kp.cons (k0.on 1 rfl) Kp.nil0));refine AC.gh u3 a4 (fun _=>i4) (bn N fun k w3 N=>o1 8 (gc 8 (lY k0 (⟨a.1,(⟨a.2.1,a.2.2.1,a.2.2.2.1⟩:ai),a.2.2.2.2⟩:aa) a.2.1 a.2.2.1 q4 p3.m t3 w3) ?_));rintro l7 b3 s6 ⟨k7,m4,l0,rfl,T⟩;have j4:=(Kp.cons (l0.on 5 rfl) (Kp.cons (l0.on 2 rfl) Kp.nil0));refine ⟨.inr j4,?_⟩;obtain ⟨q,s,t,rfl⟩:=(T).form;refine o1 9 (gD 9 (sA 31 [.slice q s t,I k.At.Row,I k.At.Col,B k.At.Pending,B k.Auto] 5 l0 ⟨(T).one,rfl,rfl,rfl,rfl,trivial⟩) ?_);rintro c6 t6 m0;refine ⟨.inl rfl,dn (nrm<|sr<|vx (leN 29 0 [I a.2.1,I a.2.2.1,B false] (m0.on 2 rfl))<|Ku n.1<|Ku e<|Kw f 4<|vx (le1 4 u_4 (m0.on 5 rfl))<|bn N fun d x3 N=>cl (rm m0 (⟨a.2.1,a.2.2.1,false⟩:ai) n.1 e k.Auto x3) ?_)⟩;rintro m7 d6 u6 ⟨k2,rfl⟩;refine va (.pointer (some ⟨f,1,none⟩))<|md (sB 29 1 [I d.Row,I d.Col,B d.Pending] [.slice q s t,I d.Row,I d.Col,B d.Pending,B k.Auto] 5 k2 ⟨rfl,rfl,rfl,trivial⟩) ?_;rintro e6 v6 l2;refine KA<|rD [] (Kp G0 [(Eb f 31 [.slice q s t,I d.Row,I d.Col,B d.Pending,B k.Auto]),(Eb o 29 [I a.2.1,I a.2.2.1,B false])]) l2 ?_;intro c3 w6 o0;have q1:=(Kp.cons (o0.on 5 rfl) (Kp.cons (o0.on 2 rfl) Kp.nil0));refine tkx 0 q1 (fun c' S A=>leN 31 0 [.slice q s t,I d.Row,I d.Col,B d.Pending,B k.Auto] (A.on 0 rfl)) (tkx 1 q1 (fun c' S A=>leN 29 0 [I a.2.1,I a.2.2.1,B false] (A.on 1 rfl)) (o1 2 (gD 2 (sA 31 [.slice q s t,I d.Row,I d.Col,B d.Pending,B k.Auto] 4 o0 ⟨T.m.one,rfl,rfl,rfl,rfl,trivial⟩) ?_)));rintro d3 x6 q0;have k4:=(Kp.cons (q0.on 5 rfl) (Kp.cons (q0.on 2 rfl) Kp.nil0));refine ⟨.inr k4,o1 3 (gD 3 (sA 29 [I a.2.1,I a.2.2.1,B false] 3 q0 ⟨rfl,rfl,rfl,trivial⟩) ?_)⟩;rintro s0 y6 P;have l4:=(Kp.cons (P.on 5 rfl) (Kp.cons (P.on 2 rfl) Kp.nil0));refine ⟨.inr l4,dn (nrm<|W.ret ?_)⟩;cases N;have m2:=P.sD 6 [0];exact IG (c:=s0) (vs:=[.slice q s t,I d.Row,I d.Col,B d.Pending,B k.Auto]) (vs':=[I a.2.1,I a.2.2.1,B false]) rfl (by kernel_rfl) (by kernel_rfl) (by kernel_rfl) (P.on 4 rfl _ rfl).1 (by kernel_rfl) (by kernel_rfl) (by kernel_rfl) (P.on 3 rfl _ rfl).1 ⟨_,s0,rfl,rfl,pt,(.slice q s t),m4,m2,rfl,T.m⟩
end Go.Proofs.YtclmdpamofdoiaaGreatDoor
namespace Go.Proofs.YtclmdpamofdoiaaGreatDoor
open Go Go.Lt
set_option maxRecDepth 10000
set_option linter.unusedVariables false
attribute [local irreducible] W WL AC
theorem uR {Q:Program}(w:World) (dT sT ty E:TypeId) (g o dLen dCap:Nat) (a:Addr) (sLen sCap n size:Nat) (us vs:List Value) (T:TypeId)
  (hu:Q.underlying dT=some (.slice E)) (hs:(Q.info? E).map (·.size)=some size) (hn:Nat.min sLen dLen=n) (hul:us.length=n*size)
  (hsrc:∀j v,us[j]? = some v->w.cell? (a.add j)=some v) (hrow:w.heap[g]? = some (.cells vs.toArray T (0,0))) (hl:o+us.length<=vs.length) (h1:∀v∈us,v.oneCell'=true):
  (Builtin.copy_ #[dT,sT] ty #[.slice (some ⟨g,o,none⟩) dLen dCap,.slice (some a) sLen sCap]).run Q w= .ok (goInt n) (w.setRow g (vs.take o++us++vs.drop (o+us.length)).toArray):=by
 obtain ⟨i,hi,hsz⟩:=Option.map_eq_some_iff.1 hs;have hf:=Jt (P:=Q) (w:=w) size n a sLen sCap us hul hsrc;have hst:=zX Q g o T us 0 vs.toArray w hrow (by simpa using hl) h1;simp only [rQ] at hst;simp [Builtin.copy_,cf hu,Builtin.lenOf,sizeOf,typeInfo,hi,hsz,hn,hf,hst]
set_option maxHeartbeats 4000000 in
set_option maxRecDepth 100000 in
theorem C9 {w:World}{g n cap i vb m vc:Nat}{vs us vs2:List Value}{T T2:TypeId}(hrow:w.heap[g]? = some (.cells vs.toArray T (0,0))) (hrow2:w.heap[vb]? = some (.cells vs2.toArray T2 (0,0)))
  (hi:i<n) (hm:0<m) (hroom:n+m<=cap) (hcap:cap*2<=vs.length) (hc63:cap<=9223372036854775807) (hvb:vb≠g) (hul:us.length=m*2) (hus:∀(j:Nat) (v:Value),us[j]? = some v->vs2[j]? = some v)
  (h1:∀v∈vs.take (n*2),v.oneCell'=true) (h2:∀v∈us,v.oneCell'=true):
  Calls Tryz.prog 250 #[.slice (some ⟨g,0,none⟩) n cap,.int .i64 i,.slice (some ⟨vb,0,none⟩) m vc] w fun e w'=>
   e= .returned (.slice (some ⟨g,0,none⟩) (n+m) cap)/\w'=(w.drew.setRow g (vs.take ((i+m)*2)++(vs.drop (i*2)).take ((n-i)*2)++vs.drop ((n+m)*2)).toArray).setRow g (vs.take (i*2)++us++(vs.drop (i*2)).take ((n-i)*2)++vs.drop ((n+m)*2)).toArray:=by
 have hsz:(Tryz.prog.info? 114).map (·.size)=some 2:=by kernel_rfl
 have hov:∀lb cb,(callFunc 284 #[.slice (some ⟨vb,0,none⟩) m vc,.slice (some ⟨g,(i+m)*2,none⟩) lb cb]).run Tryz.prog w= .ok (.value (.bool false)) w:=fun lb cb=>by
  rw [run_callFunc_extern Tryz.func284 (by kernel_rfl) (by kernel_rfl) (by kernel_rfl) (e:=Extern.SlicesOverlaps.overlaps #[46,46] #[4]) (by kernel_rfl)];rw [Lib.run_overlaps_apart w 46 4 114 Tryz.underlying46 2 (fun w=>by kernel_rfl) ⟨vb,0,none⟩ ⟨g,(i+m)*2,none⟩ m vc lb cb hvb T2 T vs2.length vs.length (by simp [World.shape?,hrow2]) (by simp [World.shape?,hrow]) (by omega) (by simp [World.frozen?,hrow2]) (by simp [World.frozen?,hrow2])];rfl
 have hdl:((vs.drop (i*2)).take ((n-i)*2)).length=(n-i)*2:=by rw [az,bm]; omega
 have hcp1:∀ty dc sc,(Builtin.copy_ #[46,46] ty #[.slice (some ⟨g,(i+m)*2,none⟩) (n+m-(i+m)) dc,.slice (some ⟨g,i*2,none⟩) (n+m-i) sc]).run Tryz.prog w.drew= .ok (goInt ((n-i:Nat):Int)) (w.drew.setRow g (vs.take ((i+m)*2)++(vs.drop (i*2)).take ((n-i)*2)++vs.drop ((n+m)*2)).toArray):=fun ty dc sc=>by
  have:=uR (Q:=Tryz.prog) w.drew 46 46 ty 114 g ((i+m)*2) (n+m-(i+m)) dc ⟨g,i*2,none⟩ (n+m-i) sc (n-i) 2 ((vs.drop (i*2)).take ((n-i)*2)) vs T Tryz.underlying46 hsz (by simp only [Cs]; split <;> omega) hdl
   (fun j v hj=>by
    rw [gb];rw [aX] at hj;split at hj
    ·rw [bW] at hj;rw [kM w.drew g (i*2+j) vs.toArray T (0,0) hrow,cr];exact hj
    ·cases hj) hrow (by rw [hdl]; omega) (fun v hv=>h1 v (by rw [show (n-i)*2=n*2-i*2 by omega,<-jg] at hv; exact fb hv))
  rw [hdl,show (i+m)*2+(n-i)*2=(n+m)*2 by omega] at this;exact this
 obtain ⟨W1,hW1⟩:∃W1,W1=w.drew.setRow g (vs.take ((i+m)*2)++(vs.drop (i*2)).take ((n-i)*2)++vs.drop ((n+m)*2)).toArray:=⟨_,rfl⟩;have hr1:W1.heap[g]? = some (.cells (vs.take ((i+m)*2)++(vs.drop (i*2)).take ((n-i)*2)++vs.drop ((n+m)*2)).toArray T (0,0)):=by
  rw [hW1];exact BX w.drew g vs.toArray _ T (0,0) hrow
 have hr2:W1.heap[vb]? = some (.cells vs2.toArray T2 (0,0)):=by
  rw [hW1,Hl w.drew g vb _ hvb];exact hrow2
 have hA2:(vs.take ((i+m)*2)++(vs.drop (i*2)).take ((n-i)*2)++vs.drop ((n+m)*2)).take (i*2)=vs.take (i*2):=by
  rw [aL,cR (by rw [az]; omega),fT,cL (by omega)]
 have hA3:(vs.take ((i+m)*2)++(vs.drop (i*2)).take ((n-i)*2)++vs.drop ((n+m)*2)).drop (i*2+m*2)=(vs.drop (i*2)).take ((n-i)*2)++vs.drop ((n+m)*2):=by
  have hl:(vs.take ((i+m)*2)).length=i*2+m*2:=by rw [az]; omega
  rw [aL,<-hl,jh]
 have hcp2:∀ty dc,(Builtin.copy_ #[46,46] ty #[.slice (some ⟨g,i*2,none⟩) (n+m-i) dc,.slice (some ⟨vb,0,none⟩) m vc]).run Tryz.prog W1= .ok (goInt m) (W1.setRow g (vs.take (i*2)++us++(vs.drop (i*2)).take ((n-i)*2)++vs.drop ((n+m)*2)).toArray):=fun ty dc=>by
  have:=uR (Q:=Tryz.prog) W1 46 46 ty 114 g (i*2) (n+m-i) dc ⟨vb,0,none⟩ m vc m 2 us _ T Tryz.underlying46 hsz (by simp only [Cs]; split <;> omega) hul
   (fun j v hj=>by
    rw [gb,kM W1 vb (0+j) vs2.toArray T2 (0,0) hr2,cr,kR];exact hus j v hj) hr1 (by simp only [ao,az,bm]; omega) h2
  rw [hul,hA2,hA3,<-aL] at this;exact this
 rw [<-hW1] at hcp1|-;have hw1:IntKind.i64.wrap ((i:Int)+(m:Int))=(i:Int)+(m:Int):=by rw [BR]; omega
 have hb1:(0:Int)<=(i:Int)+(m:Int):=by omega
 have hin:i<=n:=by omega
 have hz1:¬((m:Int)=0):=by omega
 have hz2:¬((i:Int)=(n:Int)):=by omega
 have htn:((i:Int)+(m:Int)).toNat=i+m:=by omega
 have hb2:¬(cap=i+m):=by omega
 have hb3:(i:Int)<=(n:Int)+(m:Int):=by omega
 have hb4:¬(cap=i):=by omega
 have mixed:Tryz.prog.follows Departure.mixedOrders=true:=by kernel_rfl
 clear hA2 hA3 hr1 hr2 hW1 hdl h1 h2 hus hul
 go_enter Tryz.func250,Tryz.ntmps250
 go_wp2_with (simp only [hov])
 go_region_law_o (refine step_copy_runI rfl _ _ 46 46 rfl _ _ (by simp [Act.eval,Act.put]) (by simp [Act.eval,Act.put]) (hcp1 _ _ _) ?_)
 go_wp2_with (at_builtin; refine wpList_copy_runI _ rfl _ _ 46 46 rfl _ _ rfl rfl (hcp2 _ _) ?_)
 go_ret
 exact ⟨rfl,by simp only [aL]⟩
def pA (k:Nat):List Value:=(Builtin.zeroCells (Value.agg #[.int .i64 0,.slice none 0 0]).cells k).toList
theorem qe (k:Nat):(pA k).length=k*2:=by
 unfold pA;rw [Jv,qQ];rfl
set_option maxHeartbeats 4000000 in
set_option maxRecDepth 100000 in
theorem Ev {w:World}{g n cap i vb m vc:Nat}{vs us vs2:List Value}{T T2:TypeId}(hrow:w.heap[g]? = some (.cells vs.toArray T (0,0))) (hrow2:w.heap[vb]? = some (.cells vs2.toArray T2 (0,0)))
  (hi:i<n) (hm:0<m) (hnc:n<=cap) (hroom:cap<n+m) (hcap:cap*2<=vs.length) (hbig:(n+m)*128<=140737488355328) (hul:us.length=m*2) (hus:∀(j:Nat) (v:Value),us[j]? = some v->vs2[j]? = some v)
  (h1:∀v∈vs.take (n*2),v.oneCell'=true) (h2:∀v∈us,v.oneCell'=true):
  Calls Tryz.prog 250 #[.slice (some ⟨g,0,none⟩) n cap,.int .i64 i,.slice (some ⟨vb,0,none⟩) m vc] w fun e w'=>
   e= .returned (.slice (some ⟨w.heap.size,0,none⟩) (n+m) (grownCap w (n+m) cap 114))/\
   w'=(((w.drew.alloc (.cells (vs.take (i*2)++pA (n+m-i)++pA (grownCap w (n+m) cap 114-(n+m))).toArray 114)).setRow w.heap.size (vs.take (i*2)++us++(pA (n+m-i)++pA (grownCap w (n+m) cap 114-(n+m))).drop (m*2)).toArray).drew).setRow w.heap.size
    (vs.take (i*2)++us++(vs.drop (i*2)).take ((n-i)*2)++(pA (n+m-i)++pA (grownCap w (n+m) cap 114-(n+m))).drop ((n+m-i)*2)).toArray:=by
 have hsz:(Tryz.prog.info? 114).map (·.size)=some 2:=by kernel_rfl
 obtain ⟨ti,hti,hzz⟩:=Option.map_eq_some_iff.1 (show (Tryz.prog.info? 114).map (fun i=>(i.zero,i.size,i.bytes))=some (some (Value.agg #[.int .i64 0,.slice none 0 0]),2,32) by kernel_rfl);simp only [iP] at hzz;obtain ⟨hz0,hz3,hz4⟩:=hzz;have hold:(Builtin.firstCells ti.size i (.slice (some ⟨g,0,none⟩) i cap)).run Tryz.prog w.drew= .ok (vs.take (i*2)).toArray w.drew:=by
  rw [hz3];exact Jt w.drew 2 i ⟨g,0,none⟩ i cap (vs.take (i*2)) (by rw [az]; omega) (fun j v hj=>by
   rw [gb,kR,kM w.drew g j vs.toArray T (0,0) hrow,cr];rw [aX] at hj;split at hj
   ·exact hj
   ·cases hj)
 obtain ⟨N,hN⟩:∃N,N=w.heap.size:=⟨_,rfl⟩;obtain ⟨Gc,hGc⟩:∃Gc,Gc=grownCap w (n+m) cap 114:=⟨_,rfl⟩;obtain ⟨Zs,hZs⟩:∃Zs,Zs=pA (n+m-i)++pA (Gc-(n+m)):=⟨_,rfl⟩;have hZl:Zs.length=(n+m-i)*2+(Gc-(n+m))*2:=by rw [hZs,ao,qe,qe]
 obtain ⟨W2,hW2⟩:∃W2,W2=w.drew.alloc (.cells (vs.take (i*2)++Zs).toArray 114):=⟨_,rfl⟩;have hkk:(n:Int)+(m:Int)-(i:Int)=((n+m-i:Nat):Int):=by omega
 have hrz:∀ty,(Builtin.append_ #[46,3] ty #[.slice (some ⟨g,0,none⟩) i cap,.int .i64 ((n:Int)+(m:Int)-(i:Int))]).run Tryz.prog w= .ok (.slice (some ⟨N,0,none⟩) (n+m) Gc) W2:=fun ty=>by
  have h:=Lib.run_append_grow_zeros (P:=Tryz.prog) w 46 3 ty 114 ti _ .i64 .i64 Tryz.underlying46 Tryz.underlying3 hti hz0 (some ⟨g,0,none⟩) i cap (vs.take (i*2)) hold (n+m-i) (by omega) (by omega) (by omega) (by omega) (by rw [hz4]; omega) (by rw [hz4,show i+(n+m-i)=n+m by omega]; exact growslice_fits hroom (by omega));rw [show i+(n+m-i)=n+m by omega] at h;rw [hkk,hN,hGc,hW2,h,hZs,<-hGc]
  congr 3
  rw [<-aL];apply JV;simp [pA]
 have hNg:g<N:=by rw [hN]; exact (Array.getElem?_eq_some_iff.1 hrow).1
 have hNv:vb<N:=by rw [hN]; exact (Array.getElem?_eq_some_iff.1 hrow2).1
 have r2N:W2.heap[N]? = some (.cells (vs.take (i*2)++Zs).toArray 114 (0,0)):=by
  rw [hW2,hN];exact heap_alloc_new w.drew _
 have r2g:W2.heap[g]? = some (.cells vs.toArray T (0,0)):=by
  rw [hW2,eK w.drew _ g (by rw [hN] at hNg; exact hNg)];exact hrow
 have r2v:W2.heap[vb]? = some (.cells vs2.toArray T2 (0,0)):=by
  rw [hW2,eK w.drew _ vb (by rw [hN] at hNv; exact hNv)];exact hrow2
 have ht:(vs.take (i*2)).length=i*2:=by rw [az]; omega
 have hGe:n+m<=Gc:=by rw [hGc]; exact I3 w _ _ _
 obtain ⟨W3,hW3⟩:∃W3,W3=W2.setRow N (vs.take (i*2)++us++Zs.drop (m*2)).toArray:=⟨_,rfl⟩;have hcpA:∀ty dc,(Builtin.copy_ #[46,46] ty #[.slice (some ⟨N,i*2,none⟩) (n+m-i) dc,.slice (some ⟨vb,0,none⟩) m vc]).run Tryz.prog W2= .ok (goInt m) W3:=fun ty dc=>by
  have:=uR (Q:=Tryz.prog) W2 46 46 ty 114 N (i*2) (n+m-i) dc ⟨vb,0,none⟩ m vc m 2 us _ 114 Tryz.underlying46 hsz (by simp only [Cs]; split <;> omega) hul
   (fun j v hj=>by
    rw [gb,kM W2 vb (0+j) vs2.toArray T2 (0,0) r2v,cr,kR];exact hus j v hj) r2N (by simp only [ao,ht,hZl]; omega) h2
  rw [hul,cR (by omega),aB (by omega),<-dd,List.drop_left' ht] at this;rw [hW3];exact this
 have r3N:W3.heap[N]? = some (.cells (vs.take (i*2)++us++Zs.drop (m*2)).toArray 114 (0,0)):=by
  rw [hW3];exact BX W2 N _ _ _ (0,0) r2N
 have r3g:W3.heap[g]? = some (.cells vs.toArray T (0,0)):=by
  rw [hW3,Hl W2 N g _ (by omega)];exact r2g
 have hcpB:∀ty dc sc,(Builtin.copy_ #[46,46] ty #[.slice (some ⟨N,(i+m)*2,none⟩) (n+m-(i+m)) dc,.slice (some ⟨g,i*2,none⟩) (n-i) sc]).run Tryz.prog W3.drew= .ok (goInt ((n-i:Nat):Int)) (W3.drew.setRow N (vs.take (i*2)++us++(vs.drop (i*2)).take ((n-i)*2)++Zs.drop ((n+m-i)*2)).toArray):=fun ty dc sc=>by
  have hdl:((vs.drop (i*2)).take ((n-i)*2)).length=(n-i)*2:=by rw [az,bm]; omega
  have hau:(vs.take (i*2)++us).length=(i+m)*2:=by rw [ao,ht,hul]; omega
  have:=uR (Q:=Tryz.prog) W3.drew 46 46 ty 114 N ((i+m)*2) (n+m-(i+m)) dc ⟨g,i*2,none⟩ (n-i) sc (n-i) 2 ((vs.drop (i*2)).take ((n-i)*2)) _ 114 Tryz.underlying46 hsz (by simp only [Cs]; split <;> omega) hdl
   (fun j v hj=>by
    rw [gb];rw [aX] at hj;split at hj
    ·rw [bW] at hj;rw [kM W3.drew g (i*2+j) vs.toArray T (0,0) r3g,cr];exact hj
    ·cases hj) r3N (by rw [hdl,ao,hau,bm,hZl]; omega) (fun v hv=>h1 v (by rw [show (n-i)*2=n*2-i*2 by omega,<-jg] at hv; exact fb hv))
  rw [hdl] at this;rw [this]
  congr 3
  rw [<-hau,E8,<-dd,jh,dd,show m*2+(n-i)*2=(n+m-i)*2 by omega]
 have hN2:w.heap.size=N:=hN.symm;have hG2:grownCap w (n+m) cap 114=Gc:=hGc.symm;rw [hG2,<-hZs,show vs.take (i*2)++pA (n+m-i)++pA (Gc-(n+m))=vs.take (i*2)++Zs by rw [hZs,aL],hN2,<-hW2,<-hW3];have hG63:Gc<=9223372036854775807:=by
  have:=zf w (n+m) cap 114 (by unfold maxLen; omega);rw [<-hGc] at this;unfold maxLen at this;omega
 have hGi:¬(Gc=i):=by omega
 have hGim:¬(Gc=i+m):=by omega
 have hci:¬(cap=i):=by omega
 have hw1:IntKind.i64.wrap ((i:Int)+(m:Int))=(i:Int)+(m:Int):=by rw [BR]; omega
 have hb1:(0:Int)<=(i:Int)+(m:Int):=by omega
 have hin:i<=n:=by omega
 have htn:((i:Int)+(m:Int)).toNat=i+m:=by omega
 have hb3:(i:Int)<=(n:Int):=by omega
 have hz1:¬((m:Int)=0):=by omega
 have hz2:¬((i:Int)=(n:Int)):=by omega
 have hz5:(cap:Int)<(n:Int)+(m:Int):=by omega
 have mixed:Tryz.prog.follows Departure.mixedOrders=true:=by kernel_rfl
 clear hkk hold hZs hZl hW2 hW3 r2N r2g r2v r3N r3g hN hN2 hG2 hGc ht hti hz0 hz3 hz4 h1 h2 hus hul hNg hNv hrow hrow2
 go_enter Tryz.func250,Tryz.ntmps250
 go_wp2_with (first
  | (at_builtin; refine Lib.wpList_append_run _ rfl _ _ _ _ rfl _ _ rfl rfl _ _ (hrz _) ?_)
  | (at_builtin; refine wpList_copy_runI _ rfl _ _ 46 46 rfl _ _ rfl rfl (hcpA _ _) ?_))
 go_region_law_o (refine step_copy_runI rfl _ _ 46 46 rfl (.slice (some ⟨N,(i+m)*2,none⟩) (n+m-(i+m)) (Gc-(i+m))) (.slice (some ⟨g,i*2,none⟩) (n-i) (cap-i)) (by simp [Act.eval,Act.put]) (by simp [Act.eval,Act.put]) (hcpB _ _ _) ?_)
 go_wp2
 go_ret
 exact ⟨rfl,by simp only [aL]⟩
section
variable {c c':Cx}{α:Type}{R:Rp α}
theorem _root_.Go.Lt.AR.take {vs:List Value}{xs:List α}(h:AR R c vs xs) (k:Nat):AR R c (vs.take (k*R.size)) (xs.take k):=fun i x hx=>by
 rw [aX] at hx;split at hx
 ·rename_i hik
  have hm:=kH (s:=R.size) hik;rw [jg,fT,cL (by omega)];exact h i x hx
 ·cases hx
theorem _root_.Go.Lt.AR.drop {vs:List Value}{xs:List α}(h:AR R c vs xs) (k:Nat):AR R c (vs.drop (k*R.size)) (xs.drop k):=fun i x hx=>by
 rw [bW] at hx;rw [dd,<-je];exact h _ x hx
theorem _root_.Go.Lt.AR.more {vs ts:List Value}{xs:List α}(h:AR R c vs xs) (hl:xs.length*R.size<=vs.length):AR R c (vs++ts) xs:=fun i x hx=>by
 have hi:=(List.getElem?_eq_some_iff.1 hx).1;have hm:=kH (s:=R.size) hi;rw [jW (by omega)];exact h i x hx
theorem _root_.Go.Lt.AR.app {vs us:List Value}{xs ys:List α}(h:AR R c vs xs) (hl:vs.length=xs.length*R.size) (k:AR R c us ys):AR R c (vs++us) (xs++ys):=fun i x hx=>by
 rw [gu] at hx;split at hx
 ·rename_i hi
  have hm:=kH (s:=R.size) hi;rw [jW (by omega)];exact h i x hx
 ·rename_i hi
  rw [show i*R.size=vs.length+(i-xs.length)*R.size by rw [hl,<-je]; congr 1; omega,<-dd,jh];exact k _ x hx
theorem _root_.Go.Lt.AR.ones {vs:List Value}{xs:List α}(h:AR R c vs xs) (hp:0<R.size):∀v∈vs.take (xs.length*R.size),v.oneCell'=true:=fun v hv=>by
 obtain ⟨j,hj⟩:=List.mem_iff_getElem?.1 hv;rw [aX] at hj;split at hj
 ·rename_i hlt
  have hq:j / R.size<xs.length:=by rw [Nat.div_lt_iff_lt_mul hp]; exact hlt
  have hc:=h _ _ (ag hq);refine R.one hc v (List.mem_iff_getElem?.2 ⟨j % R.size,?_⟩);rw [aX,af (JN _ hp),bW,Nat.mul_comm,Nat.div_add_mod];exact hj
 ·cases hj
end
def kI (p0:List ab) (p1:Int) (p2:List ab):Option (List ab):=if 0<=p1/\p1<p0.length/\1<=p2.length/\p0.length+p2.length<=far then some (p0.take p1.toNat++p2++p0.drop p1.toNat) else none
theorem _root_.Go.Lt.OA.some {c:Cx}{α:Type}{R:Rp α}{v:Value}{vs:List Value}{xs:List α}(h:OA R c v vs xs) (hn:1<=xs.length):∃g cap,v= .slice (some ⟨g,0,none⟩) xs.length cap/\xs.length<=cap/\cap<=maxLen/\cap*R.size<=vs.length/\AR R c vs xs:=by
 rcases h.2.1 with ⟨_,rfl⟩|⟨g,cap,h1,h2,h3,h4⟩
 ·simp at hn
 ·exact ⟨g,cap,h1,h2,h3,h4,h.2.2⟩
theorem wk {c0:Cx}{G:Gm}{F:List En}{v0 v2:Value}{u0 u2:List Value}(p0:List ab) (p1:Int) (p2:List ab) (O0:Own c0 G (es true ah v0 114 u0 p0::es true ah v2 114 u2 p2::F)) (h0:OA ah c0 v0 u0 p0) (h2:OA ah c0 v2 u2 p2){r:List ab}(H:kI p0 p1 p2=some r): Calls Tryz.prog 250 #[v0,.int .i64 p1,v2] c0.w (aR c0 fun c v=>∃y1:Value,∃y2:List Value,Own c G (es true ah y1 114 y2 r::F)/\v=y1/\OA ah c y1 y2 r):=by
 unfold kI at H;split at H
 ·rename_i hc;obtain ⟨hc1,hc2,hc3,hc4⟩:=hc;obtain ⟨i,rfl⟩:∃i:Nat,p1=(i:Int):=⟨p1.toNat,by omega⟩;rw [bE] at H;obtain rfl:=bi H;obtain ⟨g,cap,rfl,a1,a2,a3,a4⟩:=h0.some (by omega);obtain ⟨vb,vc,rfl,b1,b2,b3,b4⟩:=h2.some hc3;have hsz:ah.size=2:=rfl;have hon0:=O0.on 0 rfl g rfl;have hon2:=O0.on 1 rfl vb rfl;have hne:vb≠g:=fun e=>O0.m.2 (.inl 0) (.inl 1) _ _ rfl rfl (by simp) g rfl (by rw [<-e]; rfl);have o0:=a4.ones (by decide);have o2:=b4.ones (by decide);rw [hsz] at o0 o2 a3 b3;unfold maxLen at a2 b2;unfold far at hc4;have ht0:(u0.take (i*2)).length=i*2:=by rw [az]; omega
  have ht2:(u2.take (p2.length*2)).length=p2.length*2:=by rw [az]; omega
  have htl:((u0.drop (i*2)).take ((p0.length-i)*2)).length=(p0.length-i)*2:=by rw [az,bm]; omega
  have hus:∀(j:Nat) (v:Value),(u2.take (p2.length*2))[j]? = some v->u2[j]? = some v:=fun j v hj=>by
   rw [aX] at hj;split at hj
   ·exact hj
   ·cases hj
  have hAR:∀(c:Cx) (ts:List Value),c0.le c->AR ah c (u0.take (i*2)++u2.take (p2.length*2)++(u0.drop (i*2)).take ((p0.length-i)*2)++ts) (p0.take i++p2++p0.drop i):=fun c ts hle=>by
   have k0:AR ah c (u0.take (i*2)) (p0.take i):=(a4.take i).mono hle;have k2:AR ah c (u2.take (p2.length*2)) p2:=by
    have:=(b4.take p2.length).mono hle;rwa [aB (aq p2.length)] at this
   have k1:AR ah c ((u0.drop (i*2)).take ((p0.length-i)*2)) (p0.drop i):=by
    have:=((a4.drop i).take (p0.length-i)).mono hle;rwa [aB (l:=p0.drop i) (by rw [bm]; exact aq _)] at this
   refine AR.more (AR.app (AR.app k0 ?_ k2) ?_ k1) ?_
   ·rw [ht0,az,cL (by omega),hsz]
   ·rw [ao,ht0,ht2,ao,az,cL (by omega),hsz,je]
   ·simp only [ao];rw [ht0,ht2,htl,az,bm,cL (by omega),hsz];omega
  have hrl:(p0.take i++p2++p0.drop i).length=p0.length+p2.length:=by
   rw [ao,ao,az,bm];omega
  rcases aU cap (p0.length+p2.length) with hg|hg
  ·refine (Ev (vs:=u0) (us:=u2.take (p2.length*2)) (vs2:=u2) hon0.1 hon2.1 (by omega) (by omega) a1 hg a3 (by omega) ht2 hus o0 o2).mono ?_;rintro e w' ⟨rfl,rfl⟩;obtain ⟨Gc,hGc⟩:∃Gc,Gc=grownCap c0.w (p0.length+p2.length) cap 114:=⟨_,rfl⟩;have hGe:p0.length+p2.length<=Gc:=by rw [hGc]; exact I3 _ _ _ _
   have hGm:Gc<=maxLen:=by rw [hGc]; exact zf _ _ _ _ (by unfold maxLen; omega)
   rw [<-hGc];obtain ⟨Zs,hZs⟩:∃Zs,Zs=pA (p0.length+p2.length-i)++pA (Gc-(p0.length+p2.length)):=⟨_,rfl⟩;have hZl:Zs.length=(p0.length+p2.length-i)*2+(Gc-(p0.length+p2.length))*2:=by rw [hZs,ao,qe,qe]
   rw [aL (u0.take (i*2)),<-hZs];have hd:=Cx.drew_le c0;obtain ⟨c1,e1,e2,e3,e4,e5⟩:=Cx.new ⟨c0.w.drew,c0.A,c0.t⟩ (u0.take (i*2)++Zs) 114 0;have O1:=Own.cons (O0.keep hd) e2 (fun _=>id) (e:=⟨.slice (some ⟨c0.w.heap.size,0,none⟩) (p0.length+p2.length) Gc,114,u0.take (i*2)++Zs,0⟩) (fun b hb=>by
    simp only [blk,aV] at hb;subst hb;exact ⟨e3,e5⟩) (fun b hb=>by
    simp only [blk,aV] at hb;subst hb;exact aq _)
   obtain ⟨c2,f1,f2,f3,f4⟩:=Cx.row (m:=u0.take (i*2)++u2.take (p2.length*2)++Zs.drop (p2.length*2)) e3 0 e5 (fun o ho=>by omega) 0 (aq _);have O2:=Own.set O1 0 rfl f2 (fun b hb=>by rw [hb]; rfl) (e':=⟨.slice (some ⟨c0.w.heap.size,0,none⟩) (p0.length+p2.length) Gc,114,u0.take (i*2)++u2.take (p2.length*2)++Zs.drop (p2.length*2),0⟩) (fun b hb=>by
    simp only [blk,aV] at hb;subst hb;exact ⟨f3,f4⟩) (fun b hb=> .inl hb)
   have hd2:=Cx.drew_le c2;obtain ⟨c3,g1,g2,g3,g4⟩:=Cx.row (c:=⟨c2.w.drew,c2.A,c2.t⟩) (m:=u0.take (i*2)++u2.take (p2.length*2)++(u0.drop (i*2)).take ((p0.length-i)*2)++Zs.drop ((p0.length+p2.length-i)*2)) (T:=114) (b:=c0.w.heap.size) f3 0 f4 (fun o ho=>by omega) 0 (aq _);have O3:=Own.set (O2.keep hd2) 0 rfl g2 (fun b hb=>by rw [hb]; rfl) (e':=es true ah (.slice (some ⟨c0.w.heap.size,0,none⟩) (p0.length+p2.length) Gc) 114 (u0.take (i*2)++u2.take (p2.length*2)++(u0.drop (i*2)).take ((p0.length-i)*2)++Zs.drop ((p0.length+p2.length-i)*2)) (p0.take i++p2++p0.drop i)) (fun b hb=>by
    simp only [es,blk,aV] at hb;subst hb;exact ⟨g3,g4⟩) (fun b hb=> .inl hb)
   have hle:=hd.le.trans (e2.le.trans (f2.le.trans (hd2.le.trans g2.le)));have O4:=O3.selD 3 [0] (by kernel_rfl) (by kernel_rfl);refine ⟨_,c3,rfl,by rw [g1]; show _=(c2.w.drew).setRow _ _; rw [f1,e1]; rfl,hle,_,_,O4,rfl,by decide,.inr ⟨_,Gc,by rw [hrl],by rw [hrl]; exact hGe,hGm,?_⟩,hAR c3 _ hle⟩;rw [hsz,ao,ao,ao,ht0,ht2,htl,bm,hZl];omega
  ·refine (C9 (vs:=u0) (us:=u2.take (p2.length*2)) (vs2:=u2) hon0.1 hon2.1 (by omega) (by omega) hg a3 a2 hne ht2 hus o0 o2).mono ?_;rintro e w' ⟨rfl,rfl⟩;have hd:=Cx.drew_le c0;obtain ⟨c2,f1,f2,f3,f4⟩:=Cx.row (c:=⟨c0.w.drew,c0.A,c0.t⟩) (l:=u0) (T:=114) (b:=g) (m:=u0.take ((i+p2.length)*2)++(u0.drop (i*2)).take ((p0.length-i)*2)++u0.drop ((p0.length+p2.length)*2)) hon0.1 0 hon0.2 (fun o ho=>by omega) 0 (aq _);have O2:=Own.set (O0.keep hd) 0 rfl f2 (fun b hb=>by rw [hb]; rfl) (e':=⟨.slice (some ⟨g,0,none⟩) p0.length cap,114,u0.take ((i+p2.length)*2)++(u0.drop (i*2)).take ((p0.length-i)*2)++u0.drop ((p0.length+p2.length)*2),0⟩) (fun b hb=>by
    simp only [blk,aV] at hb;subst hb;exact ⟨f3,f4⟩) (fun b hb=> .inl hb)
   obtain ⟨c3,g1,g2,g3,g4⟩:=Cx.row (c:=c2) (m:=u0.take (i*2)++u2.take (p2.length*2)++(u0.drop (i*2)).take ((p0.length-i)*2)++u0.drop ((p0.length+p2.length)*2)) (T:=114) (b:=g) f3 0 f4 (fun o ho=>by omega) 0 (aq _);have O3:=Own.set O2 0 rfl g2 (fun b hb=>by rw [hb]; rfl) (e':=es true ah (.slice (some ⟨g,0,none⟩) (p0.length+p2.length) cap) 114 (u0.take (i*2)++u2.take (p2.length*2)++(u0.drop (i*2)).take ((p0.length-i)*2)++u0.drop ((p0.length+p2.length)*2)) (p0.take i++p2++p0.drop i)) (fun b hb=>by
    simp only [es,blk,aV] at hb;subst hb;exact ⟨g3,g4⟩) (fun b hb=> .inl hb)
   have hle:=hd.le.trans (f2.le.trans g2.le);have O4:=O3.selD 2 [0] (by kernel_rfl) (by kernel_rfl);refine ⟨_,c3,rfl,by rw [g1,f1],hle,_,_,O4,rfl,by decide,.inr ⟨g,cap,by rw [hrl],by rw [hrl]; exact hg,by unfold maxLen; exact a2,?_⟩,hAR c3 _ hle⟩;rw [hsz,ao,ao,ao,ht0,ht2,htl,bm];omega
 ·cases H
theorem Ew (k:Nat):∀v∈pA k,v.oneCell'=true:=fun v hv=>by
 unfold pA Builtin.zeroCells at hv;simp only [Kd,List.mem_map] at hv;obtain ⟨a,_,rfl⟩:=hv;have h2:(Value.agg #[.int .i64 0,.slice none 0 0]).cells= #[.int .i64 0,.slice none 0 0]:=rfl;rw [h2];show (#[Value.int .i64 0,Value.slice none 0 0][a % 2]!).oneCell'=true;rcases Nat.mod_two_eq_zero_or_one a with h|h <;> rw [h] <;> rfl
theorem uy {P:Program}{ops:Array Oper}{o:Oper}{a:Act}{w:World}{K:Act->World->Prop}{Q:Exit->Act->World->Prop}{E:Prop}
  (hg:o.guard=none) (d x:Operand) (dT sT:TypeId) (hop:o.op=Op.call { callee:=Callee.builtin Builtin.append,args:= #[d,x],argTypes:= #[dT,sT]})
  (v u:Value) (hd:a.eval d=v) (hx:a.eval x=u){v':Value}{w':World}(hr:(Builtin.append_ #[dT,sT] o.type #[v,u]).run P w= .ok v' w') (hK:K (a.put o.dst v') w'):
  if Region.wanted o (yielded ops a.tmps)=true then Oper.wp P o a w K Q else E:=by
 have hw:Region.wanted o (yielded ops a.tmps)=true:=by simp [Region.wanted,hg]
 rw [af hw];unfold Oper.wp;simp [execOp,hop,resolve,invoke,builtin,hd,hx,hr,Result.andThen];exact hK
theorem uu {P:Program}(w:World){ops:Array Oper}{rest:List Oper}{o:Oper}{a:Act}{Q:Exit->Act->World->Prop}(hgd:o.guard=none) (d:Operand) (t:TypeId)
  (ho:o.op= .call { callee:= .builtin .clear,args:= #[d],argTypes:= #[t]}) (v:Value) (hd:a.eval d=v){v':Value}{w':World}
  (hr:(Builtin.clear_ #[t] o.type #[v]).run P w= .ok v' w') (h:wpList P ops Q rest (a.put o.dst v') w'):wpList P ops Q (o::rest) a w:=
 wpList_plain hgd fun _ hK=>by
  unfold Oper.wp execOp;simp only [ho,resolve,invoke,builtin,ma,A3,px,List.map_toArray,pU,A5,hd,hr];exact hK _ _ h
theorem Dk {Q:Program}(w:World) (t ty E:TypeId) (g o k c:Nat) (z:Value) (vs:List Value) (T:TypeId) (hk:k≠0)
  (hu:Q.underlying t=some (.slice E)) (hz:∀w,(zeroValue E).run Q w= .ok z w) (hrow:w.heap[g]? = some (.cells vs.toArray T (0,0))) (hl:o+(Builtin.zeroCells z.cells k).toList.length<=vs.length) (h1:∀v∈(Builtin.zeroCells z.cells k).toList,v.oneCell'=true):
  (Builtin.clear_ #[t] ty #[.slice (some ⟨g,o,none⟩) k c]).run Q w= .ok (.tuple #[]) (w.setRow g (vs.take o++(Builtin.zeroCells z.cells k).toList++vs.drop (o+(Builtin.zeroCells z.cells k).toList.length)).toArray):=by
 have hst:=zX Q g o T (Builtin.zeroCells z.cells k).toList 0 vs.toArray w hrow (by simpa using hl) h1;simp only [rQ] at hst
 cases k with
 | zero=>exact absurd rfl hk
 | succ k=>
  simp [Builtin.clear_,cf hu,hz,hst]
set_option maxHeartbeats 4000000 in
set_option maxRecDepth 100000 in
theorem Gq {w:World}{g n cap i j:Nat}{vs:List Value}(hrow:w.heap[g]? = some (.cells vs.toArray 114 (0,0)))
  (hij:i<j) (hjn:j<=n) (hnc:n<=cap) (hcap:cap*2<=vs.length) (hc63:cap<=9223372036854775807) (h1:∀v∈vs.take (n*2),v.oneCell'=true):
  Calls Tryz.prog 253 #[.slice (some ⟨g,0,none⟩) n cap,.int .i64 i,.int .i64 j] w fun e w'=>
   e= .returned (.slice (some ⟨g,0,none⟩) (i+(n-j)) cap)/\w'=(w.drew.setRow g (vs.take (i*2)++(vs.drop (j*2)).take ((n-j)*2)++vs.drop ((i+(n-j))*2)).toArray).setRow g
    (vs.take (i*2)++(vs.drop (j*2)).take ((n-j)*2)++pA (j-i)++vs.drop (n*2)).toArray:=by
 obtain ⟨ti,hti,hzz⟩:=Option.map_eq_some_iff.1 (show (Tryz.prog.info? 114).map (fun i=>i.size)=some 2 by kernel_rfl);have hul:((vs.drop (j*2)).take ((n-j)*2)).length=(n-j)*2:=by rw [az,bm]; omega
 have ht:(vs.take (i*2)).length=i*2:=by rw [az]; omega
 obtain ⟨W1,hW1⟩:∃W1,W1=w.drew.setRow g (vs.take (i*2)++(vs.drop (j*2)).take ((n-j)*2)++vs.drop ((i+(n-j))*2)).toArray:=⟨_,rfl⟩;have hap:∀ty a k,(∀x v,((vs.drop (j*2)).take ((n-j)*2))[x]? = some v->w.drew.cell? (a.add x)=some v)->
   (Builtin.append_ #[46,46] ty #[.slice (some ⟨g,0,none⟩) i cap,.slice (some a) (n-j) k]).run Tryz.prog w.drew= .ok (.slice (some ⟨g,0,none⟩) (i+(n-j)) cap) W1:=fun ty a k hx=>by
  have:=Ke (P:=Tryz.prog) w.drew 46 ty 114 ti Tryz.underlying46 hti g i cap vs.toArray hrow a (n-j) k ((vs.drop (j*2)).take ((n-j)*2)) (by rw [hul,hzz]) hx (fun v hv=>h1 v (by rw [show (n-j)*2=n*2-j*2 by omega,<-jg] at hv; exact fb hv)) (by omega) (by rw [hzz,hul]; simp; omega);rw [this,hW1,hzz,hul];simp only [List.toList_toArray,tW];rw [show i*2+(n-j)*2=(i+(n-j))*2 by omega]
 have hr1:W1.heap[g]? = some (.cells (vs.take (i*2)++(vs.drop (j*2)).take ((n-j)*2)++vs.drop ((i+(n-j))*2)).toArray 114 (0,0)):=by
  rw [hW1];exact BX w.drew g vs.toArray _ 114 (0,0) hrow
 have hau:(vs.take (i*2)++(vs.drop (j*2)).take ((n-j)*2)).length=(i+(n-j))*2:=by rw [ao,ht,hul]; omega
 have hcl:∀ty c,(Builtin.clear_ #[46] ty #[.slice (some ⟨g,(i+(n-j))*2,none⟩) (n-(i+(n-j))) c]).run Tryz.prog W1= .ok (.tuple #[]) (W1.setRow g (vs.take (i*2)++(vs.drop (j*2)).take ((n-j)*2)++pA (j-i)++vs.drop (n*2)).toArray):=fun ty c=>by
  have hzl:=qe (j-i);unfold pA at hzl;have:=Dk (Q:=Tryz.prog) W1 46 ty 114 g ((i+(n-j))*2) (j-i) c (Value.agg #[.int .i64 0,.slice none 0 0]) _ 114 (by omega) Tryz.underlying46 (fun w=>by kernel_rfl) hr1 (by rw [hzl,ao,hau,bm]; omega) (fun v hv=>by
   exact Ew _ v hv)
  rw [hzl] at this;rw [show n-(i+(n-j))=j-i by omega,this]
  congr 3
  rw [<-hau,E8,<-dd,jh,dd,hau,show (i+(n-j))*2+(j-i)*2=n*2 by omega];rfl
 have hcell:∀(x:Nat) (v:Value),((vs.drop (j*2)).take ((n-j)*2))[x]? = some v->w.drew.cell? ((⟨g,j*2,none⟩:Addr).add x)=some v:=fun x v hx=>by
  rw [gb];rw [aX] at hx;split at hx
  ·rw [bW] at hx;rw [kM w.drew g (j*2+x) vs.toArray 114 (0,0) hrow,cr];exact hx
  ·cases hx
 have hnil:cap=j->∀(x:Nat) (v:Value),((vs.drop (j*2)).take ((n-j)*2))[x]? = some v->w.drew.cell? ((⟨g,0,none⟩:Addr).add x)=some v:=fun e x v hx=>by
  rw [show (n-j)*2=0 by omega,bN] at hx;cases hx
 have hWW:cap=j->W1=w.drew:=fun e=>by
  rw [hW1,show n-j=0 by omega,vO,bN,cM,rQ,fI];exact setRow_self w.drew g vs.toArray _ (0,0) hrow
 have hap1:=fun ty k=>hap ty ⟨g,j*2,none⟩ k hcell;have hap2:=fun (e:cap=j) ty k=>hap ty ⟨g,0,none⟩ k (hnil e);rw [<-hW1];have hmixed:Tryz.prog.follows Departure.mixedOrders=true:=by kernel_rfl
 have z1:¬((i:Int)=(j:Int)):=by omega
 have z2:(0:Int)<=(i:Int):=by omega
 have z3:(i:Int)<=(j:Int):=by omega
 have z4:(j:Int)<=(n:Int):=by omega
 have z5:¬(cap=i+(n-j)):=by omega
 have z6:i<=cap:=by omega
 have z7:j<=cap:=by omega
 have z8:i+(n-j)<=n:=by omega
 have z9:n<=cap:=hnc;have z10:¬(n=i):=by omega
 clear hW1 hul ht hr1 hau hap hcell hnil h1 hti hzz hcap hrow
 by_cases hcj:cap=j
 ·have hap3:=hap2 hcj
  clear hap1 hap2 hWW
  subst hcj;obtain rfl:n=cap:=by omega
  simp only [dG,rQ,vO,bN,cM] at hap3 hcl z5|-
  go_enter Tryz.func253,Tryz.ntmps253
  go_wp2_with fail
  go_region_law_o (refine uy rfl (.tmp 22) (.tmp 25) 46 46 rfl (.slice (some ⟨g,0,none⟩) i n) (.slice (some ⟨g,0,none⟩) 0 0) (by simp [Act.eval,Act.put]) (by simp [Act.eval,Act.put]) (hap3 _ _) ?_)
  go_wp2_with (at_builtin; refine uu _ rfl _ 46 rfl _ rfl (hcl _ _) ?_)
  go_ret
  exact ⟨rfl,by simp only [aL]⟩
 ·clear hap2 hWW
  go_enter Tryz.func253,Tryz.ntmps253
  go_wp2_with fail
  go_region_law_o (refine uy rfl (.tmp 22) (.tmp 25) 46 46 rfl (.slice (some ⟨g,0,none⟩) i cap) (.slice (some ⟨g,j*2,none⟩) (n-j) (cap-j)) (by simp [Act.eval,Act.put]) (by simp [Act.eval,Act.put]) (hap1 _ _) ?_)
  go_wp2_with (at_builtin; refine uu _ rfl _ 46 rfl _ rfl (hcl _ _) ?_)
  go_ret
  exact ⟨rfl,by simp only [aL]⟩
def kJ (p0:List ab) (p1 p2:Int):Option (List ab):=if 0<=p1/\p1<p2/\p2<=p0.length then some (p0.take p1.toNat++p0.drop p2.toNat) else none
theorem wm {c0:Cx}{G:Gm}{F:List En}{v0:Value}{u0:List Value}(p0:List ab) (p1 p2:Int) (O0:Own c0 G (es true ah v0 114 u0 p0::F)) (h0:OA ah c0 v0 u0 p0){r:List ab}(H:kJ p0 p1 p2=some r): Calls Tryz.prog 253 #[v0,.int .i64 p1,.int .i64 p2] c0.w (aR c0 fun c v=>∃y1:Value,∃y2:List Value,Own c G (es true ah y1 114 y2 r::F)/\v=y1/\OA ah c y1 y2 r):=by
 unfold kJ at H;split at H
 ·rename_i hc;obtain ⟨hc1,hc2,hc3⟩:=hc;obtain ⟨i,rfl⟩:∃i:Nat,p1=(i:Int):=⟨p1.toNat,by omega⟩;obtain ⟨j,rfl⟩:∃j:Nat,p2=(j:Int):=⟨p2.toNat,by omega⟩;rw [bE,bE] at H;obtain rfl:=bi H;obtain ⟨g,cap,rfl,a1,a2,a3,a4⟩:=h0.some (by omega);have hsz:ah.size=2:=rfl;have hon0:=O0.on 0 rfl g rfl;have o0:=a4.ones (by decide);rw [hsz] at o0 a3;unfold maxLen at a2;have ht0:(u0.take (i*2)).length=i*2:=by rw [az]; omega
  have htl:((u0.drop (j*2)).take ((p0.length-j)*2)).length=(p0.length-j)*2:=by rw [az,bm]; omega
  have hrl:(p0.take i++p0.drop j).length=i+(p0.length-j):=by
   rw [ao,az,bm];omega
  have hAR:∀(c:Cx) (ts:List Value),c0.le c->AR ah c (u0.take (i*2)++(u0.drop (j*2)).take ((p0.length-j)*2)++ts) (p0.take i++p0.drop j):=fun c ts hle=>by
   have k0:AR ah c (u0.take (i*2)) (p0.take i):=(a4.take i).mono hle;have k1:AR ah c ((u0.drop (j*2)).take ((p0.length-j)*2)) (p0.drop j):=by
    have:=((a4.drop j).take (p0.length-j)).mono hle;rwa [aB (l:=p0.drop j) (by rw [bm]; exact aq _)] at this
   refine AR.more (AR.app k0 ?_ k1) ?_
   ·rw [ht0,az,cL (by omega),hsz]
   ·rw [hrl,hsz,ao,ht0,htl];omega
  refine (Gq (vs:=u0) hon0.1 (by omega) (by omega) a1 a3 (by omega) o0).mono ?_;rintro e w' ⟨rfl,rfl⟩;have hd:=Cx.drew_le c0;obtain ⟨c2,f1,f2,f3,f4⟩:=Cx.row (c:=⟨c0.w.drew,c0.A,c0.t⟩) (l:=u0) (T:=114) (b:=g) (m:=u0.take (i*2)++(u0.drop (j*2)).take ((p0.length-j)*2)++u0.drop ((i+(p0.length-j))*2)) hon0.1 0 hon0.2 (fun o ho=>by omega) 0 (aq _);have O2:=Own.set (O0.keep hd) 0 rfl f2 (fun b hb=>by rw [hb]; rfl) (e':=⟨.slice (some ⟨g,0,none⟩) p0.length cap,114,u0.take (i*2)++(u0.drop (j*2)).take ((p0.length-j)*2)++u0.drop ((i+(p0.length-j))*2),0⟩) (fun b hb=>by
   simp only [blk,aV] at hb;subst hb;exact ⟨f3,f4⟩) (fun b hb=> .inl hb)
  obtain ⟨c3,g1,g2,g3,g4⟩:=Cx.row (c:=c2) (m:=u0.take (i*2)++(u0.drop (j*2)).take ((p0.length-j)*2)++pA (j-i)++u0.drop (p0.length*2)) (T:=114) (b:=g) f3 0 f4 (fun o ho=>by omega) 0 (aq _);have O3:=Own.set O2 0 rfl g2 (fun b hb=>by rw [hb]; rfl) (e':=es true ah (.slice (some ⟨g,0,none⟩) (i+(p0.length-j)) cap) 114 (u0.take (i*2)++(u0.drop (j*2)).take ((p0.length-j)*2)++pA (j-i)++u0.drop (p0.length*2)) (p0.take i++p0.drop j)) (fun b hb=>by
   simp only [es,blk,aV] at hb;subst hb;exact ⟨g3,g4⟩) (fun b hb=> .inl hb)
  have hle:=hd.le.trans (f2.le.trans g2.le);refine ⟨_,c3,rfl,by rw [g1,f1],hle,_,_,O3,rfl,by decide,.inr ⟨g,cap,by rw [hrl],by rw [hrl]; omega,by unfold maxLen; exact a2,?_⟩,?_⟩
  ·rw [hsz,ao,ao,ao,ht0,htl,qe,bm];omega
  ·rw [aL];exact hAR c3 _ hle
 ·cases H
end Go.Proofs.YtclmdpamofdoiaaGreatDoor
namespace Go.Proofs.YtclmdpamofdoiaaGreatDoor
open Go Go.Lt
set_option maxRecDepth 10000
set_option linter.unusedVariables false
attribute [local irreducible] W WL AC
open Tryz
variable {c0:Cx}{G:Gm}{F:List En}{sg:Sto}{v1 v2 v3 v4 v5 v6 v7 v8 v9 v10 v11 v12 v13 v14 v15 v16 v17 v18 v19 v20 v21 v22 v23 v24 v25 v26 v27 v28 v29 v30 v31 v32 v33 v34 v35 v36 v37 v38 v39 v40 v41 v42 v43 v44 v45 v46 v47 v48 v49 v50 v51 v52 v53 v54 v55 v56 v57 v58 v59 v60:Value}
def jY (p0:List ab) (p1:Int) (q0_0:Int):Option (List ab):=
 (eY p1).bind fun c=>
 (kI p0 q0_0 c).bind fun d=>
 (slc d 0 (p0.length:Int)).bind fun a=>
 ((idx a (w64 ((p0.length:Int)-1))).bind fun e=>
 if (e.Kind==2)=true then
 (idx a (w64 ((p0.length:Int)-1))).bind fun g=>
 (oK a (w64 ((p0.length:Int)-1)) (⟨0,([]:List Int)⟩:ab)).bind fun b=>
 some b
 else
 some a).bind fun f=>
 some f
theorem vG {e:Value}{q:List Value}{p:Nat}(b:List ab) (o:Int) (q0_0:Int) (O0:Own c0 G (es true ah e 114 q b::F)){r:List ab}(S:OA ah c0 e q b) (m2:∀j u,([I q0_0]:List Value)[j]? = some u->Im c0 p (0+j) u) (H:jY b o q0_0=some r): KP 249 #[e,I o,Q p] c0 fun c v=>∃t y2,Own c G (es true ah t 114 y2 r::F)/\v=t/\OA ah c t y2 r:=by
 unfold jY at H;refine en func249 rfl rfl<|KE Y<|wln<|KE e<|vx (lnO 3 cD S)<|Ku (b.length:Int)<|KA<|rD [] (Kp G0 []) O0 ?_;intro c3 l3 O4;have p5:Kp G0 [] c3:=Kp.nil0;refine ta 0 e<|tx 1 (fun c' i0=>l1 u_3 ((mm m2) 0 _ rfl))<|ta 2 (I o)<|ta 5 (I (b.length:Int))<|bn H fun s h6 H=>o1 3 (gc 3 (kX O4 o h6) ?_);rintro v7 M g1 ⟨_,u8,y,rfl,h9⟩;have k0:Kp G0 [] M:=Kp.nil0;refine ⟨.inr k0,?_⟩;have z:=y.sD 2 [1,0];refine bn H fun b1 U H=>o1 4 (gc 4 (wk b q0_0 s z S.m h9 U) ?_);rintro v19 h i1 ⟨_,m0,A,rfl,X⟩;have l0:Kp G0 [] h:=Kp.nil0;refine ⟨.inr l0,bn H fun c1 Z H=>?_⟩;obtain ⟨v30,a0,g,d⟩:=Own.cutH (k':= .i64) 0 A rfl cD X (by kernel_rfl) Z;refine AC.take 6 v30 rfl (by kernel_rfl) (by kernel_rfl) (fun c' i0=>(rx (by kernel_rfl) (a0 _))) (ta 7 v30<|dn (nrm<|bn H fun n a x=>W.seqJ (Jn h fun c l=>∃v36 f,Own c G (es true ah v36 114 f n::F)/\l= [(0,v36)]/\OA ah c v36 f n) ?_ ?_))
 ·refine KE v30<|Ku (b.length:Int)<|Kx ((b.length:Int)-1)<|bn a fun k i a=>vx (ixO cD d i)<|Kw (sb v30) ((w64 ((b.length:Int)-1)).toNat*2) ?_;obtain ⟨y0,b0,j0⟩:=OA.at d i;obtain ⟨v42,rfl,f1⟩:=b0;refine vr (I k.Kind) (rx (by kernel_rfl) (lM u_3 rfl (g.on 0 rfl) (d.blk i) (at1 (j:=0) j0 rfl)))<|Kq (k.Kind==2)<|KH a (fun d0 a=>?_) (fun d0 a=>?_)
  ·refine Kz v30<|Ku (b.length:Int)<|Kx ((b.length:Int)-1)<|va (.agg #[I 0,Y])<|bn a fun d1 e0 a=>vx (ixO cD d e0)<|bn a fun a1 f0 a=>md (Own.stW (R:=ah) (T:=114) (us:=[I 0,Y]) (x':=(⟨0,([]:List Int)⟩:ab)) (u:= .agg #[I 0,Y]) 0 g (by kernel_rfl) rfl d f0 rfl (by kernel_rfl) ⟨rfl,rfl,trivial⟩ rfl ⟨(Y),rfl,(Sl.nl _ _)⟩) ?_;rintro N j1 ⟨o0,D,g0⟩;refine wln ?_;cases a;exact jn N ⟨v30,o0,D,rfl,g0⟩
  refine KI ?_;cases a;exact jn h ⟨v30,m0,g,rfl,d⟩
 rintro e_ w_ ⟨P,e1,_,rfl,k1,rfl,v36,f,E,rfl,h0⟩;refine sr<|vv v36<|KG ?_;cases x;exact KC P ⟨v36,f,E,rfl,h0⟩
def ku (p0:List ab) (p1:Int):Option (List ab):=
 (bL (decide (p1<(p0.length:Int))) ((idx p0 p1).bind fun d=>
 some (d.Kind==3))).bind fun c=>
 if c then
 (idx p0 (w64 (p1-1))).bind fun e=>
 (oK p0 (w64 (p1-1)) (⟨0,([]:List Int)⟩:ab)).bind fun a=>
 (idx a p1).bind fun f=>
 (oK a p1 (⟨0,([]:List Int)⟩:ab)).bind fun b=>
 some b
 else
 some p0
theorem qH {a:Value}{e:List Value}(f:List ab) (b:Int) (o:Own c0 G (es true ah a 114 e f::F)){r:List ab}(d:OA ah c0 a e f) (H:ku f b=some r): KP 252 #[a,I b] c0 fun c v=>∃U,Own c G (es true ah a 114 U r::F)/\v= .tuple #[]/\OA ah c a U r:=by
 unfold ku at H;refine en func252 rfl rfl<|W.seq<|bn H fun y E H=>W.join (Jn c0 fun c l=>Own c G (es true ah a 114 e f::F)/\l= [(0,a),(1,I b),(15,B y)]) ?_ ?_
 ·clear H;refine KF b<|va a<|vx (lnO 3 cD d)<|Kr (b<(f.length:Int)) ?_;rcases bo (decide (b<(f.length:Int))) with g|g
  ·have n:=anT g E;refine vb g<|wa a<|wa (I b)<|wn<|bn n fun h p n=>vx (ixO cD d p)<|wa (Qo (sb a) (b.toNat*2))<|wn ?_;obtain ⟨l0,X,Z⟩:=OA.at d p;obtain ⟨v9,rfl,h0⟩:=X;refine vr (I h.Kind) (rx (by kernel_rfl) (lM u_3 rfl (o.on 0 rfl) (d.blk p) (at1 (j:=0) Z rfl)))<|Kt (h.Kind==3) ?_;cases n;exact Kq (h.Kind==3)<|KB c0 ⟨o,rfl⟩
  obtain rfl:=anF g E;exact vb g<|pz<|pz<|pz<|Kq false<|KB c0 ⟨o,rfl⟩
 rintro e_ w_ ⟨t,g0,_,rfl,i0,rfl,i,rfl⟩;refine nrm<|cn H (fun z H=>?_) (fun z H=>?_)
 ·refine Kz a<|Ku b<|Kx (b-1)<|va a<|Ku b<|vv (.agg #[I 0,Y])<|bn H fun d0 A H=>vx (ixO cD d.m A)<|bn H fun a0 D H=>md (Own.stW (R:=ah) (T:=114) (us:=[I 0,Y]) (x':=(⟨0,([]:List Int)⟩:ab)) (u:= .agg #[I 0,Y]) 0 i (by kernel_rfl) rfl d.m D rfl (by kernel_rfl) ⟨rfl,rfl,trivial⟩ rfl ⟨(Y),rfl,(Sl.nl _ _)⟩) ?_;rintro f0 j0 ⟨m0,q,k⟩;refine bn H fun e0 M H=>vx (ixO cD k M)<|bn H fun b0 N H=>md (Own.stW (R:=ah) (T:=114) (us:=[I 0,Y]) (x':=(⟨0,([]:List Int)⟩:ab)) (u:= .agg #[I 0,Y]) 0 q (by kernel_rfl) rfl k N rfl (by kernel_rfl) ⟨rfl,rfl,trivial⟩ rfl ⟨(Y),rfl,(Sl.nl _ _)⟩) ?_;rintro x k0 ⟨S,s,P⟩;refine WL.nil ?_;cases H;exact n0<|qq x ⟨S,s,rfl,P⟩
 refine W.skip ?_;cases H;exact n0<|qq t ⟨e,i,rfl,d.m⟩
def eI (sg:Sto) (p0:Option Nat) (p1:Int) (p2:Int) (p3_0_0:Int):Option Sto:=
 (bU sg p0).bind fun a=>
 (orE (decide (p1<0)) (some (decide (p1>=a)))).bind fun g=>
 (orE g (some (decide (p2<1)))).bind fun b=>
 if b then
 some sg
 else
 (fh sg p0).bind fun c=>
 (ku c p1).bind fun d=>
 (jY d (aE p2 (w64 (a-p1))) p3_0_0).bind fun e=>
 (ez sg p0 0 e).bind fun f=>
 some f.1
theorem oz {b3_0:Nat}(O0:Own c0 G F) (i:Rel c0 sg G) (hG:Gl [2,4] c0) (h:Option Nat) (a:Int) (d:Int) (p3_0_0:Int){r:Sto}(t:Pt 0 c0 v1 h) (m3:∀j u,([I p3_0_0]:List Value)[j]? = some u->Im c0 b3_0 (0+j) u) (H:eI sg h a d p3_0_0=some r): KP 248 #[v1,I a,I d,.func (.func 249) #[] #[Q b3_0]] c0 fun c v=>∃G_:Gm,Own c G_ F/\Rel c r G_/\v= .tuple #[]:=by
 unfold eI at H;refine en func248 rfl rfl<|KE v1<|bn H fun b h4 H=>cl (cQ O0 i h t h4) ?_;rintro v10 k l9 ⟨q,rfl⟩;refine Ku b<|KA<|W.seq<|bn H fun w0 o H=>bn H fun s g H=>W.join (Jn k fun c l=>Own c G F/\l= [(0,v1),(1,I a),(2,I d),(3,.func (.func 249) #[] #[Q b3_0]),(8,I b),(22,B s)]) ?_ ?_
 ·clear H;refine KF a<|Kr (a<0) ?_;rcases bo (decide (a<0)) with e|e
  ·obtain rfl:=orT e o;refine vb e<|pz<|ps<|Kq true ?_;have p:true=true:=rfl;obtain rfl:=orT p g;exact vb p<|pz<|Kq true<|KB k ⟨q,rfl⟩
  have D:=orF e o;refine vb e<|wa (I a)<|wa (I b)<|Ks (a>=b) ?_;cases D;refine Kr (a>=b) ?_;rcases bo (decide (a>=b)) with f|f
  ·obtain rfl:=orT f g;exact vb f<|pz<|Kq true<|KB k ⟨q,rfl⟩
  have E:=orF f g;refine vb f<|wa (I d)<|Ks (d<1) ?_;cases E;exact Kr (d<1)<|KB k ⟨q,rfl⟩
 rintro e_ w_ ⟨X,x0,_,rfl,z0,rfl,n,rfl⟩;refine nrm<|cn H (fun a0 H=>?_) (fun a0 H=>?_)
 ·refine W.ret<|thr ?_;cases H;exact r0<|qq X ⟨G,n,i.m,rfl⟩
 refine KI<|KE v1<|bn H fun x b0 H=>cl (mH n i.m h t.m b0) ?_;rintro v26 s0 a1 ⟨_,f1,M,rfl,d0⟩;refine va v26<|wln<|KE v26<|Ku a<|bn H fun y e0 H=>cl (qH x a M d0 e0) ?_;rintro v44 t0 b1 ⟨g1,N,rfl,f0⟩;refine wln<|Kz v1<|va (.func (.func 249) #[] #[Q b3_0])<|va v26<|Ku d<|Ku b<|Ku a<|Kx (b-a)<|Ku (aE d (w64 (b-a)))<|bn H fun z g0 H=>cl (vG y (aE d (w64 (b-a))) p3_0_0 N f0 (mm m3) g0) ?_;rintro v47 u0 c1 ⟨_,h1,P,rfl,h0⟩;obtain ⟨v0,j0,d1,R,i0⟩:=P.frz 0 rfl h0;refine WL.gh j0 (bn H fun q0 k0 H=>cl (kN R i.m (hG.m.le (by decide)) h 0 z t.m i0 k0) ?_);rintro i1 Z e1 ⟨_,A,S,U,rfl,y0⟩;refine WL.nil ?_;cases H;have T:=S.sD 1 [];exact n0<|qq Z ⟨A,T,U,rfl⟩
def lq (sg:Sto) (p0:Option Nat) (p1:Int) (p2:Int):Option Sto:=
 (eI sg p0 p1 p2 p1).bind fun a=>
 some a
theorem xu (j:Own c0 G F) (l:Rel c0 sg G) (hG:Gl [2,4] c0) (d:Option Nat) (a:Int) (b:Int){r:Sto}(o:Pt 0 c0 v1 d) (H:lq sg d a b=some r): KP 193 #[v1,I a,I b] c0 fun c v=>∃G_:Gm,Own c G_ F/\Rel c r G_/\v= .tuple #[]:=by
 unfold lq at H;refine en func193 rfl rfl<|sr<|me (bx 3 [I a] j) ?_;rintro v7 t u ⟨n,rfl,k,h⟩;refine wln<|Kz v1<|vx (l1 u_3 (h 0 _ rfl))<|Ku b<|va (.func (.func 249) #[] #[Q n])<|bn H fun s p H=>cl (oz k l.m (hG.m.le (by decide)) d a b a o.m h p) ?_;rintro v14 g q ⟨i,e,f,rfl⟩;refine WL.nil ?_;cases H;exact n0<|qq g ⟨i,e,f,rfl⟩
def jZ (p0:List ab) (p1:Int) (q0_0:Int):Option (List ab):=
 (ku p0 (w64 (q0_0+p1))).bind fun d=>
 (kJ d q0_0 (w64 (q0_0+p1))).bind fun a=>
 (eY p1).bind fun b=>
 (app a b).bind fun c=>
 some c
theorem vH {b:Value}{f:List Value}{e:Nat}(d:List ab) (a:Int) (q0_0:Int) (P:Own c0 G (es true ah b 114 f d::F)){r:List ab}(S:OA ah c0 b f d) (g:∀j u,([I q0_0]:List Value)[j]? = some u->Im c0 e (0+j) u) (H:jZ d a q0_0=some r): KP 251 #[b,I a,Q e] c0 fun c v=>∃h N,Own c G (es true ah h 114 N r::F)/\v=h/\OA ah c h N r:=by
 unfold jZ at H;refine en func251 rfl rfl<|KE Y<|wln<|KE b<|vx (l1 u_3 (g 0 _ rfl))<|Ku a<|Kx (q0_0+a)<|bn H fun M T H=>cl (qH d (w64 (q0_0+a)) P S T) ?_;rintro v12 b0 g0 ⟨u5,R,rfl,U⟩;refine wln<|KE b<|vx (l1 u_3 ((mm g) 0 _ rfl))<|vx (l1 u_3 ((mm g) 0 _ rfl))<|Ku a<|Kx (q0_0+a)<|bn H fun X q H=>cl (wm M q0_0 (w64 (q0_0+a)) R U q) ?_;rintro v15 d0 h0 ⟨_,l0,i,rfl,s⟩;refine Ku a<|bn H fun Z t H=>cl (kX i a t) ?_;rintro v25 e0 i0 ⟨_,m0,k,rfl,x⟩;obtain ⟨f0,z,j0,l,y⟩:=k.frz 0 rfl x;refine WL.gh z (bn H fun a0 A H=>me (ap ah (.agg #[I 0,Y]) 32 46 1 l s.m y A cD) ?_);rintro v43 p k0 ⟨E,n,D⟩;refine va v43<|KG ?_;cases H;have o:=n.sD 2 [1];exact KC p ⟨v43,E,o,rfl,D⟩
def eJ (sg:Sto) (p0:Option Nat) (p1:Int) (p2:Int) (p3_0_0:Int):Option Sto:=
 (bU sg p0).bind fun a=>
 (orE (decide (p1<0)) (some (decide (p1>=a)))).bind fun g=>
 (orE g (some (decide (p2<1)))).bind fun b=>
 if b then
 some sg
 else
 (fh sg p0).bind fun c=>
 (ku c p1).bind fun d=>
 (jZ d (aE p2 (w64 (a-p1))) p3_0_0).bind fun e=>
 (ez sg p0 0 e).bind fun f=>
 some f.1
theorem oA {b3_0:Nat}(O0:Own c0 G F) (i:Rel c0 sg G) (hG:Gl [2,4] c0) (h:Option Nat) (a:Int) (d:Int) (p3_0_0:Int){r:Sto}(t:Pt 0 c0 v1 h) (m3:∀j u,([I p3_0_0]:List Value)[j]? = some u->Im c0 b3_0 (0+j) u) (H:eJ sg h a d p3_0_0=some r): KP 248 #[v1,I a,I d,.func (.func 251) #[] #[Q b3_0]] c0 fun c v=>∃G_:Gm,Own c G_ F/\Rel c r G_/\v= .tuple #[]:=by
 unfold eJ at H;refine en func248 rfl rfl<|KE v1<|bn H fun b h4 H=>cl (cQ O0 i h t h4) ?_;rintro v10 k l9 ⟨q,rfl⟩;refine Ku b<|KA<|W.seq<|bn H fun w0 o H=>bn H fun s g H=>W.join (Jn k fun c l=>Own c G F/\l= [(0,v1),(1,I a),(2,I d),(3,.func (.func 251) #[] #[Q b3_0]),(8,I b),(22,B s)]) ?_ ?_
 ·clear H;refine KF a<|Kr (a<0) ?_;rcases bo (decide (a<0)) with e|e
  ·obtain rfl:=orT e o;refine vb e<|pz<|ps<|Kq true ?_;have p:true=true:=rfl;obtain rfl:=orT p g;exact vb p<|pz<|Kq true<|KB k ⟨q,rfl⟩
  have D:=orF e o;refine vb e<|wa (I a)<|wa (I b)<|Ks (a>=b) ?_;cases D;refine Kr (a>=b) ?_;rcases bo (decide (a>=b)) with f|f
  ·obtain rfl:=orT f g;exact vb f<|pz<|Kq true<|KB k ⟨q,rfl⟩
  have E:=orF f g;refine vb f<|wa (I d)<|Ks (d<1) ?_;cases E;exact Kr (d<1)<|KB k ⟨q,rfl⟩
 rintro e_ w_ ⟨X,x0,_,rfl,z0,rfl,n,rfl⟩;refine nrm<|cn H (fun a0 H=>?_) (fun a0 H=>?_)
 ·refine W.ret<|thr ?_;cases H;exact r0<|qq X ⟨G,n,i.m,rfl⟩
 refine KI<|KE v1<|bn H fun x b0 H=>cl (mH n i.m h t.m b0) ?_;rintro v26 s0 a1 ⟨_,f1,M,rfl,d0⟩;refine va v26<|wln<|KE v26<|Ku a<|bn H fun y e0 H=>cl (qH x a M d0 e0) ?_;rintro v44 t0 b1 ⟨g1,N,rfl,f0⟩;refine wln<|Kz v1<|va (.func (.func 251) #[] #[Q b3_0])<|va v26<|Ku d<|Ku b<|Ku a<|Kx (b-a)<|Ku (aE d (w64 (b-a)))<|bn H fun z g0 H=>cl (vH y (aE d (w64 (b-a))) p3_0_0 N f0 (mm m3) g0) ?_;rintro v47 u0 c1 ⟨_,h1,P,rfl,h0⟩;obtain ⟨v0,j0,d1,R,i0⟩:=P.frz 0 rfl h0;refine WL.gh j0 (bn H fun q0 k0 H=>cl (kN R i.m (hG.m.le (by decide)) h 0 z t.m i0 k0) ?_);rintro i1 Z e1 ⟨_,A,S,U,rfl,y0⟩;refine WL.nil ?_;cases H;have T:=S.sD 1 [];exact n0<|qq Z ⟨A,T,U,rfl⟩
def lu (sg:Sto) (p0:Option Nat) (p1:Int) (p2:Int):Option Sto:=
 (eJ sg p0 p1 p2 p1).bind fun a=>
 some a
theorem xv (j:Own c0 G F) (l:Rel c0 sg G) (hG:Gl [2,4] c0) (d:Option Nat) (a:Int) (b:Int){r:Sto}(o:Pt 0 c0 v1 d) (H:lu sg d a b=some r): KP 194 #[v1,I a,I b] c0 fun c v=>∃G_:Gm,Own c G_ F/\Rel c r G_/\v= .tuple #[]:=by
 unfold lu at H;refine en func194 rfl rfl<|sr<|me (bx 3 [I a] j) ?_;rintro v7 t u ⟨n,rfl,k,h⟩;refine wln<|Kz v1<|vx (l1 u_3 (h 0 _ rfl))<|Ku b<|va (.func (.func 251) #[] #[Q n])<|bn H fun s p H=>cl (oA k l.m (hG.m.le (by decide)) d a b a o.m h p) ?_;rintro v14 g q ⟨i,e,f,rfl⟩;refine WL.nil ?_;cases H;exact n0<|qq g ⟨i,e,f,rfl⟩
def eo (p0:List ab) (p1:Int):Option (List ab):=
 (cH (σ:=(List ab)×Int) (τ:=(List ab)) (((p0.length:Int)-0).toNat+1) (fun a=>
 if decide (a.2<(p0.length:Int)) then
 (idx p0 a.2).bind fun b=>
 ((bL (decide (p1<(p0.length:Int))) ((idx p0 p1).bind fun g=>
 some (g.Kind==3))).bind fun d=>
 (bL d ((orE (a.2==p1) (some ((w64 (a.2+1))==p1))).bind fun f=>
 some f)).bind fun e=>
 if e then
 some (0,([]:List Int))
 else
 some (b.Kind,b.Text)).bind fun c=>
 (app a.1 ([(⟨c.1,c.2⟩:ab)]:List ab)).bind fun h=>
 some (.inl (h,(w64 (a.2+1))))
 else
 some (.inr a.1)) (([]:List ab),0)).bind fun i=>
 some i
theorem lE (O0:Own c0 G F) (M:List ab) (b:Int){r:List ab}(q:Sl ah c0 v1 M) (H:eo M b=some r): KP 208 #[v1,I b] c0 fun c v=>∃y1 y2,Own c G (es true ah y1 114 y2 r::F)/\v=y1/\OA ah c y1 y2 r:=by
 unfold eo at H;refine en func208 rfl rfl<|KE Y<|wln<|KE Y<|KA<|KD 0<|wln<|W.block<|bn H fun g3 h3 H4=>lp h3 (fun a=>Jn c0 fun c l=>∃v5 s,Own c G (es true ah v5 114 s a.1::F)/\l= [(0,v1),(1,I b),(5,v5),(6,I a.2)]/\OA ah c v5 s a.1) (fun E ex e w=>ex= .exit 0/\(Jn c0 fun c l=>∃v7 P,Own c G (es true ah v7 114 P E::F)/\l= [(5,v7)]/\OA ah c v7 P E) e w) ?_ ?_ ?_
 ·clear H4 h3;intro a k3 f1 e2 H;revert f1 e2;rintro e_ w_ ⟨c9,t2,_,rfl,l9,rfl,v5,s,R,rfl,a0⟩;refine W.seq<|KD a.2<|va v1<|vx (ln 3 cD q.m)<|Kr (a.2<(M.length:Int))<|KH H (fun g1 H=>?_) (fun g1 H=>?_)
  ·refine KI<|KM<|KE v1<|Ku a.2<|bn H fun N b0 H=>?_;obtain ⟨l2,h1,b2⟩:=Sl.at (q.mono l9) (aS b0);obtain ⟨v21,rfl,A⟩:=h1;refine vx (ix cD q.m b0)<|vx (lN 114 b2)<|me (al 114 [I 0,Y] R) ?_;rintro v26 o2 i0 ⟨p,rfl,t0⟩;obtain ⟨x,y,z,rfl⟩:=((A.mono i0)).form;refine md (sA 114 [I N.Kind,.slice x y z] 0 t0 ⟨rfl,A.m.one,trivial⟩) ?_;rintro g x1 o;refine wln<|bn H fun f d t=>W.seqJ (Jn g fun c l=>∃v34,Own c G ((Eb p 114 [I f.1,v34])::es true ah v5 114 s a.1::F)/\l= [(0,v1),(1,I b),(5,v5),(6,I a.2),(7,Q p)]/\Sl (RI .i32) c v34 f.2) ?_ ?_
   ·refine W.seq<|bn d fun j2 d0 d=>bn d fun k0 D d=>W.join (Jn g fun c l=>Own c G ((Eb p 114 [I N.Kind,.slice x y z])::es true ah v5 114 s a.1::F)/\l= [(0,v1),(1,I b),(5,v5),(6,I a.2),(7,Q p),(40,B k0)]) ?_ ?_
    ·clear d;refine KF b<|va v1<|vx (ln 3 cD q.m)<|Kr (b<(M.length:Int)) ?_;rcases bo (decide (b<(M.length:Int))) with h|h
     ·have u:=anT h d0;refine vb h<|wa v1<|wa (I b)<|wn<|bn u fun k e0 u=>?_;obtain ⟨m2,j1,c2⟩:=Sl.at (q.mono (l9.trans (i0.trans x1))) (aS e0);obtain ⟨v43,rfl,x2⟩:=j1;refine vx (ix cD q.m e0)<|wa (Qo (sb v1) (so v1+b.toNat*2))<|wn<|vx (l1 u_3 (c2 0 _ rfl))<|Kt (k.Kind==3) ?_;cases u;refine Kq (k.Kind==3) ?_;rcases bo (k.Kind==3) with i|i
      ·have n:=anT i D;refine vb i<|wa (I a.2)<|wa (I b)<|Kt (a.2==b)<|wn<|bn n fun k2 f0 n=>?_;rcases bo (a.2==b) with j|j
       ·obtain rfl:=orT j f0;refine vb j<|pz<|pz<|Kt true ?_;cases n;exact Kq true<|KB g ⟨o,rfl⟩
       have s0:=orF j f0;refine vb j<|wa (I a.2)<|wa (I (w64 (a.2+1)))<|wa (I b)<|Kt ((w64 (a.2+1))==b)<|wn ?_;cases s0;refine Kq ((w64 (a.2+1))==b) ?_;cases n;exact Kq ((w64 (a.2+1))==b)<|KB g ⟨o,rfl⟩
      obtain rfl:=anF i D;exact vb i<|pz<|pz<|pz<|pz<|ps<|Kq false<|KB g ⟨o,rfl⟩
     obtain rfl:=anF h d0;refine vb h<|pz<|pz<|pz<|Kq false ?_;have g0:false=false:=rfl;obtain rfl:=anF g0 D;exact vb g0<|pz<|pz<|pz<|pz<|ps<|Kq false<|KB g ⟨o,rfl⟩
    rintro e_ w_ ⟨b1,u2,_,rfl,z2,rfl,S,rfl⟩;refine nrm<|cn d (fun k1 d=>?_) (fun k1 d=>?_)
    ·refine Kz (.agg #[I 0,Y])<|md (sA 114 [I 0,Y] 0 S ⟨rfl,rfl,trivial⟩) ?_;rintro c1 a3 u0;refine wln ?_;cases d;exact jn c1 ⟨(Y),u0,rfl,(Sl.nl _ _)⟩
    refine KI ?_;cases d;exact jn b1 ⟨(.slice x y z),S,rfl,A.m⟩
   rintro e_ w_ ⟨p2,v2,_,rfl,b3,rfl,v34,T,rfl,h0⟩;refine Kz v5<|vx (leN 114 0 [I f.1,v34] (T.on 0 rfl)) ?_;obtain ⟨U,X,Z,rfl⟩:=(h0).form;refine me (sl ah 114 [[I f.1,.slice U X Z]] ([(⟨f.1,f.2⟩:ab)]:List ab) T ⟨⟨(.slice U X Z),rfl,h0⟩,trivial⟩) ?_;rintro j3 q2 c3 ⟨i3,v0,m1⟩;obtain ⟨s2,q1,d3,w0,n1⟩:=v0.frz 0 rfl m1;refine WL.gh q1 (bn t fun n2 s1 t=>me (ap ah (.agg #[I 0,Y]) 32 46 2 w0 a0.m n1 s1 cD) ?_);rintro j0 d1 e3 ⟨d2,x0,t1⟩;refine va j0<|WL.nil<|KJ<|KF a.2<|Kv (a.2+1)<|WL.nil ?_;cases t;refine ⟨_,rfl,?_⟩;have y0:=x0.sD 3 [2];exact jn d1 ⟨j0,d2,y0,rfl,t1⟩
  refine W.exit<|thx ?_;cases H;exact ⟨_,rfl,rfl,jn c9 ⟨v5,s,R,rfl,a0⟩⟩
 ·have u1:OA ah c0 Y [] []:=OA.nil (aO _);have z0:=O0.addHole (e:=es true ah Y 114 [] ([]:List ab)) rfl;exact jn c0 ⟨(Y),[],z0,rfl,u1⟩
 rintro _ e_ w_ ⟨rfl,e1,w2,_,rfl,f3,rfl,v7,P,a1,rfl,w1⟩;refine KK<|sr<|vv v7<|KG ?_;cases H4;exact KC e1 ⟨v7,P,a1,rfl,w1⟩
def fQ (p0:List ab) (p1:Int) (p2:Int):Option ((List ab)×Bool):=
 (orE (decide (p1<0)) (some (decide (p1>=(p0.length:Int))))).bind fun l=>
 (orE l (some (decide (p2<1)))).bind fun h=>
 if h then
 some (p0,false)
 else
 (eo p0 p1).bind fun c=>
 (cH (σ:=(List ab)×Int) (τ:=(List ab)) (((p0.length:Int)-0).toNat+1) (fun a=>
 if decide (a.2<(p0.length:Int)) then
 (if decide (a.2<p1) then
 (idx c a.2).bind fun d=>
 some (d.Kind,d.Text)
 else
 some (0,([]:List Int))).bind fun f=>
 (if (decide (a.2>=(w64 (p1+(aE p2 (w64 ((p0.length:Int)-p1)))))))=true then
 (idx c (w64 (a.2-(aE p2 (w64 ((p0.length:Int)-p1)))))).bind fun e=>
 some (e.Kind,e.Text)
 else
 some (f.1,f.2)).bind fun b=>
 ((bL ((w64 (a.2+1))==(p0.length:Int)) (some (b.1==2))).bind fun i=>
 if i then
 some (0,([]:List Int))
 else
 some (b.1,b.2)).bind fun g=>
 (app a.1 ([(⟨g.1,g.2⟩:ab)]:List ab)).bind fun k=>
 some (.inl (k,(w64 (a.2+1))))
 else
 some (.inr a.1)) (([]:List ab),0)).bind fun j=>
 some (j,true)
theorem qK (O0:Own c0 G F) (d:List ab) (b:Int) (f:Int){r:(List ab)×Bool}(P:Sl ah c0 v1 d) (H:fQ d b f=some r): KP 142 #[v1,I b,I f] c0 fun c v=>∃y1,Own c G F/\v= .tuple #[y1,B r.2]/\Sl ah c y1 r.1:=by
 unfold fQ at H;refine en func142 rfl rfl<|KE Y<|Kq false<|KA<|W.seq<|bn H fun y4 h3 H=>bn H fun f2 h4 H=>W.join (Jn c0 fun c l=>Own c G F/\l= [(0,v1),(1,I b),(2,I f),(23,B f2)]) ?_ ?_
 ·clear H;refine KF b<|Kr (b<0) ?_;rcases bo (decide (b<0)) with h5|h5
  ·obtain rfl:=orT h5 h3;refine vb h5<|pz<|pz<|Kq true ?_;have h6:true=true:=rfl;obtain rfl:=orT h6 h4;exact vb h6<|pz<|Kq true<|KB c0 ⟨O0,rfl⟩
  have H7:=orF h5 h3;refine vb h5<|wa (I b)<|wa v1<|wn<|vx (ln 3 cD P)<|Ks (b>=(d.length:Int)) ?_;cases H7;refine Kr (b>=(d.length:Int)) ?_;rcases bo (decide (b>=(d.length:Int))) with h8|h8
  ·obtain rfl:=orT h8 h4;exact vb h8<|pz<|Kq true<|KB c0 ⟨O0,rfl⟩
  have H9:=orF h8 h4;refine vb h8<|wa (I f)<|Ks (f<1) ?_;cases H9;exact Kr (f<1)<|KB c0 ⟨O0,rfl⟩
 rintro N R ⟨d3,z4,_,rfl,e5,rfl,t0,rfl⟩;refine nrm<|cn H (fun k3 H=>?_) (fun k3 H=>?_)
 ·refine sr<|vv v1<|Kq false<|KG<|thr ?_;cases H;exact r2 (qq d3 ⟨v1,t0,rfl,P.m⟩)
 refine KI<|KD f<|va v1<|vx (ln 3 cD P.m)<|Ku b<|Kx ((d.length:Int)-b)<|vv (I (aE f (w64 ((d.length:Int)-b))))<|wln<|KE v1<|Ku b<|bn H fun h l3 H=>cl (lE t0 d b P.m l3) ?_;rintro v18 A f5 ⟨_,t,z2,rfl,s⟩;refine va v18<|wln<|KE Y<|KA<|KD 0<|wln<|W.block<|bn H fun t4 e1 s0=>lp e1 (fun a=>Jn A fun c l=>∃v29 n,Own c G (es true ah v29 114 n a.1::es true ah v18 114 t h::F)/\l= [(0,v1),(1,I b),(2,I (aE f (w64 ((d.length:Int)-b)))),(8,v18),(9,v29),(10,I a.2)]/\OA ah c v29 n a.1) (fun E ex e w=>ex= .exit 0/\(Jn A fun c l=>∃v31 m0,Own c G (es true ah v31 114 m0 E::es true ah v18 114 t h::F)/\l= [(9,v31)]/\OA ah c v31 m0 E) e w) ?_ ?_ ?_
 ·clear s0 e1;intro a l5 j3 z3 H;revert j3 z3;rintro N R ⟨e3,a5,_,rfl,h1,rfl,v29,n,u0,rfl,f1⟩;refine W.seq<|KD a.2<|va v1<|vx (ln 3 cD P.m)<|Kr (a.2<(d.length:Int))<|KH H (fun n3 H=>?_) (fun n3 H=>?_)
  ·refine KI<|KM<|KE (.agg #[I 0,Y])<|me (al 114 [I 0,Y] u0) ?_;rintro v44 x4 i1 ⟨g,rfl,a3⟩;refine md (sA 114 [I 0,Y] 0 a3 ⟨rfl,rfl,trivial⟩) ?_;rintro c1 j1 X;refine wln<|bn H fun q0 o w2=>W.seqJ (Jn c1 fun c l=>∃v49,Own c G ((Eb g 114 [I q0.1,v49])::es true ah v29 114 n a.1::es true ah v18 114 t h::F)/\l= [(0,v1),(1,I b),(2,I (aE f (w64 ((d.length:Int)-b)))),(8,v18),(9,v29),(10,I a.2),(11,Q g)]/\Sl (RI .i32) c v49 q0.2) ?_ ?_
   ·refine KD a.2<|Ku b<|Kr (a.2<b)<|KH o (fun o3 o=>?_) (fun o3 o=>?_)
    ·refine Kz v18<|Ku a.2<|bn o fun y h0 o=>vx (ixO cD s.m h0) ?_;obtain ⟨r4,p3,x3⟩:=OA.at (s.mono (h1.trans (i1.trans j1))) h0;obtain ⟨v55,rfl,i0⟩:=p3;refine vr (.agg #[I y.Kind,v55]) (rx (by kernel_rfl) (Au (T:=114) (l:=[I y.Kind,v55]) (by kernel_rfl) (by kernel_rfl) (X.on 2 rfl) (s.m.blk h0) (at2 (j:=0) x3 rfl))) ?_;obtain ⟨w0,x0,y0,rfl⟩:=(i0).form;refine md (sA 114 [I y.Kind,.slice w0 x0 y0] 0 X ⟨rfl,i0.one,trivial⟩) ?_;rintro f3 g5 b3;refine wln ?_;cases o;exact jn f3 ⟨(.slice w0 x0 y0),b3,rfl,i0.m⟩
    refine KI ?_;cases o;exact jn c1 ⟨(Y),X,rfl,(Sl.nl _ _)⟩
   rintro N R ⟨d1,b5,_,rfl,w3,rfl,v49,Z,rfl,s3⟩;refine bn w2 fun q p x2=>W.seqJ (Jn d1 fun c l=>∃x,Own c G ((Eb g 114 [I q.1,x])::es true ah v29 114 n a.1::es true ah v18 114 t h::F)/\l= [(0,v1),(1,I b),(2,I (aE f (w64 ((d.length:Int)-b)))),(8,v18),(9,v29),(10,I a.2),(11,Q g)]/\Sl (RI .i32) c x q.2) ?_ ?_
   ·refine KD a.2<|Ku b<|Ku (aE f (w64 ((d.length:Int)-b)))<|Kx (b+(aE f (w64 ((d.length:Int)-b))))<|Kr (a.2>=(w64 (b+(aE f (w64 ((d.length:Int)-b))))))<|KH p (fun t3 p=>?_) (fun t3 p=>?_)
    ·refine Kz v18<|Ku a.2<|Ku (aE f (w64 ((d.length:Int)-b)))<|Kx (a.2-(aE f (w64 ((d.length:Int)-b))))<|bn p fun z j0 p=>vx (ixO cD s.m j0) ?_;obtain ⟨s4,u3,y3⟩:=OA.at (s.mono (h1.trans (i1.trans (j1.trans w3)))) j0;obtain ⟨k1,rfl,k0⟩:=u3;refine vr (.agg #[I z.Kind,k1]) (rx (by kernel_rfl) (Au (T:=114) (l:=[I z.Kind,k1]) (by kernel_rfl) (by kernel_rfl) (Z.on 2 rfl) (s.m.blk j0) (at2 (j:=0) y3 rfl))) ?_;obtain ⟨z0,a1,b1,rfl⟩:=(k0).form;refine md (sA 114 [I z.Kind,.slice z0 a1 b1] 0 Z ⟨rfl,k0.one,trivial⟩) ?_;rintro g3 i5 c3;refine wln ?_;cases p;exact jn g3 ⟨(.slice z0 a1 b1),c3,rfl,k0.m⟩
    refine KI ?_;cases p;exact jn d1 ⟨v49,Z,rfl,s3⟩
   rintro N R ⟨D,c5,_,rfl,j5,rfl,x,a0,rfl,v3⟩;refine bn x2 fun i k S=>W.seqJ (Jn D fun c l=>∃M,Own c G ((Eb g 114 [I i.1,M])::es true ah v29 114 n a.1::es true ah v18 114 t h::F)/\l= [(0,v1),(1,I b),(2,I (aE f (w64 ((d.length:Int)-b)))),(8,v18),(9,v29),(10,I a.2),(11,Q g)]/\Sl (RI .i32) c M i.2) ?_ ?_
   ·refine W.seq<|bn k fun g2 g1 k=>W.join (Jn D fun c l=>Own c G ((Eb g 114 [I q.1,x])::es true ah v29 114 n a.1::es true ah v18 114 t h::F)/\l= [(0,v1),(1,I b),(2,I (aE f (w64 ((d.length:Int)-b)))),(8,v18),(9,v29),(10,I a.2),(11,Q g),(68,B g2)]) ?_ ?_
    ·clear k;refine KF a.2<|Kx (a.2+1)<|va v1<|vx (ln 3 cD P.m)<|Kq ((w64 (a.2+1))==(d.length:Int)) ?_;rcases bo ((w64 (a.2+1))==(d.length:Int)) with u|u
     ·have y2:=anT u g1;refine vb u<|wa (Q g)<|wn<|vx (le1 0 u_3 (a0.on 0 rfl))<|Kt (q.1==2) ?_;cases y2;exact Kq (q.1==2)<|KB D ⟨a0,rfl⟩
     obtain rfl:=anF u g1;exact vb u<|pz<|ps<|Kq false<|KB D ⟨a0,rfl⟩
    rintro N R ⟨i3,d5,_,rfl,k5,rfl,v0,rfl⟩;refine nrm<|cn k (fun i2 k=>?_) (fun i2 k=>?_)
    ·refine Kz (.agg #[I 0,Y])<|md (sA 114 [I 0,Y] 0 v0 ⟨rfl,rfl,trivial⟩) ?_;rintro c2 k4 n1;refine wln ?_;cases k;exact jn c2 ⟨(Y),n1,rfl,(Sl.nl _ _)⟩
    refine KI ?_;cases k;exact jn i3 ⟨x,v0,rfl,v3.m⟩
   rintro N R ⟨d4,i4,_,rfl,l4,rfl,M,U,rfl,f0⟩;refine Kz v29<|vx (leN 114 0 [I i.1,M] (U.on 0 rfl)) ?_;obtain ⟨b0,d0,e0,rfl⟩:=(f0).form;refine me (sl ah 114 [[I i.1,.slice b0 d0 e0]] ([(⟨i.1,i.2⟩:ab)]:List ab) U ⟨⟨(.slice b0 d0 e0),rfl,f0⟩,trivial⟩) ?_;rintro v4 e4 m4 ⟨u4,q1,j2⟩;obtain ⟨f4,l2,n4,s1,k2⟩:=q1.frz 0 rfl j2;refine WL.gh l2 (bn S fun w4 m2 S=>me (ap ah (.agg #[I 0,Y]) 32 46 2 s1 f1.m k2 m2 cD) ?_);rintro o0 d2 o4 ⟨v2,t1,n2⟩;refine va o0<|WL.nil<|KJ<|KF a.2<|Kv (a.2+1)<|WL.nil ?_;cases S;refine ⟨_,rfl,?_⟩;have u1:=t1.sD 4 [2,3];exact jn d2 ⟨o0,v2,u1,rfl,n2⟩
  refine W.exit<|thx ?_;cases H;exact ⟨_,rfl,rfl,jn e3 ⟨v29,n,u0,rfl,f1⟩⟩
 ·have o2:OA ah A Y [] []:=OA.nil (aO _);have w1:=z2.addHole (e:=es true ah Y 114 [] ([]:List ab)) rfl;exact jn A ⟨(Y),[],w1,rfl,o2⟩
 rintro _ N R ⟨rfl,g4,j4,_,rfl,p4,rfl,v31,m0,x1,rfl,q2⟩;refine KK<|sr<|vv v31<|Kq true<|KG ?_;cases s0;obtain ⟨e2,t2,q4,z1,s2⟩:=x1.frz 0 rfl q2;have b2:=z1.sD 2 [];exact BL t2 (r2 (qq e2 ⟨v31,b2,rfl,s2⟩))
def fR (p0:List ab) (p1:Int) (p2:Int):Option ((List ab)×Bool):=
 (orE (decide (p1<0)) (some (decide (p1>=(p0.length:Int))))).bind fun j=>
 (orE j (some (decide (p2<1)))).bind fun f=>
 if f then
 some (p0,false)
 else
 (eo p0 p1).bind fun h=>
 (eo h (w64 (p1+(aE p2 (w64 ((p0.length:Int)-p1)))))).bind fun b=>
 (cH (σ:=(List ab)×Int) (τ:=(List ab)) (((p0.length:Int)-0).toNat+1) (fun a=>
 if decide (a.2<(p0.length:Int)) then
 (if decide (a.2<p1) then
 (idx b a.2).bind fun c=>
 some (c.Kind,c.Text)
 else
 if (decide ((w64 (a.2+(aE p2 (w64 ((p0.length:Int)-p1)))))<(p0.length:Int)))=true then
 (idx b (w64 (a.2+(aE p2 (w64 ((p0.length:Int)-p1)))))).bind fun d=>
 some (d.Kind,d.Text)
 else
 some (0,([]:List Int))).bind fun e=>
 (app a.1 ([(⟨e.1,e.2⟩:ab)]:List ab)).bind fun i=>
 some (.inl (i,(w64 (a.2+1))))
 else
 some (.inr a.1)) (([]:List ab),0)).bind fun g=>
 some (g,true)
theorem qL (O0:Own c0 G F) (d:List ab) (b:Int) (g:Int){r:(List ab)×Bool}(y:Sl ah c0 v1 d) (H:fR d b g=some r): KP 143 #[v1,I b,I g] c0 fun c v=>∃y1,Own c G F/\v= .tuple #[y1,B r.2]/\Sl ah c y1 r.1:=by
 unfold fR at H;refine en func143 rfl rfl<|KE Y<|Kq false<|KA<|W.seq<|bn H fun i4 h3 H=>bn H fun k1 h4 H=>W.join (Jn c0 fun c l=>Own c G F/\l= [(0,v1),(1,I b),(2,I g),(23,B k1)]) ?_ ?_
 ·clear H;refine KF b<|Kr (b<0) ?_;rcases bo (decide (b<0)) with A|A
  ·obtain rfl:=orT A h3;refine vb A<|pz<|pz<|Kq true ?_;have h6:true=true:=rfl;obtain rfl:=orT h6 h4;exact vb h6<|pz<|Kq true<|KB c0 ⟨O0,rfl⟩
  have H7:=orF A h3;refine vb A<|wa (I b)<|wa v1<|wn<|vx (ln 3 cD y)<|Ks (b>=(d.length:Int)) ?_;cases H7;refine Kr (b>=(d.length:Int)) ?_;rcases bo (decide (b>=(d.length:Int))) with N|N
  ·obtain rfl:=orT N h4;exact vb N<|pz<|Kq true<|KB c0 ⟨O0,rfl⟩
  have H9:=orF N h4;refine vb N<|wa (I g)<|Ks (g<1) ?_;cases H9;exact Kr (g<1)<|KB c0 ⟨O0,rfl⟩
 rintro e_ w_ ⟨n2,j4,_,rfl,m4,rfl,a0,rfl⟩;refine nrm<|cn H (fun u2 H=>?_) (fun u2 H=>?_)
 ·refine sr<|vv v1<|Kq false<|KG<|thr ?_;cases H;exact r2 (qq n2 ⟨v1,a0,rfl,y.m⟩)
 refine KI<|KD g<|va v1<|vx (ln 3 cD y.m)<|Ku b<|Kx ((d.length:Int)-b)<|vv (I (aE g (w64 ((d.length:Int)-b))))<|wln<|KE v1<|Ku b<|bn H fun k v2 H=>cl (lE a0 d b y.m v2) ?_;rintro v18 d4 n4 ⟨_,R,f2,rfl,w2⟩;refine Ku b<|Ku (aE g (w64 ((d.length:Int)-b)))<|Kx (b+(aE g (w64 ((d.length:Int)-b)))) ?_;obtain ⟨e4,z2,o4,g2,x2⟩:=f2.frz 0 rfl w2;refine WL.gh z2 (bn H fun p a3 H=>cl (lE g2 k (w64 (b+(aE g (w64 ((d.length:Int)-b))))) x2 a3) ?_);rintro v32 t p4 ⟨_,S,i2,rfl,i⟩;refine va v32<|wln<|KE Y<|KA<|KD 0<|wln<|W.block<|bn H fun a4 s0 Z=>lp s0 (fun a=>Jn t fun c l=>∃v43 o,Own c G (es true ah v43 114 o a.1::es true ah v32 114 S p::es false ah v18 114 R k::F)/\l= [(0,v1),(1,I b),(2,I (aE g (w64 ((d.length:Int)-b)))),(8,v32),(9,v43),(10,I a.2)]/\OA ah c v43 o a.1) (fun u ex e w=>ex= .exit 0/\(Jn t fun c l=>∃v45 U,Own c G (es true ah v45 114 U u::es true ah v32 114 S p::es false ah v18 114 R k::F)/\l= [(9,v45)]/\OA ah c v45 U u) e w) ?_ ?_ ?_
 ·clear Z s0;intro a u4 t2 k3 H;revert t2 k3;rintro e_ w_ ⟨o2,k4,_,rfl,v0,rfl,v43,o,b0,rfl,t0⟩;refine W.seq<|KD a.2<|va v1<|vx (ln 3 cD y.m)<|Kr (a.2<(d.length:Int))<|KH H (fun b3 H=>?_) (fun b3 H=>?_)
  ·refine KI<|KM<|KE (.agg #[I 0,Y])<|me (al 114 [I 0,Y] b0) ?_;rintro v58 f4 w0 ⟨o0,rfl,j2⟩;refine md (sA 114 [I 0,Y] 0 j2 ⟨rfl,rfl,trivial⟩) ?_;rintro q0 x0 n;refine wln<|bn H fun h f z=>W.seqJ (Jn q0 fun c l=>∃x,Own c G ((Eb o0 114 [I h.1,x])::es true ah v43 114 o a.1::es true ah v32 114 S p::es false ah v18 114 R k::F)/\l= [(0,v1),(1,I b),(2,I (aE g (w64 ((d.length:Int)-b)))),(8,v32),(9,v43),(10,I a.2),(11,Q o0)]/\Sl (RI .i32) c x h.2) ?_ ?_
   ·refine KD a.2<|Ku b<|Kr (a.2<b)<|KH f (fun d3 f=>?_) (fun d3 f=>?_)
    ·refine Kz v32<|Ku a.2<|bn f fun q D f=>vx (ixO cD i.m D) ?_;obtain ⟨y3,e3,i3⟩:=OA.at (i.mono (v0.trans (w0.trans x0))) D;obtain ⟨y0,rfl,E⟩:=e3;refine vr (.agg #[I q.Kind,y0]) (rx (by kernel_rfl) (Au (T:=114) (l:=[I q.Kind,y0]) (by kernel_rfl) (by kernel_rfl) (n.on 2 rfl) (i.m.blk D) (at2 (j:=0) i3 rfl))) ?_;obtain ⟨e0,f0,g0,rfl⟩:=(E).form;refine md (sA 114 [I q.Kind,.slice e0 f0 g0] 0 n ⟨rfl,E.one,trivial⟩) ?_;rintro q2 q4 k2;refine wln ?_;cases f;exact jn q2 ⟨(.slice e0 f0 g0),k2,rfl,E.m⟩
    refine KD a.2<|Ku (aE g (w64 ((d.length:Int)-b)))<|Kx (a.2+(aE g (w64 ((d.length:Int)-b))))<|va v1<|vx (ln 3 cD y.m)<|Kr ((w64 (a.2+(aE g (w64 ((d.length:Int)-b)))))<(d.length:Int))<|KH f (fun f3 f=>?_) (fun f3 f=>?_)
    ·refine Kz v32<|Ku a.2<|Ku (aE g (w64 ((d.length:Int)-b)))<|Kx (a.2+(aE g (w64 ((d.length:Int)-b))))<|bn f fun s M f=>vx (ixO cD i.m M) ?_;obtain ⟨z3,g3,j3⟩:=OA.at (i.mono (v0.trans (w0.trans x0))) M;obtain ⟨z0,rfl,P⟩:=g3;refine vr (.agg #[I s.Kind,z0]) (rx (by kernel_rfl) (Au (T:=114) (l:=[I s.Kind,z0]) (by kernel_rfl) (by kernel_rfl) (n.on 2 rfl) (i.m.blk M) (at2 (j:=0) j3 rfl))) ?_;obtain ⟨h0,i0,j0,rfl⟩:=(P).form;refine md (sA 114 [I s.Kind,.slice h0 i0 j0] 0 n ⟨rfl,P.one,trivial⟩) ?_;rintro s2 r4 l2;refine wln ?_;cases f;exact jn s2 ⟨(.slice h0 i0 j0),l2,rfl,P.m⟩
    refine KI ?_;cases f;exact jn q0 ⟨(Y),n,rfl,(Sl.nl _ _)⟩
   rintro e_ w_ ⟨g4,l4,_,rfl,s4,rfl,x,d0,rfl,u0⟩;refine Kz v43<|vx (leN 114 0 [I h.1,x] (d0.on 0 rfl)) ?_;obtain ⟨k0,l0,m0,rfl⟩:=(u0).form;refine me (sl ah 114 [[I h.1,.slice k0 l0 m0]] ([(⟨h.1,h.2⟩:ab)]:List ab) d0 ⟨⟨(.slice k0 l0 m0),rfl,u0⟩,trivial⟩) ?_;rintro b4 o3 t3 ⟨t4,m2,n1⟩;obtain ⟨p3,s1,u3,b1,q1⟩:=m2.frz 0 rfl n1;refine WL.gh s1 (bn z fun c4 t1 z=>me (ap ah (.agg #[I 0,Y]) 32 46 2 b1 t0.m q1 t1 cD) ?_);rintro X i1 v3 ⟨d2,c1,u1⟩;refine va X<|WL.nil<|KJ<|KF a.2<|Kv (a.2+1)<|WL.nil ?_;cases z;refine ⟨_,rfl,?_⟩;have d1:=c1.sD 5 [2,3,4];exact jn i1 ⟨X,d2,d1,rfl,u1⟩
  refine W.exit<|thx ?_;cases H;exact ⟨_,rfl,rfl,jn o2 ⟨v43,o,b0,rfl,t0⟩⟩
 ·have w1:OA ah t Y [] []:=OA.nil (aO _);have e1:=i2.addHole (e:=es true ah Y 114 [] ([]:List ab)) rfl;exact jn t ⟨(Y),[],e1,rfl,w1⟩
 rintro _ e_ w_ ⟨rfl,q3,s3,_,rfl,w3,rfl,v45,U,f1,rfl,x1⟩;refine KK<|sr<|vv v45<|Kq true<|KG ?_;cases Z;obtain ⟨j1,b2,x3,g1,z1⟩:=f1.frz 0 rfl x1;have h1:=g1.sD 3 [];exact BL b2 (r2 (qq j1 ⟨v45,h1,rfl,z1⟩))
def jQ (p0:Int) (p1:Int) (p2:Int) (p3:Int):Option ai:=
 (gR (⟨p0,p1,false⟩:ai) p2 p3).bind fun a=>
 some a
theorem tT (j:Own c0 G F) (b:Int) (d:Int) (e:Int) (f:Int){r:ai}(H:jQ b d e f=some r): KP 121 #[I b,I d,I e,I f] c0 fun c v=>Own c G F/\v= .agg #[I r.Row,I r.Col,B r.Pending]:=by
 unfold jQ at H;refine en func121 rfl rfl<|sr<|me (al 29 [I 0,I 0,B false] j) ?_;rintro v4 s t ⟨q,rfl,k⟩;refine wln<|KD b<|Ku d<|va (.agg #[I b,I d,B false])<|Ku e<|Ku f<|bn H fun a m H=>cl (fa k (⟨b,d,false⟩:ai) e f m) ?_;rintro v11 n o ⟨l,rfl⟩;refine md (sA 29 [I a.Row,I a.Col,B a.Pending] 0 l ⟨rfl,rfl,rfl,trivial⟩) ?_;rintro h p g;refine KG ?_;obtain rfl:=si H;have i:=g.sD 1 [];exact km (c:=h) (vs:=[I a.Row,I a.Col,B a.Pending]) rfl (by kernel_rfl) (by kernel_rfl) (by kernel_rfl) (g.on 0 rfl _ rfl).1 ⟨_,h,rfl,rfl,pt,i,rfl⟩
def qj (p0:List ab) (p1:Int):Option (List ab):=
 (slc p0 0 p1).bind fun a=>
 ((bL (decide (p1>0)) ((idx a (w64 (p1-1))).bind fun d=>
 some (d.Kind==2))).bind fun b=>
 if b then
 (idx a (w64 (p1-1))).bind fun f=>
 (oK a (w64 (p1-1)) (⟨0,([]:List Int)⟩:ab)).bind fun c=>
 some c
 else
 some a).bind fun e=>
 some e
theorem Dn {h:Value}{f:List Value}(x:List ab) (a:Int) (O0:Own c0 G (es true ah h 114 f x::F)){r:List ab}(h1:OA ah c0 h f x) (H:qj x a=some r): KP 185 #[h,I a] c0 fun c v=>∃y y2,Own c G (es true ah y 114 y2 r::F)/\v=y/\OA ah c y y2 r:=by
 unfold qj at H;refine en func185 rfl rfl<|KE Y<|wln<|KE h<|vv (I a)<|bn H fun d0 h2 H=>?_;obtain ⟨v3,h4,s,i⟩:=Own.cutHM (k2:= .i64) (k':= .i64) 0 O0 rfl cD h1 (by kernel_rfl) h2;refine vr v3 (rx (by kernel_rfl) (h4 _))<|va v3<|wln<|bn H fun q b H8=>W.seqJ (Jn c0 fun c l=>∃v9 g,Own c G (es true ah v9 114 g q::F)/\l= [(0,v9)]/\OA ah c v9 g q) ?_ ?_
 ·refine W.seq<|bn b fun t p b=>W.join (Jn c0 fun c l=>Own c G (es true ah v3 114 f d0::F)/\l= [(0,v3),(1,I a),(19,B t)]) ?_ ?_
  ·clear b;refine KF a<|Kr (a>0) ?_;rcases bo (decide (a>0)) with d|d
   ·have k:=anT d p;refine vb d<|wa v3<|wa (I a)<|wa (I (w64 (a-1)))<|wn<|bn k fun e n k=>vx (ixO cD i n)<|wa (Qo (sb v3) ((w64 (a-1)).toNat*2))<|wn ?_;obtain ⟨l0,N,a0⟩:=OA.at i n;obtain ⟨v18,rfl,u0⟩:=N;refine vr (I e.Kind) (rx (by kernel_rfl) (lM u_3 rfl (s.on 0 rfl) (i.blk n) (at1 (j:=0) a0 rfl)))<|Kt (e.Kind==2) ?_;cases k;exact Kq (e.Kind==2)<|KB c0 ⟨s,rfl⟩
   obtain rfl:=anF d p;exact vb d<|pz<|pz<|pz<|ps<|Kq false<|KB c0 ⟨s,rfl⟩
  rintro e_ w_ ⟨D,s0,_,rfl,v0,rfl,o,rfl⟩;refine nrm<|cn b (fun P b=>?_) (fun P b=>?_)
  ·refine Kz v3<|Ku a<|Kx (a-1)<|va (.agg #[I 0,Y])<|bn b fun q0 S b=>vx (ixO cD i.m S)<|bn b fun o0 U b=>md (Own.stW (R:=ah) (T:=114) (us:=[I 0,Y]) (x':=(⟨0,([]:List Int)⟩:ab)) (u:= .agg #[I 0,Y]) 0 o (by kernel_rfl) rfl i.m U rfl (by kernel_rfl) ⟨rfl,rfl,trivial⟩ rfl ⟨(Y),rfl,(Sl.nl _ _)⟩) ?_;rintro E w0 ⟨b0,z,X⟩;refine wln ?_;cases b;exact jn E ⟨v3,b0,z,rfl,X⟩
  refine KI ?_;cases b;exact jn D ⟨v3,f,o,rfl,i.m⟩
 rintro e_ w_ ⟨M,t0,_,rfl,x0,rfl,v9,g,A,rfl,Z⟩;refine sr<|vv v9<|KG ?_;cases H8;exact KC M ⟨v9,g,A,rfl,Z⟩
def uP (sg:Sto) (p0:List ab):Option (Sto×(Option Nat)):=
 (su sg p0).bind fun a=>
 if (!a.2.2.isNil)=true then
 some (a.1,(none:Option Nat))
 else
 some (a.1,a.2.1)
theorem ER (l:Own c0 G F) (m:Rel c0 sg G) (hG:Gl [2,4] c0) (f:List ab){r:Sto×(Option Nat)}(o:Sl ah c0 v1 f) (H:uP sg f=some r): KP 186 #[v1] c0 fun c v=>∃k,∃G_:Gm,Own c G_ F/\Rel c r.1 G_/\v=k/\Pt 0 c k r.2:=by
 unfold uP at H;refine en func186 rfl rfl<|KE (.pointer none)<|wln<|KE v1<|bn H fun j p H=>cl (EP l m (hG.le (by decide)) f o p) ?_;rintro v13 e t ⟨v4,v6,g,h,d,rfl,q,s⟩;refine va (.tuple #[v4,v6])<|va v4<|va v6<|va v4<|va v6<|KA<|KE v6<|vr (B (!j.2.2.isNil)) (by rcases (s).cs with ⟨a,b⟩|⟨n,a,b⟩|⟨n,a,b⟩ <;> (subst a; rw [b]; kernel_rfl))<|KH H (fun i H=>?_) (fun i H=>?_)
 ·refine KE (.pointer none)<|KG<|thr ?_;cases H;exact KC e ⟨(.pointer none),g,h,d,rfl,rfl⟩
 refine KI<|sr<|vv v4<|KG ?_;cases H;exact KC e ⟨v4,g,h,d,rfl,q⟩
def kx (sg:Sto) (p0:Option Nat) (p1:Int):Option (Sto×(Option Nat)):=
 if p0.isNone then
 some (sg,(none:Option Nat))
 else
 (fh sg p0).bind fun c=>
 (bU sg p0).bind fun d=>
 (qj c (aE (aK 1 (aE p1 1024)) d)).bind fun a=>
 (eY (w64 ((aK 1 (aE p1 1024))-(a.length:Int)))).bind fun e=>
 (app a e).bind fun f=>
 (uP sg f).bind fun b=>
 some (b.1,b.2)
theorem zp (o:Own c0 G F) (f:Rel c0 sg G) (hG:Gl [2,4] c0) (b:Option Nat) (a:Int){r:Sto×(Option Nat)}(j:Pt 0 c0 v1 b) (H:kx sg b a=some r): KP 120 #[v1,I a] c0 fun c v=>∃y1,∃G_:Gm,Own c G_ F/\Rel c r.1 G_/\v=y1/\Pt 0 c y1 r.2:=by
 unfold kx at H;refine en func120 rfl rfl<|KE (.pointer none)<|KA<|KE v1<|vr (B b.isNone) (by rcases (j).cs with ⟨g,i⟩|⟨b_,g,i⟩ <;> (subst g; rw [i]; kernel_rfl))<|KH H (fun h3 H=>?_) (fun h3 H=>?_)
 ·refine KE (.pointer none)<|KG<|thr ?_;cases H;exact KC c0 ⟨(.pointer none),G,o,f,rfl,rfl⟩
 refine KI<|KD a<|Ku (aE a 1024)<|vv (I (aK 1 (aE a 1024)))<|wln<|KE v1<|bn H fun k h4 H=>cl (mH o f b j h4) ?_;rintro v5 k0 u0 ⟨_,u6,O9,rfl,h7⟩;refine Ku (aK 1 (aE a 1024))<|va v1<|bn H fun d E H=>cl (cQ O9 f.m b j.m E) ?_;rintro v20 l0 v0 ⟨p,rfl⟩;refine Ku (aE (aK 1 (aE a 1024)) d)<|bn H fun e M H=>cl (Dn k (aE (aK 1 (aE a 1024)) d) p h7.m M) ?_;rintro v23 m0 w0 ⟨_,c1,q,rfl,h⟩;refine va v23<|wln<|KE v23<|Ku (aK 1 (aE a 1024))<|va v23<|vx (lnO 3 cD h)<|Kx ((aK 1 (aE a 1024))-(e.length:Int))<|bn H fun i0 N H=>cl (kX q (w64 ((aK 1 (aE a 1024))-(e.length:Int))) N) ?_;rintro v33 o0 x0 ⟨_,d1,s,rfl,P⟩;obtain ⟨q0,S,y0,t,R⟩:=s.frz 0 rfl P;refine WL.gh S (bn H fun l T H=>me (ap ah (.agg #[I 0,Y]) 32 46 1 t h.m R T cD) ?_);rintro v51 s0 z0 ⟨e1,u,U⟩;obtain ⟨t0,Z,a1,x,X⟩:=u.frz 1 rfl U;refine WL.gh Z (bn H fun j0 a0 H=>cl (ER x f.m (hG.m.le (by decide)) l X a0) ?_);rintro v57 D b1 ⟨_,n,y,A,rfl,b0⟩;refine va v57<|KG ?_;cases H;have z:=y.sD 2 [];exact KC D ⟨v57,n,z,A,rfl,b0⟩
def jO (sg:Sto) (p0:Option Nat) (p1:Int) (p2:Int):Option Sto:=
 (orE p0.isNone ((p0).bind fun u=>
 (sg.place_Pen[u]?).bind fun v=>
 some v.G.isNone)).bind fun t=>
 if t then
 some sg
 else
 (p0).bind fun l=>
 (sg.place_Pen[l]?).bind fun e=>
 (ci sg e.G).bind fun o=>
 (bQ sg e.G).bind fun p=>
 (gR e.At o p).bind fun b=>
 (nU sg (aK 1 (aE p1 1024)) (aK 1 (aE p2 1024))).bind fun c=>
 (cH (σ:=Int×Sto) (τ:=Sto) (((aK 1 (aE p2 1024))-0).toNat+1) (fun a=>
 if decide (a.1<(aK 1 (aE p2 1024))) then
 ((p0).bind fun m=>
 (a.2.place_Pen[m]?).bind fun n=>
 (bF a.2 n.G (w64 ((aK 0 (w64 ((w64 (b.Row-(aK 1 (aE p2 1024))))+1)))+a.1))).bind fun j=>
 if (!j.isNone)=true then
 (kx a.2 j (aK 1 (aE p1 1024))).bind fun k=>
 (fi k.1 c.2 a.1 k.2).bind fun q=>
 some q.1
 else
 some a.2).bind fun s=>
 some (.inl ((w64 (a.1+1)),s))
 else
 some (.inr a.2)) (0,c.1)).bind fun i=>
 (p0).bind fun d=>
 (i.place_Pen[d]?).bind fun f=>
 (i.set_place_Pen d (⟨c.2,f.At,f.Auto⟩:bv)).bind fun h=>
 (jQ (w64 (b.Row-(aK 0 (w64 ((w64 (b.Row-(aK 1 (aE p2 1024))))+1))))) b.Col (aK 1 (aE p1 1024)) (aK 1 (aE p2 1024))).bind fun r=>
 (h.set_place_Pen d (⟨c.2,r,f.Auto⟩:bv)).bind fun g=>
 some g
theorem tO (O0:Own c0 G F) (z:Rel c0 sg G) (hG:Gl [2,4] c0) (p0:Option Nat) (o:Int) (b:Int){r:Sto}(h2:Pt 2 c0 v1 p0) (H:jO sg p0 o b=some r): KP 75 #[v1,I o,I b] c0 fun c v=>∃G_:Gm,Own c G_ F/\Rel c r G_/\v= .tuple #[]:=by
 unfold jO at H;refine en func75 rfl rfl<|W.seq<|W.seq<|bn H fun q5 h3 H=>W.join (Jn c0 fun c l=>Own c G F/\l= [(0,v1),(1,I o),(2,I b),(19,B q5)]) ?_ ?_
 ·clear H;refine Kz v1<|vr (B p0.isNone) (by rcases (h2).cs with ⟨t,u⟩|⟨b_,t,u⟩ <;> (subst t; rw [u]; kernel_rfl)) ?_;rcases bo p0.isNone with h4|h4
  ·obtain rfl:=orT h4 h3;exact vb h4<|pz<|pz<|ps<|Kq true<|KB c0 ⟨O0,rfl⟩
  have H5:=orF h4 h3;refine vb h4<|wa v1<|wn<|bn H5 fun g8 h8 H5=>?_;obtain ⟨b6,rfl,h7⟩:=(h2).get h8;refine va (Q b6)<|wa (Q b6)<|wn<|bn H5 fun k2 h9 H5=>?_;obtain ⟨v10,t5,s5⟩:=Rel.open_place_Pen z h9 h7;refine vx (le1 0 fm (O0.gon t5 0 rfl))<|wn<|vr (B k2.G.isNone) (by rcases (s5).cs with ⟨t,u⟩|⟨b_,t,u⟩ <;> (subst t; rw [u]; kernel_rfl)) ?_;cases H5;exact Kq k2.G.isNone<|KB c0 ⟨O0,rfl⟩
 rintro e_ w_ ⟨c2,f8,_,rfl,Z,rfl,m1,rfl⟩;refine nrm<|cn H (fun u5 H=>?_) (fun u5 H=>?_)
 ·refine W.ret<|thr ?_;cases H;exact r0<|qq c2 ⟨G,m1,z.m,rfl⟩
 refine KI<|KD o<|Ku (aE o 1024)<|Ku (aK 1 (aE o 1024))<|Ku b<|Ku (aE b 1024)<|Ku (aK 1 (aE b 1024))<|Ku (aK 1 (aE o 1024))<|Ku (aK 1 (aE b 1024))<|KA<|bn H fun i7 v5 H=>bn H fun h w5 H=>bn H fun D g2 H=>bn H fun E x0 H=>bn H fun a X H=>W.join (Jn c2 fun c l=>∃n,Own c G ((Eb n 29 [I a.Row,I a.Col,B a.Pending])::F)/\l= [(0,v1),(1,I (aK 1 (aE o 1024))),(2,I (aK 1 (aE b 1024))),(6,Q n)]) ?_ ?_
 ·clear H;refine rD [] (Kp G []) m1 ?_;intro g5 j2 k0;have f1:=(Kp.nil k0);refine ta 0 v1 ?_;obtain ⟨s,rfl,y5⟩:=((h2.mono (Z.trans j2))).get v5;refine ta 1 (Q s)<|ta 2 (Qo s 1) ?_;obtain ⟨v31,y0,M⟩:=Rel.open_place_Pen (z.mono (Z.trans j2)) w5 y5;refine tkx 3 f1 (fun c' i2 hk=>leN 29 1 [I h.At.Row,I h.At.Col,B h.At.Pending] (hk.gon y0 0 rfl)) (ta 4 (Q s)<|ta 5 (Q s)<|ta 6 (Q s)<|tkx 7 f1 (fun c' i2 hk=>le1 0 fm (hk.gon y0 0 rfl)) (ta 9 (Q s)<|ta 10 (Q s)<|ta 11 (Q s)<|tkx 12 f1 (fun c' i2 hk=>le1 0 fm (hk.gon y0 0 rfl)) (mn2 8 15 ?_ ?_)))
  ·refine gc 8 (cK k0 z.m h.G M g2) ?_;rintro v39 h5 i8 ⟨l0,rfl⟩;have z5:=(Kp.nil l0);refine ⟨.inr z5,mn2 13 15 ?_ ?_⟩
   ·refine gc 13 (bK l0 z.m h.G M.m x0) ?_;rintro v46 i5 j8 ⟨m0,rfl⟩;have a6:=(Kp.nil m0);refine ⟨.inr a6,mn2 14 15 ?_ ?_⟩
    ·refine gc 14 (fa m0 h.At D E X) ?_;rintro v53 j5 k8 ⟨n1,rfl⟩;have c6:=(Kp.nil n1);refine ⟨.inr c6,o1 15 (gm 15 (al 29 [I 0,I 0,B false] n1) ?_)⟩;rintro v58 k5 l8 ⟨a5,rfl,q1⟩;have d6:=(Kp.nil q1);refine ⟨.inr d6,o1 16 (gD 16 (sA 29 [I a.Row,I a.Col,B a.Pending] 0 q1 ⟨rfl,rfl,rfl,trivial⟩) ?_)⟩;rintro d2 m8 s1;have e6:=(Kp.nil s1);exact ⟨.inr e6,dn (nrm<|jn d2 ⟨a5,s1,rfl⟩)⟩
    refine gm 15 (al 29 [I 0,I 0,B false] m0) ?_;rintro u8 l5 n8 ⟨c5,rfl,t1⟩;have f6:=(Kp.nil t1);refine ⟨.inr f6,o1 14 (gc 14 (fa t1 h.At D E X) ?_)⟩;rintro v8 m5 o8 ⟨u1,rfl⟩;have g6:=(Kp.nil u1);refine ⟨.inr g6,o1 16 (gD 16 (sA 29 [I a.Row,I a.Col,B a.Pending] 0 u1 ⟨rfl,rfl,rfl,trivial⟩) ?_)⟩;rintro e2 p8 w1;have h6:=(Kp.nil w1);exact ⟨.inr h6,dn (nrm<|jn e2 ⟨c5,w1,rfl⟩)⟩
   refine gm 15 (al 29 [I 0,I 0,B false] l0) ?_;rintro w8 n5 q8 ⟨d5,rfl,x1⟩;have i6:=(Kp.nil x1);refine ⟨.inr i6,o1 13 (gc 13 (bK x1 z.m h.G M.m x0) ?_)⟩;rintro x8 o5 r8 ⟨y1,rfl⟩;have j6:=(Kp.nil y1);refine ⟨.inr j6,o1 14 (gc 14 (fa y1 h.At D E X) ?_)⟩;rintro y8 p5 s8 ⟨z1,rfl⟩;have k6:=(Kp.nil z1);refine ⟨.inr k6,o1 16 (gD 16 (sA 29 [I a.Row,I a.Col,B a.Pending] 0 z1 ⟨rfl,rfl,rfl,trivial⟩) ?_)⟩;rintro f2 t8 b2;have l6:=(Kp.nil b2);exact ⟨.inr l6,dn (nrm<|jn f2 ⟨d5,b2,rfl⟩)⟩
  refine gm 15 (al 29 [I 0,I 0,B false] k0) ?_;rintro v7 l3 l7 ⟨k3,rfl,d0⟩;have q4:=(Kp.nil d0);refine ⟨.inr q4,o1 8 (gc 8 (cK d0 z.m h.G M.m g2) ?_)⟩;rintro w7 m3 m7 ⟨e0,rfl⟩;have r4:=(Kp.nil e0);refine ⟨.inr r4,o1 13 (gc 13 (bK e0 z.m h.G M.m x0) ?_)⟩;rintro x7 n3 n7 ⟨f0,rfl⟩;have s4:=(Kp.nil f0);refine ⟨.inr s4,o1 14 (gc 14 (fa f0 h.At D E X) ?_)⟩;rintro y7 o3 o7 ⟨g0,rfl⟩;have t4:=(Kp.nil g0);refine ⟨.inr t4,o1 16 (gD 16 (sA 29 [I a.Row,I a.Col,B a.Pending] 0 g0 ⟨rfl,rfl,rfl,trivial⟩) ?_)⟩;rintro s0 p7 h0;have u4:=(Kp.nil h0);exact ⟨.inr u4,dn (nrm<|jn s0 ⟨k3,h0,rfl⟩)⟩
 rintro e_ w_ ⟨t6,y6,_,rfl,b1,rfl,n,i0,rfl⟩;refine nrm<|KE (Q n)<|vx (le1 0 u_3 (i0.on 0 rfl))<|Ku (aK 1 (aE b 1024))<|Kx (a.Row-(aK 1 (aE b 1024)))<|Kx ((w64 (a.Row-(aK 1 (aE b 1024))))+1)<|vv (I (aK 0 (w64 ((w64 (a.Row-(aK 1 (aE b 1024))))+1))))<|wln<|KD (aK 1 (aE o 1024))<|Ku (aK 1 (aE b 1024))<|bn H fun w4 u3 H=>cl (xz i0 z.m (aK 1 (aE o 1024)) (aK 1 (aE b 1024)) u3) ?_;rintro q R c1 ⟨_,l2,t2,d3,q6,rfl,y⟩;refine va q<|KA<|KD (aK 1 (aE b 1024))<|Ku 0<|wln<|W.block<|bn H fun u7 u0 g=>lp u0 (fun f=>Jn R fun c l=>∃G_,Own c G_ ((Eb n 29 [I a.Row,I a.Col,B a.Pending])::F)/\l= [(0,v1),(1,I (aK 1 (aE o 1024))),(2,I (aK 1 (aE b 1024))),(6,Q n),(7,I (aK 0 (w64 ((w64 (a.Row-(aK 1 (aE b 1024))))+1)))),(8,q),(50,I (aK 1 (aE b 1024))),(51,I f.1)]/\Rel c f.2 G_) (fun i1 ex e w=>ex= .exit 0/\(Jn R fun c l=>∃G_,Own c G_ ((Eb n 29 [I a.Row,I a.Col,B a.Pending])::F)/\l= [(0,v1),(1,I (aK 1 (aE o 1024))),(2,I (aK 1 (aE b 1024))),(6,Q n),(7,I (aK 0 (w64 ((w64 (a.Row-(aK 1 (aE b 1024))))+1)))),(8,q)]/\Rel c i1 G_) e w) ?_ ?_ ?_
 ·clear g u0;intro f z8 r5 m6 H;revert r5 m6;rintro e_ w_ ⟨t0,z6,_,rfl,o4,rfl,a0,N,rfl,x⟩;refine sr<|Kr (f.1<(aK 1 (aE b 1024)))<|KA<|cn H (fun v3 H=>?_) (fun v3 H=>?_)
  ·refine KI<|bn H fun y4 d q2=>W.seqJ (Jn t0 fun c l=>∃G_,Own c G_ ((Eb n 29 [I a.Row,I a.Col,B a.Pending])::F)/\l= [(0,v1),(1,I (aK 1 (aE o 1024))),(2,I (aK 1 (aE b 1024))),(6,Q n),(7,I (aK 0 (w64 ((w64 (a.Row-(aK 1 (aE b 1024))))+1)))),(8,q),(50,I (aK 1 (aE b 1024))),(51,I f.1)]/\Rel c y4 G_) ?_ ?_
   ·refine W.block<|sr<|vv (I f.1)<|wln<|KE v1<|bn d fun j7 x3 d=>?_;obtain ⟨q0,rfl,w3⟩:=((h2.mono (Z.trans (b1.trans (c1.trans o4))))).get x3;refine vv (Q q0)<|bn d fun p4 y3 d=>?_;obtain ⟨z7,a4,z3⟩:=Rel.open_place_Pen x y3 w3;refine vx (le1 0 fm (N.gon a4 0 rfl))<|Ku (aK 0 (w64 ((w64 (a.Row-(aK 1 (aE b 1024))))+1)))<|Ku f.1<|Kx ((aK 0 (w64 ((w64 (a.Row-(aK 1 (aE b 1024))))+1)))+f.1)<|bn d fun g1 b4 d=>cl (dk N x p4.G (w64 ((aK 0 (w64 ((w64 (a.Row-(aK 1 (aE b 1024))))+1)))+f.1)) z3 b4) ?_;rintro U p3 q7 ⟨_,j0,rfl,v0⟩;refine va U<|wln<|KE U<|vr (B (!g1.isNone)) (by rcases (v0).cs with ⟨t,u⟩|⟨b_,t,u⟩ <;> (subst t; rw [u]; kernel_rfl))<|KH d (fun c4 d=>?_) (fun c4 d=>?_)
    ·refine Kz q<|Ku f.1<|va U<|Ku (aK 1 (aE o 1024))<|bn d fun x4 d4 d=>cl (zp j0 x.m (hG.m.le (by decide)) g1 (aK 1 (aE o 1024)) v0 d4) ?_;rintro a8 u6 r7 ⟨_,n6,u2,e3,rfl,e4⟩;refine bn d fun e8 f4 d=>cl (qX u2 e3 w4.2 f.1 x4.2 y.m e4 f4) ?_;rintro b8 q3 s7 ⟨m2,v2,f3,rfl⟩;refine WL.nil<|KJ ?_;cases d;exact jn q3 ⟨m2,v2,rfl,f3⟩
    refine W.skip<|KJ ?_;cases d;exact jn p3 ⟨a0,j0,rfl,x.m⟩
   rintro e_ w_ ⟨s3,a7,_,rfl,t7,rfl,n2,w2,rfl,g3⟩;refine W.region<|Kv (f.1+1)<|WL.nil ?_;cases q2;exact ⟨_,rfl,jn s3 ⟨n2,w2,rfl,g3⟩⟩
  refine W.exit<|thx ?_;cases H;exact ⟨_,rfl,rfl,jn t0 ⟨a0,N,rfl,x⟩⟩
 ·exact jn R ⟨l2,t2,rfl,d3⟩
 rintro _ e_ w_ ⟨rfl,v6,b7,_,rfl,A,rfl,o6,x2,rfl,o0⟩;refine KK<|KE v1<|va q<|bn g fun k7 g4 g=>?_;obtain ⟨j,rfl,S⟩:=((h2.mono (Z.trans (b1.trans (c1.trans A))))).get g4;refine vv (Q j) ?_;obtain ⟨p,rfl⟩:=((y.mono A)).form;refine bn g fun i i4 g=>?_;obtain ⟨c8,j4,c7⟩:=Rel.open_place_Pen o0 i4 S;refine md (gC 124 0 (.pointer p) [.pointer p,I i.At.Row,I i.At.Col,B i.At.Pending,B i.Auto] 0 x2 j4 ⟨y.m.one,trivial⟩) ?_;rintro w6 T y2;refine bn g fun z4 l4 g=>?_;obtain ⟨p6,P,i3,k4,r6⟩:=Rel.put_place_Pen y2 (o0.mono T) (E':=[(Eb j 126 [.pointer p,I i.At.Row,I i.At.Col,B i.At.Pending,B i.Auto])]) l4 ⟨j,(.pointer p),(tm S),rfl,(y.mono (A.trans T))⟩;refine wln<|Kz (Q j)<|va (Q n)<|vx (le1 0 u_3 (P.on 0 rfl))<|Ku (aK 0 (w64 ((w64 (a.Row-(aK 1 (aE b 1024))))+1)))<|Kx (a.Row-(aK 0 (w64 ((w64 (a.Row-(aK 1 (aE b 1024))))+1))))<|Kw n 1<|vx (le1 1 u_3 (P.on 0 rfl))<|Ku (aK 1 (aE o 1024))<|Ku (aK 1 (aE b 1024))<|bn g fun k m4 g=>cl (tT P (w64 (a.Row-(aK 0 (w64 ((w64 (a.Row-(aK 1 (aE b 1024))))+1))))) a.Col (aK 1 (aE o 1024)) (aK 1 (aE b 1024)) m4) ?_;rintro d8 x6 d1 ⟨z2,rfl⟩;refine va (Q j)<|Kw j 1<|md (gB 29 1 [I k.Row,I k.Col,B k.Pending] [.pointer p,I k.Row,I k.Col,B k.Pending,B i.Auto] 0 z2 k4 ⟨rfl,rfl,rfl,trivial⟩) ?_;rintro t3 e1 a3;refine bn g fun v4 n4 g=>?_;obtain ⟨o2,b3,j3,d7,s6⟩:=Rel.put_place_Pen a3 (i3.mono (d1.trans e1)) (E':=[(Eb j 126 [.pointer p,I k.Row,I k.Col,B k.Pending,B i.Auto])]) n4 ⟨j,(.pointer p),(tm S),rfl,(y.mono (A.trans (T.trans (d1.trans e1))))⟩;refine WL.nil ?_;cases g;have c3:=b3.sD 1 [];exact n0<|qq t3 ⟨o2,c3,j3,rfl⟩
def eD (p0:List ab) (p1:Int):Option (List ab):=
 (rep (aK 1 (aE p1 1024)) (⟨0,([]:List Int)⟩:ab)).bind fun i=>
 (cH (σ:=(List ab)×Int) (τ:=(List ab)) (((aK 1 (aE p1 1024))-0).toNat+1) (fun a=>
 (bL (decide (a.2<(aK 1 (aE p1 1024)))) (some (decide (a.2<(p0.length:Int))))).bind fun b=>
 if b then
 ((orE (decide ((w64 (a.2+1))<(aK 1 (aE p1 1024)))) ((idx p0 a.2).bind fun f=>
 some (f.Kind != 2))).bind fun c=>
 if c then
 (idx p0 a.2).bind fun g=>
 (idx a.1 a.2).bind fun j=>
 (oK a.1 a.2 g).bind fun e=>
 some e
 else
 some a.1).bind fun h=>
 some (.inl (h,(w64 (a.2+1))))
 else
 some (.inr a.1)) (i,0)).bind fun d=>
 some d
theorem qJ (O0:Own c0 G F) (Z:List ab) (d:Int){r:List ab}(N:Sl ah c0 v1 Z) (H:eD Z d=some r): KP 138 #[v1,I d] c0 fun c v=>∃y1 y2,Own c G (es true ah y1 114 y2 r::F)/\v=y1/\OA ah c y1 y2 r:=by
 unfold eD at H;refine en func138 rfl rfl<|KE Y<|wln<|KD d<|Ku (aE d 1024)<|vv (I (aK 1 (aE d 1024)))<|wln<|KD (aK 1 (aE d 1024))<|bn H fun v2 h3 H=>me (Own.mkS (kl:= .i64) (kc:= .i64) (R:=ah) (z:= .agg #[I 0,Y]) (lz:=[I 0,Y]) (x:=(⟨0,([]:List Int)⟩:ab)) (by_:=32) (i:=(aK 1 (aE d 1024))) (j:=(aK 1 (aE d 1024))) true O0 (aO _) h3 (nC _) (sa h3) cD (by kernel_rfl) rfl rfl (fun _=>⟨(Y),rfl,(Sl.nl _ _)⟩) (by kernel_rfl) (by kernel_rfl)) ?_;rintro v8 c7 l7 ⟨u5,O4,h6⟩;refine va v8<|KA<|KD 0<|wln<|W.block<|bn H fun g2 h9 b0=>lp h9 (fun a=>Jn c7 fun c l=>∃v11 f,Own c G (es true ah v11 114 f a.1::F)/\l= [(0,v1),(1,I (aK 1 (aE d 1024))),(5,v11),(6,I a.2)]/\OA ah c v11 f a.1) (fun p ex e w=>ex= .exit 0/\(Jn c7 fun c l=>∃v13 q,Own c G (es true ah v13 114 q p::F)/\l= [(5,v13)]/\OA ah c v13 q p) e w) ?_ ?_ ?_
 ·clear b0 h9;intro a w2 b1 x1 H;revert b1 x1;rintro X w_ ⟨M,l2,_,rfl,j0,rfl,v11,f,d0,rfl,o⟩;refine W.seq<|W.seq<|bn H fun m0 f0 H=>W.join (Jn M fun c l=>Own c G (es true ah v11 114 f a.1::F)/\l= [(0,v1),(1,I (aK 1 (aE d 1024))),(5,v11),(6,I a.2),(20,B m0)]) ?_ ?_
  ·clear H;refine KF a.2<|Ku (aK 1 (aE d 1024))<|Kr (a.2<(aK 1 (aE d 1024))) ?_;rcases bo (decide (a.2<(aK 1 (aE d 1024)))) with h|h
   ·have s0:=anT h f0;refine vb h<|wa (I a.2)<|wa v1<|wn<|vx (ln 3 cD N.m)<|Ks (a.2<(Z.length:Int)) ?_;cases s0;exact Kr (a.2<(Z.length:Int))<|KB M ⟨d0,rfl⟩
   obtain rfl:=anF h f0;exact vb h<|pz<|pz<|Kq false<|KB M ⟨d0,rfl⟩
  rintro X w_ ⟨g,m2,_,rfl,k0,rfl,y,rfl⟩;refine nrm<|cn H (fun d1 H=>?_) (fun d1 H=>?_)
  ·refine KI<|bn H fun U b t0=>W.seqJ (Jn g fun c l=>∃v34 s,Own c G (es true ah v34 114 s U::F)/\l= [(0,v1),(1,I (aK 1 (aE d 1024))),(5,v34),(6,I a.2)]/\OA ah c v34 s U) ?_ ?_
   ·refine W.block<|W.seq<|bn b fun o0 g0 b=>W.join (Jn g fun c l=>Own c G (es true ah v11 114 f a.1::F)/\l= [(0,v1),(1,I (aK 1 (aE d 1024))),(5,v11),(6,I a.2),(34,B o0)]) ?_ ?_
    ·clear b;refine KF a.2<|Kx (a.2+1)<|Ku (aK 1 (aE d 1024))<|Kr ((w64 (a.2+1))<(aK 1 (aE d 1024))) ?_;rcases bo (decide ((w64 (a.2+1))<(aK 1 (aE d 1024)))) with k|k
     ·obtain rfl:=orT k g0;exact vb k<|pz<|pz<|pz<|Kq true<|KB g ⟨y,rfl⟩
     have t:=orF k g0;refine vb k<|wa v1<|wa (I a.2)<|wn<|bn t fun S h0 t=>?_;obtain ⟨e2,e1,t1⟩:=Sl.at (N.mono (l7.trans (j0.trans k0))) (aS h0);obtain ⟨v43,rfl,q2⟩:=e1;refine vx (ix cD N.m h0)<|wa (Qo (sb v1) (so v1+a.2.toNat*2))<|wn<|vx (l1 u_3 (t1 0 _ rfl))<|Kt (S.Kind != 2) ?_;cases t;exact Kq (S.Kind != 2)<|KB g ⟨y,rfl⟩
    rintro X w_ ⟨x0,n2,_,rfl,q1,rfl,e0,rfl⟩;refine nrm<|cn b (fun f1 b=>?_) (fun f1 b=>?_)
    ·refine Kz v11<|Ku a.2<|va v1<|Ku a.2<|bn b fun n i0 b=>?_;obtain ⟨f2,g1,u1⟩:=Sl.at (N.mono (l7.trans (j0.trans (k0.trans q1)))) (aS i0);obtain ⟨v56,rfl,P⟩:=g1;refine vx (ix cD N.m i0)<|vx (lN 114 u1)<|bn b fun k2 h1 b=>vx (ixO cD o.m h1) ?_;obtain ⟨A,D,E,rfl⟩:=(P).form;refine bn b fun j2 i1 b=>md (Own.stW (R:=ah) (T:=114) (us:=[I n.Kind,.slice A D E]) (x':=n) (u:= .agg #[I n.Kind,.slice A D E]) 0 e0 (by kernel_rfl) rfl o.m i1 rfl (by kernel_rfl) ⟨rfl,P.one,trivial⟩ rfl ⟨(.slice A D E),rfl,P⟩) ?_;rintro y0 s2 ⟨w1,u0,j1⟩;refine WL.nil<|KJ ?_;cases b;exact jn y0 ⟨v11,w1,u0,rfl,j1⟩
    refine W.skip<|KJ ?_;cases b;exact jn x0 ⟨v11,f,e0,rfl,o.m⟩
   rintro X w_ ⟨z0,o2,_,rfl,t2,rfl,v34,s,v0,rfl,k1⟩;refine KF a.2<|Kv (a.2+1)<|WL.nil ?_;cases t0;exact ⟨_,rfl,jn z0 ⟨v34,s,v0,rfl,k1⟩⟩
  refine W.exit<|thx ?_;cases H;exact ⟨_,rfl,rfl,jn g ⟨v11,f,y,rfl,o.m⟩⟩
 ·exact jn c7 ⟨v8,u5,O4,rfl,h6⟩
 rintro _ X w_ ⟨rfl,a1,p2,_,rfl,u2,rfl,v13,q,w0,rfl,m1⟩;refine KK<|sr<|vv v13<|KG ?_;cases b0;exact KC a1 ⟨v13,q,w0,rfl,m1⟩
def dE (p0:aa) (p1:Int) (p2:Int):Option aa:=
 (cp p0).bind fun d=>
 (cg p1).bind fun f=>
 (cg p2).bind fun c=>
 (cH (σ:=(List aj)×Int) (τ:=((List aj)×Int)) ((d.At.Row-c).toNat+2) (fun a=>
 if decide (a.2>=c) then
 (slc a.1 1 a.1.length).bind fun h=>
 some (.inl (h,(w64 (a.2-1))))
 else
 some (.inr (a.1,a.2))) (d.L,d.At.Row)).bind fun e=>
 (cH (σ:=(List aj)×Int) (τ:=(List aj)) ((c-0).toNat+1) (fun b=>
 if decide (b.2<c) then
 (if decide (b.2<(e.1.length:Int)) then
 (idx e.1 b.2).bind fun i=>
 some i.Cells
 else
 some (([]:List ab))).bind fun l=>
 (eD l f).bind fun j=>
 (app b.1 ([(⟨j,false⟩:aj)]:List aj)).bind fun k=>
 some (.inl (k,(w64 (b.2+1))))
 else
 some (.inr b.1)) (([]:List aj),0)).bind fun g=>
 some (⟨g,(⟨e.2,(aE d.At.Col (w64 (f-1))),false⟩:ai),d.Auto⟩:aa)
theorem qI (O0:Own c0 G F) (j:aa) (p1:Int) (p2:Int){r:aa}(h2:Sl av c0 v1 j.L) (H:dE j p1 p2=some r): KP 89 #[.agg #[v1,I j.At.Row,I j.At.Col,B j.At.Pending,B j.Auto],I p1,I p2] c0 fun c v=>∃y1 y2,Own c G (es true av y1 48 y2 r.L::F)/\v= .agg #[y1,I r.At.Row,I r.At.Col,B r.At.Pending,B r.Auto]/\OA av c y1 y2 r.L:=by
 unfold dE at H;refine en func89 rfl rfl<|sr ?_;obtain ⟨a3,a4,a5,rfl⟩:=(h2).form;refine me (al 31 [.slice a3 a4 a5,I j.At.Row,I j.At.Col,B j.At.Pending,B j.Auto] O0) ?_;rintro v9 c8 l8 ⟨o,rfl,O7⟩;refine me (al 31 [Y,I 0,I 0,B false,B false] O7) ?_;rintro v13 s4 e5 ⟨i,rfl,a1⟩;refine KN<|vx (leN 31 0 [.slice a3 a4 a5,I j.At.Row,I j.At.Col,B j.At.Pending,B j.Auto] (a1.on 1 rfl))<|bn H fun a c3 H=>cl (dN a1 j h2.m c3) ?_;rintro v22 t4 f5 ⟨v15,l2,rfl,m0⟩;obtain ⟨q,s,t,rfl⟩:=(m0).form;refine md (sA 31 [.slice q s t,I a.At.Row,I a.At.Col,B a.At.Pending,B a.Auto] 1 l2 ⟨m0.one,rfl,rfl,rfl,rfl,trivial⟩) ?_;rintro u4 g5 m2;refine wln<|KD p1<|bn H fun f e3 H=>cl (ey m2 p1 e3) ?_;rintro v34 v4 h5 ⟨n2,rfl⟩;refine Ku f<|wln<|KD p2<|bn H fun g f3 H=>cl (ey n2 p2 f3) ?_;rintro v41 w4 i5 ⟨g0,rfl⟩;refine Ku g<|wln<|KE (Q o)<|vx (le1 0 fJ (g0.on 1 rfl))<|va (.slice q s t)<|KN<|Kw o 1<|vx (leN 29 1 [I a.At.Row,I a.At.Col,B a.At.Pending] (g0.on 1 rfl))<|me (al 29 [I 0,I 0,B false] g0) ?_;rintro v45 x4 j5 ⟨d,rfl,o2⟩;refine md (sA 29 [I a.At.Row,I a.At.Col,B a.At.Pending] 0 o2 ⟨rfl,rfl,rfl,trivial⟩) ?_;rintro j0 k5 q2;refine KA<|W.block<|bn H fun h b1 p=>lp b1 (fun n=>Jn j0 fun c l=>∃v50,Own c G ((Eb d 29 [I n.2,I a.At.Col,B a.At.Pending])::(Eb i 31 [Y,I 0,I 0,B false,B false])::(Eb o 31 [.slice q s t,I a.At.Row,I a.At.Col,B a.At.Pending,B a.Auto])::F)/\l= [(1,I f),(2,I g),(3,Q o),(6,Q i),(7,v50),(8,Q d)]/\Sl av c v50 n.1) (fun a0 ex e w=>ex= .exit 0/\(Jn j0 fun c l=>∃v51,Own c G ((Eb d 29 [I a0.2,I a.At.Col,B a.At.Pending])::(Eb i 31 [Y,I 0,I 0,B false,B false])::(Eb o 31 [.slice q s t,I a.At.Row,I a.At.Col,B a.At.Pending,B a.Auto])::F)/\l= [(1,I f),(2,I g),(3,Q o),(6,Q i),(7,v51),(8,Q d)]/\Sl av c v51 a0.1) e w) ?_ ?_ ?_
 ·clear p b1;intro n q3 k0 t0 H;revert k0 t0;rintro e_ w_ ⟨z2,z4,_,rfl,l5,rfl,v50,U,rfl,c1⟩;refine W.seq<|KE (Q d)<|vx (le1 0 u_3 (U.on 0 rfl))<|Ku g<|Kr (n.2>=g)<|KH H (fun g3 H=>?_) (fun g3 H=>?_)
  ·refine KI<|W.block<|KE v50<|bn H fun p4 h3 H=>?_;obtain ⟨s0,i3,j3⟩:=pY (k:= .i64) fJ (by kernel_rfl) c1 h3;refine vr s0 (rx (by kernel_rfl) (i3 _))<|va s0<|wln<|Kz (Q d)<|vx (le1 0 u_3 (U.on 0 rfl))<|Kx (n.2-1)<|va (Q d)<|md (sC 3 0 (I (w64 (n.2-1))) [I (w64 (n.2-1)),I a.At.Col,B a.At.Pending] 0 U ⟨rfl,trivial⟩) ?_;rintro b3 m5 s2;refine WL.nil<|bkn ?_;cases H;exact ⟨_,rfl,jn b3 ⟨s0,s2,rfl,j3.m⟩⟩
  refine W.exit<|thx ?_;cases H;exact ⟨_,rfl,rfl,jn z2 ⟨v50,U,rfl,c1⟩⟩
 ·exact jn j0 ⟨(.slice q s t),q2,rfl,m0.m⟩
 rintro _ e_ w_ ⟨rfl,X,b5,_,rfl,n5,rfl,v51,t2,rfl,o0⟩;refine KK<|KE Y<|KA<|KD 0<|wln<|W.block<|bn p fun k4 d1 z0=>lp d1 (fun b=>Jn X fun c l=>∃u M,Own c G (es true av u 48 M b.1::(Eb d 29 [I h.2,I a.At.Col,B a.At.Pending])::(Eb i 31 [Y,I 0,I 0,B false,B false])::(Eb o 31 [.slice q s t,I a.At.Row,I a.At.Col,B a.At.Pending,B a.Auto])::F)/\l= [(1,I f),(2,I g),(3,Q o),(6,Q i),(7,v51),(8,Q d),(9,u),(10,I b.2)]/\OA av c u M b.1) (fun b0 ex e w=>ex= .exit 2/\(Jn X fun c l=>∃N d0,Own c G (es true av N 48 d0 b0::(Eb d 29 [I h.2,I a.At.Col,B a.At.Pending])::(Eb i 31 [Y,I 0,I 0,B false,B false])::(Eb o 31 [.slice q s t,I a.At.Row,I a.At.Col,B a.At.Pending,B a.Auto])::F)/\l= [(1,I f),(3,Q o),(6,Q i),(8,Q d),(9,N)]/\OA av c N d0 b0) e w) ?_ ?_ ?_
 ·clear z0 d1;intro b q3 k0 t0 p;revert k0 t0;rintro e_ w_ ⟨Z,c5,_,rfl,o3,rfl,u,M,h0,rfl,e1⟩;refine W.seq<|KD b.2<|Ku g<|Kr (b.2<g)<|KH p (fun k3 p=>?_) (fun k3 p=>?_)
  ·refine KI<|KM<|KE Y<|wln<|bn p fun u0 x E=>W.seqJ (Jn Z fun c l=>∃e0,Own c G (es true av u 48 M b.1::(Eb d 29 [I h.2,I a.At.Col,B a.At.Pending])::(Eb i 31 [Y,I 0,I 0,B false,B false])::(Eb o 31 [.slice q s t,I a.At.Row,I a.At.Col,B a.At.Pending,B a.Auto])::F)/\l= [(1,I f),(2,I g),(3,Q o),(6,Q i),(7,v51),(8,Q d),(9,u),(10,I b.2),(11,e0)]/\Sl ah c e0 u0) ?_ ?_
   ·refine KD b.2<|va v51<|vx (ln 3 fJ o0.m)<|Kr (b.2<(h.1.length:Int))<|KH x (fun l3 x=>?_) (fun l3 x=>?_)
    ·refine Kz v51<|Ku b.2<|bn x fun q4 f1 x=>?_;obtain ⟨j4,m3,p3⟩:=Sl.at (o0.mono o3) (aS f1);obtain ⟨g1,rfl,n3⟩:=m3;refine vx (ix fJ o0.m f1)<|Kw (sb v51) (so v51+b.2.toNat*2)<|vx (l1 cD (p3 0 _ rfl))<|va g1<|wln ?_;cases x;exact jn Z ⟨g1,h0,rfl,n3⟩
    refine KI ?_;cases x;exact jn Z ⟨(Y),h0,rfl,(Sl.nl _ _)⟩
   rintro e_ w_ ⟨y4,d5,_,rfl,o5,rfl,e0,u2,rfl,u1⟩;refine Kz u<|va e0<|Ku f<|bn E fun j2 w1 E=>cl (qJ u2 u0 f u1 w1) ?_;rintro n4 v3 c4 ⟨_,l4,h1,rfl,l0⟩;obtain ⟨P,R,S,rfl⟩:=(l0).form;refine va (.agg #[.slice P R S,B false]) ?_;obtain ⟨w3,z1,d4,i1,x1⟩:=h1.frz 0 rfl l0;refine WL.gh z1 (me (sl av 48 [[.slice P R S,B false]] ([(⟨j2,false⟩:aj)]:List aj) i1 ⟨⟨(.slice P R S),rfl,x1⟩,trivial⟩) ?_);rintro o4 x3 e4 ⟨m4,j1,b2⟩;obtain ⟨y3,d2,f4,k1,c2⟩:=j1.frz 0 rfl b2;refine WL.gh d2 (bn E fun r4 e2 E=>me (ap av (.agg #[Y,B false]) 32 27 2 k1 e1.m c2 e2 fJ) ?_);rintro q0 t1 g4 ⟨i2,m1,f2⟩;refine va q0<|WL.nil<|KJ<|KF b.2<|Kv (b.2+1)<|WL.nil ?_;cases E;refine ⟨_,rfl,?_⟩;have n1:=m1.sD 6 [2,3,4,5];exact jn t1 ⟨q0,i2,n1,rfl,f2⟩
  refine W.exit<|thx ?_;cases p;exact ⟨_,rfl,rfl,jn Z ⟨u,M,h0,rfl,e1⟩⟩
 ·have g2:OA av X Y [] []:=OA.nil (aO _);have q1:=t2.addHole (e:=es true av Y 48 [] ([]:List aj)) rfl;exact jn X ⟨(Y),[],q1,rfl,g2⟩
 rintro _ e_ w_ ⟨rfl,z3,b4,_,rfl,h4,rfl,N,d0,y,rfl,T⟩;refine KK<|KE N<|va (Q d)<|vx (le1 0 u_3 (y.on 1 rfl))<|Kw d 1<|vx (le1 1 u_3 (y.on 1 rfl))<|Ku f<|Kx (f-1)<|Ku (aE a.At.Col (w64 (f-1)))<|va (.agg #[I h.2,I (aE a.At.Col (w64 (f-1))),B false])<|Kw o 4<|vx (le1 4 u_4 (y.on 3 rfl)) ?_;obtain ⟨z,A,D,rfl⟩:=(T).form;refine va (.agg #[.slice z A D,I h.2,I (aE a.At.Col (w64 (f-1))),B false,B a.Auto])<|md (sA 31 [.slice z A D,I h.2,I (aE a.At.Col (w64 (f-1))),B false,B a.Auto] 2 y ⟨(T).one,rfl,rfl,rfl,rfl,trivial⟩) ?_;rintro i0 i4 f0;refine KG ?_;cases z0;have s1:=f0.sD 4 [0];exact km (c:=i0) (vs:=[.slice z A D,I h.2,I (aE a.At.Col (w64 (f-1))),B false,B a.Auto]) rfl (by kernel_rfl) (by kernel_rfl) (by kernel_rfl) (f0.on 2 rfl _ rfl).1 ⟨_,i0,rfl,rfl,pt,(.slice z A D),d0,s1,rfl,T.m⟩
def jc (p0:Int):Option Bool:=
 (bL (decide (p0>=0)) (some (decide (p0<32)))).bind fun b=>
 (orE b ((bL (decide (p0>=127)) (some (decide (p0<=159)))).bind fun a=>
 some a)).bind fun c=>
 some c
theorem pv (e:Own c0 G F) (a:Int){r:Bool}(H:jc a=some r): KP 134 #[J a] c0 fun c v=>Own c G F/\v=B r:=by
 unfold jc at H;refine en func134 rfl rfl<|Ky false<|KA<|bn H fun z t H=>bn H fun s n H=>W.join (Jn c0 fun c l=>Own c G F/\l= [(2,B s)]) ?_ ?_
 ·clear H;refine Kz (J a)<|Kr (a>=0) ?_;rcases bo (decide (a>=0)) with f|f
  ·have x:=anT f t;refine vb f<|wa (J a)<|Ks (a<32) ?_;cases x;refine Kr (a<32) ?_;rcases bo (decide (a<32)) with g|g
   ·obtain rfl:=orT g n;exact vb g<|pz<|pz<|pz<|vv (B true)<|KB c0 ⟨e,rfl⟩
   have i:=orF g n;refine vb g<|wa (J a)<|Ks (a>=127)<|wn<|bn i fun m u i=>?_;rcases bo (decide (a>=127)) with h|h
   ·have y:=anT h u;refine vb h<|wa (J a)<|Ks (a<=159)<|wn ?_;cases y;refine Kr (a<=159) ?_;cases i;exact vv (B (decide (a<=159)))<|KB c0 ⟨e,rfl⟩
   obtain rfl:=anF h u;refine vb h<|pz<|Kt false ?_;cases i;exact vv (B false)<|KB c0 ⟨e,rfl⟩
  obtain rfl:=anF f t;refine vb f<|pz<|Kq false ?_;have j:false=false:=rfl;have d:=orF j n;refine vb j<|wa (J a)<|Ks (a>=127)<|wn<|bn d fun m k d=>?_;rcases bo (decide (a>=127)) with b|b
  ·have o:=anT b k;refine vb b<|wa (J a)<|Ks (a<=159)<|wn ?_;cases o;refine Kr (a<=159) ?_;cases d;exact vv (B (decide (a<=159)))<|KB c0 ⟨e,rfl⟩
  obtain rfl:=anF b k;refine vb b<|pz<|Kt false ?_;cases d;exact vv (B false)<|KB c0 ⟨e,rfl⟩
 rintro E M ⟨q,A,_,rfl,D,rfl,p,rfl⟩;refine nrm<|W.ret ?_;cases H;exact KC q ⟨p,rfl⟩
def mx (p0:ai):Option ai:=
 (if decide (p0.Col>0) then
 some ((w64 (p0.Col-1)))
 else
 some p0.Col).bind fun a=>
 some (⟨p0.Row,a,false⟩:ai)
theorem xT (s:Own c0 G F) (a:ai){r:ai}(H:mx a=some r): KP 182 #[.agg #[I a.Row,I a.Col,B a.Pending]] c0 fun c v=>Own c G F/\v= .agg #[I r.Row,I r.Col,B r.Pending]:=by
 unfold mx at H;refine en func182 rfl rfl<|sr<|me (al 29 [I a.Row,I a.Col,B a.Pending] s) ?_;rintro v4 E P ⟨e,rfl,t⟩;refine me (al 29 [I 0,I 0,B false] t) ?_;rintro v8 M R ⟨o,rfl,u⟩;refine KN<|Kw e 2<|md (sC 4 2 (B false) [I a.Row,I a.Col,B false] 1 u ⟨rfl,trivial⟩) ?_;rintro i z f;refine wln<|bn H fun d b k=>W.seqJ (Jn i fun c l=>Own c G ((Eb o 29 [I 0,I 0,B false])::(Eb e 29 [I a.Row,I d,B false])::F)/\l= [(1,Q e),(2,Q o)]) ?_ ?_
 ·refine sr<|Kw e 1<|vx (le1 1 u_3 (f.on 1 rfl))<|Kr (a.Col>0)<|KH b (fun q b=>?_) (fun q b=>?_)
  ·refine W.region<|Kw e 1<|vx (le1 1 u_3 (f.on 1 rfl))<|Kx (a.Col-1)<|Kw e 1<|md (sC 3 1 (I (w64 (a.Col-1))) [I a.Row,I (w64 (a.Col-1)),B false] 1 f ⟨rfl,trivial⟩) ?_;rintro p A m;refine wln ?_;cases b;exact jn p ⟨m,rfl⟩
  refine KI ?_;cases b;exact jn i ⟨f,rfl⟩
 rintro N S ⟨x,y,_,rfl,l16,rfl,g,rfl⟩;refine sr<|vx (leN 29 0 [I a.Row,I d,B false] (g.on 1 rfl))<|md (sA 29 [I a.Row,I d,B false] 0 g ⟨rfl,rfl,rfl,trivial⟩) ?_;rintro j D h;refine KG ?_;cases k;have n:=h.sD 2 [];exact km (c:=j) (vs:=[I a.Row,I d,B false]) rfl (by kernel_rfl) (by kernel_rfl) (by kernel_rfl) (h.on 0 rfl _ rfl).1 ⟨_,j,rfl,rfl,pt,n,rfl⟩
def oV (sg:Sto) (p0:Option Nat) (p1:Int):Option (Sto×Bool):=
 (jc p1).bind fun s=>
 if (!s)=true then
 some (sg,false)
 else
 (orE p0.isNone ((p0).bind fun j=>
 (sg.place_Pen[j]?).bind fun l=>
 some l.G.isNone)).bind fun i=>
 if i then
 some (sg,true)
 else
 (p0).bind fun k=>
 (sg.place_Pen[k]?).bind fun a=>
 (ci sg a.G).bind fun m=>
 (bQ sg a.G).bind fun n=>
 (gR a.At m n).bind fun h=>
 (if (p1==13)=true then
 (dJ h).bind fun o=>
 (p0).bind fun d=>
 (sg.place_Pen[d]?).bind fun f=>
 (sg.set_place_Pen d (⟨f.G,o,f.Auto⟩:bv)).bind fun b=>
 some b
 else
 if (p1==10)=true then
 (fX sg p0).bind fun p=>
 some p
 else
 if (p1==8)=true then
 (mx h).bind fun q=>
 (p0).bind fun e=>
 (sg.place_Pen[e]?).bind fun g=>
 (sg.set_place_Pen e (⟨g.G,q,g.Auto⟩:bv)).bind fun c=>
 some c
 else
 some sg).bind fun r=>
 some (r,true)
theorem yE (O0:Own c0 G F) (g:Rel c0 sg G) (p0:Option Nat) (j:Int){r:Sto×Bool}(S:Pt 2 c0 v1 p0) (H:oV sg p0 j=some r): KP 116 #[v1,J j] c0 fun c v=>∃G_:Gm,Own c G_ F/\Rel c r.1 G_/\v=B r.2:=by
 unfold oV at H;refine en func116 rfl rfl<|Ky false<|KA<|KE (J j)<|bn H fun o5 h3 H=>cl (pv O0 j h3) ?_;rintro v9 c8 o ⟨O5,rfl⟩;refine Kq (!o5)<|KH H (fun t4 H=>?_) (fun t4 H=>?_)
 ·refine Ky false<|KG<|thr ?_;cases H;exact KC c8 ⟨G,O5,g.m,rfl⟩
 refine KI<|W.seq<|W.seq<|bn H fun c3 s1 H=>W.join (Jn c8 fun c l=>Own c G F/\l= [(0,v1),(1,J j),(17,B c3)]) ?_ ?_
 ·clear H;refine Kz v1<|vr (B p0.isNone) (by rcases S.m.cs with ⟨y,z⟩|⟨b_,y,z⟩ <;> (subst y; rw [z]; kernel_rfl)) ?_;rcases bo p0.isNone with x|x
  ·obtain rfl:=orT x s1;exact vb x<|pz<|pz<|ps<|Kq true<|KB c8 ⟨O5,rfl⟩
  have u:=orF x s1;refine vb x<|wa v1<|wn<|bn u fun a6 v4 u=>?_;obtain ⟨k1,rfl,u4⟩:=((S.mono o)).get v4;refine va (Q k1)<|wa (Q k1)<|wn<|bn u fun t0 w4 u=>?_;obtain ⟨v18,y4,x4⟩:=Rel.open_place_Pen (g.mono o) w4 u4;refine vx (le1 0 fm (O5.gon y4 0 rfl))<|wn<|vr (B t0.G.isNone) (by rcases (x4).cs with ⟨y,z⟩|⟨b_,y,z⟩ <;> (subst y; rw [z]; kernel_rfl)) ?_;cases u;exact Kq t0.G.isNone<|KB c8 ⟨O5,rfl⟩
 rintro e_ w_ ⟨m1,w6,_,rfl,n,rfl,a1,rfl⟩;refine nrm<|cn H (fun z4 H=>?_) (fun z4 H=>?_)
 ·refine Ky true<|KG<|thr ?_;cases H;exact KC m1 ⟨G,a1,g.m,rfl⟩
 refine KI<|W.seq<|bn H fun b6 a5 H=>bn H fun d b5 H=>bn H fun s t1 H=>bn H fun t l0 H=>bn H fun b R H=>W.join (Jn m1 fun c l=>∃P,Own c G ((Eb P 29 [I b.Row,I b.Col,B b.Pending])::F)/\l= [(0,v1),(1,J j),(5,Q P)]) ?_ ?_
 ·clear H;refine rD [] (Kp G []) a1 ?_;intro j4 w1 d0;have x0:=(Kp.nil d0);refine ta 0 v1 ?_;obtain ⟨k,rfl,c5⟩:=((S.mono (o.trans (n.trans w1)))).get a5;refine ta 1 (Q k)<|ta 2 (Qo k 1) ?_;obtain ⟨v39,m0,A⟩:=Rel.open_place_Pen (g.mono (o.trans (n.trans w1))) b5 c5;refine tkx 3 x0 (fun c' u1 hk=>leN 29 1 [I d.At.Row,I d.At.Col,B d.At.Pending] (hk.gon m0 0 rfl)) (ta 4 (Q k)<|ta 5 (Q k)<|ta 6 (Q k)<|tkx 7 x0 (fun c' u1 hk=>le1 0 fm (hk.gon m0 0 rfl)) (ta 9 (Q k)<|ta 10 (Q k)<|ta 11 (Q k)<|tkx 12 x0 (fun c' u1 hk=>le1 0 fm (hk.gon m0 0 rfl)) (mn2 8 15 ?_ ?_)))
  ·refine gc 8 (cK d0 g.m d.G A t1) ?_;rintro v47 k4 x6 ⟨e0,rfl⟩;have d5:=(Kp.nil e0);refine ⟨.inr d5,mn2 13 15 ?_ ?_⟩
   ·refine gc 13 (bK e0 g.m d.G A.m l0) ?_;rintro v54 l4 y6 ⟨f0,rfl⟩;have e5:=(Kp.nil f0);refine ⟨.inr e5,mn2 14 15 ?_ ?_⟩
    ·refine gc 14 (fa f0 d.At s t R) ?_;rintro h7 m4 z6 ⟨b1,rfl⟩;have f5:=(Kp.nil b1);refine ⟨.inr f5,o1 15 (gm 15 (al 29 [I 0,I 0,B false] b1) ?_)⟩;rintro i7 n4 a7 ⟨f4,rfl,c1⟩;have g5:=(Kp.nil c1);refine ⟨.inr g5,o1 16 (gD 16 (sA 29 [I b.Row,I b.Col,B b.Pending] 0 c1 ⟨rfl,rfl,rfl,trivial⟩) ?_)⟩;rintro n1 b7 d1;have h5:=(Kp.nil d1);exact ⟨.inr h5,dn (nrm<|jn n1 ⟨f4,d1,rfl⟩)⟩
    refine gm 15 (al 29 [I 0,I 0,B false] f0) ?_;rintro j7 o4 c7 ⟨g4,rfl,e1⟩;have i5:=(Kp.nil e1);refine ⟨.inr i5,o1 14 (gc 14 (fa e1 d.At s t R) ?_)⟩;rintro k7 p4 d7 ⟨f1,rfl⟩;have j5:=(Kp.nil f1);refine ⟨.inr j5,o1 16 (gD 16 (sA 29 [I b.Row,I b.Col,B b.Pending] 0 f1 ⟨rfl,rfl,rfl,trivial⟩) ?_)⟩;rintro q1 e7 g1;have k5:=(Kp.nil g1);exact ⟨.inr k5,dn (nrm<|jn q1 ⟨g4,g1,rfl⟩)⟩
   refine gm 15 (al 29 [I 0,I 0,B false] e0) ?_;rintro l7 q4 f7 ⟨h4,rfl,h1⟩;have l5:=(Kp.nil h1);refine ⟨.inr l5,o1 13 (gc 13 (bK h1 g.m d.G A.m l0) ?_)⟩;rintro m7 r4 g7 ⟨i1,rfl⟩;have m5:=(Kp.nil i1);refine ⟨.inr m5,o1 14 (gc 14 (fa i1 d.At s t R) ?_)⟩;rintro n6 t2 e6 ⟨j1,rfl⟩;have v3:=(Kp.nil j1);refine ⟨.inr v3,o1 16 (gD 16 (sA 29 [I b.Row,I b.Col,B b.Pending] 0 j1 ⟨rfl,rfl,rfl,trivial⟩) ?_)⟩;rintro g0 f6 T;have w3:=(Kp.nil T);exact ⟨.inr w3,dn (nrm<|jn g0 ⟨h4,T,rfl⟩)⟩
  refine gm 15 (al 29 [I 0,I 0,B false] d0) ?_;rintro o6 u2 g6 ⟨s2,rfl,U⟩;have x3:=(Kp.nil U);refine ⟨.inr x3,o1 8 (gc 8 (cK U g.m d.G A.m t1) ?_)⟩;rintro p6 v2 h6 ⟨X,rfl⟩;have y3:=(Kp.nil X);refine ⟨.inr y3,o1 13 (gc 13 (bK X g.m d.G A.m l0) ?_)⟩;rintro q6 w2 i6 ⟨Z,rfl⟩;have z3:=(Kp.nil Z);refine ⟨.inr z3,o1 14 (gc 14 (fa Z d.At s t R) ?_)⟩;rintro r6 x2 j6 ⟨a0,rfl⟩;have a4:=(Kp.nil a0);refine ⟨.inr a4,o1 16 (gD 16 (sA 29 [I b.Row,I b.Col,B b.Pending] 0 a0 ⟨rfl,rfl,rfl,trivial⟩) ?_)⟩;rintro h0 k6 b0;have b4:=(Kp.nil b0);exact ⟨.inr b4,dn (nrm<|jn h0 ⟨s2,b0,rfl⟩)⟩
 rintro e_ w_ ⟨i0,v5,_,rfl,i,rfl,P,h,rfl⟩;refine nrm<|bn H fun c4 a c2=>W.seqJ (Jn i0 fun c l=>∃G_,Own c G_ ((Eb P 29 [I b.Row,I b.Col,B b.Pending])::F)/\l= []/\Rel c c4 G_) ?_ ?_
 ·refine KE (J j)<|wln<|W.block<|sr<|vv (B (j==13))<|KH a (fun d3 a=>?_) (fun d3 a=>?_)
  ·refine Kz v1<|vx (leN 29 0 [I b.Row,I b.Col,B b.Pending] (h.on 0 rfl))<|bn a fun e e3 a=>cl (kO h b e3) ?_;rintro s6 t5 D ⟨d2,rfl⟩;refine bn a fun c6 f3 a=>?_;obtain ⟨p,rfl,j0⟩:=((S.mono (o.trans (n.trans (i.trans D))))).get f3;refine va (Q p)<|Kw p 1<|bn a fun u0 g3 a=>?_;obtain ⟨M,j3,i3⟩:=Rel.open_place_Pen (g.mono (o.trans (n.trans (i.trans D)))) g3 j0;refine md (gB 29 1 [I e.Row,I e.Col,B e.Pending] [M,I e.Row,I e.Col,B e.Pending,B u0.Auto] 0 d2 j3 ⟨rfl,rfl,rfl,trivial⟩) ?_;rintro y2 q0 e2;refine bn a fun d4 k3 a=>?_;obtain ⟨x1,f2,n2,x5,q5⟩:=Rel.put_place_Pen e2 (g.mono (o.trans (n.trans (i.trans (D.trans q0))))) (E':=[(Eb p 126 [M,I e.Row,I e.Col,B e.Pending,B u0.Auto])]) k3 ⟨p,M,(tm j0),rfl,(i3.mono q0)⟩;refine WL.nil<|KJ ?_;cases a;exact jn y2 ⟨x1,f2,rfl,n2⟩
  refine sr<|vv (B (j==10))<|KH a (fun l3 a=>?_) (fun l3 a=>?_)
  ·refine Kz v1<|bn a fun v6 m3 a=>cl (oP h g.m p0 S.m m3) ?_;rintro t6 z2 l6 ⟨y1,g2,o2,rfl⟩;refine WL.nil<|KJ ?_;cases a;exact jn z2 ⟨y1,g2,rfl,o2⟩
  refine sr<|vv (B (j==8))<|KH a (fun n3 a=>?_) (fun n3 a=>?_)
  ·refine Kz v1<|vx (leN 29 0 [I b.Row,I b.Col,B b.Pending] (h.on 0 rfl))<|bn a fun f o3 a=>cl (xT h b o3) ?_;rintro u6 u5 E ⟨i2,rfl⟩;refine bn a fun d6 p3 a=>?_;obtain ⟨q,rfl,k0⟩:=((S.mono (o.trans (n.trans (i.trans E))))).get p3;refine va (Q q)<|Kw q 1<|bn a fun v0 q3 a=>?_;obtain ⟨N,t3,s3⟩:=Rel.open_place_Pen (g.mono (o.trans (n.trans (i.trans E)))) q3 k0;refine md (gB 29 1 [I f.Row,I f.Col,B f.Pending] [N,I f.Row,I f.Col,B f.Pending,B v0.Auto] 0 i2 t3 ⟨rfl,rfl,rfl,trivial⟩) ?_;rintro a3 s0 j2;refine bn a fun e4 u3 a=>?_;obtain ⟨z1,k2,p2,y5,r5⟩:=Rel.put_place_Pen j2 (g.mono (o.trans (n.trans (i.trans (E.trans s0))))) (E':=[(Eb q 126 [N,I f.Row,I f.Col,B f.Pending,B v0.Auto])]) u3 ⟨q,N,(tm k0),rfl,(s3.mono s0)⟩;refine WL.nil<|KJ ?_;cases a;exact jn a3 ⟨z1,k2,rfl,p2⟩
  refine W.skip<|KJ ?_;cases a;exact jn i0 ⟨G,h,rfl,g.m⟩
 rintro e_ w_ ⟨b3,w5,_,rfl,m6,rfl,b2,l2,rfl,q2⟩;refine Ky true<|KG ?_;cases c2;have m2:=l2.sD 1 [];exact KC b3 ⟨b2,m2,q2,rfl⟩
def dF (p0:Int):Option Bool:=
 (bL (decide (p0>=0)) (some (decide (p0<=31)))).bind fun b=>
 (orE b ((bL (decide (p0>=127)) (some (decide (p0<=159)))).bind fun a=>
 some a)).bind fun c=>
 some c
theorem kC (e:Own c0 G F) (a:Int){r:Bool}(H:dF a=some r): KP 39 #[J a] c0 fun c v=>Own c G F/\v=B r:=by
 unfold dF at H;refine en func39 rfl rfl<|Ky false<|KA<|bn H fun z t H=>bn H fun s n H=>W.join (Jn c0 fun c l=>Own c G F/\l= [(2,B s)]) ?_ ?_
 ·clear H;refine Kz (J a)<|Kr (a>=0) ?_;rcases bo (decide (a>=0)) with f|f
  ·have x:=anT f t;refine vb f<|wa (J a)<|Ks (a<=31) ?_;cases x;refine Kr (a<=31) ?_;rcases bo (decide (a<=31)) with g|g
   ·obtain rfl:=orT g n;exact vb g<|pz<|pz<|pz<|vv (B true)<|KB c0 ⟨e,rfl⟩
   have i:=orF g n;refine vb g<|wa (J a)<|Ks (a>=127)<|wn<|bn i fun m u i=>?_;rcases bo (decide (a>=127)) with h|h
   ·have y:=anT h u;refine vb h<|wa (J a)<|Ks (a<=159)<|wn ?_;cases y;refine Kr (a<=159) ?_;cases i;exact vv (B (decide (a<=159)))<|KB c0 ⟨e,rfl⟩
   obtain rfl:=anF h u;refine vb h<|pz<|Kt false ?_;cases i;exact vv (B false)<|KB c0 ⟨e,rfl⟩
  obtain rfl:=anF f t;refine vb f<|pz<|Kq false ?_;have j:false=false:=rfl;have d:=orF j n;refine vb j<|wa (J a)<|Ks (a>=127)<|wn<|bn d fun m k d=>?_;rcases bo (decide (a>=127)) with b|b
  ·have o:=anT b k;refine vb b<|wa (J a)<|Ks (a<=159)<|wn ?_;cases o;refine Kr (a<=159) ?_;cases d;exact vv (B (decide (a<=159)))<|KB c0 ⟨e,rfl⟩
  obtain rfl:=anF b k;refine vb b<|pz<|Kt false ?_;cases d;exact vv (B false)<|KB c0 ⟨e,rfl⟩
 rintro E M ⟨q,A,_,rfl,D,rfl,p,rfl⟩;refine nrm<|W.ret ?_;cases H;exact KC q ⟨p,rfl⟩
def cN (p0:aa) (p1:Int):Option (aa×Bool):=
 (if (p1==13)=true then
 (cp p0).bind fun f=>
 some (f.L,f.At.Row,0,false,f.Auto)
 else
 some (p0.L,p0.At.Row,p0.At.Col,p0.At.Pending,p0.Auto)).bind fun b=>
 (if (p1==10)=true then
 (du (⟨b.1,(⟨b.2.1,b.2.2.1,b.2.2.2.1⟩:ai),b.2.2.2.2⟩:aa)).bind fun c=>
 some (c.L,c.At.Row,c.At.Col,c.At.Pending,c.Auto)
 else
 some (b.1,b.2.1,b.2.2.1,b.2.2.2.1,b.2.2.2.2)).bind fun a=>
 (if (p1==8)=true then
 (cp (⟨a.1,(⟨a.2.1,a.2.2.1,a.2.2.2.1⟩:ai),a.2.2.2.2⟩:aa)).bind fun e=>
 some (e.L,e.At.Row,(aK 0 (w64 (e.At.Col-1))),false,e.Auto)
 else
 some (a.1,a.2.1,a.2.2.1,a.2.2.2.1,a.2.2.2.2)).bind fun d=>
 (dF p1).bind fun g=>
 some ((⟨d.1,(⟨d.2.1,d.2.2.1,d.2.2.2.1⟩:ai),d.2.2.2.2⟩:aa),g)
theorem ug (O0:Own c0 G F) (h:aa) (i:Int){r:aa×Bool}(h2:Sl av c0 v1 h.L) (H:cN h i=some r): KP 131 #[.agg #[v1,I h.At.Row,I h.At.Col,B h.At.Pending,B h.Auto],J i] c0 fun c v=>∃y1,Own c G F/\v= .tuple #[.agg #[y1,I r.1.At.Row,I r.1.At.Col,B r.1.At.Pending,B r.1.Auto],B r.2]/\Sl av c y1 r.1.L:=by
 unfold cN at H;refine en func131 rfl rfl<|sr ?_;obtain ⟨a3,a4,a5,rfl⟩:=(h2).form;refine me (al 31 [.slice a3 a4 a5,I h.At.Row,I h.At.Col,B h.At.Pending,B h.Auto] O0) ?_;rintro v9 c8 l8 ⟨f,rfl,O7⟩;refine me (al 31 [Y,I 0,I 0,B false,B false] O7) ?_;rintro v13 j0 d3 ⟨p,rfl,S⟩;refine Kq false<|wln<|bn H fun e j b1=>W.seqJ (Jn j0 fun c l=>∃v16,Own c G ((Eb p 31 [Y,I 0,I 0,B false,B false])::(Eb f 31 [v16,I e.2.1,I e.2.2.1,B e.2.2.2.1,B e.2.2.2.2])::F)/\l= [(1,J i),(2,Q f),(4,Q p)]/\Sl av c v16 e.1) ?_ ?_
 ·refine KE (J i)<|Kq (i==13)<|KH j (fun x1 j=>?_) (fun x1 j=>?_)
  ·refine sr<|vx (leN 31 0 [.slice a3 a4 a5,I h.At.Row,I h.At.Col,B h.At.Pending,B h.Auto] (S.on 1 rfl))<|bn j fun g z1 j=>cl (dN S h h2.m z1) ?_;rintro v26 p2 e3 ⟨v19,d1,rfl,X⟩;obtain ⟨z,A,D,rfl⟩:=(X).form;refine md (sA 31 [.slice z A D,I g.At.Row,I g.At.Col,B g.At.Pending,B g.Auto] 1 d1 ⟨X.one,rfl,rfl,rfl,rfl,trivial⟩) ?_;rintro q2 f3 e1;refine KN<|Kw f 1<|Kw f 2<|md (sC 3 2 (I 0) [.slice z A D,I g.At.Row,I 0,B g.At.Pending,B g.Auto] 1 e1 ⟨rfl,trivial⟩) ?_;rintro s2 g3 f1;refine wln<|W.region<|Kw f 1<|Kw f 3<|md (sC 4 3 (B false) [.slice z A D,I g.At.Row,I 0,B false,B g.Auto] 1 f1 ⟨rfl,trivial⟩) ?_;rintro q1 h3 g1;refine wln ?_;cases j;exact jn q1 ⟨(.slice z A D),g1,rfl,X.m⟩
  refine KI ?_;cases j;exact jn j0 ⟨(.slice a3 a4 a5),S,rfl,h2.m⟩
 rintro e_ w_ ⟨k0,y2,_,rfl,i3,rfl,v16,T,rfl,m0⟩;refine bn b1 fun d k c1=>W.seqJ (Jn k0 fun c l=>∃v45,Own c G ((Eb p 31 [Y,I 0,I 0,B false,B false])::(Eb f 31 [v45,I d.2.1,I d.2.2.1,B d.2.2.2.1,B d.2.2.2.2])::F)/\l= [(1,J i),(2,Q f),(4,Q p)]/\Sl av c v45 d.1) ?_ ?_
 ·refine KE (J i)<|Kq (i==10)<|KH k (fun b2 k=>?_) (fun b2 k=>?_)
  ·refine W.region<|vx (leN 31 0 [v16,I e.2.1,I e.2.2.1,B e.2.2.2.1,B e.2.2.2.2] (T.on 1 rfl))<|bn k fun u c2 k=>cl (lg T (⟨e.1,(⟨e.2.1,e.2.2.1,e.2.2.2.1⟩:ai),e.2.2.2.2⟩:aa) m0 c2) ?_;rintro v55 t2 j3 ⟨v48,h1,rfl,Z⟩;obtain ⟨g0,h0,i0,rfl⟩:=(Z).form;refine md (sA 31 [.slice g0 h0 i0,I u.At.Row,I u.At.Col,B u.At.Pending,B u.Auto] 1 h1 ⟨Z.one,rfl,rfl,rfl,rfl,trivial⟩) ?_;rintro s1 k3 i1;refine wln ?_;cases k;exact jn s1 ⟨(.slice g0 h0 i0),i1,rfl,Z.m⟩
  refine KI ?_;cases k;exact jn k0 ⟨v16,T,rfl,m0⟩
 rintro e_ w_ ⟨l0,z2,_,rfl,l3,rfl,v45,U,rfl,o0⟩;refine bn c1 fun a n P=>W.seqJ (Jn l0 fun c l=>∃o,Own c G ((Eb p 31 [Y,I 0,I 0,B false,B false])::(Eb f 31 [o,I a.2.1,I a.2.2.1,B a.2.2.2.1,B a.2.2.2.2])::F)/\l= [(1,J i),(2,Q f),(4,Q p)]/\Sl av c o a.1) ?_ ?_
 ·refine KE (J i)<|Kq (i==8)<|KH n (fun d2 n=>?_) (fun d2 n=>?_)
  ·refine sr<|vx (leN 31 0 [v45,I d.2.1,I d.2.2.1,B d.2.2.2.1,B d.2.2.2.2] (U.on 1 rfl))<|bn n fun b e2 n=>cl (dN U (⟨d.1,(⟨d.2.1,d.2.2.1,d.2.2.2.1⟩:ai),d.2.2.2.2⟩:aa) o0 e2) ?_;rintro t3 u2 m3 ⟨s3,j1,rfl,a0⟩;obtain ⟨E,M,N,rfl⟩:=(a0).form;refine md (sA 31 [.slice E M N,I b.At.Row,I b.At.Col,B b.At.Pending,B b.Auto] 1 j1 ⟨a0.one,rfl,rfl,rfl,rfl,trivial⟩) ?_;rintro v2 n3 e0;refine KN<|Kw f 1<|Kw f 2<|vx (le1 2 u_3 (e0.on 1 rfl))<|Kx (b.At.Col-1)<|Ku (aK 0 (w64 (b.At.Col-1)))<|Kw f 1<|Kw f 2<|md (sC 3 2 (I (aK 0 (w64 (b.At.Col-1)))) [.slice E M N,I b.At.Row,I (aK 0 (w64 (b.At.Col-1))),B b.At.Pending,B b.Auto] 1 e0 ⟨rfl,trivial⟩) ?_;rintro w2 o3 k1;refine wln<|W.region<|Kw f 1<|Kw f 3<|md (sC 4 3 (B false) [.slice E M N,I b.At.Row,I (aK 0 (w64 (b.At.Col-1))),B false,B b.Auto] 1 k1 ⟨rfl,trivial⟩) ?_;rintro t1 p3 m1;refine wln ?_;cases n;exact jn t1 ⟨(.slice E M N),m1,rfl,a0.m⟩
  refine KI ?_;cases n;exact jn l0 ⟨v45,U,rfl,o0⟩
 rintro e_ w_ ⟨x2,b3,_,rfl,q3,rfl,o,n1,rfl,b0⟩;refine W.seq<|rD [] (Kp G0 [(Eb f 31 [o,I a.2.1,I a.2.2.1,B a.2.2.2.1,B a.2.2.2.2])]) n1 ?_;intro u1 f2 f0;have g2:=(Kp.cons (f0.on 1 rfl) Kp.nil0);refine tkx 0 g2 (fun c' c3 hk=>leN 31 0 [o,I a.2.1,I a.2.2.1,B a.2.2.2.1,B a.2.2.2.2] (hk.on 0 rfl)) (ta 1 (J i)<|bn P fun d0 w0 P=>o1 2 (gc 2 (kC f0 i w0) ?_));rintro o2 v0 y0 ⟨R,rfl⟩;have z0:=(Kp.cons (R.on 1 rfl) Kp.nil0);refine ⟨.inr z0,?_⟩;obtain ⟨q,s,t,rfl⟩:=((b0.mono (f2.trans y0))).form;refine o1 3 (gD 3 (sA 31 [.slice q s t,I a.2.1,I a.2.2.1,B a.2.2.2.1,B a.2.2.2.2] 0 R ⟨b0.m.one,rfl,rfl,rfl,rfl,trivial⟩) ?_);rintro y n2 x;have a1:=(Kp.cons (x.on 1 rfl) Kp.nil0);refine ⟨.inr a1,ta 4 (B d0) (dn (nrm<|W.ret ?_))⟩;cases P;have q0:=x.sD 2 [];exact qR (c:=y) (vs:=[.slice q s t,I a.2.1,I a.2.2.1,B a.2.2.2.1,B a.2.2.2.2]) (v:=B d0) rfl (by kernel_rfl) (by kernel_rfl) (by kernel_rfl) (by kernel_rfl) (x.on 0 rfl _ rfl).1 ⟨_,y,rfl,rfl,pt,(.slice q s t),q0,rfl,b0.m⟩
end Go.Proofs.YtclmdpamofdoiaaGreatDoor
