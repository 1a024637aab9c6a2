/- Parts of the proofs of TopDraws: the walk through the code, and plain Lean. No condition. -/
import Derived.Test.YtkgjnbiiiifoaaaGreatDoorTdA
import Derived.Test.YtkgjnbiiiifoaaaGreatDoorProg
import Derived.Test.YtkgjnbiiiifoaaaGreatDoorTdC
import Derived.Test.YtkgjnbiiiifoaaaGreatDoorTdB
import Derived.RangeFuncSeq
import Derived.RangeFuncRecord
import Derived.RangeFuncLeaves
import Derived.WalkKit
set_option linter.unusedVariables false
set_option linter.unusedSimpArgs false
namespace Go.Proofs.YtkgjnbiiiifoaaaGreatDoor
open Go Go.Lt
set_option maxRecDepth 10000
set_option linter.unusedVariables false
attribute [local irreducible] W WL AC
open Tryz
variable {c0:Cx}{G:Gm}{F:List En}{sg:Sto}{v1 v2 v3 v4 v5 v6 v7 v8 v9 v10 v11 v12 v13 v14 v15 v16 v17 v18 v19 v20 v21 v22 v23 v24 v25 v26 v27 v28 v29 v30 v31 v32 v33 v34 v35 v36 v37 v38 v39 v40 v41 v42 v43 v44 v45 v46 v47 v48 v49 v50 v51 v52 v53 v54 v55 v56 v57 v58 v59 v60:Value}
def lE (p0:Int):Option Bool:=
 (bw (decide (p0>=1)) (some (decide (p0<=1024)))).bind fun a=>
 some a
theorem vD (d:Own c0 G F) (a:Int){r:Bool}(H:lE a=some r): RU 169 #[I a] c0 fun c v=>Own c G F/\v=B r:=by
 unfold lE at H;refine en func169 rfl rfl<|Ru false<|Rx<|bn H fun e f H=>W.join (Jn c0 fun c l=>Own c G F/\l= [(2,B e)]) ?_ ?_
 ·clear H;refine RC a<|Rj (a>=1) ?_;rcases bo (decide (a>=1)) with b|b
  ·have g:=anT b f;refine vb b<|wa (I a)<|Rm (a<=1024) ?_;cases g;exact vv (B (decide (a<=1024)))<|Ry c0 ⟨d,rfl⟩
  obtain rfl:=anF b f;exact vb b<|pz<|Rk false<|Ry c0 ⟨d,rfl⟩
 rintro j n ⟨i,k,_,rfl,m,rfl,h,rfl⟩;refine nrm<|W.ret ?_;cases H;exact Rz i ⟨h,rfl⟩
def lF (p0:List aa) (p1:Int):Option Int:=
 (orE (decide (p1<0)) (some (decide (p1>=(p0.length:Int))))).bind fun b=>
 if b then
 some 0
 else
 (idx p0 p1).bind fun a=>
 some a.Kind
theorem vF (h:Own c0 G F) (d:List aa) (a:Int){r:Int}(f:Sl aw c0 v1 d) (H:lF d a=some r): RU 235 #[v1,I a] c0 fun c v=>Own c G F/\v=I r:=by
 unfold lF at H;refine en func235 rfl rfl<|RA 0<|Rx<|W.seq<|bn H fun k p H=>W.join (Jn c0 fun c l=>Own c G F/\l= [(0,v1),(1,I a),(12,B k)]) ?_ ?_
 ·clear H;refine RC a<|Rj (a<0) ?_;rcases bo (decide (a<0)) with b|b
  ·obtain rfl:=orT b p;exact vb b<|pz<|pz<|Ri true<|Ry c0 ⟨h,rfl⟩
  have s:=orF b p;refine vb b<|wa (I a)<|wa v1<|wn<|vx (ln 3 cw f)<|Rm (a>=(d.length:Int)) ?_;cases s;exact Rj (a>=(d.length:Int))<|Ry c0 ⟨h,rfl⟩
 rintro y A ⟨j,z,_,rfl,t,rfl,i,rfl⟩;refine nrm<|cn H (fun n H=>?_) (fun n H=>?_)
 ·refine RA 0<|RD<|thr ?_;cases H;exact Rz j ⟨i,rfl⟩
 refine RG<|RB v1<|Ro a<|bn H fun g e H=>?_;obtain ⟨u,o,q⟩:=Sl.at (f.mono t) (aP e);obtain ⟨v17,rfl,x⟩:=o;refine vx (ix cw f.m e)<|Rs (sb v1) (so v1+a.toNat*2)<|vx (l1 u_3 (q 0 _ rfl))<|Ro g.Kind<|RD ?_;cases H;exact Rz j ⟨i,rfl⟩
def lU (p0:List aa) (p1:Int):Option Er:=
 (idx p0 p1).bind fun b=>
 (kb b).bind fun d=>
 if (!d)=true then
 some (Er.sent 3)
 else
 ((bw (b.Kind==2) ((lF p0 (w64 (p1+1))).bind fun e=>
 some (e != 3))).bind fun a=>
 if a then
 some a
 else
 (bw (b.Kind==3) ((lF p0 (w64 (p1-1))).bind fun f=>
 some (f != 2))).bind fun c=>
 some c).bind fun g=>
 if g then
 some (Er.sent 2)
 else
 some Er.nil
theorem yW (O0:Own c0 G F) (hG:Gl [2,3] c0) (D:List aa) (d:Int){r:Er}(A:Sl aw c0 v1 D) (H:lU D d=some r): RU 170 #[v1,I d] c0 fun c v=>∃y1,Own c G F/\v=y1/\RE 352 80 c y1 r:=by
 unfold lU at H;refine en func170 rfl rfl<|RB (.nilIface)<|wln<|RB v1<|Ro d<|bn H fun b h3 H=>?_;obtain ⟨t1,h5,m6⟩:=Sl.at A (aP h3);obtain ⟨v7,rfl,h8⟩:=h5;refine vx (ix cw A h3)<|vx (lN 61 m6)<|me (al 61 [I 0,Y] O0) ?_;rintro v12 g1 y ⟨s,rfl,f0⟩;obtain ⟨f,g,h,rfl⟩:=((h8.mono y)).form;refine md (sA 61 [I b.Kind,.slice f g h] 0 f0 ⟨rfl,h8.m.one,trivial⟩) ?_;rintro h1 U E;refine Rx<|W.block<|sr<|vx (leN 61 0 [I b.Kind,.slice f g h] (E.on 0 rfl))<|bn H fun z t0 H=>cl (vC E b h8.m t0) ?_;rintro v24 q X ⟨o,rfl⟩;refine Rk (!z)<|RF H (fun u0 H=>?_) (fun u0 H=>?_)
 ·refine sr ?_;obtain ⟨v26,P⟩:=(hG.mono (y.trans (U.trans X))).get 3 (by decide);refine vx (l1 tB P.im)<|va v26<|RD<|RK ?_;cases H;have g0:=o.sD 1 [];exact Rz q ⟨v26,g0,rfl,P⟩
 refine bn H fun e0 a e=>W.seqJ (Jn q fun c l=>Own c G ((Eb s 61 [I b.Kind,.slice f g h])::F)/\l= [(15,B e0)]) ?_ ?_
 ·refine W.seq<|bn a fun a0 R a=>W.join (Jn q fun c l=>Own c G ((Eb s 61 [I b.Kind,.slice f g h])::F)/\l= [(0,v1),(1,I d),(5,Q s),(15,B a0)]) ?_ ?_
  ·clear a;refine Rv (Q s)<|vx (le1 0 u_3 (o.on 0 rfl))<|Ri (b.Kind==2) ?_;rcases bo (b.Kind==2) with i|i
   ·have t:=anT i R;refine vb i<|wa v1<|wa (I d)<|wa (I (w64 (d+1)))<|wn<|bn t fun k w0 t=>cl (vF o D (w64 (d+1)) A.m w0) ?_;rintro v40 m0 m1 ⟨h0,rfl⟩;refine Rn (k != 3) ?_;cases t;exact Rk (k != 3)<|Ry m0 ⟨h0,rfl⟩
   obtain rfl:=anF i R;exact vb i<|pz<|pz<|ps<|Rk false<|Ry q ⟨o,rfl⟩
  rintro e_ w_ ⟨x,i1,_,rfl,n1,rfl,p,rfl⟩;refine nrm<|cn a (fun x0 a=>?_) (fun x0 a=>?_)
  ·refine RG ?_;cases a;exact jn x ⟨p,rfl⟩
  refine bn a fun b0 S a=>W.join (Jn x fun c l=>Own c G ((Eb s 61 [I b.Kind,.slice f g h])::F)/\l= [(15,B b0)]) ?_ ?_
  ·clear a;refine Rv (Q s)<|vx (le1 0 u_3 (p.on 0 rfl))<|Ri (b.Kind==3) ?_;rcases bo (b.Kind==3) with j|j
   ·have u:=anT j S;refine vb j<|wa v1<|wa (I d)<|wa (I (w64 (d-1)))<|wn<|bn u fun n y0 u=>cl (vF p D (w64 (d-1)) A.m y0) ?_;rintro v57 o0 q1 ⟨i0,rfl⟩;refine Rn (n != 2) ?_;cases u;exact Rk (n != 2)<|Ry o0 ⟨i0,rfl⟩
   obtain rfl:=anF j S;exact vb j<|pz<|pz<|ps<|Rk false<|Ry x ⟨p,rfl⟩
  rintro e_ w_ ⟨q0,j1,_,rfl,s1,rfl,j0,rfl⟩;refine nrm ?_;cases a;exact jn q0 ⟨j0,rfl⟩
 rintro e_ w_ ⟨N,k1,_,rfl,a1,rfl,M,rfl⟩;refine cn e (fun z0 e=>?_) (fun z0 e=>?_)
 ·refine sr ?_;obtain ⟨Z,T⟩:=(hG.mono (y.trans (U.trans (X.trans a1)))).get 2 (by decide);refine vx (l1 tB T.im)<|va Z<|RD<|RK ?_;cases e;have k0:=M.sD 1 [];exact Rz N ⟨Z,k0,rfl,T⟩
 refine W.skip<|RH<|RB (.nilIface)<|RD ?_;cases e;have l0:=M.sD 1 [];exact Rz N ⟨.nilIface,l0,rfl,rfl⟩
def na (p0:aH):Option (List Er):=
 ((lE p0.Wide).bind fun u=>
 (orE (!u) ((lE p0.High).bind fun l=>
 some (!l))).bind fun i=>
 (orE i (some (p0.High != (p0.Lines.length:Int)))).bind fun j=>
 if j then
 (app ([]:List Er) ([(Er.sent 7)]:List Er)).bind fun m=>
 some m
 else
 some (([]:List Er))).bind fun v=>
 (cm (σ:=(List Er)×Int) (τ:=(List Er)) (((p0.Lines.length:Int)-0).toNat+1) (fun a=>
 if decide (a.2<(p0.Lines.length:Int)) then
 (idx p0.Lines a.2).bind fun c=>
 (if ((c.Cells.length:Int) != p0.Wide)=true then
 (jo a.2 (Er.sent 0)).bind fun n=>
 (app a.1 ([n]:List Er)).bind fun o=>
 some o
 else
 some a.1).bind fun s=>
 (cm (σ:=(List Er)×Int) (τ:=(List Er)) (((c.Cells.length:Int)-0).toNat+1) (fun b=>
 if decide (b.2<(c.Cells.length:Int)) then
 ((lU c.Cells b.2).bind fun e=>
 if (!e.isNil)=true then
 (jo b.2 e).bind fun p=>
 (jo a.2 p).bind fun q=>
 (app b.1 ([q]:List Er)).bind fun r=>
 some r
 else
 some b.1).bind fun t=>
 some (.inl (t,(w64 (b.2+1))))
 else
 some (.inr b.1)) (s,0)).bind fun k=>
 some (.inl (k,(w64 (a.2+1))))
 else
 some (.inr a.1)) (v,0)).bind fun d=>
 ((gu p0.At p0.Wide p0.High).bind fun f=>
 if (!f)=true then
 (app d ([(Er.sent 4)]:List Er)).bind fun g=>
 some g
 else
 some d).bind fun h=>
 some h
theorem AF (O0:Own c0 G F) (hG:Gl [0,2,3,4,7] c0) (d:aH){r:List Er}(h2:Sl aN c0 v1 d.Lines) (H:na d=some r): RU 124 #[.agg #[I d.Wide,I d.High,v1,I d.At.Row,I d.At.Col,B d.At.Pending,B d.Auto]] c0 fun c v=>∃y1 y2,Own c G (es true (RER 352 80) y1 39 y2 r::F)/\v=y1/\OA (RER 352 80) c y1 y2 r:=by
 unfold na at H;refine en func124 rfl rfl<|sr ?_;obtain ⟨a3,a4,a5,rfl⟩:=(h2).form;refine me (bx 31 [I d.Wide,I d.High,.slice a3 a4 a5,I d.At.Row,I d.At.Col,B d.At.Pending,B d.Auto] O0) ?_;rintro v10 c9 l9 ⟨o,rfl,O7,P⟩;refine va Y<|wln<|RB Y<|wln<|bn H fun e3 h x=>W.seqJ (Jn c9 fun c l=>∃v13 u0,Own c G (es true (RER 352 80) v13 39 u0 e3::F)/\l= [(1,Q o),(3,v13)]/\OA (RER 352 80) c v13 u0 e3) ?_ ?_
 ·refine W.seq<|bn h fun d3 r6 h=>bn h fun w7 t2 h=>bn h fun n4 p1 h=>W.join (Jn c9 fun c l=>Own c G F/\l= [(1,Q o),(3,Y),(25,B n4)]) ?_ ?_
  ·clear h;refine Rv (Q o)<|vx (l1 u_3 (P 0 _ rfl))<|cl (vD O7 d.Wide r6) ?_;rintro v23 m6 x9 ⟨m2,rfl⟩;refine Ri (!d3) ?_;rcases bo (!d3) with f0|f0
   ·obtain rfl:=orT f0 t2;refine vb f0<|pz<|pz<|Ri true ?_;have u2:true=true:=rfl;obtain rfl:=orT u2 p1;exact vb u2<|pz<|pz<|pz<|Ri true<|Ry m6 ⟨m2,rfl⟩
   have b1:=orF f0 t2;refine vb f0<|wa (Qo o (0+1))<|wn<|vx (l1 u_3 ((mm P) 1 _ rfl))<|wn<|bn b1 fun q0 s6 b1=>cl (vD m2 d.High s6) ?_;rintro v33 q2 y9 ⟨n2,rfl⟩;refine Rn (!q0) ?_;cases b1;refine Ri (!q0) ?_;rcases bo (!q0) with g0|g0
   ·obtain rfl:=orT g0 p1;exact vb g0<|pz<|pz<|pz<|Ri true<|Ry q2 ⟨n2,rfl⟩
   have d6:=orF g0 p1;refine vb g0<|wa (Qo o (0+1))<|wn<|vx (l1 u_3 ((mm P) 1 _ rfl))<|wa (Qo o (0+2))<|wn<|vx (l1 gb ((mm P) 2 _ rfl))<|wn<|vx (ln 3 gb h2.m)<|Rn (d.High != (d.Lines.length:Int)) ?_;cases d6;exact Ri (d.High != (d.Lines.length:Int))<|Ry q2 ⟨n2,rfl⟩
  rintro e_ w_ ⟨s2,u9,_,rfl,e7,rfl,o2,rfl⟩;refine nrm<|cn h (fun t6 h=>?_) (fun t6 h=>?_)
  ·refine Rv Y ?_;obtain ⟨v43,v2⟩:=(hG.mono (l9.trans e7)).get 7 (by decide);refine vx (l1 tB v2.im)<|me (Own.slE (S:=352) (T:=80) (E:=39) o2 v2 (fun hv=>by subst hv; kernel_rfl) (fun t a hv=>by subst hv; kernel_rfl)) ?_;rintro v49 s9 z9 ⟨u46,e6,u6⟩;obtain ⟨n6,w6,l52,f6,v6⟩:=e6.frz 0 rfl u6;refine WL.gh w6 (bn h fun n9 x6 h=>?_);have y6:OA (RER 352 80) n6 Y [] []:=OA.nil (ba _);have g6:=f6.addHole (e:=es true (RER 352 80) Y 39 [] ([]:List Er)) rfl;refine me (ap (RER 352 80) .nilIface 16 196 0 g6 y6 v6 x6 zf) ?_;rintro c3 o6 l60 ⟨g7,h6,z6⟩;refine va c3<|wln ?_;cases h;have i6:=h6.sD 2 [0];exact jn o6 ⟨c3,g7,i6,rfl,z6⟩
  refine RG ?_;cases h;have a7:OA (RER 352 80) s2 Y [] []:=OA.nil (ba _);have j6:=o2.addHole (e:=es true (RER 352 80) Y 39 [] ([]:List Er)) rfl;exact jn s2 ⟨(Y),[],j6,rfl,a7⟩
 rintro e_ w_ ⟨i1,v9,_,rfl,z1,rfl,v13,u0,k6,rfl,b7⟩;refine W.seq<|sr<|Rs o (0+2)<|vx (l1 gb ((mm P) 2 _ rfl))<|vx (ln 3 gb h2.m)<|Ro 0<|wln<|W.block<|bn x fun x8 w2 l2=>lp w2 (fun b=>Jn i1 fun c l=>∃M i0,Own c G (es true (RER 352 80) M 39 i0 b.1::F)/\l= [(1,Q o),(3,M),(31,.slice a3 a4 a5),(32,I (d.Lines.length:Int)),(33,I b.2)]/\OA (RER 352 80) c M i0 b.1) (fun s0 ex e w=>ex= .exit 0/\(Jn i1 fun c l=>∃N v0,Own c G (es true (RER 352 80) N 39 v0 s0::F)/\l= [(1,Q o),(3,N)]/\OA (RER 352 80) c N v0 s0) e w) ?_ ?_ ?_
 ·clear l2 w2;intro b h7 j1 e2 x;revert j1 e2;rintro e_ w_ ⟨p6,w9,_,rfl,z2,rfl,M,i0,p2,rfl,x1⟩;refine sr<|Rj (b.2<(d.Lines.length:Int))<|Rx<|cn x (fun c7 x=>?_) (fun c7 x=>?_)
  ·refine RG<|RM<|RA b.2<|bn x fun i x2 x=>?_;obtain ⟨w8,d7,f7⟩:=Sl.at (h2.mono (l9.trans (z1.trans z2))) (aP x2);obtain ⟨v90,rfl,h0⟩:=d7;refine vx (ix gb h2.m x2)<|vx (lN 56 f7)<|me (al 56 [Y,B false] p2) ?_;rintro v95 t9 b3 ⟨p,rfl,l6⟩;refine Ro b.2 ?_;obtain ⟨a0,b0,d0,rfl⟩:=((h0.mono b3)).form;refine md (sA 56 [.slice a0 b0 d0,B i.Wrap] 0 l6 ⟨h0.m.one,rfl,trivial⟩) ?_;rintro g1 u5 f1;refine wln<|bn x fun g2 j q=>W.seqJ (Jn g1 fun c l=>∃z R,Own c G (es true (RER 352 80) z 39 R g2::(Eb p 56 [.slice a0 b0 d0,B i.Wrap])::F)/\l= [(1,Q o),(3,z),(4,I b.2),(5,Q p),(31,.slice a3 a4 a5),(32,I (d.Lines.length:Int)),(33,I b.2)]/\OA (RER 352 80) c z R g2) ?_ ?_
   ·refine RB (Q p)<|vx (le1 0 cw (f1.on 0 rfl))<|vx (ln 3 cw h0.m)<|va (Q o)<|vx (l1 u_3 ((mm P) 0 _ rfl))<|Ri ((i.Cells.length:Int) != d.Wide)<|RF j (fun o4 j=>?_) (fun o4 j=>?_)
    ·refine Rv M<|Ro b.2 ?_;obtain ⟨d9,k1⟩:=(hG.mono (l9.trans (z1.trans (z2.trans (b3.trans u5))))).get 0 (by decide);refine vx (l1 tB k1.im)<|bn j fun o9 p4 j=>cl (oy f1 b.2 (Er.sent 0) k1 p4) ?_;rintro e9 n7 d8 ⟨_,h3,rfl,q4⟩;refine me (Own.slE (S:=352) (T:=80) (E:=39) h3 q4 (fun hv=>by subst hv; kernel_rfl) (fun t a hv=>by subst hv; kernel_rfl)) ?_;rintro f9 o7 e8 ⟨z8,i3,r4⟩;obtain ⟨p7,t4,f8,j3,s4⟩:=i3.frz 0 rfl r4;refine WL.gh t4 (bn j fun p9 u4 j=>me (ap (RER 352 80) .nilIface 16 196 2 j3 x1.m s4 u4 zf) ?_);rintro b2 e4 g8 ⟨x5,k3,v4⟩;refine va b2<|wln ?_;cases j;have l3:=k3.sD 3 [2,1];exact jn e4 ⟨b2,x5,l3,rfl,v4⟩
    refine RG ?_;cases j;have m3:=f1.sD 2 [1,0];exact jn g1 ⟨M,i0,m3,rfl,x1.m⟩
   rintro e_ w_ ⟨l0,x7,_,rfl,h8,rfl,z,R,c1,rfl,w4⟩;refine RB (Q p)<|vx (le1 0 cw (c1.on 1 rfl))<|vx (ln 3 cw h0.m)<|Ro 0<|wln<|W.block<|bn q fun y8 m1 a1=>lp m1 (fun f=>Jn l0 fun c l=>∃s y,Own c G (es true (RER 352 80) s 39 y f.1::(Eb p 56 [.slice a0 b0 d0,B i.Wrap])::F)/\l= [(1,Q o),(3,s),(4,I b.2),(5,Q p),(31,.slice a3 a4 a5),(32,I (d.Lines.length:Int)),(33,I b.2),(52,I (i.Cells.length:Int)),(53,I f.2)]/\OA (RER 352 80) c s y f.1) (fun t0 ex e w=>ex= .exit 2/\(Jn l0 fun c l=>∃A U,Own c G (es true (RER 352 80) A 39 U t0::(Eb p 56 [.slice a0 b0 d0,B i.Wrap])::F)/\l= [(1,Q o),(3,A),(31,.slice a3 a4 a5),(32,I (d.Lines.length:Int)),(33,I b.2)]/\OA (RER 352 80) c A U t0) e w) ?_ ?_ ?_
   ·clear a1 m1;intro f h7 j1 e2 q;revert j1 e2;rintro e_ w_ ⟨h1,y7,_,rfl,i8,rfl,s,y,k0,rfl,m0⟩;refine sr<|Rj (f.2<(i.Cells.length:Int))<|Rx<|cn q (fun x4 q=>?_) (fun x4 q=>?_)
    ·refine RG<|bn q fun i2 g f3=>W.seqJ (Jn h1 fun c l=>∃D X,Own c G (es true (RER 352 80) D 39 X i2::(Eb p 56 [.slice a0 b0 d0,B i.Wrap])::F)/\l= [(1,Q o),(3,D),(4,I b.2),(5,Q p),(31,.slice a3 a4 a5),(32,I (d.Lines.length:Int)),(33,I b.2),(52,I (i.Cells.length:Int)),(53,I f.2)]/\OA (RER 352 80) c D X i2) ?_ ?_
     ·refine W.block<|sr<|vv (I f.2)<|wln<|RB (Q p)<|vx (le1 0 cw (k0.on 1 rfl))<|Ro f.2<|bn g fun f2 y4 g=>cl (yW k0 (hG.m.le (by decide)) i.Cells f.2 h0.m y4) ?_;rintro o0 f4 j8 ⟨_,d1,rfl,n1⟩;refine va o0<|wln<|RB o0<|vr (B (!f2.isNil)) (by rcases (n1).cs with ⟨q1,w1⟩|⟨b_,q1,w1⟩|⟨b_,q1,w1⟩ <;> (subst q1; rw [w1]; kernel_rfl))<|RF g (fun z4 g=>?_) (fun z4 g=>?_)
      ·refine Rv s<|Ro b.2<|Ro f.2<|va o0<|bn g fun a6 b5 g=>cl (oy d1 f.2 f2 n1 b5) ?_;rintro g9 q7 k8 ⟨_,n3,rfl,c5⟩;refine bn g fun q9 d5 g=>cl (oy n3 b.2 a6 c5 d5) ?_;rintro h9 r7 l8 ⟨_,o3,rfl,e5⟩;refine me (Own.slE (S:=352) (T:=80) (E:=39) o3 e5 (fun hv=>by subst hv; kernel_rfl) (fun t a hv=>by subst hv; kernel_rfl)) ?_;rintro i9 s7 n8 ⟨a9,p3,f5⟩;obtain ⟨t7,h5,o8,q3,g5⟩:=p3.frz 0 rfl f5;refine WL.gh h5 (bn g fun r9 i5 g=>me (ap (RER 352 80) .nilIface 16 196 1 q3 m0.m g5 i5 zf) ?_);rintro c2 g4 p8 ⟨y5,s3,j5⟩;refine va c2<|WL.nil<|RH ?_;cases g;have t3:=s3.sD 3 [1,2];exact jn g4 ⟨c2,y5,t3,rfl,j5⟩
      refine W.skip<|RH ?_;cases g;exact jn f4 ⟨s,y,d1,rfl,m0.m⟩
     rintro e_ w_ ⟨h4,z7,_,rfl,q8,rfl,D,X,u3,rfl,k5⟩;refine W.region<|Rq (f.2+1)<|WL.nil ?_;cases f3;exact ⟨_,rfl,jn h4 ⟨D,X,u3,rfl,k5⟩⟩
    refine W.exit<|thx ?_;cases q;exact ⟨_,rfl,rfl,jn h1 ⟨s,y,k0,rfl,m0⟩⟩
   ·exact jn l0 ⟨z,R,c1,rfl,w4⟩
   rintro _ e_ w_ ⟨rfl,i4,a8,_,rfl,r8,rfl,A,U,v3,rfl,l5⟩;refine bke<|RH<|W.region<|Rq (b.2+1)<|WL.nil ?_;cases a1;refine ⟨_,rfl,?_⟩;have w3:=v3.sD 2 [0];exact jn i4 ⟨A,U,w3,rfl,l5⟩
  refine W.exit<|thx ?_;cases x;exact ⟨_,rfl,rfl,jn p6 ⟨M,i0,p2,rfl,x1⟩⟩
 ·exact jn i1 ⟨v13,u0,k6,rfl,b7⟩
 rintro _ e_ w_ ⟨rfl,j4,b8,_,rfl,v5,rfl,N,v0,x3,rfl,t1⟩;refine RJ<|bn l2 fun w0 n g3=>W.seqJ (Jn j4 fun c l=>∃u Z,Own c G (es true (RER 352 80) u 39 Z w0::F)/\l= [(3,u)]/\OA (RER 352 80) c u Z w0) ?_ ?_
 ·refine sr<|Rs o (0+3)<|vx (lN 29 (Bw (k:=3) (l:=[I d.At.Row,I d.At.Col,B d.At.Pending]) (mm P) rfl))<|va (Q o)<|vx (l1 u_3 ((mm P) 0 _ rfl))<|Rs o (0+1)<|vx (l1 u_3 ((mm P) 1 _ rfl))<|bn n fun k2 m5 n=>cl (sY x3 d.At d.Wide d.High m5) ?_;rintro j9 k4 w5 ⟨e1,rfl⟩;refine Ri (!k2)<|RF n (fun n5 n=>?_) (fun n5 n=>?_)
  ·refine Rv N ?_;obtain ⟨k9,u1⟩:=(hG.mono (l9.trans (z1.trans (v5.trans w5)))).get 4 (by decide);refine vx (l1 tB u1.im)<|me (Own.slE (S:=352) (T:=80) (E:=39) e1 u1 (fun hv=>by subst hv; kernel_rfl) (fun t a hv=>by subst hv; kernel_rfl)) ?_;rintro m9 u7 s8 ⟨b9,y3,o5⟩;obtain ⟨v7,q5,t8,z3,p5⟩:=y3.frz 0 rfl o5;refine WL.gh q5 (bn n fun j7 r5 n=>me (ap (RER 352 80) .nilIface 16 196 1 z3 t1.m p5 r5 zf) ?_);rintro d2 l4 u8 ⟨z5,b4,s5⟩;refine va d2<|wln ?_;cases n;have c4:=b4.sD 2 [1];exact jn l4 ⟨d2,z5,c4,rfl,s5⟩
  refine RG ?_;cases n;exact jn k4 ⟨N,v0,e1,rfl,t1.m⟩
 rintro e_ w_ ⟨m4,c8,_,rfl,v8,rfl,u,Z,d4,rfl,t5⟩;refine sr<|vv u<|RD ?_;cases g3;exact Rz m4 ⟨u,Z,d4,rfl,t5⟩
def nU (p0:aH):Option Er:=
 (na p0).bind fun a=>
 if decide ((a.length:Int)>0) then
 (idx a 0).bind fun b=>
 some b
 else
 some Er.nil
theorem yX (t:Own c0 G F) (hG:Gl [0,2,3,4,7] c0) (a:aH){r:Er}(k:Sl aN c0 v1 a.Lines) (H:nU a=some r): RU 78 #[.agg #[I a.Wide,I a.High,v1,I a.At.Row,I a.At.Col,B a.At.Pending,B a.Auto]] c0 fun c v=>∃s,Own c G F/\v=s/\RE 352 80 c s r:=by
 unfold nU at H;refine en func78 rfl rfl<|sr ?_;obtain ⟨x,y,z,rfl⟩:=(k).form;refine me (bx 31 [I a.Wide,I a.High,.slice x y z,I a.At.Row,I a.At.Col,B a.At.Pending,B a.Auto] t) ?_;rintro v10 R S ⟨P,rfl,u,D⟩;refine va (.nilIface)<|Rx<|sr<|vx (lN 31 D)<|bn H fun q i H=>cl (AF u (hG.m.le (by decide)) a k.m i) ?_;rintro v12 f M ⟨_,N,d,rfl,b⟩;refine va v12<|wln<|RB v12<|vx (lnO 3 zf b)<|Rj ((q.length:Int)>0)<|RF H (fun l H=>?_) (fun l H=>?_)
 ·refine RB v12<|bn H fun E e H=>vx (ixO zf b e) ?_;obtain ⟨A,n,p⟩:=OA.at b e;obtain ⟨v26,rfl,o⟩:=n;refine vr v26 (rx (by kernel_rfl) (sn tB rfl (d.on 0 rfl) (b.blk e) (at1 (j:=0) p rfl)))<|va v26<|RD<|thr ?_;cases H;have g:=d.sD 1 [];exact Rz f ⟨v26,g,rfl,o⟩
 refine RG<|RB (.nilIface)<|RD ?_;cases H;have h:=d.sD 1 [];exact Rz f ⟨.nilIface,h,rfl,rfl⟩
def kD (p0:aH):Option Bool:=
 (nU p0).bind fun a=>
 some a.isNil
theorem uc (k:Own c0 G F) (hG:Gl [0,2,3,4,7] c0) (a:aH){r:Bool}(j:Sl aN c0 v1 a.Lines) (H:kD a=some r): RU 40 #[.agg #[I a.Wide,I a.High,v1,I a.At.Row,I a.At.Col,B a.At.Pending,B a.Auto]] c0 fun c v=>Own c G F/\v=B r:=by
 unfold kD at H;refine en func40 rfl rfl<|sr ?_;obtain ⟨n,o,p,rfl⟩:=(j).form;refine me (bx 31 [I a.Wide,I a.High,.slice n o p,I a.At.Row,I a.At.Col,B a.At.Pending,B a.Auto] k) ?_;rintro v10 x y ⟨u,rfl,l,s⟩;refine Ri false<|RO<|vx (lN 31 s)<|bn H fun e h H=>cl (yX l (hG.m.le (by decide)) a j.m h) ?_;rintro v12 g t ⟨_,f,rfl,i⟩;refine vr (B e.isNil) (by rcases (i).cs with ⟨b,d⟩|⟨q,b,d⟩|⟨q,b,d⟩ <;> (subst b; rw [d]; kernel_rfl))<|Ri e.isNil<|RD ?_;cases H;exact Rz g ⟨f,rfl⟩
end Go.Proofs.YtkgjnbiiiifoaaaGreatDoor
namespace Go.Lt
set_option linter.unusedVariables false
def isC:Obj->Bool
 | .cells _ _ _=>true
 | _=>false
section
variable {P:Program}{n:Nat}{df:List Deferred}{Q:List Deferred->Exit->(Nat->Value)->World->Prop}{e:Nat->Value}{w:World}{a b:Code}
def WR (P:Program) (n:Nat) (c:Code) (Q:List Deferred->Exit->(Nat->Value)->World->Prop) (df:List Deferred) (e:Nat->Value) (w:World):Prop:=
 c.wpIn (fen none) 0 P (fun x a w=>KP x/\∃e d,a=act ⟨n,d,none⟩ e/\Q d x e w) (act ⟨n,df,none⟩ e) w
theorem WR.of (h:W P ⟨n,df,none⟩ a (Q df) e w):WR P n a Q df e w:=nz h fun x a w ⟨ht,e,ha,hq⟩=>⟨ht,e,df,ha,hq⟩
theorem WR.seq (h:WR P n a (fun d=>rV (fun e w=>WR P n b Q d e w) (Q d)) df e w):WR P n (a.seq b) Q df e w:=
 wpIn_seq (nz h fun x a' w' ⟨ht,e',d,ha,hQ⟩=>by
  subst ha
  cases x with
  | normal=>exact hQ
  | _=>exact ⟨ht,e',d,rfl,hQ⟩)
theorem WR.block {id:Nat}(h:WR P n a (fun d=>nP id (Q d)) df e w):WR P n (.block id a) Q df e w:=
 wpIn_block (nz h fun x a' w' ⟨ht,e',d,ha,hQ⟩=>by
  subst ha
  cases x with
  | exit i=>
   simp only [Exit.inBlock];by_cases hi:i=id
   ·subst hi
    rw [ae rfl];exact ⟨trivial,e',d,rfl,by simpa [nP] using hQ⟩
   ·rw [ab hi]
    have:Nat.beq i id=false:=by
     cases hb:Nat.beq i id with
     | false=>rfl
     | true=>exact absurd (pD hb) hi
    exact ⟨trivial,e',d,rfl,by simpa [nP,this] using hQ⟩
  | _=>exact ⟨ht,e',d,rfl,hQ⟩)
def Jl (P:Program) (fn:Func) (n:Nat) (R:Ending->World->Prop) (df:List Deferred):Exit->(Nat->Value)->World->Prop
 | .normal,e,w=>LeavesInM (fen none) 0 P fn (act ⟨n,[],none⟩ e).tmps R df .returning w
 | .ret,e,w=>LeavesInM (fen none) 0 P fn (act ⟨n,[],none⟩ e).tmps R df .returning w
 | _,_,_=>False
theorem enR {f:FuncId}{fn:Func}{code:Code}{l:List Value}{R:Ending->World->Prop}(hf:P.funcs[f]? = some fn) (hb:fn.body=some code) (hn:fn.ntmps=n)
  (h:WR P n code (Jl P fn n R) [] (ar l) w) (hl:Nat.ble l.length n=true:=by rfl):Calls P f l.toArray w R:=by
 subst hn;have hl:=bF hl;refine (Ks (n:=0)).1 (callsIn_of_wp_marks hf hb trivial ?_);rw [ue,<-Hi _ l hl];refine nz h ?_;rintro x a w' ⟨_,e',d,rfl,hq⟩
 cases x <;> first|exact hq|exact hq.elim
def Eu (D:Nat):Deferred:={ target:= .collected D,args:= #[]}
theorem J1 {fn:Func}{tm:Array Value}{R:Ending->World->Prop}{D:Nat}{v:Value}(hD:w.heap[D]? = some (.deferred (some [])))
  (hr:(results fn tm).run P (w.putObj D (.deferred none))= .ok v (w.putObj D (.deferred none))) (hR:R (.returned v) (w.putObj D (.deferred none))):LeavesInM (fen none) 0 P fn tm R [Eu D] .returning w:=
 ⟨by simp,.inl ⟨D,_,rfl,run_takeDeferred hD,v,hr,hR⟩⟩
def HQ (fn:FuncId) (tm:Array Value) (ps:Array Tmp) (assign body:Code) (D:Nat) (st:LoopState) (pe:Option Code):Loop:={ state:=st,pending:=pe,fn,tmps:=tm,params:=ps,assign,body,defers:=D}
theorem WR.range {g:Operand}{ps:Array Tmp}{assign body:Code}{gf:Nat}{lb:Array Value}(hg:ev n e g= .func (.func gf) #[] lb) (eg:∀args w,(callFunc gf args).run P w= .ok (.enter gf args) w)
  (h:∀(fn:FuncId) (rc:LoopState->Option Code->Loop),rc=HQ fn (act ⟨n,df,none⟩ e).tmps ps assign body w.heap.size->Calls P gf (#[.func (.yield (w.heap.size+1)) #[] #[]]++lb) ((w.alloc (.deferred (some []))).alloc (.loop (rc .ready none)))
   fun x w3=>∃v,x= .returned v/\
    ((w3.heap[w.heap.size+1]? = some (.loop (rc .ready none))/\Q (Eu w.heap.size::df) .normal e (w3.putObj (w.heap.size+1) (.loop (rc .exhausted none))))\/
     ∃c,w3.heap[w.heap.size+1]? = some (.loop (rc .done (some c)))/\WR P n c Q (Eu w.heap.size::df) e (w3.putObj (w.heap.size+1) (.loop (rc .exhausted (some c)))))):
  WR P n (.rangeFunc g ps assign body) Q df e w:=by
 refine wpIn_rangeFunc (fun fn _=>?_);have hg':(act ⟨n,df,none⟩ e).eval g= .func (.func gf) #[] lb:=by rw [nv]; exact hg
 have h:=h fn _ rfl;have h1:=run_enterLoop_outer (P:=P) (w:=w) fn (act ⟨n,df,none⟩ e).tmps ps assign body;have h2:∀W:World,(resolve (act ⟨n,df,none⟩ e).eval (rangeCall g (w.heap.size+1)) 0).run P W= .ok { target:= .fn (.func gf) lb,args:= #[.func (.yield (w.heap.size+1)) #[] #[]]} W:=fun W=>by
  simp only [resolve,hg'];simp [go_sem]
 have h3:∀W:World,(invoke (.fn (.func gf) lb) #[.func (.yield (w.heap.size+1)) #[] #[]]).run P W= .ok (.enter gf (#[.func (.yield (w.heap.size+1)) #[] #[]]++lb)) W:=fun W=>by
  simp [invoke,go_sem,eg]
 refine Exists.intro (w.heap.size+1) (Exists.intro [Eu w.heap.size] (Exists.intro _ (Exists.intro { target:= .fn (.func gf) lb,args:= #[.func (.yield (w.heap.size+1)) #[] #[]]} (Exists.intro _ (Exists.intro gf (Exists.intro (#[.func (.yield (w.heap.size+1)) #[] #[]]++lb) (Exists.intro _ ⟨h1,h2 _,fun _ _=>trivial,h3 _,fun hd=>(by cases hd),?_⟩)))))));refine wK (h.mono fun x w3 hx=>?_);obtain ⟨v,rfl,hv⟩:=hx;rcases hv with ⟨k1,k2⟩|⟨c,k1,k2⟩
 ·exact ⟨none,_,run_endLoop k1 (by simp [HQ]),trivial,e,Eu w.heap.size::df,rfl,k2⟩
 ·exact ⟨some c,_,run_endLoop k1 (by simp [HQ]),k2⟩
end
theorem WL.round {P:Program}{ops:Array Oper}{n:Fr}{Q:Exit->(Nat->Value)->World->Prop}{rest:List Oper}{e:Nat->Value}{o:Oper}{w:World}{l:Nat}{args:Array Value}(hg:o.guard=none)
  (hr:(execOp (ev n e) o).run P w=(Instr.yield l args).run P w) (hy:YieldAt (fen n.ro) 0 P l args w fun x w'=>∃v,x= .returned v/\WL P ops n Q rest (upO e o.dst v) w'):WL P ops n Q (o::rest) e w:=by
 obtain ⟨fn,tm,assign,body,hy1,hR⟩:=hy;refine xp hg fun K hK=>⟨fun _ _=>trivial,?_⟩;rw [nv,rY (hr.trans hy1) (by simp),Oper.uponIn_round];refine ⟨fun h=>(by cases h),hR.mono ?_⟩;rintro x w' ⟨v,rfl,h⟩;simp only [qR];exact hK _ _ h
theorem ym {F:Fence}{m:Nat}{P:Program}{l:Nat}{args:Array Value}{w:World}{R R':Ending->World->Prop}(h:YieldAt F m P l args w R) (hr:∀x w',R x w'->R' x w'):YieldAt F m P l args w R':=by
 obtain ⟨fn,tm,assign,body,hy,hR⟩:=h;exact ⟨fn,tm,assign,body,hy,hR.mono hr⟩
def rdQ (l:Nat) (r:LoopState->Option Code->Loop) (R:Ending->World->Prop):Exit->(Nat->Value)->World->Prop
 | .normal,_,w=>w.heap[l]? = some (.loop (r .busy none))/\R (.returned (.bool true)) (w.putObj l (.loop (r .ready none)))
 | .ret,_,w=>w.heap[l]? = some (.loop (r .busy none))/\R (.returned (.bool false)) (w.putObj l (.loop (r .done (some .ret))))
 | .exit i,_,w=>w.heap[l]? = some (.loop (r .busy none))/\R (.returned (.bool false)) (w.putObj l (.loop (r .done (some (.exit i)))))
 | _,_,_=>False
theorem Fy (n:Fr) (e:Nat->Value) (d:Nat) (v:Value):(act n e).tmps.setIfInBounds d v=(act n (up e d v)).tmps:=nb Act.tmps (qR n e (some d) v)
theorem Lm (n:Nat) (df:List Deferred) (r0:Option Nat) (l:Nat) (e:Nat->Value) (p1 p2:Nat) (a1 a2:Value):
  ((#[p1,p2]:Array Tmp).zip #[a1,a2]).foldl (fun t (p,v)=>t.setIfInBounds p v) (act ⟨n,df,r0⟩ e).tmps=(act ⟨n,[],some l⟩ (up (up e p1 a1) p2 a2)).tmps:=by
 have hz:((#[p1,p2]:Array Tmp).zip #[a1,a2])= #[(p1,a1),(p2,a2)]:=by simp
 rw [hz,<-Array.foldl_toList];show ((act ⟨n,df,r0⟩ e).tmps.setIfInBounds p1 a1).setIfInBounds p2 a2=_;rw [Fy,Fy];rfl
theorem Ff {P:Program}{n:Nat}{r0:Option Nat}{w:World}{l:Nat}{fn:FuncId}{tm:Array Value}{ps:Array Tmp}{assign body:Code}{D:Nat}{rc:LoopState->Option Code->Loop}(hrc:rc=HQ fn tm ps assign body D){args:Array Value}{R:Ending->World->Prop}{e1:Nat->Value}
  (hl:w.heap[l]? = some (.loop (rc .ready none))) (hs:args.size=ps.size) (he:(ps.zip args).foldl (fun t (p,v)=>t.setIfInBounds p v) tm=(act ⟨n,[],some l⟩ e1).tmps)
  (h:W P ⟨n,[],some l⟩ assign (rV (fun e2 w1=>w1.heap[l]? = some (.loop (rc .ready none))/\
   W P ⟨n,[],some l⟩ body (rdQ l rc R) e2 (w1.putObj l (.loop (rc .busy none)))) (fun _ _ _=>False)) e1 w):YieldAt (fen r0) 0 P l args w R:=by
 subst hrc;refine ⟨fn,_,assign,body,run_yield hl hs,roundIn_of_wpIn trivial ?_⟩;have hz:(fen r0).inRound l=fen (some l):=rfl;rw [hz];have ha:({ tmps:=(ps.zip args).foldl (fun t (p,v)=>t.setIfInBounds p v) tm,defers:=[]}:Act)=act ⟨n,[],some l⟩ e1:=by rw [he]; rfl
 show assign.wpIn (fen (some l)) 0 P _ ({ tmps:=(ps.zip args).foldl (fun t (p,v)=>t.setIfInBounds p v) tm,defers:=[]}:Act) w;rw [ha];refine nz h ?_;rintro x a w1 ⟨ht,e2,rfl,hq⟩
 cases x with
 | normal=>
  obtain ⟨h1,h2⟩:=hq;refine ⟨_,run_beginRound h1 rfl,nz h2 ?_⟩;rintro y a' w2 ⟨_,e3,rfl,hy⟩
  cases y with
  | normal=>exact ⟨_,_,run_endRound none hy.1,hy.2⟩
  | ret=>exact ⟨_,_,run_endRound (some .ret) hy.1,hy.2⟩
  | exit i=>exact ⟨_,_,run_endRound (some (.exit i)) hy.1,hy.2⟩
  | _=>exact hy.elim
 | _=>exact hq.elim
structure Rec (c:Cx) (l D:Nat) (r:Loop):Prop where
 rc:c.w.heap[l]? = some (.loop r)
 nl:∀o,¬c.A l o
 def_:c.w.heap[D]? = some (.deferred (some []))
 nD:∀o,¬c.A D o
theorem Rec.mono {c c':Cx}{l D:Nat}{r:Loop}(h:Rec c l D r) (k:c.le c'):Rec c' l D r:=by
 have hl:=(Array.getElem?_eq_some_iff.1 h.rc).1;have hD:=(Array.getElem?_eq_some_iff.1 h.def_).1;exact ⟨(k.block l hl h.nl).trans h.rc,fun o=>(k.cell l o hl (h.nl o)).2,(k.block D hD h.nD).trans h.def_,fun o=>(k.cell D o hD (h.nD o)).2⟩
def Cx.turn (c:Cx) (l:Nat) (o:Obj):Cx:=⟨c.w.putObj l o,c.A,c.t⟩
theorem Cx.turn_lw {c:Cx}{l:Nat}{o o':Obj}(h:c.w.heap[l]? = some o) (ho:isC o=false) (ho':isC o'=false):c.lw (c.turn l o'):=by
 have hlt:=(Array.getElem?_eq_some_iff.1 h).1;have same:∀k,k≠l->(c.w.putObj l o').heap[k]? = c.w.heap[k]? :=fun k hk=>World.putObj_heap_other hk;have at_l:(c.w.putObj l o').heap[l]? = some o':=World.putObj_heap_same hlt;refine ⟨rfl,rfl,by simp [Cx.turn,World.putObj],fun k q hk hA=>⟨?_,hA⟩,fun k vs T f hk _=>?_,fun a _ _=>?_,fun _ _ _ h=>h⟩
 ·show (c.w.putObj l o').cell? _=_
  by_cases e:k=l
  ·subst e
   unfold World.cell?;rw [at_l,h]
   cases o <;> cases o' <;> first|rfl|(simp [isC] at ho ho')
  ·exact dw (w:=c.w) (a:=⟨k,q,none⟩) (same k e)
 ·refine same k fun e=>?_
  subst e;rw [h] at hk;cases hk;simp [isC] at ho
 ·show (c.w.putObj l o').frozen? a=_
  by_cases e:a.block=l
  ·unfold World.frozen?
   rw [e,at_l,h]
   cases o <;> cases o' <;> first|rfl|(simp [isC] at ho ho')
  ·unfold World.frozen?
   rw [same _ e]
theorem Own.turn {c:Cx}{G:Gm}{F:List En}{l:Nat}{o o':Obj}(O:Own c G F) (h:c.w.heap[l]? = some o) (ho:isC o=false):Own (c.turn l o') G F:=
 ⟨⟨fun i e he b hb=>by
  have h1:=O.m.1 i e he b hb;refine ⟨?_,h1.2⟩;have hne:b≠l:=fun e2=>by
   subst e2;rw [h] at h1;have:=h1.1;cases this;simp [isC] at ho
  exact (World.putObj_heap_other hne).trans h1.1,O.m.2⟩,O.t0⟩
theorem Own.front {c:Cx}{G:Gm}{Fm F:List En}{e:En}(O:Own c G (Fm++e::F)):Own c G (e::(Fm++F)):=
 ⟨pS.re O.m (fun k=>match k with|.inl 0=> .inl Fm.length|.inl (k+1)=>if k<Fm.length then .inl k else .inl (k+1)|.inr x=> .inr x) (fun k e' h=>by
  match k,h with
  | .inl 0,h=>simpa [at_] using h
  | .inl (k+1),h=>
   simp only [at_,fL] at h;by_cases hk:k<Fm.length
   ·simp only [ae hk,at_]; rw [aC hk] at h|-; exact h
   ·simp only [ab hk,at_]
    rw [be (by omega)] at h|-;rw [show k+1-Fm.length=(k-Fm.length)+1 by omega,fL]; exact h
  | .inr x,h=>exact h) (fun k k' e1 e2 h1 h2 he=>by
  match k,k' with
  | .inl 0,.inl 0=>rfl
  | .inl 0,.inl (j+1)=>simp only at he; split at he <;> (simp at he; try omega)
  | .inl (i+1),.inl 0=>simp only at he; split at he <;> (simp at he; try omega)
  | .inl (i+1),.inl (j+1)=>simp only at he; split at he <;> split at he <;> (simp at he; try omega) <;> (first|(subst he; rfl)|omega)
  | .inl 0,.inr x=>simp at he
  | .inr x,.inl 0=>simp at he
  | .inl (i+1),.inr x=>simp only at he; split at he <;> simp at he
  | .inr x,.inl (j+1)=>simp only at he; split at he <;> simp at he
  | .inr x,.inr y=>simpa using he),O.t0⟩
theorem Own.behind {c:Cx}{G:Gm}{Fm F:List En}{e:En}(O:Own c G (e::(Fm++F))):Own c G (Fm++e::F):=
 ⟨pS.re O.m (fun k=>match k with|.inl k=>if k<Fm.length then .inl (k+1) else if k=Fm.length then .inl 0 else .inl k|.inr x=> .inr x) (fun k e' h=>by
  match k,h with
  | .inl k,h=>
   simp only [at_] at h;by_cases hk:k<Fm.length
   ·simp only [ae hk,at_,fL]; rw [aC hk] at h|-; exact h
   ·by_cases hk2:k=Fm.length
    ·subst hk2; simpa [at_] using h
    ·simp only [ab hk,ab hk2,at_]
     rw [be (by omega)] at h;rw [show k-Fm.length=(k-1-Fm.length)+1 by omega,fL] at h;rw [show k=(k-1)+1 by omega,fL,be (by omega)];exact h
  | .inr x,h=>exact h) (fun k k' e1 e2 h1 h2 he=>by
  match k,k' with
  | .inl i,.inl j=>
   simp only at he;split at he <;> split at he <;> (try split at he) <;> (try split at he) <;> (simp at he; try omega) <;> (first|(subst he; rfl)|(congr 1; omega)|omega)
  | .inl i,.inr x=>simp only at he; split at he <;> (try split at he) <;> simp at he
  | .inr x,.inl j=>simp only at he; split at he <;> (try split at he) <;> simp at he
  | .inr x,.inr y=>simpa using he),O.t0⟩
def Bod {σ:Type}(J:σ->Cx->List En->Prop):Prop:=
 ∀s c F,J s c F->∃G Fm,Own c G (Fm++F)/\∀c' F',c.le c'->Own c' G (Fm++F')->J s c' F'
theorem Bod.new {σ:Type}{J:σ->Cx->List En->Prop}(hJ:Bod J){s:σ}{c:Cx}{F:List En}(h:J s c F):∃G Fx,Own c G Fx/\∀c' e,c.le c'->Own c' G (e::Fx)->J s c' (e::F):=by
 obtain ⟨G,Fm,O,k⟩:=hJ s c F h;exact ⟨G,_,O,fun c' e hc O'=>k c' _ hc O'.behind⟩
theorem Bod.op {σ:Type}{J:σ->Cx->List En->Prop}(hJ:Bod J){s:σ}{c:Cx}{F:List En}{e:En}(h:J s c (e::F)):∃G Fx,Own c G (e::Fx)/\∀c' e',c.le c'->Own c' G (e'::Fx)->J s c' (e'::F):=by
 obtain ⟨G,Fm,O,k⟩:=hJ s c _ h;exact ⟨G,_,O.front,fun c' e' hc O'=>k c' _ hc O'.behind⟩
theorem Bod.drop {σ:Type}{J:σ->Cx->List En->Prop}(hJ:Bod J){s:σ}{c:Cx}{F:List En}{e:En}(h:J s c (e::F)):J s c F:=by
 obtain ⟨G,Fm,O,k⟩:=hJ s c _ h;exact k c _ (Cx.le.refl c) O.front.tail
abbrev JnW (c0:Cx) (q:Cx->List (Nat×Value)->Prop):(Nat->Value)->World->Prop:=fun e w=>∃c e0 l,w=c.w/\c0.lw c/\e=ups e0 l/\q c l
theorem jnW {c0:Cx}{q:Cx->List (Nat×Value)->Prop}{e:Nat->Value}{l:List (Nat×Value)}(c:Cx) (h:q c l) (k:c0.lw c) (u:l.map (fun x=>e x.1)=l.map (fun x=>x.2):=by kernel_rfl):JnW c0 q e c.w:=⟨c,e,l,rfl,k,us u,h⟩
def Mf {σ:Type}(P:Program) (l:Nat) (J:σ->Cx->List En->Prop) (args:Array Value) (c:Cx) (F:List En) (s':σ) (b:Bool):Prop:=
 YieldAt (fen none) 0 P l args c.w fun x w'=>∃c',w'=c'.w/\c.lw c'/\x= .returned (.bool b)/\J s' c' F
theorem A8 {α:Type}{R:Rp α}{c:Cx}{P:Program}{v:Value}{xs zs:List α}{T E:TypeId}{i j:Int}{k k' k2:IntKind}(hT:P.underlying T=some (.slice E)) (hE:(P.info? E).map (·.size)=some R.size) (h:Sl R c v xs) (hz:slc xs i j=some zs):
  ∃v',(∀w,(Instr.sliceAt T v (some (.int k i)) (some (.int k' j)) (some (.int k2 j))).run P w= .ok v' w)/\Sl R c v' zs:=by
 obtain ⟨h1,h2,h3,rfl⟩:=pI hz;obtain ⟨ti,hti,hsz⟩:=Option.map_eq_some_iff.1 hE;have hh:=h;obtain ⟨a,cap,rfl,h4,h5,h6⟩:=h;have hcut:=Sl.cut (l:=i.toNat) (h:=j.toNat) (m:=j.toNat) hh (by omega) (by omega) (by omega) (by omega);rw [show (j-i).toNat=j.toNat-i.toNat by omega];refine ⟨_,fun w=>?_,hcut⟩;have e1:0<=i/\i<=j:=⟨h1,h2⟩;have e2:0<=j/\j<=(cap:Int):=⟨by omega,by omega⟩;have e4:0<=j/\j<=j:=⟨by omega,DH _⟩;have e3:((j.toNat:Nat):Int)=j:=by omega
 simp [Instr.sliceAt,bU hT,Instr.slice,Instr.sliceBounds,Instr.sliceBound,asIntOf,e1,e2,e3,e4,sizeOf,typeInfo,hti,hsz]
theorem WR.sr {P:Program}{n:Nat}{df:List Deferred}{Q:List Deferred->Exit->(Nat->Value)->World->Prop}{e:Nat->Value}{w:World}{b:Code}{id:Nat}{l:List Oper}
 (h:WL P l.toArray ⟨n,df,none⟩ (rV (fun e w=>WR P n b Q df e w) (Q df)) l e w):WR P n ((Code.region id l.toArray false).seq b) Q df e w:=WR.seq (WR.of (W.region h))
theorem Cx.loop (c:Cx) (r:Loop):∃c':Cx,c'.w=(c.w.alloc (.deferred (some []))).alloc (.loop r)/\c.but (fun _=>False) c'/\Rec c' (c.w.heap.size+1) c.w.heap.size r:=by
 have hb:∀k,k<c.w.heap.size->((c.w.alloc (.deferred (some []))).alloc (.loop r)).heap[k]? = c.w.heap[k]? :=fun k hk=>
  (cf _ _ _ (by simp; omega)).trans (cf _ _ _ hk)
 refine ⟨⟨(c.w.alloc (.deferred (some []))).alloc (.loop r),fun k o=>k<c.w.heap.size/\c.A k o,c.t⟩,rfl,⟨⟨rfl,rfl,by simp; omega,fun k o hk hA=>⟨dw (w:=c.w) (a:=⟨k,o,none⟩) (hb k hk),fun h=>hA h.2⟩,fun k hk _=>hb k hk,fun a ha _=>?_,fun _ _ _ h=>h⟩,rfl,fun k hk _=>⟨hb k hk,fun o=>⟨fun h=>h.2,fun h=>⟨hk,h⟩⟩⟩⟩,?_,?_,?_,?_⟩
 ·unfold World.frozen?
  rw [hb _ ha]
 ·have:=World.alloc_heap_new (c.w.alloc (.deferred (some []))) (.loop r)
  rwa [World.size_alloc] at this
 ·intro o h; omega
 ·exact (cf _ _ _ (by simp)).trans (World.alloc_heap_new c.w _)
 ·intro o h; omega
theorem Cx.le.turn {cb c:Cx}(h:cb.le c){l:Nat}{o o':Obj}(hl:cb.w.heap.size<=l) (hc:c.w.heap[l]? = some o) (ho:isC o=false) (ho':isC o'=false):cb.le (c.turn l o'):=by
 have k:=h.lw.trans (Cx.turn_lw hc ho ho');refine ⟨k.os,k.output,k.size,k.cell,fun i hi hA=>?_,k.frz,k.t⟩;exact (World.putObj_heap_other (by omega)).trans (h.block i hi hA)
theorem Rec.turn {c:Cx}{l D:Nat}{r:Loop}(h:Rec c l D r) (r':Loop):Rec (c.turn l (.loop r')) l D r':=by
 have hlt:=(Array.getElem?_eq_some_iff.1 h.rc).1;have hne:D≠l:=fun e=>by
  have h1:=h.rc;rw [<-e,h.def_] at h1;cases h1
 exact ⟨World.putObj_heap_same hlt,h.nl,(World.putObj_heap_other hne).trans h.def_,h.nD⟩
theorem KY {P:Program}{fn:Func}{n:Nat}{R:Ending->World->Prop}{c:Cx}{e:Nat->Value}{D t:Nat}{v:Value}(hD:c.w.heap[D]? = some (.deferred (some []))) (h:R (.returned v) (c.turn D (.deferred none)).w)
  (hr:fn.results= #[.tmp t]:=by rfl) (hv:ev n e (.tmp t)=v:=by kernel_rfl):Jl P fn n R [Eu D] .ret e c.w:=by
 refine J1 hD (results_tmp hr _ _ _) ?_;rw [gV];show R (.returned (ev n e (.tmp t))) _;rw [hv];exact h
section
variable {P:Program}{α:Type}{R:Rp α}{c:Cx}{G:Gm}{F:List En}
end
end Go.Lt
namespace Go.Proofs.YtkgjnbiiiifoaaaGreatDoor
open Go Go.Lt
set_option maxRecDepth 10000
set_option linter.unusedVariables false
attribute [local irreducible] W WL AC
open Tryz
variable {c0:Cx}{G:Gm}{F:List En}{sg:Sto}{v1 v2 v3 v4 v5 v6 v7 v8 v9 v10 v11 v12 v13 v14 v15 v16 v17 v18 v19 v20 v21 v22 v23 v24 v25 v26 v27 v28 v29 v30 v31 v32 v33 v34 v35 v36 v37 v38 v39 v40 v41 v42 v43 v44 v45 v46 v47 v48 v49 v50 v51 v52 v53 v54 v55 v56 v57 v58 v59 v60:Value}
def fN (p0:bv) (p1:an):Option Bool:=
 if (!p0.some)=true then
 some false
 else
 ((bw (p1.Conj==1) (some (p0.conj==2))).bind fun a=>
 if a then
 some a
 else
 (bw p1.Pict (some (p0.pict==2))).bind fun c=>
 some c).bind fun e=>
 if e then
 some true
 else
 (fu p0.last p1.Break).bind fun b=>
 if (b==1)=true then
 some true
 else
 if (b==2)=true then
 (bw (p0.last==6) (some p0.odd)).bind fun d=>
 some d
 else
 some false
theorem nO {b:Nat}(a:bv) (e:an) (O0:Own c0 G ((Eb b 112 [B a.some,I a.last,I a.pict,I a.conj,B a.odd])::F)){r:Bool}(H:fN a e=some r): RU 252 #[Q b,.agg #[I e.Break,B e.Pict,I e.Conj,I e.East]] c0 fun c v=>Own c G ((Eb b 112 [B a.some,I a.last,I a.pict,I a.conj,B a.odd])::F)/\v=B r:=by
 unfold fN at H;refine en func252 rfl rfl<|sr<|me (bx 162 [I e.Break,B e.Pict,I e.Conj,I e.East] O0) ?_;rintro v5 s l4 ⟨p,rfl,q,M⟩;refine Ri false<|Rx<|sr<|vv (Q b)<|va (Q b)<|vx (le1 0 u_4 (q.on 0 rfl))<|Ri (!a.some)<|RF H (fun h6 H=>?_) (fun h6 H=>?_)
 ·refine Ru false<|RD<|thr ?_;cases H;exact Rz s ⟨q,rfl⟩
 refine RG<|RM<|bn H fun P f d=>W.seqJ (Jn s fun c l=>Own c G ((Eb b 112 [B a.some,I a.last,I a.pict,I a.conj,B a.odd])::F)/\l= [(0,Q b),(3,Q p),(10,B P)]) ?_ ?_
 ·refine W.seq<|bn f fun z h9 f=>W.join (Jn s fun c l=>Own c G ((Eb b 112 [B a.some,I a.last,I a.pict,I a.conj,B a.odd])::F)/\l= [(0,Q b),(3,Q p),(10,B z)]) ?_ ?_
  ·clear f;refine W.region<|Rs p (0+2)<|vx (l1 u_3 (M 2 _ rfl))<|Ri (e.Conj==1) ?_;rcases bo (e.Conj==1) with j|j
   ·have R:=anT j h9;refine vb j<|wa (Q b)<|wa (Q b)<|wa (Qo b 3)<|wn<|vx (le1 3 u_3 (q.on 0 rfl))<|Rn (a.conj==2) ?_;cases R;exact Rk (a.conj==2)<|Ry s ⟨q,rfl⟩
   obtain rfl:=anF j h9;exact vb j<|pz<|pz<|ps<|Rk false<|Ry s ⟨q,rfl⟩
  rintro E N ⟨o,u0,_,rfl,y0,rfl,n,rfl⟩;refine nrm<|cn f (fun e0 f=>?_) (fun e0 f=>?_)
  ·refine RG ?_;cases f;exact jn o ⟨n,rfl⟩
  refine bn f fun A x f=>W.join (Jn o fun c l=>Own c G ((Eb b 112 [B a.some,I a.last,I a.pict,I a.conj,B a.odd])::F)/\l= [(0,Q b),(3,Q p),(10,B A)]) ?_ ?_
  ·clear f;refine W.region<|Rs p (0+1)<|vx (l1 u_4 ((mm M) 1 _ rfl)) ?_;rcases bo e.Pict with k|k
   ·have S:=anT k x;refine vb k<|wa (Q b)<|wa (Q b)<|wa (Qo b 2)<|wn<|vx (le1 2 u_3 (n.on 0 rfl))<|Rn (a.pict==2) ?_;cases S;exact Rk (a.pict==2)<|Ry o ⟨n,rfl⟩
   obtain rfl:=anF k x;exact vb k<|pz<|pz<|ps<|Rk false<|Ry o ⟨n,rfl⟩
  rintro E N ⟨Z,v0,_,rfl,z0,rfl,U,rfl⟩;refine nrm ?_;cases f;exact jn Z ⟨U,rfl⟩
 rintro E N ⟨a0,w0,_,rfl,a1,rfl,t,rfl⟩;refine cn d (fun f0 d=>?_) (fun f0 d=>?_)
 ·refine Ru true<|RD<|RK ?_;cases d;exact Rz a0 ⟨t,rfl⟩
 refine W.skip<|RH<|W.seq<|W.seq<|rD [] (Kp G0 [(Eb b 112 [B a.some,I a.last,I a.pict,I a.conj,B a.odd])]) t ?_;intro b0 c1 u;have l0:=(Kp.cons (u.on 0 rfl) Kp.nil0);refine ta 0 (Q b)<|ta 1 (Q b)<|ta 2 (Qo b 1)<|tkx 3 l0 (fun c' k0 hk=>le1 1 u_3 (hk.on 0 rfl)) (ta 4 (Q p)<|tx 5 (fun c' k0=>l1 u_3 ((mm M) 0 _ rfl))<|bn d fun i g0 d=>o1 6 (gc 6 (vu u a.last e.Break g0) ?_));rintro v44 h d1 ⟨g,rfl⟩;have m0:=(Kp.cons (g.on 0 rfl) Kp.nil0);refine ⟨.inr m0,dn (nrm<|W.block<|sr<|Rk (i==1)<|RF d (fun h0 d=>?_) (fun h0 d=>?_))⟩
 ·refine Ru true<|RD<|RK ?_;cases d;exact Rz h ⟨g,rfl⟩
 refine sr<|Rk (i==2)<|RF d (fun i0 d=>?_) (fun i0 d=>?_)
 ·refine W.seq<|bn d fun D y d=>W.join (Jn h fun c l=>Own c G ((Eb b 112 [B a.some,I a.last,I a.pict,I a.conj,B a.odd])::F)/\l= [(4,B D)]) ?_ ?_
  ·clear d;refine W.region<|vv (Q b)<|Rs b 1<|vx (le1 1 u_3 (g.on 0 rfl))<|Ri (a.last==6) ?_;rcases bo (a.last==6) with m|m
   ·have T:=anT m y;refine vb m<|wa (Q b)<|wa (Q b)<|wa (Qo b 4)<|wn<|vx (le1 4 u_4 (g.on 0 rfl)) ?_;cases T;exact Rk a.odd<|Ry h ⟨g,rfl⟩
   obtain rfl:=anF m y;exact vb m<|pz<|pz<|Rk false<|Ry h ⟨g,rfl⟩
  rintro E N ⟨d0,x0,_,rfl,e1,rfl,X,rfl⟩;refine nrm<|W.ret<|RK ?_;cases d;exact Rz d0 ⟨X,rfl⟩
 refine W.skip<|RH<|Ru false<|RD ?_;cases d;exact Rz h ⟨g,rfl⟩
def fq (p0:bv) (p1:an):Option Int:=
 if p1.Pict then
 some 1
 else
 (bw (p0.pict==1) (some (p1.Break==4))).bind fun a=>
 if a then
 some 1
 else
 (bw (p0.pict==1) (some (p1.Break==5))).bind fun b=>
 if b then
 some 2
 else
 some 0
theorem nj {b:Nat}(a:bv) (d:an) (A:Own c0 G ((Eb b 112 [B a.some,I a.last,I a.pict,I a.conj,B a.odd])::F)){r:Int}(H:fq a d=some r): RU 253 #[Q b,.agg #[I d.Break,B d.Pict,I d.Conj,I d.East]] c0 fun c v=>Own c G ((Eb b 112 [B a.some,I a.last,I a.pict,I a.conj,B a.odd])::F)/\v=I r:=by
 unfold fq at H;refine en func253 rfl rfl<|sr<|me (bx 162 [I d.Break,B d.Pict,I d.Conj,I d.East] A) ?_;rintro v5 k T ⟨j,rfl,i,s⟩;refine Ro 0<|Rx<|W.block<|sr<|Rs j (0+1)<|vx (l1 u_4 (s 1 _ rfl))<|Ri d.Pict<|RF H (fun E H=>?_) (fun E H=>?_)
 ·refine RA 1<|RD<|RK ?_;cases H;exact Rz k ⟨i,rfl⟩
 refine W.seq<|bn H fun p y H=>W.join (Jn k fun c l=>Own c G ((Eb b 112 [B a.some,I a.last,I a.pict,I a.conj,B a.odd])::F)/\l= [(0,Q b),(3,Q j),(8,B p)]) ?_ ?_
 ·clear H;refine W.region<|vv (Q b)<|Rs b 2<|vx (le1 2 u_3 (i.on 0 rfl))<|Ri (a.pict==1) ?_;rcases bo (a.pict==1) with h|h
  ·have z:=anT h y;refine vb h<|wa (Q j)<|wn<|vx (l1 u_3 (s 0 _ rfl))<|Rn (d.Break==4) ?_;cases z;exact Rk (d.Break==4)<|Ry k ⟨i,rfl⟩
  obtain rfl:=anF h y;exact vb h<|pz<|ps<|Rk false<|Ry k ⟨i,rfl⟩
 rintro D M ⟨g,N,_,rfl,R,rfl,f,rfl⟩;refine nrm<|cn H (fun u H=>?_) (fun u H=>?_)
 ·refine RA 1<|RD<|RK ?_;cases H;exact Rz g ⟨f,rfl⟩
 refine W.seq<|bn H fun q o H=>W.join (Jn g fun c l=>Own c G ((Eb b 112 [B a.some,I a.last,I a.pict,I a.conj,B a.odd])::F)/\l= [(19,B q)]) ?_ ?_
 ·clear H;refine W.region<|vv (Q b)<|Rs b 2<|vx (le1 2 u_3 (f.on 0 rfl))<|Ri (a.pict==1) ?_;rcases bo (a.pict==1) with e|e
  ·have t:=anT e o;refine vb e<|wa (Q j)<|wn<|vx (l1 u_3 ((mm s) 0 _ rfl))<|Rn (d.Break==5) ?_;cases t;exact Rk (d.Break==5)<|Ry g ⟨f,rfl⟩
  obtain rfl:=anF e o;exact vb e<|pz<|ps<|Rk false<|Ry g ⟨f,rfl⟩
 rintro D M ⟨n,P,_,rfl,S,rfl,m,rfl⟩;refine nrm<|cn H (fun x H=>?_) (fun x H=>?_)
 ·refine RA 2<|RD<|RK ?_;cases H;exact Rz n ⟨m,rfl⟩
 refine W.skip<|RH<|RA 0<|RD ?_;cases H;exact Rz n ⟨m,rfl⟩
def fc (p0:bv) (p1:an):Option Int:=
 if (p1.Conj==1)=true then
 some 1
 else
 if (p0.conj==0)=true then
 some 0
 else
 if (p1.Conj==2)=true then
 some 2
 else
 if (p1.Conj==3)=true then
 some p0.conj
 else
 some 0
theorem mJ {b:Nat}(d:bv) (a:an) (i:Own c0 G ((Eb b 112 [B d.some,I d.last,I d.pict,I d.conj,B d.odd])::F)){r:Int}(H:fc d a=some r): RU 254 #[Q b,.agg #[I a.Break,B a.Pict,I a.Conj,I a.East]] c0 fun c v=>Own c G ((Eb b 112 [B d.some,I d.last,I d.pict,I d.conj,B d.odd])::F)/\v=I r:=by
 unfold fc at H;refine en func254 rfl rfl<|sr<|me (bx 162 [I a.Break,B a.Pict,I a.Conj,I a.East] i) ?_;rintro v5 f n ⟨g,rfl,e,h⟩;refine Ro 0<|Rx<|W.block<|sr<|Rs g (0+2)<|vx (l1 u_3 (h 2 _ rfl))<|Rk (a.Conj==1)<|RF H (fun j H=>?_) (fun j H=>?_)
 ·refine RA 1<|RD<|RK ?_;cases H;exact Rz f ⟨e,rfl⟩
 refine sr<|vv (Q b)<|Rs b 3<|vx (le1 3 u_3 (e.on 0 rfl))<|Rk (d.conj==0)<|RF H (fun k H=>?_) (fun k H=>?_)
 ·refine RA 0<|RD<|RK ?_;cases H;exact Rz f ⟨e,rfl⟩
 refine sr<|Rs g (0+2)<|vx (l1 u_3 (h 2 _ rfl))<|Rk (a.Conj==2)<|RF H (fun l H=>?_) (fun l H=>?_)
 ·refine RA 2<|RD<|RK ?_;cases H;exact Rz f ⟨e,rfl⟩
 refine sr<|Rs g (0+2)<|vx (l1 u_3 (h 2 _ rfl))<|Rk (a.Conj==3)<|RF H (fun m H=>?_) (fun m H=>?_)
 ·refine sr<|vv (Q b)<|Rs b 3<|vx (le1 3 u_3 (e.on 0 rfl))<|Ro d.conj<|RD<|RK ?_;cases H;exact Rz f ⟨e,rfl⟩
 refine W.skip<|RH<|RA 0<|RD ?_;cases H;exact Rz f ⟨e,rfl⟩
def dA (p0:bv) (p1:an):Option (bv×Bool):=
 if false then
 some (p0,false)
 else
 (fN p0 p1).bind fun d=>
 (fq p0 p1).bind fun e=>
 (fc p0 p1).bind fun f=>
 (bw (p1.Break==6) ((bw p0.some (some (p0.last==6))).bind fun b=>
 (bw b (some p0.odd)).bind fun c=>
 some (!c))).bind fun a=>
 some ((⟨true,p1.Break,e,f,a⟩:bv),d)
theorem ow {a:Nat}(b:bv) (f:an) (O0:Own c0 G ((Eb a 112 [B b.some,I b.last,I b.pict,I b.conj,B b.odd])::F)){r:bv×Bool}(H:dA b f=some r): RU 198 #[Q a,.agg #[I f.Break,B f.Pict,I f.Conj,I f.East]] c0 fun c v=>Own c G ((Eb a 112 [B r.1.some,I r.1.last,I r.1.pict,I r.1.conj,B r.1.odd])::F)/\v=B r.2:=by
 unfold dA at H;refine en func198 rfl rfl<|sr<|me (bx 162 [I f.Break,B f.Pict,I f.Conj,I f.East] O0) ?_;rintro v5 c4 l4 ⟨A,rfl,O2,o⟩;refine Ri false<|Rx<|RB (Q a)<|Ri false<|wln<|W.cond (t:=false) (by kernel_rfl) (fun E=>?_) (fun E=>?_)
 ·cases E
 have H:=ie E H;refine RG<|RB (Q a)<|vx (lN 162 o)<|bn H fun i h8 H=>cl (nO b f O2 h8) ?_;rintro v14 j1 n1 ⟨P,rfl⟩;refine Ri i<|Rx<|rD [] (Kp G0 []) P ?_;intro i0 q1 R;have f2:Kp G0 [] i0:=Kp.nil0;refine ta 0 (Q a)<|ta 1 (Q a)<|ta 2 (Q a)<|tx 3 (fun c' z=>lN 162 (mm o))<|ta 5 (Q a)<|tx 6 (fun c' z=>lN 162 (mm o))<|bn H fun d v0 H=>o1 4 (gc 4 (nj b f R v0) ?_);rintro v25 j0 s1 ⟨S,rfl⟩;have y0:Kp G0 [] j0:=Kp.nil0;refine ⟨.inr y0,bn H fun e w0 H=>o1 7 (gc 7 (mJ b f S w0) ?_)⟩;rintro v34 k0 t1 ⟨T,rfl⟩;have z0:Kp G0 [] k0:=Kp.nil0;refine ⟨.inr z0,ta 8 (Q a) (ta 9 (Qo a 2)<|o1 10 (gD 10 (sC 3 2 (I d) [B b.some,I b.last,I d,I b.conj,B b.odd] 0 T ⟨rfl,trivial⟩) ?_))⟩;rintro l0 u1 U;have a1:Kp G0 [] l0:=Kp.nil0;refine ⟨.inr a1,ta 11 (Q a) (ta 12 (Qo a 3)<|o1 13 (gD 13 (sC 3 3 (I e) [B b.some,I b.last,I d,I e,B b.odd] 0 U ⟨rfl,trivial⟩) ?_))⟩;rintro p v1 h;have c1:Kp G0 [] p:=Kp.nil0;refine ⟨.inr c1,dn (RQ<|bn H fun n s H=>W.join (Jn p fun c l=>Own c G ((Eb a 112 [B b.some,I b.last,I d,I e,B n])::F)/\l= [(0,Q a),(3,Q A),(5,B i)]) ?_ ?_)⟩
 ·clear H;refine Rv (Q a)<|va (Q A)<|vx (l1 u_3 ((mm o) 0 _ rfl))<|Ri (f.Break==6) ?_;rcases bo (f.Break==6) with j|j
  ·have g:=anT j s;refine vb j<|wa (Q a)<|wa (Q a)<|wa (Q a)<|wn<|vx (le1 0 u_4 (h.on 0 rfl))<|wn<|bn g fun h1 u g=>?_;rcases bo b.some with k|k
   ·have M:=anT k u;refine vb k<|wa (Q a)<|wa (Q a)<|wa (Qo a 1)<|wn<|vx (le1 1 u_3 (h.on 0 rfl))<|Rn (b.last==6)<|wn ?_;cases M;refine Ri (b.last==6)<|wn<|bn g fun D x g=>?_;rcases bo (b.last==6) with m|m
    ·have N:=anT m x;refine vb m<|wa (Q a)<|wa (Q a)<|wa (Qo a 4)<|wn<|vx (le1 4 u_4 (h.on 0 rfl))<|wn ?_;cases N;refine Ri b.odd<|Rn (!b.odd) ?_;cases g;refine Ri (!b.odd)<|va (Q a)<|Rs a 4<|md (sC 4 4 (B (!b.odd)) [B b.some,I b.last,I d,I e,B (!b.odd)] 0 h ⟨rfl,trivial⟩) ?_;rintro m0 w1 X;exact Ry m0 ⟨X,rfl⟩
    obtain rfl:=anF m x;refine vb m<|pz<|pz<|Rn false<|Rn (!false) ?_;cases g;refine Ri (!false)<|va (Q a)<|Rs a 4<|md (sC 4 4 (B (!false)) [B b.some,I b.last,I d,I e,B (!false)] 0 h ⟨rfl,trivial⟩) ?_;rintro o0 x1 Z;exact Ry o0 ⟨Z,rfl⟩
   obtain rfl:=anF k u;refine vb k<|pz<|pz<|ps<|Rn false<|wn<|bn g fun D x0 g=>?_;have y:false=false:=rfl;obtain rfl:=anF y x0;refine vb y<|pz<|pz<|Rn false<|Rn (!false) ?_;cases g;refine Ri (!false)<|va (Q a)<|Rs a 4<|md (sC 4 4 (B (!false)) [B b.some,I b.last,I d,I e,B (!false)] 0 h ⟨rfl,trivial⟩) ?_;rintro q0 y1 a0;exact Ry q0 ⟨a0,rfl⟩
  obtain rfl:=anF j s;refine vb j<|pz<|pz<|pz<|pz<|pz<|pz<|pz<|pz<|pz<|Ri false<|va (Q a)<|Rs a 4<|md (sC 4 4 (B false) [B b.some,I b.last,I d,I e,B false] 0 h ⟨rfl,trivial⟩) ?_;rintro s0 z1 b0;exact Ry s0 ⟨b0,rfl⟩
 rintro e_ w_ ⟨k1,m1,_,rfl,b2,rfl,d0,rfl⟩;refine RQ<|rD [] (Kp G0 []) d0 ?_;intro t0 c2 e0;have g2:Kp G0 [] t0:=Kp.nil0;refine ta 0 (Q a)<|ta 1 (Q a)<|ta 2 (Q A)<|tx 3 (fun c' z=>l1 u_3 ((mm o) 0 _ rfl))<|ta 4 (Q a)<|ta 5 (Q a)<|o1 6 (gD 6 (sC 4 0 (B true) [B true,I b.last,I d,I e,B n] 0 e0 ⟨rfl,trivial⟩) ?_);rintro u0 d2 f0;have d1:Kp G0 [] u0:=Kp.nil0;refine ⟨.inr d1,ta 7 (Q a) (ta 8 (Qo a 1)<|o1 9 (gD 9 (sC 3 1 (I f.Break) [B true,I f.Break,I d,I e,B n] 0 f0 ⟨rfl,trivial⟩) ?_))⟩;rintro q e2 g0;have e1:Kp G0 [] q:=Kp.nil0;refine ⟨.inr e1,dn (nrm<|sr<|Rk i<|RD ?_)⟩;cases H;exact Rz q ⟨g0,rfl⟩
end Go.Proofs.YtkgjnbiiiifoaaaGreatDoor
namespace Go.Proofs.YtkgjnbiiiifoaaaGreatDoor
open Go Go.Lt
set_option maxRecDepth 10000
set_option linter.unusedVariables false
attribute [local irreducible] W WL AC
def la {σ:Type}(y:σ->Int->List Int->Option (σ×Bool)) (l:List Int) (s:σ):Option σ:=
 (cm (σ:=bv×Int×Int×σ) (τ:=σ ⊕ (Int×σ)) (((l.length:Int)-0).toNat+1) (fun a=>
 if decide (a.2.2.1<(l.length:Int)) then
 (idx l a.2.2.1).bind fun r=>
 (oQ r).bind fun p=>
 (dA a.1 p).bind fun b=>
 (orE b.2 (some (a.2.2.1==0))).bind fun t=>
 if t then
 some (.inl (b.1,a.2.1,(w64 (a.2.2.1+1)),a.2.2.2))
 else
 (slc l a.2.1 a.2.2.1).bind fun x=>
 (y a.2.2.2 a.2.1 x).bind fun z=>
 if (!z.2)=true then
 some (.inr (.inl z.1))
 else
 some (.inl (b.1,a.2.2.1,(w64 (a.2.2.1+1)),z.1))
 else
 some (.inr (.inr (a.2.1,a.2.2.2)))) ((⟨false,0,0,0,false⟩:bv),0,0,s)).bind fun u=>match u with
 | .inl s'=>some s'
 | .inr v=>if decide ((l.length:Int)>0) then (slc l v.1 (l.length:Int)).bind fun x=>(y v.2 v.1 x).bind fun z=>some z.1 else some v.2
open Tryz
variable {c0:Cx}{G:Gm}{F:List En}{v1:Value}
set_option maxHeartbeats 1000000 in
theorem yu {σ:Type}{Bd:σ->Cx->List En->Prop}(hJ:Bod Bd){y:σ->Int->List Int->Option (σ×Bool)}(lr:Nat)
  (hY:∀s i x z c F v,y s i x=some z->Bd s c F->Sl (RI .i32) c v x->Mf Tryz.prog lr Bd #[.int .i64 i,v] c F z.1 z.2){l:List Int}{s0 s1:σ}{bc:Nat}
  (hb:Im c0 bc 0 v1) (hl:Sl (RI .i32) c0 v1 l) (h0:Bd s0 c0 F) (H:la y l s0=some s1):
  Calls Tryz.prog 236 #[.func (.yield lr) #[] #[],.pointer (some ⟨bc,0,none⟩)] c0.w fun x w'=>∃c',w'=c'.w/\c0.lw c'/\x= .returned (.tuple #[])/\Bd s1 c' F:=by
 unfold la at H
 obtain ⟨u,H1,H2⟩:=bs H
 obtain ⟨G,Fx,O,shut⟩:=hJ.new h0
 refine en func236 rfl rfl (sr (me (al 112 [B false,I 0,I 0,I 0,B false] O) ?_))
 rintro v3 c1 k1 ⟨j,rfl,O1⟩
 have h1:Bd s0 c1 (Eb j 112 [B false,I 0,I 0,I 0,B false]::F):=shut c1 _ k1 O1
 refine wln (RA 0 (Rx (sr (vx (l1 cD (hb.mono k1)) (vx (ln 3 cD (hl.mono k1)) (Ro 0 (wln (W.block (lp H1 (fun a=>JnW c1 fun c sl=>Bd a.2.2.2 c (Eb j 112 [B a.1.some,I a.1.last,I a.1.pict,I a.1.conj,B a.1.odd]::F)/\sl= [(0,.func (.yield lr) #[] #[]),(1,Q bc),(3,Q j),(4,I a.2.1),(7,v1),(8,I (l.length:Int)),(9,I a.2.2.1)])
  (fun b ex e w=>match b with|.inl s'=>ex= .ret/\JnW c1 (fun c sl=>Bd s' c F/\sl= []) e w|.inr v=>ex= .exit 0/\(JnW c1 fun c sl=>Bd v.2 c F/\sl= [(0,.func (.yield lr) #[] #[]),(1,Q bc),(4,I v.1)]) e w) ?_ ?_ ?_)))))))))
 ·clear H H1 H2
  intro a x e w H
  rintro ⟨c,e0,_,rfl,kc,rfl,hJc,rfl⟩
  obtain ⟨G2,Fx2,O2,sh2⟩:=hJ.op hJc
  have kq:=k1.lw.trans kc
  refine sr (Rj (a.2.2.1<(l.length:Int)) (Rx (cn H (fun D H=>?_) (fun D H=>?_))))
  ·refine RG (RM (sr (bn H fun r hi H=>?_)))
   obtain ⟨d0,E,Rr⟩:=Sl.at (hl.lw kq) (aP hi)
   obtain rfl:=E
   refine Ro a.2.2.1 (vx (ix cD (hl.lw kq) hi) (vx (l1 nB (Rr 0 _ rfl)) (Ro a.2.2.1 (va (J r) (wln ?_)))))
   refine W.seq (RB (J r) (bn H fun p hp H=>cl (yf O2 r hp) ?_))
   rintro v15 c2 k2 ⟨O3,rfl⟩
   refine bn H fun b hb2 H=>cl (ow a.1 p O3 hb2) ?_
   rintro v16 c3 k3 ⟨O4,rfl⟩
   have hJ3:=sh2 c3 _ (k2.trans k3) O4
   have kc3:c1.lw c3:=kc.trans (k2.trans k3).lw
   refine bn H fun t ht H=>?_
   rcases bo b.2 with hb3|hb3
   ·obtain rfl:=orT hb3 ht
    refine vb hb3 (pz (Ri true (RF H (fun _ H=>?_) (fun h H=>by cases h))))
    refine W.exit (thx (RJ (W.region (Rq (a.2.2.1+1) (WL.nil ?_)))))
    cases H
    exact ⟨_,rfl,jnW c3 ⟨hJ3,rfl⟩ kc3⟩
   ·have ht2:=orF hb3 ht
    cases ht2
    refine vb hb3 (wa (I a.2.2.1) (Rn (a.2.2.1==0) (Ri (a.2.2.1==0) (RF H (fun h H=>?_) (fun h H=>?_)))))
    ·refine W.exit (thx (RJ (W.region (Rq (a.2.2.1+1) (WL.nil ?_)))))
     cases H
     exact ⟨_,rfl,jnW c3 ⟨hJ3,rfl⟩ kc3⟩
    ·refine RG (W.seq (sr (bn H fun x hx H=>bn H fun z hz H=>?_)))
     have kq3:=k1.lw.trans kc3
     obtain ⟨v27,hv,hs⟩:=A8 (P:=Tryz.prog) (k:= .i64) (k':= .i64) (k2:= .i64) cD (by kernel_rfl) (hl.lw kq3) hx
     refine va (.func (.yield lr) #[] #[]) (Ro a.2.1 (vx (l1 cD (hb.lw kq3)) (Ro a.2.1 (vv (I a.2.2.1) (vx (hv _) (WL.round (l:=lr) (args:= #[.int .i64 a.2.1,v27]) rfl (by kernel_rfl) (ym (hY _ _ _ _ _ _ _ hz hJ3 hs) ?_)))))))
     rintro ex w' ⟨c4,rfl,k4,rfl,hJ4⟩
     refine ⟨_,rfl,Ri (!z.2) (RF H (fun h H=>?_) (fun h H=>?_))⟩
     ·refine W.ret (thr (RK ?_))
      cases H
      exact ⟨_,rfl,rfl,jnW c4 ⟨hJ.drop hJ4,rfl⟩ (kc3.trans k4)⟩
     ·refine RG (W.region (vv (I a.2.2.1) (WL.nil (RH (W.region (Rq (a.2.2.1+1) (WL.nil ?_)))))))
      cases H
      exact ⟨_,rfl,jnW c4 ⟨hJ4,rfl⟩ (kc3.trans k4)⟩
  ·refine W.exit (thx ?_)
   cases H
   exact ⟨_,rfl,rfl,jnW c ⟨hJ.drop hJc,rfl⟩ kc⟩
 ·exact jnW c1 ⟨h1,rfl⟩ (Cx.le.refl c1).lw
 ·rintro ex e w hx
  cases u with
  | inl s'=>
   obtain ⟨rfl,c,e0,_,rfl,kc,rfl,hJc,rfl⟩:=hx
   cases H2
   refine RK ?_
   exact r0 ⟨c,rfl,k1.lw.trans kc,rfl,hJc⟩
  | inr v=>
   obtain ⟨rfl,c,e0,_,rfl,kc,rfl,hJc,rfl⟩:=hx
   have kq:=k1.lw.trans kc
   refine RJ (sr (vx (l1 cD (hb.lw kq)) (vx (ln 3 cD (hl.lw kq)) (Rj ((l.length:Int)>0) (RF H2 (fun D H=>?_) (fun D H=>?_))))))
   ·obtain ⟨x,hx,H⟩:=bs H
    obtain ⟨z,hz,H⟩:=bs H
    cases H
    obtain ⟨v27,hv,hs⟩:=A8 (P:=Tryz.prog) (k:= .i64) (k':= .i64) (k2:= .i64) cD (by kernel_rfl) (hl.lw kq) hx
    refine Rv (.func (.yield lr) #[] #[]) (Ro v.1 (vx (l1 cD (hb.lw kq)) (Ro v.1 (vx (l1 cD (hb.lw kq)) (vx (ln 3 cD (hl.lw kq)) (vx (l1 cD (hb.lw kq)) (vx (ln 3 cD (hl.lw kq)) (vx (hv _) (WL.round (l:=lr) (args:= #[.int .i64 v.1,v27]) rfl (by kernel_rfl) (ym (hY _ _ _ _ _ _ _ hz hJc hs) ?_))))))))))
    rintro ex w' ⟨c4,rfl,k4,rfl,hJ4⟩
    exact ⟨_,rfl,WL.nil (n0 ⟨c4,rfl,kq.trans k4,rfl,hJ4⟩)⟩
   ·cases H
    exact W.skip (n0 ⟨c,rfl,kq,rfl,hJc⟩)
end Go.Proofs.YtkgjnbiiiifoaaaGreatDoor
namespace Go.Proofs.YtkgjnbiiiifoaaaGreatDoor
open Go Go.Lt
set_option maxRecDepth 10000
set_option linter.unusedVariables false
attribute [local irreducible] W WL AC
open Tryz
variable {c0:Cx}{G:Gm}{F:List En}{v1:Value}
theorem wY (O:Own c0 G F){l:List Int}(hl:Sl (RI .i32) c0 v1 l): Calls Tryz.prog 171 #[v1] c0.w (aI c0 fun c v=>∃b,Own c G F/\v= .func (.func 236) #[] #[.pointer (some ⟨b,0,none⟩)]/\Im c b 0 v1):=by
 obtain ⟨a,cap,rfl,_⟩:=hl;refine en func171 rfl rfl (sr (me (bx 59 [.slice a l.length cap] O) ?_));rintro v c1 k1 ⟨b,rfl,O1,hb⟩;refine va (.nilFunc) (RO (vv (.func (.func 236) #[] #[.pointer (some ⟨b,0,none⟩)]) (RD ?_)));exact Rz c1 ⟨b,O1,rfl,hb 0 _ rfl⟩
def kP (l:List Int):Option (List Int):=
 la (fun (out:List Int) i _=>(app out [i]).bind fun o=>some (o,true)) l []
def xo (cb:Cx) (G:Gm) (bo lr D:Nat) (r:Loop) (out:List Int) (c:Cx) (F:List En):Prop:=
 ∃vo vs,Own c G (Eb bo 97 [vo]::es true (RI .i64) vo 3 vs out::F)/\OA (RI .i64) c vo vs out/\Rec c lr D r/\cb.le c
theorem xo.bod (cb:Cx) (G:Gm) (bo lr D:Nat) (r:Loop):Bod (xo cb G bo lr D r):=by
 rintro out c F ⟨vo,vs,O,ho,hr,hc⟩;exact ⟨G,[Eb bo 97 [vo],es true (RI .i64) vo 3 vs out],O,fun c' F' k O'=>⟨vo,vs,O',ho.mono k,hr.mono k,hc.trans k⟩⟩
set_option maxHeartbeats 1000000 in
theorem vA (O0:Own c0 G F) (l:List Int){r:List Int}(hl:Sl (RI .i32) c0 v1 l) (H:kP l=some r): Calls Tryz.prog 125 #[v1] c0.w (aI c0 fun c v=>∃y1 us1,Own c G (es true (RI .i64) y1 3 us1 r::F)/\v=y1/\OA (RI .i64) c y1 us1 r):=by
 refine enR func125 rfl rfl (WR.sr (va (.slice none 0 0) (wln (WR.sr (me (al 97 [.slice none 0 0] O0) ?_)))));rintro v3 c1 k1 ⟨bo,rfl,O1⟩;refine wln (WR.seq (WR.sr (va v1 (cl (wY O1 (hl.mono k1)) ?_))));rintro v9 c2 k2 ⟨bc,O2,rfl,hbc⟩;have O3:Own c2 G (es true (RI .i64) (.slice none 0 0) 3 [] []::Eb bo 97 [.slice none 0 0]::F):=Own.addHole O2 rfl;have O4:=O3.sD 2 [1,0];refine wln (WR.block (WR.range rfl (fun args w=>by kernel_rfl) fun fn rc hrc=>?_));obtain ⟨c3,e3,b3,r3⟩:=Cx.loop c2 (rc .ready none);rw [<-e3];have k3:=b3.le;have hJ:=xo.bod c2 G bo (c2.w.heap.size+1) c2.w.heap.size (rc .ready none);unfold kP at H;refine (yu hJ (c2.w.heap.size+1) ?_ (hbc.mono k3) (hl.mono ((k1.trans k2).trans k3)) ⟨.slice none 0 0,[],O4.keep b3,OA.nil (by decide),r3,k3⟩ H).mono ?_
 ·rintro s i x z c F v hz ⟨vo,vs,O,ho,hr,hc⟩ hs
  obtain ⟨q,hq,hz⟩:=bs hz;cases hz;refine Ff hrc hr.rc rfl (Lm _ _ _ _ _ 7 8 _ _) ?_;refine RC i (WL.nil (nrm ⟨hr.rc,?_⟩));have k4:=Cx.turn_lw (o':= .loop (rc .busy none)) hr.rc rfl rfl;have Ob:=Own.turn (o':= .loop (rc .busy none)) O hr.rc rfl;have rb:=hr.turn (rc .busy none);have hcb:=hc.turn (o':= .loop (rc .busy none)) (LJ _) hr.rc rfl rfl;have hob:=ho.lw k4;show W _ _ _ _ _ (c.turn (c2.w.heap.size+1) (.loop (rc .busy none))).w;generalize c.turn (c2.w.heap.size+1) (.loop (rc .busy none))=cb at k4 Ob rb hcb hob;have fin:∀(cE:Cx) (vo vs) (out:List Int) (e:Nat->Value),cb.le cE->Own cE G (Eb bo 97 [vo]::es true (RI .i64) vo 3 vs out::F)->OA (RI .i64) cE vo vs out->
    rdQ (c2.w.heap.size+1) rc (fun x w'=>∃c',w'=c'.w/\c.lw c'/\x= .returned (.bool true)/\xo c2 G bo (c2.w.heap.size+1) c2.w.heap.size (rc .ready none) out c' F) .normal e cE.w:=fun cE vo vs out e kE OE hoE=>by
   have rE:=rb.mono kE;have kt:=Cx.turn_lw (o':= .loop (rc .ready none)) rE.rc rfl rfl;exact ⟨rE.rc,cE.turn _ (.loop (rc .ready none)),rfl,k4.trans (kE.lw.trans kt),rfl,vo,vs,Own.turn OE rE.rc rfl,hoE.lw kt,rE.turn _,(hcb.trans kE).turn (LJ _) rE.rc rfl rfl⟩
  refine W.block (W.region (vx (le1 0 vM (Ob.on 0 rfl)) (Ro i (me (sl (RI .i64) 3 [[I i]] ([i]:List Int) Ob ⟨rfl,trivial⟩) ?_))));rintro v20 c8 k8 ⟨vs8,O8,ho8⟩;obtain ⟨c9,w9,k9,O9,hs9⟩:=O8.frz 0 rfl ho8;refine WL.gh w9 ?_;refine me (ap (RI .i64) (I 0) 8 97 2 O9 ((hob.mono k8).mono k9) hs9 hq vM) ?_;rintro v21 cA kA ⟨vsA,OA_,hoA⟩;obtain ⟨oa,on_,oc,rfl⟩:=hoA.form;refine md (sC 97 0 (.slice oa on_ oc) [.slice oa on_ oc] 1 OA_ ⟨rfl,trivial⟩) ?_;intro cB kB OB;have OC:=OB.sD 3 [1,2];refine WL.nil (bkn ?_);exact fin cB _ _ _ _ (k8.trans (k9.trans (kA.trans kB))) OC (hoA.mono kB)
 ·rintro ex w' ⟨c4,rfl,k4,rfl,vo,vs,O,ho,hr,hc⟩
  have kt:=Cx.turn_lw (o':= .loop (rc .exhausted none)) hr.rc rfl rfl;have Ot:=Own.turn (o':= .loop (rc .exhausted none)) O hr.rc rfl;have rt:=hr.turn (rc .exhausted none);have hct:=hc.turn (o':= .loop (rc .exhausted none)) (LJ _) hr.rc rfl rfl;have hot:=ho.lw kt;refine ⟨_,rfl,.inl ⟨hr.rc,?_⟩⟩;show nP _ _ _ _ (c4.turn (c2.w.heap.size+1) (.loop (rc .exhausted none))).w;generalize c4.turn (c2.w.heap.size+1) (.loop (rc .exhausted none))=ct at kt Ot rt hct hot;obtain ⟨oa,on_,oc,rfl⟩:=hot.form;refine RH (WR.sr (vx (le1 0 vM (Ot.on 0 rfl)) (va (.slice oa on_ oc) (wln (WR.of (W.ret ?_))))));have kd:=Cx.turn_lw (o':= .deferred none) rt.def_ rfl rfl;exact KY rt.def_ ⟨_,ct.turn c2.w.heap.size (.deferred none),rfl,rfl,(k1.trans k2).trans (hct.turn (av _) rt.def_ rfl rfl),_,_,(Own.turn Ot rt.def_ rfl).tail,rfl,hot.lw kd⟩
end Go.Proofs.YtkgjnbiiiifoaaaGreatDoor
namespace Go.Proofs.YtkgjnbiiiifoaaaGreatDoor
open Go Go.Lt
set_option maxRecDepth 10000
set_option linter.unusedVariables false
attribute [local irreducible] W WL AC
open Tryz
variable {c0:Cx}{G:Gm}{F:List En}{sg:Sto}{v1 v2 v3 v4 v5 v6 v7 v8 v9 v10 v11 v12 v13 v14 v15 v16 v17 v18 v19 v20 v21 v22 v23 v24 v25 v26 v27 v28 v29 v30 v31 v32 v33 v34 v35 v36 v37 v38 v39 v40 v41 v42 v43 v44 v45 v46 v47 v48 v49 v50 v51 v52 v53 v54 v55 v56 v57 v58 v59 v60:Value}
def gX (p0:List Int):Option Int:=
 (kP p0).bind fun a=>
 some (a.length:Int)
theorem qv (f:Own c0 G F) (a:List Int){r:Int}(h:Sl (RI .i32) c0 v1 a) (H:gX a=some r): RU 81 #[v1] c0 fun c v=>Own c G F/\v=I r:=by
 unfold gX at H;refine en func81 rfl rfl<|RA 0<|wln<|RB v1<|bn H fun e i H=>cl (vA f a h i) ?_;rintro v4 d k ⟨_,l,g,rfl,j⟩;refine vx (lnO 3 vM j)<|Ro (e.length:Int)<|RD ?_;cases H;have b:=g.sD 1 [];exact Rz d ⟨b,rfl⟩
def dI (p0:List Int) (p1:List Int):Option Bool:=
 if ((p0.length:Int) != (p1.length:Int))=true then
 some false
 else
 (cm (σ:=Int) (τ:=Bool ⊕ Unit) (((p0.length:Int)-0).toNat+1) (fun b=>
 if decide (b<(p0.length:Int)) then
 (idx p0 b).bind fun c=>
 (idx p1 b).bind fun d=>
 if (c != d)=true then
 some (.inr (.inl false))
 else
 some (.inl ((w64 (b+1))))
 else
 some (.inr (.inr ()))) 0).bind fun a=>
 match a with
 | .inl a=>
 some a
 | .inr a=>
 some true
theorem lV (A:Own c0 G F) (g:List Int) (u:List Int){r:Bool}(h:Sl (RI .i32) c0 v1 g) (s:Sl (RI .i32) c0 v3 u) (H:dI g u=some r): RU 80 #[v1,v3] c0 fun c v=>Own c G F/\v=B r:=by
 unfold dI at H;refine en func80 rfl rfl<|Ru false<|Rx<|RB v1<|vx (ln 3 cD h)<|va v3<|vx (ln 3 cD s)<|Ri ((g.length:Int) != (u.length:Int))<|RF H (fun h5 H=>?_) (fun h5 H=>?_)
 ·refine Ru false<|RD<|thr ?_;cases H;exact Rz c0 ⟨A,rfl⟩
 refine RG<|W.seq<|RB v1<|vx (ln 3 cD h)<|Ro 0<|wln<|W.block<|bn H fun b h6 p=>lp h6 (fun a=>Jn c0 fun c l=>Own c G F/\l= [(0,v1),(1,v3),(12,I (g.length:Int)),(13,I a)]) (fun t=>match t with|.inl x=>(fun f0 ex e w=>ex= .ret/\(Jn c0 fun c l=>Own c G F/\l= [(4,B f0)]) e w) x|.inr x=>(fun i0 ex e w=>ex= .exit 0/\(Jn c0 fun c l=>Own c G F/\l= []) e w) x) ?_ ?_ ?_
 ·clear p h6;intro a v0 R h0 H;revert R h0;rintro P w_ ⟨c8,g9,_,rfl,l8,rfl,i,rfl⟩;refine sr<|Rj (a<(g.length:Int))<|Rx<|cn H (fun T H=>?_) (fun T H=>?_)
  ·refine RG<|RM<|sr<|vv (I a)<|Rx<|rD [] (Kp G0 []) i ?_;intro d o j;have u0:Kp G0 [] d:=Kp.nil0;refine ta 0 v1<|ta 1 (I a)<|bn H fun y k H=>?_;obtain ⟨l0,U,d0⟩:=Sl.at (h.mono (l8.trans o)) (aP k);obtain rfl:=U;refine tx 2 (fun q f=>ix cD h.m k)<|tx 3 (fun q f=>l1 nB ((mm d0) 0 _ rfl))<|ta 4 v3<|ta 5 (I a)<|bn H fun z n H=>?_;obtain ⟨m0,X,e0⟩:=Sl.at (s.mono (l8.trans o)) (aP n);obtain rfl:=X;refine tx 6 (fun q f=>ix cD s.m n)<|tx 7 (fun q f=>l1 nB ((mm e0) 0 _ rfl))<|ta 8 (B (y != z))<|dn (nrm<|cn H (fun Z H=>?_) (fun Z H=>?_))
   ·refine Ru false<|RD<|RK ?_;cases H;exact ⟨_,rfl,⟨rfl,jn d ⟨j,rfl⟩⟩⟩
   refine W.skip<|RH<|W.region<|Rq (a+1)<|WL.nil ?_;cases H;exact ⟨_,rfl,jn d ⟨j,rfl⟩⟩
  refine W.exit<|thx ?_;cases H;exact ⟨_,rfl,rfl,jn c8 ⟨i,rfl⟩⟩
 ·exact jn c0 ⟨A,rfl⟩
 rcases b with b|b
 ·intro S; revert S;rintro _ P w_ ⟨rfl,M,o0,_,rfl,s0,rfl,D,rfl⟩;refine RK ?_;cases p;exact Rz M ⟨D,rfl⟩
 rintro _ P w_ ⟨rfl,N,q0,_,rfl,t0,rfl,E,rfl⟩;refine RJ<|Ru true<|RD ?_;cases p;exact Rz N ⟨E,rfl⟩
def ce (p0:List Int):Option Int:=
 (cm (σ:=Int) (τ:=Int ⊕ Unit) (((p0.length:Int)-0).toNat+1) (fun b=>
 if decide (b<(p0.length:Int)) then
 (idx p0 b).bind fun c=>
 (ir c).bind fun d=>
 if d then
 some (.inr (.inl b))
 else
 some (.inl ((w64 (b+1))))
 else
 some (.inr (.inr ()))) 0).bind fun a=>
 match a with
 | .inl a=>
 some a
 | .inr a=>
 some (-1)
theorem kf (U:Own c0 G F) (d:List Int){r:Int}(j:Sl (RI .i32) c0 v1 d) (H:ce d=some r): RU 126 #[v1,.func (.func 83) #[] #[]] c0 fun c v=>Own c G F/\v=I r:=by
 unfold ce at H;refine en func126 rfl rfl<|RA 0<|Rx<|RB v1<|vx (ln 3 cD j)<|Ro 0<|wln<|W.block<|bn H fun b N i=>lp N (fun a=>Jn c0 fun c l=>Own c G F/\l= [(0,v1),(1,.func (.func 83) #[] #[]),(7,I (d.length:Int)),(8,I a)]) (fun t=>match t with|.inl k=>(fun R ex e w=>ex= .ret/\(Jn c0 fun c l=>Own c G F/\l= [(4,I R)]) e w) k|.inr k=>(fun b0 ex e w=>ex= .exit 0/\(Jn c0 fun c l=>Own c G F/\l= []) e w) k) ?_ ?_ ?_
 ·clear i N;intro a j0 y T H;revert y T;rintro x S ⟨X,g6,_,rfl,Z,rfl,q,rfl⟩;refine sr<|Rj (a<(d.length:Int))<|Rx<|cn H (fun A H=>?_) (fun A H=>?_)
  ·refine RG<|RM<|sr<|vv (I a)<|wln<|RB (.func (.func 83) #[] #[])<|va v1<|Ro a<|bn H fun n h H=>?_;obtain ⟨a0,D,P⟩:=Sl.at (j.mono Z) (aP h);obtain rfl:=D;refine vx (ix cD j.m h)<|vx (l1 nB (P 0 _ rfl))<|bn H fun d0 E H=>cl (pa q n E) ?_;rintro v22 g g0 ⟨f,rfl⟩;refine RF H (fun M H=>?_) (fun M H=>?_)
   ·refine sr<|vv (I a)<|RD<|RK ?_;cases H;exact ⟨_,rfl,⟨rfl,jn g ⟨f,rfl⟩⟩⟩
   refine W.skip<|RH<|W.region<|Rq (a+1)<|WL.nil ?_;cases H;exact ⟨_,rfl,jn g ⟨f,rfl⟩⟩
  refine W.exit<|thx ?_;cases H;exact ⟨_,rfl,rfl,jn X ⟨q,rfl⟩⟩
 ·exact jn c0 ⟨U,rfl⟩
 rcases b with b|b
 ·intro z; revert z;rintro _ x S ⟨rfl,s,e0,_,rfl,h0,rfl,o,rfl⟩;refine RK ?_;cases i;exact Rz s ⟨o,rfl⟩
 rintro _ x S ⟨rfl,u,f0,_,rfl,i0,rfl,p,rfl⟩;refine RJ<|RA (-1)<|RD ?_;cases i;exact Rz u ⟨p,rfl⟩
def bC (p0:List Int):Option Bool:=
 (ce p0).bind fun a=>
 some (decide (a>=0))
theorem eQ (d:Own c0 G F) (b:List Int){r:Bool}(g:Sl (RI .i32) c0 v1 b) (H:bC b=some r): RU 82 #[v1,.func (.func 83) #[] #[]] c0 fun c v=>Own c G F/\v=B r:=by
 unfold bC at H;refine en func82 rfl rfl<|Ru false<|wln<|RB v1<|va (.func (.func 83) #[] #[])<|bn H fun a h H=>cl (kf d b g h) ?_;rintro v9 f i ⟨e,rfl⟩;refine vv (B (decide (a>=0)))<|RD ?_;cases H;exact Rz f ⟨e,rfl⟩
def er (p0:aY) (p1:Int) (p2:an):Option Bool:=
 (nN p2).bind fun d=>
 if (d==2)=true then
 some true
 else
 if (!p0.some)=true then
 some false
 else
 (bw (p1==65039) (some p0.pict)).bind fun a=>
 (orE a (some p2.Pict)).bind fun b=>
 (orE b (some (p2.Break==6))).bind fun c=>
 some c
theorem lG {b:Nat}(d:aY) (o:Int) (a:an) (S:Own c0 G ((Eb b 207 [B d.some,B d.pict,B d.wide])::F)){r:Bool}(H:er d o a=some r): RU 172 #[Q b,J o,.agg #[I a.Break,B a.Pict,I a.Conj,I a.East]] c0 fun c v=>Own c G ((Eb b 207 [B d.some,B d.pict,B d.wide])::F)/\v=B r:=by
 unfold er at H;refine en func172 rfl rfl<|sr<|me (bx 162 [I a.Break,B a.Pict,I a.Conj,I a.East] S) ?_;rintro v5 c4 l4 ⟨p,rfl,T,n⟩;refine Ri false<|Rx<|W.block<|sr<|vx (lN 162 n)<|bn H fun u Z H=>cl (yx T a Z) ?_;rintro v12 e b0 ⟨f,rfl⟩;refine Rk (u==2)<|RF H (fun P H=>?_) (fun P H=>?_)
 ·refine Ru true<|RD<|RK ?_;cases H;exact Rz e ⟨f,rfl⟩
 refine sr<|vv (Q b)<|va (Q b)<|vx (le1 0 u_4 (f.on 0 rfl))<|Rk (!d.some)<|RF H (fun R H=>?_) (fun R H=>?_)
 ·refine Ru false<|RD<|RK ?_;cases H;exact Rz e ⟨f,rfl⟩
 refine W.skip<|RH<|W.seq<|bn H fun U q H=>bn H fun X m H=>bn H fun x g H=>W.join (Jn e fun c l=>Own c G ((Eb b 207 [B d.some,B d.pict,B d.wide])::F)/\l= [(6,B x)]) ?_ ?_
 ·clear H;refine Rv (J o)<|Ri (o==65039) ?_;rcases bo (o==65039) with h|h
  ·have y:=anT h q;refine vb h<|wa (Q b)<|wa (Q b)<|wa (Qo b 1)<|wn<|vx (le1 1 u_4 (f.on 0 rfl)) ?_;cases y;refine Ri d.pict ?_;rcases bo d.pict with i|i
   ·obtain rfl:=orT i m;refine vb i<|pz<|Ri true ?_;have s:true=true:=rfl;obtain rfl:=orT s g;exact vb s<|pz<|ps<|Rk true<|Ry e ⟨f,rfl⟩
   have z:=orF i m;refine vb i<|wa (Qo p (0+1))<|wn<|vx (l1 u_4 ((mm n) 1 _ rfl)) ?_;cases z;refine Ri a.Pict ?_;rcases bo a.Pict with j|j
   ·obtain rfl:=orT j g;exact vb j<|pz<|ps<|Rk true<|Ry e ⟨f,rfl⟩
   have A:=orF j g;refine vb j<|wa (Q p)<|wn<|vx (l1 u_3 ((mm n) 0 _ rfl))<|Rn (a.Break==6) ?_;cases A;exact Rk (a.Break==6)<|Ry e ⟨f,rfl⟩
  obtain rfl:=anF h q;refine vb h<|pz<|pz<|Ri false ?_;have t:false=false:=rfl;have D:=orF t m;refine vb t<|wa (Qo p (0+1))<|wn<|vx (l1 u_4 ((mm n) 1 _ rfl)) ?_;cases D;refine Ri a.Pict ?_;rcases bo a.Pict with k|k
  ·obtain rfl:=orT k g;exact vb k<|pz<|ps<|Rk true<|Ry e ⟨f,rfl⟩
  have E:=orF k g;refine vb k<|wa (Q p)<|wn<|vx (l1 u_3 ((mm n) 0 _ rfl))<|Rn (a.Break==6) ?_;cases E;exact Rk (a.Break==6)<|Ry e ⟨f,rfl⟩
 rintro e_ w_ ⟨N,a0,_,rfl,d0,rfl,M,rfl⟩;refine nrm<|W.ret ?_;cases H;exact Rz N ⟨M,rfl⟩
def dx (p0:aY) (p1:Int) (p2:an):Option (aY×Int):=
 if false then
 some (p0,1)
 else
 (orE p0.wide ((er p0 p1 p2).bind fun b=>
 some b)).bind fun a=>
 if a then
 some ((⟨true,p2.Pict,a⟩:aY),2)
 else
 some ((⟨true,p2.Pict,a⟩:aY),1)
theorem lX {a:Nat}(b:aY) (k:Int) (d:an) (T:Own c0 G ((Eb a 207 [B b.some,B b.pict,B b.wide])::F)){r:aY×Int}(H:dx b k d=some r): RU 127 #[Q a,J k,.agg #[I d.Break,B d.Pict,I d.Conj,I d.East]] c0 fun c v=>Own c G ((Eb a 207 [B r.1.some,B r.1.pict,B r.1.wide])::F)/\v=I r.2:=by
 unfold dx at H;refine en func127 rfl rfl<|sr<|me (bx 162 [I d.Break,B d.Pict,I d.Conj,I d.East] T) ?_;rintro v5 X l4 ⟨x,rfl,m,P⟩;refine Ro 0<|Rx<|RB (Q a)<|Ri false<|wln<|W.cond (t:=false) (by kernel_rfl) (fun n=>?_) (fun n=>?_)
 ·cases n
 have H:=ie n H;refine RG<|W.seq<|bn H fun e N H=>W.join (Jn X fun c l=>Own c G ((Eb a 207 [B b.some,B b.pict,B e])::F)/\l= [(0,Q a),(5,Q x)]) ?_ ?_
 ·clear H;refine W.region<|vv (Q a)<|va (Q a)<|Rs a 2<|vx (le1 2 u_4 (m.on 0 rfl)) ?_;rcases bo b.wide with j|j
  ·obtain rfl:=orT j N;refine vb j<|pz<|pz<|Ri true<|va (Q a)<|Rs a 2<|md (sC 4 2 (B true) [B b.some,B b.pict,B true] 0 m ⟨rfl,trivial⟩) ?_;rintro y e0 U;exact Ry y ⟨U,rfl⟩
  have g:=orF j N;refine vb j<|wa (Q a)<|wa (J k)<|wn<|vx (lN 162 P)<|wn<|bn g fun f E g=>cl (lG b k d m E) ?_;rintro v19 Z f0 ⟨o,rfl⟩;obtain rfl:=si g;refine Ri f<|va (Q a)<|Rs a 2<|md (sC 4 2 (B f) [B b.some,B b.pict,B f] 0 o ⟨rfl,trivial⟩) ?_;rintro z g0 p;exact Ry z ⟨p,rfl⟩
 rintro e_ w_ ⟨a0,b0,_,rfl,h0,rfl,q,rfl⟩;refine RQ<|rD [] (Kp G0 []) q ?_;intro A i0 s;have l0:Kp G0 [] A:=Kp.nil0;refine ta 0 (Q a)<|ta 1 (Q a)<|ta 2 (Qo x (0+1))<|tx 3 (fun c' d0=>l1 u_4 ((mm P) 1 _ rfl))<|ta 4 (Q a)<|ta 5 (Q a)<|o1 6 (gD 6 (sC 4 0 (B true) [B true,B b.pict,B e] 0 s ⟨rfl,trivial⟩) ?_);rintro D j0 u;have R:Kp G0 [] D:=Kp.nil0;refine ⟨.inr R,ta 7 (Q a) (ta 8 (Qo a 1)<|o1 9 (gD 9 (sC 4 1 (B d.Pict) [B true,B d.Pict,B e] 0 u ⟨rfl,trivial⟩) ?_))⟩;rintro i k0 h;have S:Kp G0 [] i:=Kp.nil0;refine ⟨.inr S,dn (RQ<|sr<|vv (Q a)<|Rs a 2<|vx (le1 2 u_4 (h.on 0 rfl))<|RF H (fun M H=>?_) (fun M H=>?_))⟩
 ·refine RA 2<|RD<|thr ?_;obtain rfl:=si H;exact Rz i ⟨h,rfl⟩
 refine RG<|RA 1<|RD ?_;obtain rfl:=si H;exact Rz i ⟨h,rfl⟩
def mD (p0:List Int):Option Int:=
 (cm (σ:=Int×Int×Bool×Bool×Bool) (τ:=(Int×Bool×Bool×Bool)) (((p0.length:Int)-0).toNat+1) (fun a=>
 if decide (a.2.1<(p0.length:Int)) then
 (idx p0 a.2.1).bind fun c=>
 (oQ c).bind fun e=>
 (dx (⟨a.2.2.1,a.2.2.2.1,a.2.2.2.2⟩:aY) c e).bind fun b=>
 some (.inl (b.2,(w64 (a.2.1+1)),b.1.some,b.1.pict,b.1.wide))
 else
 some (.inr (a.1,a.2.2.1,a.2.2.2.1,a.2.2.2.2))) (1,0,false,false,false)).bind fun d=>
 some d.1
theorem wP (T:Own c0 G F) (g:List Int){r:Int}(n:Sl (RI .i32) c0 v1 g) (H:mD g=some r): RU 84 #[v1] c0 fun c v=>Own c G F/\v=I r:=by
 unfold mD at H;refine en func84 rfl rfl<|RA 0<|RO<|me (al 207 [B false,B false,B false] T) ?_;rintro v6 k l5 ⟨j,rfl,U⟩;refine wln<|RA 1<|Rx<|RB v1<|vx (ln 3 cD n.m)<|Ro 0<|wln<|W.block<|bn H fun f P q=>lp P (fun a=>Jn k fun c l=>Own c G ((Eb j 207 [B a.2.2.1,B a.2.2.2.1,B a.2.2.2.2])::F)/\l= [(3,Q j),(4,I a.1),(7,v1),(8,I (g.length:Int)),(9,I a.2.1)]) (fun b ex e w=>ex= .exit 0/\(Jn k fun c l=>Own c G ((Eb j 207 [B b.2.1,B b.2.2.1,B b.2.2.2])::F)/\l= [(4,I b.1)]) e w) ?_ ?_ ?_
 ·clear q P;intro a l0 A S H;revert A S;rintro Z w_ ⟨X,g0,_,rfl,l9,rfl,h,rfl⟩;refine sr<|Rj (a.2.1<(g.length:Int))<|Rx<|cn H (fun D H=>?_) (fun D H=>?_)
  ·refine RG<|RM<|sr<|bn H fun d i H=>?_;obtain ⟨d0,E,R⟩:=Sl.at (n.mono (l5.trans l9)) (aP i);obtain rfl:=E;refine vx (ix cD n.m i)<|vx (l1 nB (R 0 _ rfl))<|va (J d)<|wln<|W.region<|vv (J d)<|bn H fun o M H=>cl (yf h d M) ?_;rintro v26 f0 i0 ⟨s,rfl⟩;refine bn H fun p N H=>cl (lX (⟨a.2.2.1,a.2.2.2.1,a.2.2.2.2⟩:aY) d o s N) ?_;rintro v34 y j0 ⟨t,rfl⟩;refine Ro p.2<|WL.nil<|RH<|W.region<|Rq (a.2.1+1)<|WL.nil ?_;cases H;exact ⟨_,rfl,jn y ⟨t,rfl⟩⟩
  refine W.exit<|thx ?_;cases H;exact ⟨_,rfl,rfl,jn X ⟨h,rfl⟩⟩
 ·exact jn k ⟨U,rfl⟩
 rintro _ Z w_ ⟨rfl,z,h0,_,rfl,k0,rfl,u,rfl⟩;refine RJ<|sr<|vv (I f.1)<|RD ?_;cases q;have x:=u.sD 1 [];exact Rz z ⟨x,rfl⟩
def jO (p0:aa):Option Bool:=
 (if (p0.Kind==0)=true then
 some (p0.Kind==0)
 else
 some (p0.Kind==3)).bind fun h=>
 if h then
 some true
 else
 if (p0.Kind==2)=true then
 (bw (2==1) ((dI p0.Text ([65533]:List Int)).bind fun d=>
 some d)).bind fun a=>
 if a then
 some true
 else
 (gX p0.Text).bind fun e=>
 (bw (e==1) ((bC p0.Text).bind fun f=>
 some (!f))).bind fun b=>
 (bw b ((mD p0.Text).bind fun g=>
 some (g==2))).bind fun c=>
 some c
 else
 (bw (1==1) ((dI p0.Text ([65533]:List Int)).bind fun d=>
 some d)).bind fun a=>
 if a then
 some true
 else
 (gX p0.Text).bind fun e=>
 (bw (e==1) ((bC p0.Text).bind fun f=>
 some (!f))).bind fun b=>
 (bw b ((mD p0.Text).bind fun g=>
 some (g==1))).bind fun c=>
 some c
theorem yo (O0:Own c0 G F) (b:aa){r:Bool}(j:Sl (RI .i32) c0 v1 b.Text) (H:jO b=some r): RU 44 #[.agg #[I b.Kind,v1]] c0 fun c v=>Own c G F/\v=B r:=by
 unfold jO at H;refine en func44 rfl rfl<|sr ?_;obtain ⟨a3,a4,a5,rfl⟩:=(j).form;refine me (bx 61 [I b.Kind,.slice a3 a4 a5] O0) ?_;rintro v10 c9 l9 ⟨f,rfl,O7,k⟩;refine Ri false<|wln<|RA 1<|Rx<|RB (Q f)<|vx (l1 u_3 (k 0 _ rfl))<|wln<|W.block<|bn H fun e1 n a=>W.seqJ (Jn c9 fun c l=>Own c G F/\l= [(1,Q f),(3,I 1),(5,I b.Kind),(6,B e1)]) ?_ ?_
 ·refine sr<|Rk (b.Kind==0)<|RF n (fun y1 n=>?_) (fun y1 n=>?_)
  ·refine RG ?_;obtain rfl:=si n;exact jn c9 ⟨O7,rfl⟩
  refine W.region<|Rk (b.Kind==3)<|wln ?_;obtain rfl:=si n;exact jn c9 ⟨O7,rfl⟩
 rintro e_ w_ ⟨p,l3,_,rfl,o3,rfl,o,rfl⟩;refine cn a (fun z1 a=>?_) (fun z1 a=>?_)
 ·refine Ru true<|RD<|RK ?_;obtain rfl:=si a;exact Rz p ⟨o,rfl⟩
 refine sr<|Rk (b.Kind==2)<|RF a (fun b2 a=>?_) (fun b2 a=>?_)
 ·refine RC 2<|WL.nil<|RH<|W.seq<|W.seq<|bn a fun z j0 a=>W.join (Jn p fun c l=>Own c G F/\l= [(1,Q f),(3,I 2),(18,B z)]) ?_ ?_
  ·clear a;refine RC 2<|Ri (2==1) ?_;rcases bo (2==1) with q|q
   ·have M:=anT q j0;refine vb q<|wa (Qo f (0+1))<|wn<|vx (l1 cD ((mm k) 1 _ rfl))<|wn<|me (sl (RI .i32) 21 [[J 65533]] ([65533]:List Int) o ⟨rfl,trivial⟩) ?_;rintro v29 h3 p3 ⟨b4,f1,c2⟩;refine wn ?_;obtain ⟨i3,e2,q3,g1,d2⟩:=f1.frz 0 rfl c2;refine WL.gh e2 (bn M fun E f2 M=>cl (lV g1 b.Text ([65533]:List Int) j.m d2 f2) ?_);rintro v40 s1 s3 ⟨h1,rfl⟩;obtain rfl:=si M;refine Ri E<|wln ?_;have i1:=h1.sD 1 [];exact jn s1 ⟨i1,rfl⟩
   obtain rfl:=anF q j0;exact vb q<|pz<|pz<|Ri false<|Ry p ⟨o,rfl⟩
  rintro e_ w_ ⟨i0,m3,_,rfl,t3,rfl,f0,rfl⟩;refine nrm<|cn a (fun g2 a=>?_) (fun g2 a=>?_)
  ·refine Ru true<|RD<|thr ?_;obtain rfl:=si a;exact Rz i0 ⟨f0,rfl⟩
  refine RG<|W.seq<|bn a fun i i2 a=>bn a fun z0 k0 a=>bn a fun A b0 a=>W.join (Jn i0 fun c l=>Own c G F/\l= [(2,B A)]) ?_ ?_
  ·clear a;refine W.region<|Rs f (0+1)<|vx (l1 cD ((mm k) 1 _ rfl))<|cl (qv f0 b.Text j.m i2) ?_;rintro v57 t1 u3 ⟨g0,rfl⟩;refine Ri (i==1) ?_;rcases bo (i==1) with s|s
   ·have N:=anT s k0;refine vb s<|wa (Qo f (0+1))<|wn<|vx (l1 cD ((mm k) 1 _ rfl))<|wn<|bn N fun d j2 N=>cl (eQ g0 b.Text j.m j2) ?_;rintro d4 u1 v3 ⟨h0,rfl⟩;refine Rn (!d) ?_;obtain rfl:=si N;refine Ri (!d) ?_;rcases bo (!d) with t|t
    ·have P:=anT t b0;refine vb t<|wa (Qo f (0+1))<|wn<|vx (l1 cD ((mm k) 1 _ rfl))<|wn<|bn P fun e k2 P=>cl (wP h0 b.Text j.m k2) ?_;rintro e4 w1 w3 ⟨k1,rfl⟩;refine wa (I 2)<|Rn (e==2) ?_;obtain rfl:=si P;exact Rk (e==2)<|Ry w1 ⟨k1,rfl⟩
    obtain rfl:=anF t b0;exact vb t<|pz<|pz<|ps<|Rk false<|Ry u1 ⟨h0,rfl⟩
   obtain rfl:=anF s k0;refine vb s<|pz<|pz<|Ri false ?_;have l0:false=false:=rfl;obtain rfl:=anF l0 b0;exact vb l0<|pz<|pz<|ps<|Rk false<|Ry t1 ⟨g0,rfl⟩
  rintro e_ w_ ⟨x1,n3,_,rfl,x3,rfl,m1,rfl⟩;refine nrm<|W.ret ?_;obtain rfl:=si a;exact Rz x1 ⟨m1,rfl⟩
 refine W.skip<|RH<|W.seq<|W.seq<|bn a fun z m0 a=>W.join (Jn p fun c l=>Own c G F/\l= [(1,Q f),(3,I 1),(18,B z)]) ?_ ?_
 ·clear a;refine RC 1<|Ri (1==1) ?_;rcases bo (1==1) with u|u
  ·have R:=anT u m0;refine vb u<|wa (Qo f (0+1))<|wn<|vx (l1 cD ((mm k) 1 _ rfl))<|wn<|me (sl (RI .i32) 21 [[J 65533]] ([65533]:List Int) o ⟨rfl,trivial⟩) ?_;rintro f4 j3 y3 ⟨c4,n1,l2⟩;refine wn ?_;obtain ⟨k3,n2,z3,p1,m2⟩:=n1.frz 0 rfl l2;refine WL.gh n2 (bn R fun E o2 R=>cl (lV p1 b.Text ([65533]:List Int) j.m m2 o2) ?_);rintro d3 t0 w2 ⟨q1,rfl⟩;obtain rfl:=si R;refine Ri E<|wln ?_;have o0:=q1.sD 1 [];exact jn t0 ⟨o0,rfl⟩
  obtain rfl:=anF u m0;exact vb u<|pz<|pz<|Ri false<|Ry p ⟨o,rfl⟩
 rintro e_ w_ ⟨X,u2,_,rfl,x2,rfl,S,rfl⟩;refine nrm<|cn a (fun a1 a=>?_) (fun a1 a=>?_)
 ·refine Ru true<|RD<|thr ?_;obtain rfl:=si a;exact Rz X ⟨S,rfl⟩
 refine RG<|W.seq<|bn a fun i b1 a=>bn a fun z0 Z a=>bn a fun A D a=>W.join (Jn X fun c l=>Own c G F/\l= [(2,B A)]) ?_ ?_
 ·clear a;refine W.region<|Rs f (0+1)<|vx (l1 cD ((mm k) 1 _ rfl))<|cl (qv S b.Text j.m b1) ?_;rintro e3 u0 y2 ⟨T,rfl⟩;refine Ri (i==1) ?_;rcases bo (i==1) with g|g
  ·have x:=anT g Z;refine vb g<|wa (Qo f (0+1))<|wn<|vx (l1 cD ((mm k) 1 _ rfl))<|wn<|bn x fun d c1 x=>cl (eQ T b.Text j.m c1) ?_;rintro f3 v0 z2 ⟨U,rfl⟩;refine Rn (!d) ?_;obtain rfl:=si x;refine Ri (!d) ?_;rcases bo (!d) with h|h
   ·have y:=anT h D;refine vb h<|wa (Qo f (0+1))<|wn<|vx (l1 cD ((mm k) 1 _ rfl))<|wn<|bn y fun e d1 y=>cl (wP U b.Text j.m d1) ?_;rintro g3 w0 b3 ⟨q0,rfl⟩;refine wa (I 1)<|Rn (e==1) ?_;obtain rfl:=si y;exact Rk (e==1)<|Ry w0 ⟨q0,rfl⟩
   obtain rfl:=anF h D;exact vb h<|pz<|pz<|ps<|Rk false<|Ry v0 ⟨U,rfl⟩
  obtain rfl:=anF g Z;refine vb g<|pz<|pz<|Ri false ?_;have a0:false=false:=rfl;obtain rfl:=anF a0 D;exact vb a0<|pz<|pz<|ps<|Rk false<|Ry u0 ⟨T,rfl⟩
 rintro e_ w_ ⟨x0,v2,_,rfl,c3,rfl,s0,rfl⟩;refine nrm<|W.ret ?_;obtain rfl:=si a;exact Rz x0 ⟨s0,rfl⟩
def mQ (p0:aH):Option Bool:=
 (kD p0).bind fun h=>
 if (!h)=true then
 some false
 else
 (cm (σ:=Int) (τ:=Bool ⊕ Unit) (((p0.Lines.length:Int)-0).toNat+1) (fun c=>
 if decide (c<(p0.Lines.length:Int)) then
 (idx p0.Lines c).bind fun e=>
 (cm (σ:=Int) (τ:=Bool ⊕ Unit) (((e.Cells.length:Int)-0).toNat+1) (fun d=>
 if decide (d<(e.Cells.length:Int)) then
 (idx e.Cells d).bind fun f=>
 (jO f).bind fun g=>
 if (!g)=true then
 some (.inr (.inl false))
 else
 some (.inl ((w64 (d+1))))
 else
 some (.inr (.inr ()))) 0).bind fun b=>
 match b with
 | .inl b=>
 some (.inr (.inl b))
 | .inr b=>
 some (.inl ((w64 (c+1))))
 else
 some (.inr (.inr ()))) 0).bind fun a=>
 match a with
 | .inl a=>
 some a
 | .inr a=>
 some true
theorem As (O0:Own c0 G F) (hG:Gl [0,2,3,4,7] c0) (a:aH){r:Bool}(E:Sl aN c0 v1 a.Lines) (H:mQ a=some r): RU 18 #[.agg #[I a.Wide,I a.High,v1,I a.At.Row,I a.At.Col,B a.At.Pending,B a.Auto]] c0 fun c v=>Own c G F/\v=B r:=by
 unfold mQ at H;refine en func18 rfl rfl<|sr ?_;obtain ⟨S,T,U,rfl⟩:=(E).form;refine me (bx 31 [I a.Wide,I a.High,.slice S T U,I a.At.Row,I a.At.Col,B a.At.Pending,B a.Auto] O0) ?_;rintro v10 c9 l9 ⟨b6,rfl,O7,m8⟩;refine Ri false<|Rx<|sr<|vx (lN 31 m8)<|bn H fun b2 h1 H=>cl (uc O7 (hG.m.le (by decide)) a E.m h1) ?_;rintro v17 g l16 ⟨X,rfl⟩;refine Ri (!b2)<|RF H (fun i1 H=>?_) (fun i1 H=>?_)
 ·refine Ru false<|RD<|thr ?_;cases H;exact Rz g ⟨X,rfl⟩
 refine RG<|W.seq<|sr<|Rs b6 (0+2)<|vx (l1 gb ((mm m8) 2 _ rfl))<|vx (ln 3 gb E.m)<|Ro 0<|wln<|W.block<|bn H fun i j0 u=>lp j0 (fun b=>Jn g fun c l=>Own c G F/\l= [(11,.slice S T U),(12,I (a.Lines.length:Int)),(13,I b)]) (fun t=>match t with|.inl k=>(fun N ex e w=>ex= .ret/\(Jn g fun c l=>Own c G F/\l= [(2,B N)]) e w) k|.inr k=>(fun d2 ex e w=>ex= .exit 0/\(Jn g fun c l=>Own c G F/\l= []) e w) k) ?_ ?_ ?_
 ·clear u j0;intro b c2 A R H;revert A R;rintro z P ⟨b1,q2,_,rfl,s1,rfl,Z,rfl⟩;refine sr<|Rj (b<(a.Lines.length:Int))<|Rx<|cn H (fun j1 H=>?_) (fun j1 H=>?_)
  ·refine RG<|RM<|sr<|bn H fun f k0 H=>?_;obtain ⟨k2,k1,x1⟩:=Sl.at (E.mono (l9.trans (l16.trans s1))) (aP k0);obtain ⟨v32,rfl,h⟩:=k1;refine vx (ix gb E.m k0)<|vx (lN 56 x1)<|me (al 56 [Y,B false] Z) ?_;rintro v37 n2 o0 ⟨y,rfl,s0⟩;obtain ⟨o,p,q,rfl⟩:=((h.mono o0)).form;refine md (sA 56 [.slice o p q,B f.Wrap] 0 s0 ⟨h.m.one,rfl,trivial⟩) ?_;rintro s t1 a0;refine wln<|RB (Q y)<|vx (le1 0 cw (a0.on 0 rfl))<|vx (ln 3 cw h.m)<|Ro 0<|wln<|W.block<|bn H fun j l0 x=>lp l0 (fun d=>Jn s fun c l=>Own c G ((Eb y 56 [.slice o p q,B f.Wrap])::F)/\l= [(11,.slice S T U),(12,I (a.Lines.length:Int)),(13,I b),(18,.slice o p q),(19,I (f.Cells.length:Int)),(20,I d)]) (fun t=>match t with|.inl k=>(fun N ex e w=>ex= .ret/\(Jn s fun c l=>Own c G F/\l= [(2,B N)]) e w) k|.inr k=>(fun e2 ex e w=>ex= .exit 2/\(Jn s fun c l=>Own c G ((Eb y 56 [.slice o p q,B f.Wrap])::F)/\l= [(11,.slice S T U),(12,I (a.Lines.length:Int)),(13,I b)]) e w) k) ?_ ?_ ?_
   ·clear x l0;intro d c2 A R H;revert A R;rintro z P ⟨c1,s2,_,rfl,u1,rfl,b0,rfl⟩;refine sr<|Rj (d<(f.Cells.length:Int))<|Rx<|cn H (fun m1 H=>?_) (fun m1 H=>?_)
    ·refine RG<|RM<|sr<|bn H fun n m0 H=>?_;obtain ⟨l2,n1,y1⟩:=Sl.at (h.mono (o0.trans (t1.trans u1))) (aP m0);obtain ⟨v56,rfl,M⟩:=n1;refine vx (ix cw h.m m0)<|vx (lN 61 y1)<|me (al 61 [I 0,Y] b0) ?_;rintro e3 o2 w1 ⟨m2,rfl,t0⟩;obtain ⟨f0,g0,h0,rfl⟩:=((M.mono w1)).form;refine md (sA 61 [I n.Kind,.slice f0 g0 h0] 0 t0 ⟨rfl,M.m.one,trivial⟩) ?_;rintro p2 x2 d0;refine RO<|vx (leN 61 0 [I n.Kind,.slice f0 g0 h0] (d0.on 0 rfl))<|bn H fun q0 p1 H=>cl (yo d0 n M.m p1) ?_;rintro f3 i0 y2 ⟨e0,rfl⟩;refine Ri (!q0)<|RF H (fun q1 H=>?_) (fun q1 H=>?_)
     ·refine Ru false<|RD<|RK ?_;cases H;refine ⟨_,rfl,⟨rfl,?_⟩⟩;have u0:=e0.sD 2 [];exact jn i0 ⟨u0,rfl⟩
     refine W.skip<|RH<|W.region<|Rq (d+1)<|WL.nil ?_;cases H;refine ⟨_,rfl,?_⟩;have v0:=e0.sD 2 [1];exact jn i0 ⟨v0,rfl⟩
    refine W.exit<|thx ?_;cases H;exact ⟨_,rfl,rfl,jn c1 ⟨b0,rfl⟩⟩
   ·exact jn s ⟨a0,rfl⟩
   rcases j with j|j
   ·intro D; revert D;rintro _ z P ⟨rfl,d1,t2,_,rfl,z2,rfl,w0,rfl⟩;refine bkr<|RK ?_;cases x;exact ⟨_,rfl,⟨rfl,jn d1 ⟨w0,rfl⟩⟩⟩
   rintro _ z P ⟨rfl,e1,u2,_,rfl,b3,rfl,x0,rfl⟩;refine bke<|RH<|W.region<|Rq (b+1)<|WL.nil ?_;cases x;refine ⟨_,rfl,?_⟩;have y0:=x0.sD 1 [];exact jn e1 ⟨y0,rfl⟩
  refine W.exit<|thx ?_;cases H;exact ⟨_,rfl,rfl,jn b1 ⟨Z,rfl⟩⟩
 ·exact jn g ⟨X,rfl⟩
 rcases i with i|i
 ·intro D; revert D;rintro _ z P ⟨rfl,f1,v2,_,rfl,c3,rfl,z0,rfl⟩;refine RK ?_;cases u;exact Rz f1 ⟨z0,rfl⟩
 rintro _ z P ⟨rfl,g1,w2,_,rfl,d3,rfl,a1,rfl⟩;refine RJ<|Ru true<|RD ?_;cases u;exact Rz g1 ⟨a1,rfl⟩
def lP (p0:Int):Option Int:=
 (dU p0).bind fun a=>
 if (!a)=true then
 some 0
 else
 if decide (p0<128) then
 some 1
 else
 if decide (p0<2048) then
 some 2
 else
 if decide (p0<65536) then
 some 3
 else
 some 4
theorem yP (h:Own c0 G F) (a:Int){r:Int}(H:lP a=some r): RU 129 #[J a] c0 fun c v=>Own c G F/\v=I r:=by
 unfold lP at H;refine en func129 rfl rfl<|RA 0<|Rx<|W.block<|RB (J a)<|bn H fun e i H=>cl (lg h a i) ?_;rintro v7 d l ⟨b,rfl⟩;refine Rk (!e)<|RF H (fun j H=>?_) (fun j H=>?_)
 ·refine RA 0<|RD<|RK ?_;cases H;exact Rz d ⟨b,rfl⟩
 refine RB (J a)<|vv (B (decide (a<128)))<|RF H (fun k H=>?_) (fun k H=>?_)
 ·refine RA 1<|RD<|RK ?_;cases H;exact Rz d ⟨b,rfl⟩
 refine RB (J a)<|vv (B (decide (a<2048)))<|RF H (fun f H=>?_) (fun f H=>?_)
 ·refine RA 2<|RD<|RK ?_;cases H;exact Rz d ⟨b,rfl⟩
 refine RB (J a)<|vv (B (decide (a<65536)))<|RF H (fun g H=>?_) (fun g H=>?_)
 ·refine RA 3<|RD<|RK ?_;cases H;exact Rz d ⟨b,rfl⟩
 refine W.skip<|RH<|RA 4<|RD ?_;cases H;exact Rz d ⟨b,rfl⟩
def pK (p0:Int):Option Int:=
 if (p0==2)=true then
 some 192
 else
 if (p0==3)=true then
 some 224
 else
 if (p0==4)=true then
 some 240
 else
 some 0
theorem yO (b:Own c0 G F) (a:Int){r:Int}(H:pK a=some r): RU 130 #[I a] c0 fun c v=>Own c G F/\v= .int .u8 r:=by
 unfold pK at H;refine en func130 rfl rfl<|RB (.int .u8 0)<|Rx<|RA a<|wln<|W.block<|sr<|Rk (a==2)<|RF H (fun d H=>?_) (fun d H=>?_)
 ·refine RB (.int .u8 192)<|RD<|RK ?_;cases H;exact Rz c0 ⟨b,rfl⟩
 refine sr<|Rk (a==3)<|RF H (fun e H=>?_) (fun e H=>?_)
 ·refine RB (.int .u8 224)<|RD<|RK ?_;cases H;exact Rz c0 ⟨b,rfl⟩
 refine sr<|Rk (a==4)<|RF H (fun f H=>?_) (fun f H=>?_)
 ·refine RB (.int .u8 240)<|RD<|RK ?_;cases H;exact Rz c0 ⟨b,rfl⟩
 refine W.skip<|RH<|RB (.int .u8 0)<|RD ?_;cases H;exact Rz c0 ⟨b,rfl⟩
def lQ (p0:Int):Option (List Int):=
 (lP p0).bind fun b=>
 if (b==0)=true then
 some ([]:List Int)
 else
 (rep b 0).bind fun f=>
 (cm (σ:=Int×(List Int)×Int) (τ:=(Int×(List Int))) (((w64 (b-1))-0).toNat+1) (fun a=>
 if decide (a.2.2>0) then
 (idx a.2.1 a.2.2).bind fun h=>
 (pJ a.2.1 a.2.2 (gW .u8 128 (IntKind.u8.wrap (fP .i32 a.1 63)))).bind fun d=>
 some (.inl ((a.1.fdiv (2 ^ 6)),d,(w64 (a.2.2-1))))
 else
 some (.inr (a.1,a.2.1))) (p0,f,(w64 (b-1)))).bind fun c=>
 (pK b).bind fun g=>
 (idx c.2 0).bind fun i=>
 (pJ c.2 0 (gW .u8 g (IntKind.u8.wrap c.1))).bind fun e=>
 some e
theorem yQ (O0:Own c0 G F) (q:Int){r:List Int}(H:lQ q=some r): RU 86 #[J q] c0 fun c v=>∃D y2,Own c G (es true (RI .u8) D 5 y2 r::F)/\v=D/\OA (RI .u8) c D y2 r:=by
 unfold lQ at H;refine en func86 rfl rfl<|RB Y<|wln<|RB (J q)<|bn H fun b h1 H=>cl (yP O0 q h1) ?_;rintro v7 c6 l6 ⟨M,rfl⟩;refine Ro b<|Rx<|RA b<|Ri (b==0)<|RF H (fun h8 H=>?_) (fun h8 H=>?_)
 ·refine RB Y<|RD<|thr ?_;cases H;have e0:OA (RI .u8) c6 Y [] []:=OA.nil (ba _);have O9:=M.addHole (e:=es true (RI .u8) Y 5 [] ([]:List Int)) rfl;exact Rz c6 ⟨(Y),[],O9,rfl,e0⟩
 refine RG<|RA b<|bn H fun e1 t H=>me (Own.mkS (kl:= .i64) (kc:= .i64) (R:=(RI .u8)) (z:= .int .u8 0) (lz:=[.int .u8 0]) (x:=0) (by_:=1) (i:=b) (j:=b) true M (ba _) t (DH _) (Cs t) vN (by kernel_rfl) rfl rfl (fun _=>rfl) (by kernel_rfl) (by kernel_rfl)) ?_;rintro v16 n n1 ⟨q0,E,f0⟩;refine va v16<|Rx<|RA b<|Rq (b-1)<|wln<|W.block<|bn H fun d y f=>lp y (fun a=>Jn n fun c l=>∃v19 k,Own c G (es true (RI .u8) v19 5 k a.2.1::F)/\l= [(0,J a.1),(3,I b),(4,v19),(5,I a.2.2)]/\OA (RI .u8) c v19 k a.2.1) (fun g ex e w=>ex= .exit 0/\(Jn n fun c l=>∃v21 p,Own c G (es true (RI .u8) v21 5 p g.2::F)/\l= [(0,J g.1),(3,I b),(4,v21)]/\OA (RI .u8) c v21 p g.2) e w) ?_ ?_ ?_
 ·clear f y;intro a v1 d0 u0 H;revert d0 u0;rintro e_ w_ ⟨X,k1,_,rfl,p1,rfl,v19,k,s,rfl,o⟩;refine W.seq<|RA a.2.2<|Rj (a.2.2>0)<|RF H (fun g0 H=>?_) (fun g0 H=>?_)
  ·refine RG<|RM<|RB v19<|Ro a.2.2<|va (J a.1)<|va (J (fP .i32 a.1 63))<|va (.int .u8 (IntKind.u8.wrap (fP .i32 a.1 63)))<|va (.int .u8 (gW .u8 128 (IntKind.u8.wrap (fP .i32 a.1 63))))<|bn H fun f1 h0 H=>vx (ixO vN o h0)<|bn H fun c1 i0 H=>md (Own.stW (R:=(RI .u8)) (T:=5) (us:=[.int .u8 (gW .u8 128 (IntKind.u8.wrap (fP .i32 a.1 63)))]) (x':=(gW .u8 128 (IntKind.u8.wrap (fP .i32 a.1 63)))) (u:= .int .u8 (gW .u8 128 (IntKind.u8.wrap (fP .i32 a.1 63)))) 0 s (by kernel_rfl) rfl o i0 rfl (by kernel_rfl) ⟨rfl,trivial⟩ rfl rfl) ?_;rintro Z q1 ⟨s0,N,j0⟩;refine wln<|Rv (J a.1)<|vv (J (a.1.fdiv (2 ^ 6)))<|WL.nil<|RH<|RC a.2.2<|Rq (a.2.2-1)<|WL.nil ?_;cases H;exact ⟨_,rfl,jn Z ⟨v19,s0,N,rfl,j0⟩⟩
  refine W.exit<|thx ?_;cases H;exact ⟨_,rfl,rfl,jn X ⟨v19,k,s,rfl,o⟩⟩
 ·exact jn n ⟨v16,q0,E,rfl,f0⟩
 rintro _ e_ w_ ⟨rfl,i1,m1,_,rfl,s1,rfl,v21,p,P,rfl,A⟩;refine RJ<|RB v21<|Ro b<|bn f fun h k0 f=>cl (yO P b k0) ?_;rintro v50 j1 t1 ⟨S,rfl⟩;refine va (J d.1)<|va (.int .u8 (IntKind.u8.wrap d.1))<|va (.int .u8 (gW .u8 h (IntKind.u8.wrap d.1)))<|bn f fun g1 l0 f=>vx (ixO vN A.m l0)<|bn f fun d1 m0 f=>md (Own.stW (R:=(RI .u8)) (T:=5) (us:=[.int .u8 (gW .u8 h (IntKind.u8.wrap d.1))]) (x':=(gW .u8 h (IntKind.u8.wrap d.1))) (u:= .int .u8 (gW .u8 h (IntKind.u8.wrap d.1))) 0 S (by kernel_rfl) rfl A.m m0 rfl (by kernel_rfl) ⟨rfl,trivial⟩ rfl rfl) ?_;rintro a0 u1 ⟨t0,U,o0⟩;refine RO<|vv v21<|RD ?_;cases f;exact Rz a0 ⟨v21,t0,U,rfl,o0⟩
def mP (p0:List Int):Option ((List Int)×Er):=
 (cm (σ:=(List Int)×Int) (τ:=((List Int)×Er) ⊕ (List Int)) (((p0.length:Int)-0).toNat+1) (fun a=>
 if decide (a.2<(p0.length:Int)) then
 (idx p0 a.2).bind fun c=>
 (dU c).bind fun d=>
 if (!d)=true then
 (jo a.2 (Er.sent 6)).bind fun e=>
 some (.inr (.inl (([]:List Int),e)))
 else
 (lQ c).bind fun f=>
 (app a.1 f).bind fun g=>
 some (.inl (g,(w64 (a.2+1))))
 else
 some (.inr (.inr a.1))) (([]:List Int),0)).bind fun b=>
 match b with
 | .inl b=>
 some b
 | .inr b=>
 some (b,Er.nil)
theorem Aq (O0:Own c0 G F) (hG:Gl [6] c0) (i:List Int){r:(List Int)×Er}(A:Sl (RI .i32) c0 v1 i) (H:mP i=some r): RU 45 #[v1] c0 fun c v=>∃M y2 y3,Own c G (es true (RI .u8) M 5 y2 r.1::F)/\v= .tuple #[M,y3]/\OA (RI .u8) c M y2 r.1/\RE 352 80 c y3 r.2:=by
 unfold mP at H;refine en func45 rfl rfl<|RB Y<|va (.nilIface)<|wln<|RB Y<|Rx<|RB v1<|vx (ln 3 cD A)<|Ro 0<|wln<|W.block<|bn H fun d h3 z=>lp h3 (fun a=>Jn c0 fun c l=>∃v5 j,Own c G (es true (RI .u8) v5 5 j a.1::F)/\l= [(4,v5),(7,v1),(8,I (i.length:Int)),(9,I a.2)]/\OA (RI .u8) c v5 j a.1) (fun t=>match t with|.inl D=>(fun h ex e w=>ex= .ret/\(Jn c0 fun c l=>∃v9 g v11,Own c G (es true (RI .u8) v9 5 g h.1::F)/\l= [(2,v9),(3,v11)]/\OA (RI .u8) c v9 g h.1/\RE 352 80 c v11 h.2) e w) D|.inr D=>(fun f ex e w=>ex= .exit 0/\(Jn c0 fun c l=>∃v7 k,Own c G (es true (RI .u8) v7 5 k f::F)/\l= [(4,v7)]/\OA (RI .u8) c v7 k f) e w) D) ?_ ?_ ?_
 ·clear z h3;intro a l2 i0 j1 H;revert i0 j1;rintro e_ w_ ⟨d0,z1,_,rfl,x,rfl,v5,j,n,rfl,q⟩;refine sr<|Rj (a.2<(i.length:Int))<|Rx<|cn H (fun k0 H=>?_) (fun k0 H=>?_)
  ·refine RG<|RM<|RA a.2<|bn H fun b s H=>?_;obtain ⟨p1,l0,g1⟩:=Sl.at (A.mono x) (aP s);obtain rfl:=l0;refine vx (ix cD A.m s)<|vx (l1 nB (g1 0 _ rfl))<|Ro a.2<|va (J b)<|Rx<|RB (J b)<|bn H fun E m0 H=>cl (lg n b m0) ?_;rintro v30 u1 f1 ⟨o,rfl⟩;refine Ri (!E)<|RF H (fun q0 H=>?_) (fun q0 H=>?_)
   ·refine RA a.2 ?_;obtain ⟨v32,u⟩:=(hG.mono (x.trans f1)).get 6 (by decide);refine vx (l1 tB u.im)<|bn H fun q1 s0 H=>cl (oy o a.2 (Er.sent 6) u s0) ?_;rintro v35 p d2 ⟨_,N,rfl,t0⟩;refine va Y<|va v35<|RD<|thr<|RK ?_;cases H;refine ⟨_,rfl,⟨rfl,?_⟩⟩;have u0:OA (RI .u8) p Y [] []:=OA.nil (ba _);have P:=N.addHole (e:=es true (RI .u8) Y 5 [] ([]:List Int)) rfl;have R:=P.sD 2 [0];exact jn p ⟨(Y),[],v35,R,rfl,u0,t0⟩
   refine RG<|Rv v5<|va (J b)<|bn H fun s1 v0 H=>cl (yQ o b v0) ?_;rintro v47 w1 e2 ⟨_,k2,S,rfl,w0⟩;obtain ⟨x1,y0,f2,T,x0⟩:=S.frz 0 rfl w0;refine WL.gh y0 (bn H fun t1 z0 H=>me (ap (RI .u8) (.int .u8 0) 1 48 1 T q.m x0 z0 vN) ?_);rintro y e0 g2 ⟨h1,U,a1⟩;refine va y<|WL.nil<|RH<|W.region<|Rq (a.2+1)<|WL.nil ?_;cases H;refine ⟨_,rfl,?_⟩;have X:=U.sD 2 [1];exact jn e0 ⟨y,h1,X,rfl,a1⟩
  refine W.exit<|thx ?_;cases H;exact ⟨_,rfl,rfl,jn d0 ⟨v5,j,n,rfl,q⟩⟩
 ·have b1:OA (RI .u8) c0 Y [] []:=OA.nil (ba _);have Z:=O0.addHole (e:=es true (RI .u8) Y 5 [] ([]:List Int)) rfl;exact jn c0 ⟨(Y),[],Z,rfl,b1⟩
 rcases d with d|d
 ·intro j0; revert j0;rintro _ e_ w_ ⟨rfl,f0,b2,_,rfl,i2,rfl,v9,g,v11,a0,rfl,c1,d1⟩;refine RK ?_;cases z;exact r2 (qq f0 ⟨v9,g,v11,a0,rfl,c1,d1⟩)
 rintro _ e_ w_ ⟨rfl,g0,c2,_,rfl,j2,rfl,v7,k,b0,rfl,e1⟩;refine RJ<|sr<|vv v7<|va (.nilIface)<|RD ?_;cases z;exact r2 (qq g0 ⟨v7,k,.nilIface,b0,rfl,e1,rfl⟩)
def lR (p0:Int) (p1:List aa):Option (List aJ):=
 (cm (σ:=(List aJ)×Int) (τ:=(List aJ)) (((p1.length:Int)-0).toNat+1) (fun a=>
 if decide (a.2<(p1.length:Int)) then
 ((idx p1 a.2).bind fun b=>
 if ((b.Text.length:Int)==0)=true then
 some a.1
 else
 (mP b.Text).bind fun c=>
 (app a.1 ([(⟨2,p0,a.2,([]:List Int)⟩:aJ),(⟨0,0,0,c.1⟩:aJ)]:List aJ)).bind fun d=>
 some d).bind fun e=>
 some (.inl (e,(w64 (a.2+1))))
 else
 some (.inr a.1)) (([]:List aJ),0)).bind fun f=>
 some f
theorem yR (O0:Own c0 G F) (hG:Gl [6] c0) (d:Int) (q:List aa){r:List aJ}(E:Sl aw c0 v1 q) (H:lR d q=some r): RU 19 #[I d,v1] c0 fun c v=>∃N y2,Own c G (es true cp N 52 y2 r::F)/\v=N/\OA cp c N y2 r:=by
 unfold lR at H;refine en func19 rfl rfl<|RB Y<|wln<|RB Y<|Rx<|RB v1<|vx (ln 3 cw E)<|Ro 0<|wln<|W.block<|bn H fun t2 h3 R=>lp h3 (fun a=>Jn c0 fun c l=>∃v5 s,Own c G (es true cp v5 52 s a.1::F)/\l= [(0,I d),(5,v5),(10,v1),(11,I (q.length:Int)),(12,I a.2)]/\OA cp c v5 s a.1) (fun p ex e w=>ex= .exit 0/\(Jn c0 fun c l=>∃v7 u,Own c G (es true cp v7 52 u p::F)/\l= [(5,v7)]/\OA cp c v7 u p) e w) ?_ ?_ ?_
 ·clear R h3;intro a x2 t0 q1 H;revert t0 q1;rintro e_ w_ ⟨c9,f2,_,rfl,l9,rfl,v5,s,x,rfl,o⟩;refine sr<|Rj (a.2<(q.length:Int))<|Rx<|cn H (fun u0 H=>?_) (fun u0 H=>?_)
  ·refine RG<|bn H fun t b P=>W.seqJ (Jn c9 fun c l=>∃v19 i,Own c G (es true cp v19 52 i t::F)/\l= [(0,I d),(5,v19),(10,v1),(11,I (q.length:Int)),(12,I a.2)]/\OA cp c v19 i t) ?_ ?_
   ·refine W.block<|RA a.2<|bn b fun f z b=>?_;obtain ⟨w1,v0,k1⟩:=Sl.at (E.mono l9) (aP z);obtain ⟨v25,rfl,h⟩:=v0;refine vx (ix cw E.m z)<|vx (lN 61 k1)<|me (al 61 [I 0,Y] x) ?_;rintro v30 z1 j1 ⟨y,rfl,S⟩;refine Ro a.2 ?_;obtain ⟨h0,i0,j0,rfl⟩:=((h.mono j1)).form;refine md (sA 61 [I f.Kind,.slice h0 i0 j0] 0 S ⟨rfl,h.m.one,trivial⟩) ?_;rintro k0 k2 g;refine Rx<|sr<|Rs y 1<|vx (le1 1 cD (g.on 0 rfl))<|vx (ln 3 cD h.m)<|Ri ((f.Text.length:Int)==0)<|RF b (fun x0 b=>?_) (fun x0 b=>?_)
    ·refine W.exit<|thx<|RJ ?_;cases b;have T:=g.sD 2 [1];exact jn k0 ⟨v5,s,T,rfl,o.m⟩
    refine RG<|sr<|Rs y 1<|vx (le1 1 cD (g.on 0 rfl))<|bn b fun M y0 b=>cl (Aq g (hG.m.le (by decide)) f.Text h.m y0) ?_;rintro v49 b2 l2 ⟨v39,u2,v42,U,rfl,A,j2⟩;refine va (.tuple #[v39,v42])<|va v39<|va v42<|va v39<|va v42<|wln<|Rv v5<|Ro d<|Ro a.2<|va (.agg #[I 2,I d,I a.2,Y])<|va v39 ?_;obtain ⟨j,k,n,rfl⟩:=(A).form;refine va (.agg #[I 0,I 0,I 0,.slice j k n]) ?_;obtain ⟨c2,a1,m2,X,z0⟩:=U.frz 0 rfl A;refine WL.gh a1 (me (sl cp 52 [[I 2,I d,I a.2,Y],[I 0,I 0,I 0,.slice j k n]] ([(⟨2,d,a.2,([]:List Int)⟩:aJ),(⟨0,0,0,M.1⟩:aJ)]:List aJ) X ⟨⟨(Y),rfl,(Sl.nl _ _)⟩,⟨(.slice j k n),rfl,z0⟩,trivial⟩) ?_);rintro w2 d2 n2 ⟨v2,Z,b1⟩;obtain ⟨e2,d1,o2,a0,c1⟩:=Z.frz 0 rfl b1;refine WL.gh d1 (bn b fun x1 e1 b=>me (ap cp (.agg #[I 0,I 0,I 0,Y]) 48 24 3 a0 o.m c1 e1 wQ) ?_);rintro D l0 p2 ⟨m1,b0,f1⟩;refine va D<|WL.nil<|RH ?_;cases b;have d0:=b0.sD 4 [3];exact jn l0 ⟨D,m1,d0,rfl,f1⟩
   rintro e_ w_ ⟨m0,g2,_,rfl,q2,rfl,v19,i,e0,rfl,g1⟩;refine W.region<|Rq (a.2+1)<|WL.nil ?_;cases P;exact ⟨_,rfl,jn m0 ⟨v19,i,e0,rfl,g1⟩⟩
  refine W.exit<|thx ?_;cases H;exact ⟨_,rfl,rfl,jn c9 ⟨v5,s,x,rfl,o⟩⟩
 ·have h1:OA cp c0 Y [] []:=OA.nil (ba _);have f0:=O0.addHole (e:=es true cp Y 52 [] ([]:List aJ)) rfl;exact jn c0 ⟨(Y),[],f0,rfl,h1⟩
 rintro _ e_ w_ ⟨rfl,o0,i2,_,rfl,s2,rfl,v7,u,g0,rfl,i1⟩;refine RJ<|sr<|vv v7<|RD ?_;cases R;exact Rz o0 ⟨v7,u,g0,rfl,i1⟩
def jW (p0:aH):Option ((List aJ)×Bool):=
 (mQ p0).bind fun i=>
 if (!i)=true then
 some (([]:List aJ),false)
 else
 (cm (σ:=(List aJ)×Int) (τ:=(List aJ)) (((p0.Lines.length:Int)-0).toNat+1) (fun a=>
 if decide (a.2<(p0.Lines.length:Int)) then
 (idx p0.Lines a.2).bind fun c=>
 (lR a.2 c.Cells).bind fun d=>
 (app a.1 d).bind fun e=>
 some (.inl (e,(w64 (a.2+1))))
 else
 some (.inr a.1)) (([(⟨12,0,0,([]:List Int)⟩:aJ)]:List aJ),0)).bind fun b=>
 (if p0.Auto then
 (app b ([(⟨12,1,0,([]:List Int)⟩:aJ)]:List aJ)).bind fun f=>
 some f
 else
 some b).bind fun h=>
 (app h ([(⟨2,p0.At.Row,p0.At.Col,([]:List Int)⟩:aJ)]:List aJ)).bind fun g=>
 some (g,true)
theorem Ar (O0:Own c0 G F) (hG:Gl [0,2,3,4,6,7] c0) (a:aH){r:(List aJ)×Bool}(o:Sl aN c0 v1 a.Lines) (H:jW a=some r): RU 8 #[.agg #[I a.Wide,I a.High,v1,I a.At.Row,I a.At.Col,B a.At.Pending,B a.Auto]] c0 fun c v=>∃y1 y2,Own c G (es true cp y1 52 y2 r.1::F)/\v= .tuple #[y1,B r.2]/\OA cp c y1 y2 r.1:=by
 unfold jW at H;refine en func8 rfl rfl<|sr ?_;obtain ⟨a3,a4,a5,rfl⟩:=(o).form;refine me (bx 31 [I a.Wide,I a.High,.slice a3 a4 a5,I a.At.Row,I a.At.Col,B a.At.Pending,B a.Auto] O0) ?_;rintro v10 c9 l9 ⟨f,rfl,O7,q⟩;refine va Y<|Ri false<|Rx<|sr<|vx (lN 31 q)<|bn H fun x2 s1 H=>cl (As O7 (hG.m.le (by decide)) a o.m s1) ?_;rintro v17 N l16 ⟨A,rfl⟩;refine Ri (!x2)<|RF H (fun t1 H=>?_) (fun t1 H=>?_)
 ·refine RB Y<|Ri false<|RD<|thr ?_;cases H;have u1:OA cp N Y [] []:=OA.nil (ba _);have u0:=A.addHole (e:=es true cp Y 52 [] ([]:List aJ)) rfl;exact r2 (qq N ⟨(Y),[],u0,rfl,u1⟩)
 refine RG<|RB (.agg #[I 12,I 0,I 0,Y])<|me (sl cp 52 [[I 12,I 0,I 0,Y]] ([(⟨12,0,0,([]:List Int)⟩:aJ)]:List aJ) A ⟨⟨(Y),rfl,(Sl.nl _ _)⟩,trivial⟩) ?_;rintro v25 n n2 ⟨s2,v0,w1⟩;refine va v25<|Rx<|sr<|Rs f (0+2)<|vx (l1 gb ((mm q) 2 _ rfl))<|vx (ln 3 gb o.m)<|Ro 0<|wln<|W.block<|bn H fun o3 R z=>lp R (fun b=>Jn n fun c l=>∃v28 i,Own c G (es true cp v28 52 i b.1::F)/\l= [(1,Q f),(4,v28),(13,.slice a3 a4 a5),(14,I (a.Lines.length:Int)),(15,I b.2)]/\OA cp c v28 i b.1) (fun h ex e w=>ex= .exit 0/\(Jn n fun c l=>∃v30 j,Own c G (es true cp v30 52 j h::F)/\l= [(1,Q f),(4,v30)]/\OA cp c v30 j h) e w) ?_ ?_ ?_
 ·clear z R;intro b p4 q1 w2 H;revert q1 w2;rintro e_ w_ ⟨m1,d4,_,rfl,o2,rfl,v28,i,D,rfl,S⟩;refine sr<|Rj (b.2<(a.Lines.length:Int))<|Rx<|cn H (fun x1 H=>?_) (fun x1 H=>?_)
  ·refine RG<|RM<|RA b.2<|bn H fun x T H=>?_;obtain ⟨n3,z1,q2⟩:=Sl.at (o.mono (l9.trans (l16.trans (n2.trans o2)))) (aP T);obtain ⟨v44,rfl,p⟩:=z1;refine vx (ix gb o.m T)<|vx (lN 56 q2)<|me (al 56 [Y,B false] D) ?_;rintro v49 w3 p2 ⟨k1,rfl,w0⟩;refine Ro b.2 ?_;obtain ⟨h1,i1,j1,rfl⟩:=((p.mono p2)).form;refine md (sA 56 [.slice h1 i1 j1,B x.Wrap] 0 w0 ⟨p.m.one,rfl,trivial⟩) ?_;rintro x3 f4 E;refine wln<|Rv v28<|Ro b.2<|va (Q k1)<|vx (le1 0 cw (E.on 0 rfl))<|bn H fun s3 b2 H=>cl (yR E (hG.m.le (by decide)) b.2 x.Cells p.m b2) ?_;rintro v56 y3 g4 ⟨_,m4,x0,rfl,c2⟩;obtain ⟨z3,e2,h4,y0,d2⟩:=x0.frz 0 rfl c2;refine WL.gh e2 (bn H fun t3 f2 H=>me (ap cp (.agg #[I 0,I 0,I 0,Y]) 48 24 2 y0 S.m d2 f2 wQ) ?_);rintro X n1 i4 ⟨t2,z0,g2⟩;refine va X<|WL.nil<|RH<|W.region<|Rq (b.2+1)<|WL.nil ?_;cases H;refine ⟨_,rfl,?_⟩;have a1:=z0.sD 3 [2];exact jn n1 ⟨X,t2,a1,rfl,g2⟩
  refine W.exit<|thx ?_;cases H;exact ⟨_,rfl,rfl,jn m1 ⟨v28,i,D,rfl,S⟩⟩
 ·exact jn n ⟨v25,s2,v0,rfl,w1⟩
 rintro _ e_ w_ ⟨rfl,P,e4,_,rfl,j4,rfl,v30,j,M,rfl,U⟩;refine RJ<|bn z fun y d k=>W.seqJ (Jn P fun c l=>∃g s,Own c G (es true cp g 52 s y::F)/\l= [(1,Q f),(4,g)]/\OA cp c g s y) ?_ ?_
 ·refine sr<|Rs f (0+6)<|vx (l1 u_4 ((mm q) 6 _ rfl))<|RF d (fun i2 d=>?_) (fun i2 d=>?_)
  ·refine Rv v30<|va (.agg #[I 12,I 1,I 0,Y])<|me (sl cp 52 [[I 12,I 1,I 0,Y]] ([(⟨12,1,0,([]:List Int)⟩:aJ)]:List aJ) M ⟨⟨(Y),rfl,(Sl.nl _ _)⟩,trivial⟩) ?_;rintro o4 b4 k4 ⟨n4,b1,j2⟩;obtain ⟨c4,l2,l4,c1,k2⟩:=b1.frz 0 rfl j2;refine WL.gh l2 (bn d fun u3 m2 d=>me (ap cp (.agg #[I 0,I 0,I 0,Y]) 48 24 1 c1 U.m k2 m2 wQ) ?_);rintro t g0 h3 ⟨u2,d1,i0⟩;refine va t<|wln ?_;cases d;have Z:=d1.sD 2 [1];exact jn g0 ⟨t,u2,Z,rfl,i0⟩
  refine RG ?_;cases d;exact jn P ⟨v30,j,M,rfl,U⟩
 rintro e_ w_ ⟨d3,g3,_,rfl,i3,rfl,g,s,a0,rfl,j0⟩;refine RB g<|vv (Qo f (0+3))<|vx (l1 u_3 ((mm q) 3 _ rfl))<|Rs f (0+3)<|Rs f (0+4)<|vx (l1 u_3 ((mm q) 4 _ rfl))<|va (.agg #[I 2,I a.At.Row,I a.At.Col,Y])<|me (sl cp 52 [[I 2,I a.At.Row,I a.At.Col,Y]] ([(⟨2,a.At.Row,a.At.Col,([]:List Int)⟩:aJ)]:List aJ) a0 ⟨⟨(Y),rfl,(Sl.nl _ _)⟩,trivial⟩) ?_;rintro q3 e3 j3 ⟨p3,b0,k0⟩;obtain ⟨f3,m0,k3,d0,l0⟩:=b0.frz 0 rfl k0;refine WL.gh m0 (bn k fun v3 o0 k=>me (ap cp (.agg #[I 0,I 0,I 0,Y]) 48 24 1 d0 j0.m l0 o0 wQ) ?_);rintro u h0 l3 ⟨s0,e0,q0⟩;refine va u<|Ri true<|RD ?_;cases k;have f0:=e0.sD 2 [1];exact r2 (qq h0 ⟨u,s0,f0,rfl,q0⟩)
def fH (p0:ai) (p1:Int) (p2:Int):Option Bool:=
 (bw (decide (p0.Row>=0)) ((bh p2).bind fun e=>
 some (decide (p0.Row<e)))).bind fun h=>
 (bw h (some (decide (p0.Col>=0)))).bind fun a=>
 (bw a ((bh p1).bind fun f=>
 some (decide (p0.Col<f)))).bind fun b=>
 (bw b ((orE (!p0.Pending) ((bh p1).bind fun g=>
 some (p0.Col==(w64 (g-1))))).bind fun d=>
 some d)).bind fun c=>
 some c
theorem rk (O0:Own c0 G F) (b:ai) (q:Int) (M:Int){r:Bool}(H:fH b q M=some r): RU 46 #[.agg #[I b.Row,I b.Col,B b.Pending],I q,I M] c0 fun c v=>Own c G F/\v=B r:=by
 unfold fH at H;refine en func46 rfl rfl<|sr<|me (bx 29 [I b.Row,I b.Col,B b.Pending] O0) ?_;rintro v5 c4 l4 ⟨o,rfl,O2,p⟩;refine Ri false<|Rx<|bn H fun z0 h6 H=>bn H fun w0 h7 H=>bn H fun x0 E H=>bn H fun d0 D H=>W.join (Jn c4 fun c l=>Own c G F/\l= [(6,B d0)]) ?_ ?_
 ·clear H;refine rD [] (Kp G0 []) O2 ?_;intro P c1 N;have h1:Kp G0 [] P:=Kp.nil0;refine ta 0 (Q o)<|tx 1 (fun d a=>l1 u_3 ((mm p) 0 _ rfl))<|ta 2 (B (decide (b.Row>=0))) ?_;rcases bo (decide (b.Row>=0)) with f|f
  ·have s:=anT f h6;refine bn s fun k j0 s=>AC.takeb 3 f rfl (by kernel_rfl) (by kernel_rfl) (fun d a=>(by kernel_rfl)) (ta 4 (Q o)<|tx 5 (fun d a=>l1 u_3 ((mm p) 0 _ rfl))<|ta 6 (I M)<|o1 7 (gc 7 (lh N M j0) ?_));rintro v21 z d1 ⟨x,rfl⟩;have o0:Kp G0 [] z:=Kp.nil0;refine ⟨.inr o0,ta 8 (B (decide (b.Row<k))) ?_⟩;cases s;refine ta 9 (B (decide (b.Row<k))) ?_;rcases bo (decide (b.Row<k)) with g|g
   ·have f0:=anT g h7;refine AC.takeb 10 g rfl (by kernel_rfl) (by kernel_rfl) (fun d a=>(by kernel_rfl)) (ta 11 (Qo o (0+1))<|tx 12 (fun d a=>l1 u_3 ((mm p) 1 _ rfl))<|ta 13 (B (decide (b.Col>=0))) ?_);cases f0;refine ta 14 (B (decide (b.Col>=0))) ?_;rcases bo (decide (b.Col>=0)) with h|h
    ·have t:=anT h E;refine bn t fun m k0 t=>AC.takeb 15 h rfl (by kernel_rfl) (by kernel_rfl) (fun d a=>(by kernel_rfl)) (ta 16 (Qo o (0+1))<|tx 17 (fun d a=>l1 u_3 ((mm p) 1 _ rfl))<|ta 18 (I q)<|o1 19 (gc 19 (lh x q k0) ?_));rintro v33 A e1 ⟨y,rfl⟩;have q0:Kp G0 [] A:=Kp.nil0;refine ⟨.inr q0,ta 20 (B (decide (b.Col<m))) ?_⟩;cases t;refine ta 21 (B (decide (b.Col<m))) ?_;rcases bo (decide (b.Col<m)) with i|i
     ·have n:=anT i D;refine bn n fun y0 S n=>AC.takeb 22 i rfl (by kernel_rfl) (by kernel_rfl) (fun d a=>(by kernel_rfl)) (ta 23 (Qo o (0+2))<|tx 24 (fun d a=>l1 u_4 ((mm p) 2 _ rfl))<|ta 25 (B (!b.Pending)) ?_);rcases bo (!b.Pending) with j|j
      ·obtain rfl:=orT j S;refine AC.takeb 26 j rfl (by kernel_rfl) (by kernel_rfl) (fun d a=>(by kernel_rfl)) (tp 27<|tp 28<|tp 29<|tp 30<|tp 31<|tp 32<|ta 33 (B true) ?_);cases n;exact ta 34 (B true)<|ta 35 (B true)<|dn (nrm<|jn A ⟨y,rfl⟩)
      have u:=orF j S;refine bn u fun e l0 u=>AC.takeb 26 j rfl (by kernel_rfl) (by kernel_rfl) (fun d a=>(by kernel_rfl)) (ta 27 (Qo o (0+1))<|tx 28 (fun d a=>l1 u_3 ((mm p) 1 _ rfl))<|ta 29 (I q)<|o1 30 (gc 30 (lh y q l0) ?_));rintro v46 R f1 ⟨g0,rfl⟩;have s0:Kp G0 [] R:=Kp.nil0;refine ⟨.inr s0,ta 31 (I (w64 (e-1))) (ta 32 (B (b.Col==(w64 (e-1)))) ?_)⟩;cases u;refine ta 33 (B (b.Col==(w64 (e-1)))) ?_;cases n;exact ta 34 (B (b.Col==(w64 (e-1))))<|ta 35 (B (b.Col==(w64 (e-1))))<|dn (nrm<|jn R ⟨g0,rfl⟩)
     obtain rfl:=anF i D;exact AC.takeb 22 i rfl (by kernel_rfl) (by kernel_rfl) (fun d a=>(by kernel_rfl)) (tp 23<|tp 24<|tp 25<|tp 26<|tp 27<|tp 28<|tp 29<|tp 30<|tp 31<|tp 32<|tp 33<|ta 34 (B false)<|ta 35 (B false)<|dn (nrm<|jn A ⟨y,rfl⟩))
    obtain rfl:=anF h E;refine AC.takeb 15 h rfl (by kernel_rfl) (by kernel_rfl) (fun d a=>(by kernel_rfl)) (tp 16<|tp 17<|tp 18<|tp 19<|tp 20<|ta 21 (B false) ?_);have T:false=false:=rfl;obtain rfl:=anF T D;exact AC.takeb 22 T rfl (by kernel_rfl) (by kernel_rfl) (fun d a=>(by kernel_rfl)) (tp 23<|tp 24<|tp 25<|tp 26<|tp 27<|tp 28<|tp 29<|tp 30<|tp 31<|tp 32<|tp 33<|ta 34 (B false)<|ta 35 (B false)<|dn (nrm<|jn z ⟨x,rfl⟩))
   obtain rfl:=anF g h7;refine AC.takeb 10 g rfl (by kernel_rfl) (by kernel_rfl) (fun d a=>(by kernel_rfl)) (tp 11<|tp 12<|tp 13<|ta 14 (B false) ?_);have U:false=false:=rfl;obtain rfl:=anF U E;refine AC.takeb 15 U rfl (by kernel_rfl) (by kernel_rfl) (fun d a=>(by kernel_rfl)) (tp 16<|tp 17<|tp 18<|tp 19<|tp 20<|ta 21 (B false) ?_);have X:false=false:=rfl;obtain rfl:=anF X D;exact AC.takeb 22 X rfl (by kernel_rfl) (by kernel_rfl) (fun d a=>(by kernel_rfl)) (tp 23<|tp 24<|tp 25<|tp 26<|tp 27<|tp 28<|tp 29<|tp 30<|tp 31<|tp 32<|tp 33<|ta 34 (B false)<|ta 35 (B false)<|dn (nrm<|jn z ⟨x,rfl⟩))
  obtain rfl:=anF f h6;refine AC.takeb 3 f rfl (by kernel_rfl) (by kernel_rfl) (fun d a=>(by kernel_rfl)) (tp 4<|tp 5<|tp 6<|tp 7<|tp 8<|ta 9 (B false) ?_);have Z:false=false:=rfl;obtain rfl:=anF Z h7;refine AC.takeb 10 Z rfl (by kernel_rfl) (by kernel_rfl) (fun d a=>(by kernel_rfl)) (tp 11<|tp 12<|tp 13<|ta 14 (B false) ?_);have a0:false=false:=rfl;obtain rfl:=anF a0 E;refine AC.takeb 15 a0 rfl (by kernel_rfl) (by kernel_rfl) (fun d a=>(by kernel_rfl)) (tp 16<|tp 17<|tp 18<|tp 19<|tp 20<|ta 21 (B false) ?_);have b0:false=false:=rfl;obtain rfl:=anF b0 D;exact AC.takeb 22 b0 rfl (by kernel_rfl) (by kernel_rfl) (fun d a=>(by kernel_rfl)) (tp 23<|tp 24<|tp 25<|tp 26<|tp 27<|tp 28<|tp 29<|tp 30<|tp 31<|tp 32<|tp 33<|ta 34 (B false)<|ta 35 (B false)<|dn (nrm<|jn P ⟨N,rfl⟩))
 rintro e_ w_ ⟨i0,a1,_,rfl,g1,rfl,h0,rfl⟩;refine nrm<|W.ret ?_;cases H;exact Rz i0 ⟨h0,rfl⟩
def fG (p0:aH):Option Bool:=
 (orE (p0.High != (p0.Lines.length:Int)) (some (decide (p0.High<1)))).bind fun c=>
 (orE c (some (decide (p0.High>1024)))).bind fun d=>
 (orE d (some (decide (p0.Wide<1)))).bind fun e=>
 (orE e (some (decide (p0.Wide>1024)))).bind fun f=>
 (orE f ((fH p0.At p0.Wide p0.High).bind fun i=>
 some (!i))).bind fun g=>
 if g then
 some false
 else
 (cm (σ:=Int) (τ:=Bool ⊕ Unit) (((p0.Lines.length:Int)-0).toNat+1) (fun b=>
 if decide (b<(p0.Lines.length:Int)) then
 (idx p0.Lines b).bind fun j=>
 (orE ((j.Cells.length:Int) != p0.Wide) ((idx p0.Lines b).bind fun k=>
 (fI k.Cells).bind fun l=>
 some (!l))).bind fun h=>
 if h then
 some (.inr (.inl false))
 else
 some (.inl ((w64 (b+1))))
 else
 some (.inr (.inr ()))) 0).bind fun a=>
 match a with
 | .inl a=>
 some a
 | .inr a=>
 some true
theorem rh (O0:Own c0 G F) (a:aH){r:Bool}(z:Sl aN c0 v1 a.Lines) (H:fG a=some r): RU 20 #[.agg #[I a.Wide,I a.High,v1,I a.At.Row,I a.At.Col,B a.At.Pending,B a.Auto]] c0 fun c v=>Own c G F/\v=B r:=by
 unfold fG at H;refine en func20 rfl rfl<|sr ?_;obtain ⟨R,S,T,rfl⟩:=(z).form;refine me (bx 31 [I a.Wide,I a.High,.slice R S T,I a.At.Row,I a.At.Col,B a.At.Pending,B a.Auto] O0) ?_;rintro v10 M l9 ⟨d,rfl,E,g⟩;refine Ri false<|Rx<|W.seq<|bn H fun w2 m0 H=>bn H fun x2 U H=>bn H fun y2 D H=>bn H fun z2 o H=>bn H fun i1 h H=>W.join (Jn M fun c l=>Own c G F/\l= [(1,Q d),(39,B i1)]) ?_ ?_
 ·clear H;refine W.region<|Rs d (0+1)<|vx (l1 u_3 (g 1 _ rfl))<|Rs d (0+2)<|vx (l1 gb (g 2 _ rfl))<|vx (ln 3 gb z.m)<|Ri (a.High != (a.Lines.length:Int)) ?_;rcases bo (a.High != (a.Lines.length:Int)) with p|p
  ·obtain rfl:=orT p m0;refine vb p<|pz<|ps<|Ri true ?_;have o0:true=true:=rfl;obtain rfl:=orT o0 U;refine vb o0<|pz<|ps<|Ri true ?_;have q0:true=true:=rfl;obtain rfl:=orT q0 D;refine vb q0<|pz<|ps<|Ri true ?_;have s0:true=true:=rfl;obtain rfl:=orT s0 o;refine vb s0<|pz<|ps<|Ri true ?_;have t0:true=true:=rfl;obtain rfl:=orT t0 h;exact vb t0<|pz<|pz<|pz<|pz<|Ri true<|Ry M ⟨E,rfl⟩
  have n1:=orF p m0;refine vb p<|wa (Qo d (0+1))<|wn<|vx (l1 u_3 (g 1 _ rfl))<|Rm (a.High<1) ?_;cases n1;refine Rj (a.High<1) ?_;rcases bo (decide (a.High<1)) with q|q
  ·obtain rfl:=orT q U;refine vb q<|pz<|ps<|Ri true ?_;have u0:true=true:=rfl;obtain rfl:=orT u0 D;refine vb u0<|pz<|ps<|Ri true ?_;have v0:true=true:=rfl;obtain rfl:=orT v0 o;refine vb v0<|pz<|ps<|Ri true ?_;have w0:true=true:=rfl;obtain rfl:=orT w0 h;exact vb w0<|pz<|pz<|pz<|pz<|Ri true<|Ry M ⟨E,rfl⟩
  have p1:=orF q U;refine vb q<|wa (Qo d (0+1))<|wn<|vx (l1 u_3 (g 1 _ rfl))<|Rm (a.High>1024) ?_;cases p1;refine Rj (a.High>1024) ?_;rcases bo (decide (a.High>1024)) with s|s
  ·obtain rfl:=orT s D;refine vb s<|pz<|ps<|Ri true ?_;have x0:true=true:=rfl;obtain rfl:=orT x0 o;refine vb x0<|pz<|ps<|Ri true ?_;have y0:true=true:=rfl;obtain rfl:=orT y0 h;exact vb y0<|pz<|pz<|pz<|pz<|Ri true<|Ry M ⟨E,rfl⟩
  have q1:=orF s D;refine vb s<|wa (Q d)<|wn<|vx (l1 u_3 (g 0 _ rfl))<|Rm (a.Wide<1) ?_;cases q1;refine Rj (a.Wide<1) ?_;rcases bo (decide (a.Wide<1)) with u|u
  ·obtain rfl:=orT u o;refine vb u<|pz<|ps<|Ri true ?_;have z0:true=true:=rfl;obtain rfl:=orT z0 h;exact vb z0<|pz<|pz<|pz<|pz<|Ri true<|Ry M ⟨E,rfl⟩
  have s1:=orF u o;refine vb u<|wa (Q d)<|wn<|vx (l1 u_3 (g 0 _ rfl))<|Rm (a.Wide>1024) ?_;cases s1;refine Rj (a.Wide>1024) ?_;rcases bo (decide (a.Wide>1024)) with x|x
  ·obtain rfl:=orT x h;exact vb x<|pz<|pz<|pz<|pz<|Ri true<|Ry M ⟨E,rfl⟩
  have N:=orF x h;refine vb x<|wa (Qo d (0+3))<|wn<|vx (lN 29 (Bw (k:=3) (l:=[I a.At.Row,I a.At.Col,B a.At.Pending]) g rfl))<|wa (Q d)<|wn<|vx (l1 u_3 (g 0 _ rfl))<|wa (Qo d (0+1))<|wn<|vx (l1 u_3 (g 1 _ rfl))<|wn<|bn N fun X d2 N=>cl (rk E a.At a.Wide a.High d2) ?_;rintro v42 x1 i3 ⟨t1,rfl⟩;refine Rn (!X) ?_;cases N;exact Ri (!X)<|Ry x1 ⟨t1,rfl⟩
 rintro e_ w_ ⟨n,d3,_,rfl,e1,rfl,e0,rfl⟩;refine nrm<|cn H (fun e2 H=>?_) (fun e2 H=>?_)
 ·refine Ru false<|RD<|thr ?_;cases H;exact Rz n ⟨e0,rfl⟩
 refine RG<|W.seq<|RA 0<|wln<|W.block<|bn H fun A a1 P=>lp a1 (fun b=>Jn n fun c l=>Own c G F/\l= [(1,Q d),(3,I b)]) (fun t=>match t with|.inl x_=>(fun s2 ex e w=>ex= .ret/\(Jn n fun c l=>Own c G F/\l= [(2,B s2)]) e w) x_|.inr x_=>(fun u2 ex e w=>ex= .exit 0/\(Jn n fun c l=>Own c G F/\l= []) e w) x_) ?_ ?_ ?_
 ·clear P a1;intro b s3 b2 t2 H;revert b2 t2;rintro e_ w_ ⟨i0,e3,_,rfl,f1,rfl,f0,rfl⟩;refine W.seq<|RA b<|Rs d (0+2)<|vx (l1 gb ((mm g) 2 _ rfl))<|vx (ln 3 gb z.m)<|Rj (b<(a.Lines.length:Int))<|RF H (fun f2 H=>?_) (fun f2 H=>?_)
  ·refine RG<|RM<|W.seq<|bn H fun Z b1 H=>bn H fun j1 c1 H=>W.join (Jn i0 fun c l=>Own c G F/\l= [(1,Q d),(3,I b),(66,B j1)]) ?_ ?_
   ·clear H;refine rD [] (Kp G0 []) f0 ?_;intro j0 g1 g0;have n3:Kp G0 [] j0:=Kp.nil0;refine ta 0 (.pointer (some ⟨d,0+2,none⟩))<|tx 1 (fun i f=>l1 gb ((mm g) 2 _ rfl))<|ta 2 (I b) ?_;obtain ⟨b3,g2,o2⟩:=Sl.at (z.mono (l9.trans (e1.trans (f1.trans g1)))) (aP b1);obtain ⟨o3,rfl,i2⟩:=g2;refine tx 3 (fun i f=>ix gb z.m b1)<|ta 4 (Qo (sb (.slice R S T)) (so (.slice R S T)+b.toNat*2))<|tx 5 (fun i f=>l1 cw ((mm o2) 0 _ rfl))<|tx 6 (fun i f=>ln 3 cw i2)<|ta 7 (Q d)<|tx 8 (fun i f=>l1 u_3 ((mm g) 0 _ rfl))<|ta 9 (B ((Z.Cells.length:Int) != a.Wide)) ?_;rcases bo ((Z.Cells.length:Int) != a.Wide) with y|y
    ·obtain rfl:=orT y c1;exact AC.takeb 10 y rfl (by kernel_rfl) (by kernel_rfl) (fun i f=>(by kernel_rfl)) (tp 11<|tp 12<|tp 13<|tp 14<|tp 15<|tp 16<|tp 17<|tp 18<|ta 19 (B true)<|dn (nrm<|jn j0 ⟨g0,rfl⟩))
    have j:=orF y c1;refine bn j fun m1 d1 j=>bn j fun a0 j2 j=>AC.takeb 10 y rfl (by kernel_rfl) (by kernel_rfl) (fun i f=>(by kernel_rfl)) (ta 11 (Qo d (0+2))<|tx 12 (fun i f=>l1 gb ((mm g) 2 _ rfl))<|ta 13 (I b) ?_);obtain ⟨c3,k2,p2⟩:=Sl.at (z.mono (l9.trans (e1.trans (f1.trans g1)))) (aP d1);obtain ⟨p3,rfl,l2⟩:=k2;refine tx 14 (fun i f=>ix gb z.m d1)<|ta 15 (Qo (sb (.slice R S T)) (so (.slice R S T)+b.toNat*2))<|tx 16 (fun i f=>l1 cw ((mm p2) 0 _ rfl))<|o1 17 (gc 17 (rm g0 m1.Cells l2 j2) ?_);rintro q3 k0 j3 ⟨u1,rfl⟩;have q2:Kp G0 [] k0:=Kp.nil0;refine ⟨.inr q2,ta 18 (B (!a0)) ?_⟩;cases j;exact ta 19 (B (!a0))<|dn (nrm<|jn k0 ⟨u1,rfl⟩)
   rintro e_ w_ ⟨l0,f3,_,rfl,k3,rfl,h0,rfl⟩;refine nrm<|cn H (fun m2 H=>?_) (fun m2 H=>?_)
   ·refine Ru false<|RD<|RK ?_;cases H;exact ⟨_,rfl,⟨rfl,jn l0 ⟨h0,rfl⟩⟩⟩
   refine W.skip<|RH<|RC b<|Rq (b+1)<|WL.nil ?_;cases H;exact ⟨_,rfl,jn l0 ⟨h0,rfl⟩⟩
  refine W.exit<|thx ?_;cases H;exact ⟨_,rfl,rfl,jn i0 ⟨f0,rfl⟩⟩
 ·exact jn n ⟨e0,rfl⟩
 rcases A with A|A
 ·intro c2; revert c2;rintro _ e_ w_ ⟨rfl,y1,g3,_,rfl,l3,rfl,w1,rfl⟩;refine RK ?_;cases P;exact Rz y1 ⟨w1,rfl⟩
 rintro _ e_ w_ ⟨rfl,z1,h3,_,rfl,m3,rfl,h1,rfl⟩;refine RJ<|Ru true<|RD ?_;cases P;exact Rz z1 ⟨h1,rfl⟩
def eC (p0:aa):Option Bool:=
 (orE (p0.Kind==0) (some (p0.Kind==3))).bind fun l=>
 (orE l ((bw (p0.Kind==1) (some ((p0.Text.length:Int)==1))).bind fun d=>
 (bw d ((idx p0.Text 0).bind fun g=>
 some (g==65533))).bind fun e=>
 some e)).bind fun c=>
 if c then
 some true
 else
 (cm (σ:=Int) (τ:=Bool ⊕ Unit) (((p0.Text.length:Int)-0).toNat+1) (fun b=>
 if decide (b<(p0.Text.length:Int)) then
 (idx p0.Text b).bind fun h=>
 (eq h).bind fun i=>
 if i then
 some (.inr (.inl false))
 else
 some (.inl ((w64 (b+1))))
 else
 some (.inr (.inr ()))) 0).bind fun a=>
 match a with
 | .inl a=>
 some a
 | .inr a=>
 (eG p0.Text).bind fun j=>
 (bw ((j.length:Int)==1) ((ij p0.Text).bind fun k=>
 some (k==p0.Kind))).bind fun f=>
 some f
theorem rf (O0:Own c0 G F) (a:aa){r:Bool}(i:Sl (RI .i32) c0 v1 a.Text) (H:eC a=some r): RU 21 #[.agg #[I a.Kind,v1]] c0 fun c v=>Own c G F/\v=B r:=by
 unfold eC at H;refine en func21 rfl rfl<|sr ?_;obtain ⟨a3,a4,a5,rfl⟩:=(i).form;refine me (bx 61 [I a.Kind,.slice a3 a4 a5] O0) ?_;rintro v10 A l9 ⟨f,rfl,M,h⟩;refine Ri false<|Rx<|W.seq<|bn H fun y2 h0 H=>bn H fun w0 P H=>W.join (Jn A fun c l=>Own c G F/\l= [(1,Q f),(29,B w0)]) ?_ ?_
 ·clear H;refine Rv (Q f)<|vx (l1 u_3 (h 0 _ rfl))<|Ri (a.Kind==0) ?_;rcases bo (a.Kind==0) with n|n
  ·obtain rfl:=orT n h0;refine vb n<|pz<|ps<|Ri true ?_;have i0:true=true:=rfl;obtain rfl:=orT i0 P;exact vb i0<|pz<|pz<|pz<|pz<|pz<|pz<|pz<|pz<|Ri true<|Ry A ⟨M,rfl⟩
  have b1:=orF n h0;refine vb n<|wa (Q f)<|wn<|vx (l1 u_3 (h 0 _ rfl))<|Rn (a.Kind==3) ?_;cases b1;refine Ri (a.Kind==3) ?_;rcases bo (a.Kind==3) with o|o
  ·obtain rfl:=orT o P;exact vb o<|pz<|pz<|pz<|pz<|pz<|pz<|pz<|pz<|Ri true<|Ry A ⟨M,rfl⟩
  have d:=orF o P;refine vb o<|wa (Q f)<|wn<|vx (l1 u_3 (h 0 _ rfl))<|Rn (a.Kind==1)<|wn<|bn d fun t2 j0 d=>?_;rcases bo (a.Kind==1) with p|p
  ·have c1:=anT p j0;refine vb p<|wa (Qo f (0+1))<|wn<|vx (l1 cD (h 1 _ rfl))<|wn<|vx (ln 3 cD i.m)<|Rn ((a.Text.length:Int)==1)<|wn ?_;cases c1;refine Ri ((a.Text.length:Int)==1)<|wn<|bn d fun x0 k0 d=>?_;rcases bo ((a.Text.length:Int)==1) with q|q
   ·have D:=anT q k0;refine vb q<|wa (Qo f (0+1))<|wn<|vx (l1 cD (h 1 _ rfl))<|wn<|bn D fun y l0 D=>?_;obtain ⟨v2,s1,g2⟩:=Sl.at (i.mono l9) (aP l0);obtain rfl:=s1;refine vx (ix cD i.m l0)<|wn<|vx (l1 nB (g2 0 _ rfl))<|Rn (y==65533)<|wn ?_;cases D;refine Ri (y==65533) ?_;cases d;exact Ri (y==65533)<|Ry A ⟨M,rfl⟩
   obtain rfl:=anF q k0;refine vb q<|pz<|pz<|ps<|Rn false ?_;cases d;exact Ri false<|Ry A ⟨M,rfl⟩
  obtain rfl:=anF p j0;refine vb p<|pz<|pz<|Rn false<|wn<|bn d fun x0 t1 d=>?_;have m0:false=false:=rfl;obtain rfl:=anF m0 t1;refine vb m0<|pz<|pz<|ps<|Rn false ?_;cases d;exact Ri false<|Ry A ⟨M,rfl⟩
 rintro U X ⟨k,z2,_,rfl,d2,rfl,Z,rfl⟩;refine nrm<|cn H (fun u1 H=>?_) (fun u1 H=>?_)
 ·refine Ru true<|RD<|thr ?_;cases H;exact Rz k ⟨Z,rfl⟩
 refine RG<|W.seq<|RA 0<|wln<|W.block<|bn H fun x o0 g=>lp o0 (fun b=>Jn k fun c l=>Own c G F/\l= [(1,Q f),(3,I b)]) (fun t=>match t with|.inl x_=>(fun l2 ex e w=>ex= .ret/\(Jn k fun c l=>Own c G F/\l= [(2,B l2)]) e w) x_|.inr x_=>(fun n2 ex e w=>ex= .exit 0/\(Jn k fun c l=>Own c G F/\l= [(1,Q f)]) e w) x_) ?_ ?_ ?_
 ·clear g o0;intro b o3 p1 m2 H;revert p1 m2;rintro U X ⟨i1,b3,_,rfl,e2,rfl,a0,rfl⟩;refine W.seq<|RA b<|Rs f (0+1)<|vx (l1 cD ((mm h) 1 _ rfl))<|vx (ln 3 cD i.m)<|Rj (b<(a.Text.length:Int))<|RF H (fun w1 H=>?_) (fun w1 H=>?_)
  ·refine RG<|RM<|sr<|Rs f (0+1)<|vx (l1 cD ((mm h) 1 _ rfl))<|Ro b<|bn H fun a1 q0 H=>?_;obtain ⟨w2,x1,i2⟩:=Sl.at (i.mono (l9.trans (d2.trans e2))) (aP q0);obtain rfl:=x1;refine vx (ix cD i.m q0)<|vx (l1 nB (i2 0 _ rfl))<|bn H fun x2 y1 H=>cl (qP a0 a1 y1) ?_;rintro v56 e0 f3 ⟨b0,rfl⟩;refine RF H (fun z1 H=>?_) (fun z1 H=>?_)
   ·refine Ru false<|RD<|RK ?_;cases H;exact ⟨_,rfl,⟨rfl,jn e0 ⟨b0,rfl⟩⟩⟩
   refine W.skip<|RH<|RC b<|Rq (b+1)<|WL.nil ?_;cases H;exact ⟨_,rfl,jn e0 ⟨b0,rfl⟩⟩
  refine W.exit<|thx ?_;cases H;exact ⟨_,rfl,rfl,jn i1 ⟨a0,rfl⟩⟩
 ·exact jn k ⟨Z,rfl⟩
 rcases x with x|x
 ·intro q1; revert q1;rintro _ U X ⟨rfl,j1,c3,_,rfl,g3,rfl,d1,rfl⟩;refine RK ?_;cases g;exact Rz j1 ⟨d1,rfl⟩
 rintro _ U X ⟨rfl,k1,d3,_,rfl,h3,rfl,e1,rfl⟩;refine RJ<|W.seq<|bn g fun j b2 g=>bn g fun y0 s0 g=>W.join (Jn k1 fun c l=>∃T S,Own c G (es true (RL (RI .i32)) T 59 S j::F)/\l= [(2,B y0)]/\OA (RL (RI .i32)) c T S j) ?_ ?_
 ·clear g;refine rD [] (Kp G0 []) e1 ?_;intro m1 i3 f1;have m3:Kp G0 [] m1:=Kp.nil0;refine ta 0 (.pointer (some ⟨f,0+1,none⟩))<|tx 1 (fun N u=>l1 cD ((mm h) 1 _ rfl))<|o1 2 (gc 2 (pP f1 a.Text i.m b2) ?_);rintro u0 f0 j3 ⟨_,t0,d0,rfl,R⟩;have j2:Kp G0 [] f0:=Kp.nil0;refine ⟨.inr j2,tx 3 (fun N u=>lnO 3 underlying105 R) (ta 4 (B ((j.length:Int)==1)) ?_)⟩;rcases bo ((j.length:Int)==1) with s|s
  ·have E:=anT s s0;refine bn E fun z c2 E=>AC.takeb 5 s rfl (by kernel_rfl) (by kernel_rfl) (fun N u=>(by kernel_rfl)) (ta 6 (Qo f (0+1))<|tx 7 (fun N u=>l1 cD ((mm h) 1 _ rfl))<|ta 9 (Q f)<|tx 10 (fun N u=>l1 u_3 ((mm h) 0 _ rfl))<|o1 8 (gc 8 (uw d0 a.Text i.m c2) ?_));rintro n3 g0 k3 ⟨g1,rfl⟩;have k2:Kp G0 [] g0:=Kp.nil0;refine ⟨.inr k2,ta 11 (B (z==a.Kind)) ?_⟩;cases E;exact ta 12 (B (z==a.Kind))<|ta 13 (B (z==a.Kind))<|dn (nrm<|jn g0 ⟨u0,t0,g1,rfl,R.m⟩)
  obtain rfl:=anF s s0;exact AC.takeb 5 s rfl (by kernel_rfl) (by kernel_rfl) (fun N u=>(by kernel_rfl)) (tp 6<|tp 7<|tp 9<|tp 10<|tp 8<|tp 11<|ta 12 (B false)<|ta 13 (B false)<|dn (nrm<|jn f0 ⟨u0,t0,d0,rfl,R⟩))
 rintro U X ⟨n1,e3,_,rfl,l3,rfl,T,S,h1,rfl,u2⟩;refine nrm<|W.ret ?_;cases g;have v0:=h1.sD 1 [];exact Rz n1 ⟨v0,rfl⟩
def fB (p0:aH):Option Bool:=
 (fG p0).bind fun j=>
 if (!j)=true then
 some false
 else
 (cm (σ:=Int) (τ:=Bool ⊕ Unit) (((p0.Lines.length:Int)-0).toNat+1) (fun a=>
 if decide (a<(p0.Lines.length:Int)) then
 (idx p0.Lines a).bind fun e=>
 (cm (σ:=Int) (τ:=Bool ⊕ Unit) (((e.Cells.length:Int)-0).toNat+1) (fun d=>
 (idx p0.Lines a).bind fun f=>
 if decide (d<(f.Cells.length:Int)) then
 (idx p0.Lines a).bind fun g=>
 (idx g.Cells d).bind fun h=>
 (eC h).bind fun i=>
 if (!i)=true then
 some (.inr (.inl false))
 else
 some (.inl ((w64 (d+1))))
 else
 some (.inr (.inr ()))) 0).bind fun c=>
 match c with
 | .inl c=>
 some (.inr (.inl c))
 | .inr c=>
 some (.inl ((w64 (a+1))))
 else
 some (.inr (.inr ()))) 0).bind fun b=>
 match b with
 | .inl b=>
 some b
 | .inr b=>
 some true
theorem oI (O0:Own c0 G F) (d:aH){r:Bool}(h:Sl aN c0 v1 d.Lines) (H:fB d=some r): RU 9 #[.agg #[I d.Wide,I d.High,v1,I d.At.Row,I d.At.Col,B d.At.Pending,B d.Auto]] c0 fun c v=>Own c G F/\v=B r:=by
 unfold fB at H;refine en func9 rfl rfl<|sr ?_;obtain ⟨q,s,u,rfl⟩:=(h).form;refine me (bx 31 [I d.Wide,I d.High,.slice q s u,I d.At.Row,I d.At.Col,B d.At.Pending,B d.Auto] O0) ?_;rintro v10 c9 l9 ⟨n,rfl,O7,M⟩;refine Ri false<|Rx<|sr<|vx (lN 31 M)<|bn H fun k1 v0 H=>cl (rh O7 d h.m v0) ?_;rintro v17 f l16 ⟨N,rfl⟩;refine Ri (!k1)<|RF H (fun w0 H=>?_) (fun w0 H=>?_)
 ·refine Ru false<|RD<|thr ?_;cases H;exact Rz f ⟨N,rfl⟩
 refine RG<|W.seq<|RA 0<|wln<|W.block<|bn H fun i U o=>lp U (fun a=>Jn f fun c l=>Own c G F/\l= [(1,Q n),(3,I a)]) (fun t=>match t with|.inl k=>(fun A ex e w=>ex= .ret/\(Jn f fun c l=>Own c G F/\l= [(2,B A)]) e w) k|.inr k=>(fun p1 ex e w=>ex= .exit 0/\(Jn f fun c l=>Own c G F/\l= []) e w) k) ?_ ?_ ?_
 ·clear o U;intro a m1 y E H;revert y E;rintro x D ⟨g,z1,_,rfl,e0,rfl,P,rfl⟩;refine W.seq<|RA a<|Rs n (0+2)<|vx (l1 gb ((mm M) 2 _ rfl))<|vx (ln 3 gb h.m)<|Rj (a<(d.Lines.length:Int))<|RF H (fun x0 H=>?_) (fun x0 H=>?_)
  ·refine RG<|RM<|RA 0<|wln<|W.block<|bn H fun n1 _ H=>bn H fun j X p=>lp X (fun b=>Jn g fun c l=>Own c G F/\l= [(1,Q n),(3,I a),(4,I b)]) (fun t=>match t with|.inl k=>(fun A ex e w=>ex= .ret/\(Jn g fun c l=>Own c G F/\l= [(2,B A)]) e w) k|.inr k=>(fun q1 ex e w=>ex= .exit 2/\(Jn g fun c l=>Own c G F/\l= [(1,Q n),(3,I a)]) e w) k) ?_ ?_ ?_
   ·clear p X;intro b m1 y E H;revert y E;rintro x D ⟨o0,b2,_,rfl,f0,rfl,R,rfl⟩;refine W.seq<|RA b<|Rs n (0+2)<|vx (l1 gb ((mm M) 2 _ rfl))<|Ro a<|bn H fun g0 Z H=>?_;obtain ⟨u1,y0,h1⟩:=Sl.at (h.mono (l9.trans (l16.trans (e0.trans f0)))) (aP Z);obtain ⟨v40,rfl,z0⟩:=y0;refine vx (ix gb h.m Z)<|Rs (sb (.slice q s u)) (so (.slice q s u)+a.toNat*2)<|vx (l1 cw (h1 0 _ rfl))<|vx (ln 3 cw z0)<|Rj (b<(g0.Cells.length:Int))<|RF H (fun a1 H=>?_) (fun a1 H=>?_)
    ·refine RG<|RM<|sr<|Rs n (0+2)<|vx (l1 gb ((mm M) 2 _ rfl))<|Ro a<|bn H fun y1 a0 H=>?_;obtain ⟨w1,b1,i1⟩:=Sl.at (h.mono (l9.trans (l16.trans (e0.trans f0)))) (aP a0);obtain ⟨v47,rfl,b0⟩:=b1;refine vx (ix gb h.m a0)<|Rs (sb (.slice q s u)) (so (.slice q s u)+a.toNat*2)<|vx (l1 cw (i1 0 _ rfl))<|Ro b<|bn H fun h0 d0 H=>?_;obtain ⟨x1,c1,j1⟩:=Sl.at b0 (aP d0);obtain ⟨v53,rfl,d1⟩:=c1;refine vx (ix cw b0 d0)<|vx (lN 61 j1)<|bn H fun i0 e1 H=>cl (rf R h0 d1 e1) ?_;rintro m2 T g2 ⟨S,rfl⟩;refine Ri (!i0)<|RF H (fun f1 H=>?_) (fun f1 H=>?_)
     ·refine Ru false<|RD<|RK ?_;cases H;exact ⟨_,rfl,⟨rfl,jn T ⟨S,rfl⟩⟩⟩
     refine W.skip<|RH<|RC b<|Rq (b+1)<|WL.nil ?_;cases H;exact ⟨_,rfl,jn T ⟨S,rfl⟩⟩
    refine W.exit<|thx ?_;cases H;exact ⟨_,rfl,rfl,jn o0 ⟨R,rfl⟩⟩
   ·exact jn g ⟨P,rfl⟩
   rcases j with j|j
   ·intro z; revert z;rintro _ x D ⟨rfl,q0,c2,_,rfl,i2,rfl,j0,rfl⟩;refine bkr<|RK ?_;cases p;exact ⟨_,rfl,⟨rfl,jn q0 ⟨j0,rfl⟩⟩⟩
   rintro _ x D ⟨rfl,s0,d2,_,rfl,j2,rfl,k0,rfl⟩;refine bke<|RH<|RC a<|Rq (a+1)<|WL.nil ?_;cases p;exact ⟨_,rfl,jn s0 ⟨k0,rfl⟩⟩
  refine W.exit<|thx ?_;cases H;exact ⟨_,rfl,rfl,jn g ⟨P,rfl⟩⟩
 ·exact jn f ⟨N,rfl⟩
 rcases i with i|i
 ·intro z; revert z;rintro _ x D ⟨rfl,t0,e2,_,rfl,k2,rfl,l0,rfl⟩;refine RK ?_;cases o;exact Rz t0 ⟨l0,rfl⟩
 rintro _ x D ⟨rfl,u0,f2,_,rfl,l2,rfl,m0,rfl⟩;refine RJ<|Ru true<|RD ?_;cases o;exact Rz u0 ⟨m0,rfl⟩
def gi (p0:aH):Option aH:=
 (cm (σ:=(List ah)×Int) (τ:=(List ah)) (((p0.Lines.length:Int)-0).toNat+1) (fun a=>
 if decide (a.2<(p0.Lines.length:Int)) then
 (idx p0.Lines a.2).bind fun b=>
 (app a.1 ([(⟨b.Cells,false⟩:ah)]:List ah)).bind fun c=>
 some (.inl (c,(w64 (a.2+1))))
 else
 some (.inr a.1)) (([]:List ah),0)).bind fun d=>
 some (⟨p0.Wide,p0.High,d,(⟨p0.At.Row,p0.At.Col,false⟩:ai),p0.Auto⟩:aH)
theorem sN (O0:Own c0 G F) (a:aH){r:aH}(A:Sl aN c0 v1 a.Lines) (H:gi a=some r): RU 14 #[.agg #[I a.Wide,I a.High,v1,I a.At.Row,I a.At.Col,B a.At.Pending,B a.Auto]] c0 fun c v=>∃X y2,Own c G (es true aN X 56 y2 r.Lines::F)/\v= .agg #[I r.Wide,I r.High,X,I r.At.Row,I r.At.Col,B r.At.Pending,B r.Auto]/\OA aN c X y2 r.Lines:=by
 unfold gi at H;refine en func14 rfl rfl<|sr ?_;obtain ⟨q,x,y,rfl⟩:=(A).form;refine me (al 31 [I a.Wide,I a.High,.slice q x y,I a.At.Row,I a.At.Col,B a.At.Pending,B a.Auto] O0) ?_;rintro v9 c8 l8 ⟨h,rfl,O7⟩;refine me (al 31 [I 0,I 0,Y,I 0,I 0,B false,B false] O7) ?_;rintro v13 k x0 ⟨j,rfl,Z⟩;refine wln<|RB Y<|Rx<|RA 0<|wln<|W.block<|bn H fun e2 P D=>lp P (fun b=>Jn k fun c l=>∃v16 o,Own c G (es true aN v16 56 o b.1::(Eb j 31 [I 0,I 0,Y,I 0,I 0,B false,B false])::(Eb h 31 [I a.Wide,I a.High,.slice q x y,I a.At.Row,I a.At.Col,B a.At.Pending,B a.Auto])::F)/\l= [(1,Q h),(2,Q j),(3,v16),(4,I b.2)]/\OA aN c v16 o b.1) (fun z ex e w=>ex= .exit 0/\(Jn k fun c l=>∃v18 p,Own c G (es true aN v18 56 p z::(Eb j 31 [I 0,I 0,Y,I 0,I 0,B false,B false])::(Eb h 31 [I a.Wide,I a.High,.slice q x y,I a.At.Row,I a.At.Col,B a.At.Pending,B a.Auto])::F)/\l= [(1,Q h),(2,Q j),(3,v18)]/\OA aN c v18 p z) e w) ?_ ?_ ?_
 ·clear D P;intro b g2 l0 b1 H;revert l0 b1;rintro e_ w_ ⟨j0,s1,_,rfl,y0,rfl,v16,o,i,rfl,R⟩;refine W.seq<|RA b.2<|Rs h 2<|vx (le1 2 gb (i.on 2 rfl))<|vx (ln 3 gb A.m)<|Rj (b.2<(a.Lines.length:Int))<|RF H (fun m0 H=>?_) (fun m0 H=>?_)
  ·refine RG<|RM<|Rv v16<|Rs h 2<|vx (le1 2 gb (i.on 2 rfl))<|Ro b.2<|bn H fun U S H=>?_;obtain ⟨h1,o0,z0⟩:=Sl.at (A.mono (l8.trans (x0.trans y0))) (aP S);obtain ⟨v32,rfl,T⟩:=o0;refine vx (ix gb A.m S)<|Rs (sb (.slice q x y)) (so (.slice q x y)+b.2.toNat*2)<|vx (l1 cw (z0 0 _ rfl)) ?_;obtain ⟨s,t,u,rfl⟩:=(T).form;refine va (.agg #[.slice s t u,B false])<|me (sl aN 56 [[.slice s t u,B false]] ([(⟨U.Cells,false⟩:ah)]:List ah) i ⟨⟨(.slice s t u),rfl,T⟩,trivial⟩) ?_;rintro v41 k1 u1 ⟨f2,a0,q0⟩;obtain ⟨m1,t0,w1,b0,s0⟩:=a0.frz 0 rfl q0;refine WL.gh t0 (bn H fun j1 u0 H=>me (ap aN (.agg #[Y,B false]) 32 27 1 b0 R.m s0 u0 gb) ?_);rintro v51 k0 x1 ⟨a1,d0,v0⟩;refine va v51<|WL.nil<|RH<|RC b.2<|Rq (b.2+1)<|WL.nil ?_;cases H;refine ⟨_,rfl,?_⟩;have e0:=d0.sD 4 [1,2,3];exact jn k0 ⟨v51,a1,e0,rfl,v0⟩
  refine W.exit<|thx ?_;cases H;exact ⟨_,rfl,rfl,jn j0 ⟨v16,o,i,rfl,R⟩⟩
 ·have w0:OA aN k Y [] []:=OA.nil (ba _);have f0:=Z.addHole (e:=es true aN Y 56 [] ([]:List ah)) rfl;exact jn k ⟨(Y),[],f0,rfl,w0⟩
 rintro _ e_ w_ ⟨rfl,n1,t1,_,rfl,z1,rfl,v18,p,g0,rfl,n⟩;refine RJ<|RB v18<|Rs h 2 ?_;obtain ⟨d,f,g,rfl⟩:=(n).form;refine md (sC 27 2 (.slice d f g) [I a.Wide,I a.High,.slice d f g,I a.At.Row,I a.At.Col,B a.At.Pending,B a.Auto] 2 g0 ⟨(n).one,trivial⟩) ?_;rintro p1 b2 h0;refine RO<|Rs h 3<|Rs h 5<|md (sC 4 5 (B false) [I a.Wide,I a.High,.slice d f g,I a.At.Row,I a.At.Col,B false,B a.Auto] 2 h0 ⟨rfl,trivial⟩) ?_;rintro q1 c2 E;refine RO<|vx (leN 31 0 [I a.Wide,I a.High,.slice d f g,I a.At.Row,I a.At.Col,B false,B a.Auto] (E.on 2 rfl))<|md (sA 31 [I a.Wide,I a.High,.slice d f g,I a.At.Row,I a.At.Col,B false,B a.Auto] 1 E ⟨rfl,rfl,n.m.one,rfl,rfl,rfl,rfl,trivial⟩) ?_;rintro N d2 M;refine RD ?_;cases D;have i0:=M.sD 3 [0];exact uj (c:=N) (vs:=[I a.Wide,I a.High,.slice d f g,I a.At.Row,I a.At.Col,B false,B a.Auto]) rfl (by kernel_rfl) (by kernel_rfl) (by kernel_rfl) (M.on 1 rfl _ rfl).1 ⟨_,N,rfl,rfl,pt,(.slice d f g),p,i0,rfl,n.m⟩
end Go.Proofs.YtkgjnbiiiifoaaaGreatDoor
namespace Go.Proofs.YtkgjnbiiiifoaaaGreatDoor
open Go Go.Lt
set_option maxRecDepth 10000
set_option linter.unusedVariables false
attribute [local irreducible] W WL AC
open Tryz Go.RowKit
def xM:Go.Shelf.Ren:=⟨fun|0=>0|1=>1|2=>2|99=>158|119=>321|120=>315|129=>231|137=>107|138=>223|143=>224|146=>108|151=>299|152=>314|156=>75|160=>226|165=>122|166=>34|169=>39|171=>36|172=>228|173=>77|174=>227|195=>263|197=>264|205=>319|206=>225|217=>156|218=>265|219=>266|221=>157|224=>296|225=>295|227=>269|228=>298|231=>267|232=>268|233=>270|234=>271|235=>272|236=>273|240=>74|241=>164|243=>76|244=>276|245=>275|246=>123|247=>274|260=>294|266=>221|267=>297|268=>222|271=>300|276=>121|277=>229|279=>302|280=>303|281=>304|282=>305|283=>165|284=>166|285=>167|286=>168|287=>301|314=>313|316=>318|317=>230|318=>232|319=>233|320=>234|321=>316|322=>317|337=>277|338=>278|347=>322|348=>323|349=>324|350=>325|351=>326|352=>327|353=>328|354=>329|355=>330|356=>331|357=>332|358=>333|359=>334|360=>337|361=>338|362=>341|363=>361|364=>358|365=>359|366=>345|367=>381|n=>n,fun|0=>0|1=>1|2=>2|3=>3|4=>4|5=>5|6=>6|7=>7|8=>8|9=>9|10=>10|11=>11|12=>12|13=>13|14=>14|15=>15|16=>16|17=>17|18=>18|19=>19|20=>20|21=>21|22=>227|23=>273|27=>272|28=>97|31=>93|37=>48|39=>209|40=>104|41=>325|43=>218|46=>151|47=>281|48=>251|49=>373|51=>279|52=>313|53=>53|54=>233|55=>177|61=>178|63=>326|64=>345|67=>147|69=>347|70=>86|71=>87|72=>88|73=>202|74=>38|75=>39|76=>89|77=>90|80=>96|81=>74|83=>92|84=>148|85=>274|86=>275|103=>302|104=>180|105=>303|106=>304|108=>350|111=>172|112=>335|113=>226|114=>157|115=>306|116=>307|117=>308|118=>309|119=>339|122=>305|123=>310|124=>311|127=>149|128=>312|131=>230|137=>340|138=>341|139=>342|143=>352|144=>353|145=>354|146=>343|150=>271|151=>344|164=>132|165=>201|166=>276|167=>327|168=>330|169=>331|170=>332|171=>232|172=>234|173=>235|174=>236|175=>328|176=>329|179=>98|209=>348|210=>349|211=>277|212=>278|213=>280|214=>346|222=>185|232=>333|233=>334|238=>355|239=>356|240=>357|241=>358|242=>359|243=>361|244=>140|245=>362|246=>363|247=>364|248=>365|249=>366|n=>n,fun|1=>10|3=>13|4=>14|15=>15|16=>16|17=>9|18=>11|19=>12|n=>n⟩
theorem J3:Lays.n166 Tryz.prog xM:=by
 constructor <;> first|kernel_rfl|(intro w; kernel_rfl)|(constructor <;> first|kernel_rfl|(intro w; kernel_rfl))
def xO:Go.Shelf.Ren:=⟨fun|0=>0|1=>1|2=>2|99=>158|119=>321|120=>315|129=>231|137=>107|138=>223|143=>224|146=>108|151=>299|152=>314|156=>75|160=>226|165=>122|166=>34|169=>39|171=>36|172=>228|173=>77|174=>227|195=>263|197=>264|205=>319|206=>225|217=>156|218=>265|219=>266|221=>157|224=>296|225=>295|227=>269|228=>298|231=>267|232=>268|233=>270|234=>271|235=>272|236=>273|240=>74|241=>164|243=>76|244=>276|245=>275|246=>123|247=>274|260=>294|266=>221|267=>297|268=>222|271=>300|276=>121|277=>229|279=>302|280=>303|281=>304|282=>305|283=>165|284=>166|285=>167|286=>168|287=>301|314=>313|316=>318|317=>230|318=>232|319=>233|320=>234|321=>316|322=>317|337=>277|338=>278|347=>322|348=>323|349=>324|350=>325|351=>326|352=>327|353=>328|354=>329|355=>330|356=>331|357=>332|358=>333|359=>334|360=>337|361=>338|362=>341|363=>361|364=>358|365=>359|366=>345|367=>381|n=>n,fun|0=>0|1=>1|2=>2|3=>3|4=>4|5=>5|6=>6|7=>7|8=>8|9=>9|10=>10|11=>11|12=>12|13=>13|14=>14|15=>15|16=>16|17=>17|18=>18|19=>19|20=>20|21=>21|22=>227|23=>273|27=>272|28=>97|31=>93|37=>48|39=>209|40=>104|41=>325|43=>218|46=>151|47=>281|48=>251|49=>373|51=>279|52=>313|53=>53|54=>233|55=>177|61=>178|63=>326|64=>345|67=>147|69=>347|70=>86|71=>87|72=>88|73=>202|74=>38|75=>39|76=>89|77=>90|80=>96|81=>74|83=>92|84=>148|85=>274|86=>275|103=>302|104=>180|105=>303|106=>304|108=>350|111=>172|112=>335|113=>226|114=>157|115=>306|116=>307|117=>308|118=>309|119=>339|122=>305|123=>310|124=>311|127=>149|128=>312|131=>230|137=>340|138=>341|139=>342|143=>352|144=>353|145=>354|146=>343|150=>271|151=>344|164=>132|165=>201|166=>276|167=>327|168=>330|169=>331|170=>332|171=>232|172=>234|173=>235|174=>236|175=>328|176=>329|179=>98|209=>348|210=>349|211=>277|212=>278|213=>280|214=>346|222=>185|232=>333|233=>334|238=>355|239=>356|240=>357|241=>358|242=>359|243=>361|244=>140|245=>362|246=>363|247=>364|248=>365|249=>366|n=>n,fun|1=>10|3=>13|4=>14|15=>15|16=>16|17=>9|18=>11|19=>12|n=>n⟩
theorem J4:Lays.n169 Tryz.prog xO:=by
 constructor <;> first|kernel_rfl|(intro w; kernel_rfl)|(constructor <;> first|kernel_rfl|(intro w; kernel_rfl))
theorem Gf:Go.Proofs.Builder.Extra Tryz.prog xM:=by
 constructor <;> first|kernel_rfl|(intro w; kernel_rfl)|decide|(constructor <;> kernel_rfl)
theorem Gi:Go.Proofs.Builder.Extra Tryz.prog xO:=by
 constructor <;> first|kernel_rfl|(intro w; kernel_rfl)|decide|(constructor <;> kernel_rfl)
abbrev isB (B:Nat) (bs:List UInt8) (w:World):Prop:=Lib.IsBuilder 88 5 B B (Lib.byteCells bs) w
structure Br (up:Bool) (c1 c:Cx) (G:Gm) (F:List En) (bs:List UInt8):Prop where
 le:c1.le c
 own1:Own c1 G F
 own:Own c G F
 is:isB c1.w.heap.size bs c.w
 A:∀k o,c1.w.heap.size<=k->(c.A k o↔up=true)
 sz:c1.w.heap.size<=c.w.heap.size
theorem xU {B:Nat}{bs:List UInt8}{w w':World}(h:isB B bs w) (hk:∀k,B<=k->k<w.heap.size->w'.heap[k]? = w.heap[k]?):isB B bs w':=by
 have one:∀p,Lib.BuilderAt 88 5 B B p (Lib.byteCells bs) w->Lib.BuilderAt 88 5 B B p (Lib.byteCells bs) w':=fun p ⟨h1,v,h2,h3,h4⟩=>by
  refine ⟨h1,v,(hk B (av _) (Array.getElem?_eq_some_iff.1 h2).1).trans h2,⟨h3.1,h3.2.imp id fun ⟨g,cap,cur,e,hg,hh,r⟩=>⟨g,cap,cur,e,hg,(hk g hg (Array.getElem?_eq_some_iff.1 hh).1).trans hh,r⟩⟩,h4⟩
 exact h.imp (one _) (one _)
theorem uk {c1 c c':Cx}{G:Gm}{F:List En}(O1:Own c1 G F) (O:Own c G F) (hw:∀k,k<c1.w.heap.size->c'.w.heap[k]? = c.w.heap[k]?/\∀o,c'.A k o↔c.A k o) (ht:c'.t=c.t):Own c' G F:=
 ⟨⟨fun i e he=>(O.m.1 i e he).keep fun b hb=>hw b ((O1.m.1 i e he).lt hb),O.m.2⟩,fun g k hk=>by rw [ht]; exact O.t0 g k hk⟩
section
variable {c1 c c':Cx}{G:Gm}{F:List En}{bs:List UInt8}
theorem Br.drew (h:Br true c1 c G F bs):Br true c1 ⟨c.w.drew,c.A,c.t⟩ G F bs:=
 ⟨h.le.trans (Cx.drew_le c).le,h.own1,h.own.keep (Cx.drew_le c),xU h.is fun _ _ _=>rfl,h.A,h.sz⟩
theorem Br.low (h:Br true c1 c G F bs):∃cl:Cx,cl.w=c.w/\Br false c1 cl G F bs:=by
 refine ⟨⟨c.w,fun k o=>k<c1.w.heap.size/\c.A k o,c.t⟩,rfl,?_,h.own1,uk h.own1 h.own (fun k hk=>⟨rfl,fun o=>⟨fun q=>q.2,fun q=>⟨hk,q⟩⟩⟩) rfl,h.is,fun k o hk=>⟨fun q=>by simp only at q; omega,fun q=>by cases q⟩,h.sz⟩;exact h.le.trans ⟨rfl,rfl,av _,fun _ _ _ q=>⟨rfl,fun r=>q r.2⟩,fun _ _ _=>rfl,fun _ _ _=>rfl,fun _ _ _ q=>q⟩
theorem Br.upx (h:Br false c1 c G F bs) (k:c.le c') (O:Own c' G F):∃cr:Cx,cr.w=c'.w/\(∀k o,cr.A k o↔(k<c1.w.heap.size/\c'.A k o)\/c1.w.heap.size<=k)/\cr.t=c'.t/\Br true c1 cr G F bs:=by
 have hle:=h.le.trans k;refine ⟨⟨c'.w,fun k o=>(k<c1.w.heap.size/\c'.A k o)\/c1.w.heap.size<=k,c'.t⟩,rfl,fun _ _=>wB,rfl,⟨hle.os,hle.output,hle.size,fun i o hi hA=>⟨(hle.cell i o hi hA).1,fun q=>?_⟩,hle.block,hle.frz,hle.t⟩,h.own1,
  uk h.own1 O (fun i hi=>⟨rfl,fun o=>⟨fun q=>q.elim (fun q=>q.2) (fun q=>by omega),fun q=> .inl ⟨hi,q⟩⟩⟩) rfl,xU h.is fun i h1 h2=>k.block i h2 fun o q=>(by have:=(h.A i o h1).1 q; cases this),fun i o hi=>⟨fun _=>rfl,fun _=> .inr hi⟩,cO h.sz k.size⟩
 rcases q with q|q
 ·exact (hle.cell i o hi hA).2 q.2
 ·omega
theorem Br.up (h:Br false c1 c G F bs) (k:c.le c') (O:Own c' G F):∃cr:Cx,cr.w=c'.w/\Br true c1 cr G F bs:=by
 obtain ⟨cr,e,_,_,B⟩:=h.upx k O;exact ⟨cr,e,B⟩
theorem Br.below {w':World}(h:Br true c1 c G F bs) (hb:RowKit.Below c.w.heap.size c.w w'):∃c':Cx,c'.w=w'/\c.le c'/\Br true c1 c' G F bs:=by
 have hle:c.le ⟨w',c.A,c.t⟩:=⟨hb.os,hb.output,hb.size,fun k o hk hA=>⟨dw (w:=c.w) (a:=⟨k,o,none⟩) (hb.block k hk),hA⟩,fun k hk _=>hb.block k hk,fun a ha _=>by simp only [World.frozen?,hb.block _ ha],fun _ _ _ q=>q⟩;exact ⟨⟨w',c.A,c.t⟩,rfl,hle,h.le.trans hle,h.own1,uk h.own1 h.own (fun k hk=>⟨hb.block k (eJ hk h.sz),fun _=>wB⟩) rfl,xU h.is fun k _ h2=>hb.block k h2,h.A,cO h.sz hb.size⟩
theorem Br.turn {w':World}{bs':List UInt8}(h:Br true c1 c G F bs) (hb:RowKit.Below c1.w.heap.size c.w w') (his:isB c1.w.heap.size bs' w'):∃c':Cx,c'.w=w'/\c.le c'/\Br true c1 c' G F bs':=by
 have hlt:∀k o,¬c.A k o->k<c1.w.heap.size:=fun k o hA=>by
  rcases aE k c1.w.heap.size with q|q
  ·exact q
  ·exact absurd ((h.A k o q).2 rfl) hA
 have hle:c.le ⟨w',c.A,c.t⟩:=⟨hb.os,hb.output,hb.size,fun k o _ hA=>⟨dw (w:=c.w) (a:=⟨k,o,none⟩) (hb.block k (hlt k o hA)),hA⟩,fun k _ hA=>hb.block k (hlt k 0 (hA 0)),fun a _ hA=>by simp only [World.frozen?,hb.block _ (hlt _ _ hA)],fun _ _ _ q=>q⟩;exact ⟨⟨w',c.A,c.t⟩,rfl,hle,h.le.trans hle,h.own1,uk h.own1 h.own (fun k hk=>⟨hb.block k hk,fun _=>wB⟩) rfl,his,h.A,cO h.sz hb.size⟩
def EZ (bs:List UInt8) (s:ByteArray):Option (List UInt8):=if bs.length+s.size<=140737488355328 then some (bs++blS s) else none
theorem vG (h:Br true c1 c G F bs) (s:ByteArray){r:List UInt8}(H:EZ bs s=some r):
  Calls Tryz.prog 34 #[.pointer (some ⟨c1.w.heap.size,0,none⟩),.string s] c.w (aI c fun c' v=>Br true c1 c' G F r/\v= .tuple #[.int .i64 (s.size:Int),.nilIface]):=by
 unfold EZ at H;split at H
 ·rename_i hh
  cases H;refine (Go.Proofs.Any.Builder_WriteString J3 Gf c1.w.heap.size c1.w.heap.size (Lib.byteCells bs) s c.w h.is (by rw [Lib.byteCells_length]; exact hh) h.sz).mono ?_;rintro e w' ⟨rfl,hB,hb⟩;obtain ⟨c',rfl,h2,h3⟩:=h.turn (bs':=bs++blS s) hb (.inr (by
   have:Lib.byteCells (bs++blS s)=Lib.byteCells bs++Lib.strCells s:=by
    unfold Lib.byteCells;rw [bK];rfl
   rw [this];exact hB))
  exact ⟨_,c',rfl,rfl,h2,h3,rfl⟩
 ·cases H
theorem EY (h:Br true c1 c G F bs):Calls Tryz.prog 39 #[.pointer (some ⟨c1.w.heap.size,0,none⟩)] c.w (aI c fun c' v=>Own c' G F/\v= .string (mkS bs)):=by
 refine (Go.Proofs.Any.Builder_String_any J4 Gi c1.w.heap.size c1.w.heap.size bs c.w h.is h.sz).mono ?_;rintro e w' ⟨rfl,hb⟩;have hlt:∀k o,¬c.A k o->k<c1.w.heap.size:=fun k o hA=>by
  rcases aE k c1.w.heap.size with q|q
  ·exact q
  ·exact absurd ((h.A k o q).2 rfl) hA
 have hle:c.le ⟨w',c.A,c.t⟩:=⟨hb.os,hb.output,hb.size,fun k o _ hA=>⟨dw (w:=c.w) (a:=⟨k,o,none⟩) (hb.block k (hlt k o hA)),hA⟩,fun k _ hA=>hb.block k (hlt k 0 (hA 0)),fun a _ hA=>by simp only [World.frozen?,hb.block _ (hlt _ _ hA)],fun _ _ _ q=>q⟩;exact ⟨_,⟨w',c.A,c.t⟩,rfl,rfl,hle,uk h.own1 h.own (fun k hk=>⟨hb.block k hk,fun _=>wB⟩) rfl,rfl⟩
theorem Kv {ρ:Operand->Value}{o:Oper}(O:Own c G F) (hr:(execOp ρ o).run Tryz.prog c.w= .ok (.value (.pointer (some ⟨c.w.heap.size,0,none⟩))) (c.w.alloc (.cells #[.pointer none,.slice none 0 0] 88))):
  ∃v c',(execOp ρ o).run Tryz.prog c.w= .ok (.value v) c'.w/\c.le c'/\(v= .pointer (some ⟨c.w.heap.size,0,none⟩)/\Br true c c' G F []):=by
 have hb:=(mF _ c.w).alloc (av _) (.cells #[.pointer none,.slice none 0 0] 88);have hle:c.le ⟨c.w.alloc (.cells #[.pointer none,.slice none 0 0] 88),fun k o=>(k<c.w.heap.size/\c.A k o)\/c.w.heap.size<=k,c.t⟩:=
  ⟨hb.os,hb.output,hb.size,fun k o hk hA=>⟨dw (w:=c.w) (a:=⟨k,o,none⟩) (hb.block k hk),fun q=>q.elim (fun q=>hA q.2) (fun q=>by omega)⟩,fun k hk _=>hb.block k hk,fun a ha _=>by simp only [World.frozen?,hb.block _ ha],fun _ _ _ q=>q⟩
 exact ⟨_,_,hr,hle,rfl,hle,O,uk O O (fun k hk=>⟨hb.block k hk,fun o=>⟨fun q=>q.elim (fun q=>q.2) (fun q=>by omega),fun q=> .inl ⟨hk,q⟩⟩⟩) rfl,Lib.fresh_isBuilder _ _ c.w,fun k o hk=>⟨fun _=>rfl,fun _=> .inr hk⟩,hb.size⟩
theorem Br.nA (h:Br false c1 c G F bs):∀k o,c1.w.heap.size<=k->¬c.A k o:=fun k o hk q=>by
 have:=(h.A k o hk).1 q;cases this
theorem Br.call (h:Br true c1 c G F bs){f:FuncId}{args:Array Value}{v0:Value}(hc:∀cl:Cx,cl.w=c.w->Br false c1 cl G F bs->Calls Tryz.prog f args cl.w (aI cl fun c' v=>Own c' G F/\v=v0)):
  Calls Tryz.prog f args c.w (aI c fun c' v=>Br true c1 c' G F bs/\v=v0):=by
 have hlow:Br false c1 ⟨c.w,fun k o=>k<c1.w.heap.size/\c.A k o,c.t⟩ G F bs:=
  ⟨h.le.trans ⟨rfl,rfl,av _,fun _ _ _ q=>⟨rfl,fun r=>q r.2⟩,fun _ _ _=>rfl,fun _ _ _=>rfl,fun _ _ _ q=>q⟩,h.own1,uk h.own1 h.own (fun k hk=>⟨rfl,fun o=>⟨fun q=>q.2,fun q=>⟨hk,q⟩⟩⟩) rfl,h.is,fun k o hk=>⟨fun q=>by simp only at q; omega,fun q=>by cases q⟩,h.sz⟩
 refine (hc ⟨c.w,fun k o=>k<c1.w.heap.size/\c.A k o,c.t⟩ rfl hlow).mono ?_;rintro e w' ⟨v,c',he,rfl,hle,O,hv⟩;obtain ⟨cr,e1,e2,e3,B⟩:=hlow.upx hle O;have hA:∀k o,¬c.A k o->k<c1.w.heap.size:=fun k o q=>by
  rcases aE k c1.w.heap.size with r|r
  ·exact r
  ·exact absurd ((h.A k o r).2 rfl) q
 have hle2:c.le cr:=by
  refine ⟨by rw [e1]; exact hle.os,by rw [e1]; exact hle.output,by rw [e1]; exact hle.size,fun k o hk q=>?_,fun k hk q=>by rw [e1]; exact hle.block k hk (fun o r=>q o r.2),fun a ha q=>by simp only [World.frozen?,e1]; exact hle.frz a ha (fun r=>q r.2),fun g k b q=>by rw [e3]; exact hle.t g k b q⟩;have h1:=hle.cell k o hk (fun r=>q r.2);refine ⟨by rw [e1]; exact h1.1,fun r=>?_⟩;rcases (e2 k o).1 r with r|r
  ·exact h1.2 r.2
  ·have:=hA k o q;omega
 exact ⟨v,cr,he,e1.symm,hle2,B,hv⟩
theorem LB {ρ:Operand->Value}{o:Oper}(h:Br true c1 c G F bs) (xs:List ByteArray) (hm:Nat.ble xs.length 4294967296=true) (hr:(execOp ρ o).run Tryz.prog c.w= .ok (.value (.slice (some ⟨c.w.heap.size,0,none⟩) xs.length xs.length)) (c.w.alloc (.cells (xs.map Value.string).toArray 9))):
  ∃v c',(execOp ρ o).run Tryz.prog c.w= .ok (.value v) c'.w/\c.le c'/\(Br true c1 c' G F bs/\∀cl:Cx,cl.w=c'.w->(∀k o,c1.w.heap.size<=k->¬cl.A k o)->Sl RS cl v xs):=by
 have hm:=bF hm;obtain ⟨c',e1,h2,h3⟩:=h.below ((mF c.w.heap.size c.w).alloc (av _) (.cells (xs.map Value.string).toArray 9));refine ⟨_,c',by rw [e1]; exact hr,h2,h3,fun cl ew hA=>⟨_,xs.length,rfl,av _,by unfold maxLen; omega,fun i x hx=>⟨_,_,[.string x],rfl,rfl,fun j u hu=>?_⟩⟩⟩
 cases j with
 | succ j=>simp at hu
 | zero=>
  simp only [lv,aK] at hu;subst hu;refine ⟨?_,hA _ _ h.sz,?_⟩
  ·rw [ew,e1];simp
  ·rw [ew,e1,iu _ _ _ _ _ _ (xY c.w _),bL,bB,show 0+i*RS.size+0=i by show 0+i*1+0=i; omega,hx];rfl
end
end Go.Proofs.YtkgjnbiiiifoaaaGreatDoor
namespace Go.Proofs.YtkgjnbiiiifoaaaGreatDoor
open Go Go.Lt
set_option maxRecDepth 10000
set_option linter.unusedVariables false
attribute [local irreducible] W WL AC
open Tryz
variable {c0:Cx}{G:Gm}{F:List En}{sg:Sto}{v1 v2 v3 v4 v5 v6 v7 v8 v9 v10 v11 v12 v13 v14 v15 v16 v17 v18 v19 v20 v21 v22 v23 v24 v25 v26 v27 v28 v29 v30 v31 v32 v33 v34 v35 v36 v37 v38 v39 v40 v41 v42 v43 v44 v45 v46 v47 v48 v49 v50 v51 v52 v53 v54 v55 v56 v57 v58 v59 v60:Value}
def qI (p0:aH):Option Bool:=
 (orE (p0.High != (p0.Lines.length:Int)) (some (decide (p0.High<1)))).bind fun c=>
 (orE c (some (decide (p0.High>1024)))).bind fun d=>
 (orE d (some (decide (p0.Wide<1)))).bind fun e=>
 (orE e (some (decide (p0.Wide>1024)))).bind fun f=>
 (orE f ((gu p0.At p0.Wide p0.High).bind fun i=>
 some (!i))).bind fun g=>
 if g then
 none
 else
 (cm (σ:=Int) (τ:=Unit) (((p0.Lines.length:Int)-0).toNat+1) (fun a=>
 if decide (a<(p0.Lines.length:Int)) then
 (idx p0.Lines a).bind fun b=>
 (orE ((b.Cells.length:Int) != p0.Wide) ((jm b.Cells).bind fun j=>
 some (!j))).bind fun h=>
 if h then
 none
 else
 some (.inl ((w64 (a+1))))
 else
 some (.inr ())) 0).bind fun k=>
 some true
theorem Ap (O0:Own c0 G F) (a:aH){r:Bool}(P:Sl aN c0 v1 a.Lines) (H:qI a=some r): RU 33 #[.agg #[I a.Wide,I a.High,v1,I a.At.Row,I a.At.Col,B a.At.Pending,B a.Auto]] c0 fun c v=>Own c G F/\v=B r:=by
 unfold qI at H;refine en func33 rfl rfl<|sr ?_;obtain ⟨a3,a4,a5,rfl⟩:=(P).form;refine me (bx 31 [I a.Wide,I a.High,.slice a3 a4 a5,I a.At.Row,I a.At.Col,B a.At.Pending,B a.Auto] O0) ?_;rintro v10 z l9 ⟨b,rfl,y,f⟩;refine Ri false<|Rx<|W.seq<|bn H fun l2 d0 H=>bn H fun m2 N H=>bn H fun n2 u H=>bn H fun o2 i H=>bn H fun x0 h H=>W.join (Jn z fun c l=>Own c G F/\l= [(1,Q b),(40,B x0)]) ?_ ?_
 ·clear H;refine W.region<|Rs b (0+1)<|vx (l1 u_3 (f 1 _ rfl))<|Rs b (0+2)<|vx (l1 gb (f 2 _ rfl))<|vx (ln 3 gb P.m)<|Ri (a.High != (a.Lines.length:Int)) ?_;rcases bo (a.High != (a.Lines.length:Int)) with j|j
  ·obtain rfl:=orT j d0;refine vb j<|pz<|ps<|Ri true ?_;have e0:true=true:=rfl;obtain rfl:=orT e0 N;refine vb e0<|pz<|ps<|Ri true ?_;have f0:true=true:=rfl;obtain rfl:=orT f0 u;refine vb f0<|pz<|ps<|Ri true ?_;have g0:true=true:=rfl;obtain rfl:=orT g0 i;refine vb g0<|pz<|ps<|Ri true ?_;have h0:true=true:=rfl;obtain rfl:=orT h0 h;exact vb h0<|pz<|pz<|pz<|pz<|Ri true<|Ry z ⟨y,rfl⟩
  have b1:=orF j d0;refine vb j<|wa (Qo b (0+1))<|wn<|vx (l1 u_3 (f 1 _ rfl))<|Rm (a.High<1) ?_;cases b1;refine Rj (a.High<1) ?_;rcases bo (decide (a.High<1)) with n|n
  ·obtain rfl:=orT n N;refine vb n<|pz<|ps<|Ri true ?_;have i0:true=true:=rfl;obtain rfl:=orT i0 u;refine vb i0<|pz<|ps<|Ri true ?_;have j0:true=true:=rfl;obtain rfl:=orT j0 i;refine vb j0<|pz<|ps<|Ri true ?_;have k0:true=true:=rfl;obtain rfl:=orT k0 h;exact vb k0<|pz<|pz<|pz<|pz<|Ri true<|Ry z ⟨y,rfl⟩
  have c1:=orF n N;refine vb n<|wa (Qo b (0+1))<|wn<|vx (l1 u_3 (f 1 _ rfl))<|Rm (a.High>1024) ?_;cases c1;refine Rj (a.High>1024) ?_;rcases bo (decide (a.High>1024)) with o|o
  ·obtain rfl:=orT o u;refine vb o<|pz<|ps<|Ri true ?_;have l0:true=true:=rfl;obtain rfl:=orT l0 i;refine vb l0<|pz<|ps<|Ri true ?_;have m0:true=true:=rfl;obtain rfl:=orT m0 h;exact vb m0<|pz<|pz<|pz<|pz<|Ri true<|Ry z ⟨y,rfl⟩
  have d1:=orF o u;refine vb o<|wa (Q b)<|wn<|vx (l1 u_3 (f 0 _ rfl))<|Rm (a.Wide<1) ?_;cases d1;refine Rj (a.Wide<1) ?_;rcases bo (decide (a.Wide<1)) with p|p
  ·obtain rfl:=orT p i;refine vb p<|pz<|ps<|Ri true ?_;have o0:true=true:=rfl;obtain rfl:=orT o0 h;exact vb o0<|pz<|pz<|pz<|pz<|Ri true<|Ry z ⟨y,rfl⟩
  have e1:=orF p i;refine vb p<|wa (Q b)<|wn<|vx (l1 u_3 (f 0 _ rfl))<|Rm (a.Wide>1024) ?_;cases e1;refine Rj (a.Wide>1024) ?_;rcases bo (decide (a.Wide>1024)) with q|q
  ·obtain rfl:=orT q h;exact vb q<|pz<|pz<|pz<|pz<|Ri true<|Ry z ⟨y,rfl⟩
  have A:=orF q h;refine vb q<|wa (Qo b (0+3))<|wn<|vx (lN 29 (Bw (k:=3) (l:=[I a.At.Row,I a.At.Col,B a.At.Pending]) f rfl))<|wa (Q b)<|wn<|vx (l1 u_3 (f 0 _ rfl))<|wa (Qo b (0+1))<|wn<|vx (l1 u_3 (f 1 _ rfl))<|wn<|bn A fun R w1 A=>cl (sY y a.At a.Wide a.High w1) ?_;rintro v42 n1 y2 ⟨f1,rfl⟩;refine Rn (!R) ?_;cases A;exact Ri (!R)<|Ry n1 ⟨f1,rfl⟩
 rintro e_ w_ ⟨M,u2,_,rfl,d2,rfl,g1,rfl⟩;refine nrm<|cn H (fun x1 H=>?_) (fun x1 H=>?_)
 ·cases H
 refine RG<|W.seq<|sr<|Rs b (0+2)<|vx (l1 gb ((mm f) 2 _ rfl))<|vx (ln 3 gb P.m)<|Ro 0<|wln<|W.block<|bn H fun s2 q0 T=>lp q0 (fun d=>Jn M fun c l=>Own c G F/\l= [(1,Q b),(42,.slice a3 a4 a5),(43,I (a.Lines.length:Int)),(44,I d)]) (fun j2 ex e w=>ex= .exit 0/\(Jn M fun c l=>Own c G F/\l= []) e w) ?_ ?_ ?_
 ·clear T q0;intro d h3 u1 i2 H;revert u1 i2;rintro e_ w_ ⟨p1,v2,_,rfl,e2,rfl,U,rfl⟩;refine sr<|Rj (d<(a.Lines.length:Int))<|Rx<|cn H (fun y1 H=>?_) (fun y1 H=>?_)
  ·refine RG<|RM<|sr<|bn H fun g s0 H=>?_;obtain ⟨q2,z1,g2⟩:=Sl.at (P.mono (l9.trans (d2.trans e2))) (aP s0);obtain ⟨e3,rfl,x⟩:=z1;refine vx (ix gb P.m s0)<|vx (lN 56 g2)<|me (al 56 [Y,B false] U) ?_;rintro f3 t2 f2 ⟨E,rfl,h1⟩;obtain ⟨X,Z,a0,rfl⟩:=((x.mono f2)).form;refine md (sA 56 [.slice X Z a0,B g.Wrap] 0 h1 ⟨x.m.one,rfl,trivial⟩) ?_;rintro b0 z2 t;refine Rx<|bn H fun y0 t0 H=>W.join (Jn b0 fun c l=>Own c G ((Eb E 56 [.slice X Z a0,B g.Wrap])::F)/\l= [(1,Q b),(42,.slice a3 a4 a5),(43,I (a.Lines.length:Int)),(44,I d),(59,B y0)]) ?_ ?_
   ·clear H;refine Rv (Q E)<|vx (le1 0 cw (t.on 0 rfl))<|vx (ln 3 cw x.m)<|va (Q b)<|vx (l1 u_3 ((mm f) 0 _ rfl))<|Ri ((g.Cells.length:Int) != a.Wide) ?_;rcases bo ((g.Cells.length:Int) != a.Wide) with s|s
    ·obtain rfl:=orT s t0;exact vb s<|pz<|pz<|Ri true<|Ry b0 ⟨t,rfl⟩
    have D:=orF s t0;refine vb s<|wa (Q E)<|wn<|vx (le1 0 cw (t.on 0 rfl))<|wn<|bn D fun S b2 D=>cl (oM t g.Cells x.m b2) ?_;rintro g3 q1 b3 ⟨i1,rfl⟩;refine Rn (!S) ?_;cases D;exact Ri (!S)<|Ry q1 ⟨i1,rfl⟩
   rintro e_ w_ ⟨s1,w2,_,rfl,c3,rfl,j1,rfl⟩;refine nrm<|cn H (fun c2 H=>?_) (fun c2 H=>?_)
   ·cases H
   refine W.skip<|RH<|W.region<|Rq (d+1)<|WL.nil ?_;cases H;refine ⟨_,rfl,?_⟩;have k1:=j1.sD 1 [];exact jn s1 ⟨k1,rfl⟩
  refine W.exit<|thx ?_;cases H;exact ⟨_,rfl,rfl,jn p1 ⟨U,rfl⟩⟩
 ·exact jn M ⟨g1,rfl⟩
 rintro _ e_ w_ ⟨rfl,t1,x2,_,rfl,d3,rfl,m1,rfl⟩;refine RJ<|Ru true<|RD ?_;cases T;exact Rz t1 ⟨m1,rfl⟩
def my (p0:List ByteArray):Option ByteArray:=
 (oT p0 (⟨#[32]⟩:ByteArray)).bind fun a=>
 (JG a (⟨#[10]⟩:ByteArray)).bind fun b=>
 some b
theorem py (e:Own c0 G F) (hT:Et c0) (b:List ByteArray){r:ByteArray}(h:Sl RS c0 v1 b) (H:my b=some r): RU 35 #[v1] c0 fun c v=>Own c G F/\v= .string r:=by
 unfold my at H;refine en func35 rfl rfl<|RB (.string (⟨#[]⟩:ByteArray))<|wln<|RB v1<|bn H fun j i H=>cl (yg e hT b (⟨#[32]⟩:ByteArray) h i) ?_;rintro v9 g k ⟨f,rfl⟩;refine bn H fun a d H=>vr (.string a) (rx (by kernel_rfl) (FI d _))<|va (.string a)<|RD ?_;cases H;exact Rz g ⟨f,rfl⟩
def pv (p0:Bool) (p1:ByteArray) (p2:ByteArray):Option ByteArray:=
 if p0 then
 some p1
 else
 some p2
theorem wL (e:Own c0 G F) (d:Bool) (a:ByteArray) (b:ByteArray){r:ByteArray}(H:pv d a b=some r): RU 37 #[B d,.string a,.string b] c0 fun c v=>Own c G F/\v= .string r:=by
 unfold pv at H;refine en func37 rfl rfl<|RB (.string (⟨#[]⟩:ByteArray))<|Rx<|Ru d<|RF H (fun f H=>?_) (fun f H=>?_)
 ·refine sr<|vv (.string a)<|RD<|thr ?_;cases H;exact Rz c0 ⟨e,rfl⟩
 refine RG<|sr<|vv (.string b)<|RD ?_;cases H;exact Rz c0 ⟨e,rfl⟩
def su (p0:aa):Option ByteArray:=
 if (p0.Kind==0)=true then
 some (⟨#[46]⟩:ByteArray)
 else
 none
theorem BS (d:Own c0 G F) (a:aa){r:ByteArray}(k:Sl (RI .i32) c0 v1 a.Text) (H:su a=some r):
   RU 38 #[.agg #[I a.Kind,v1]] c0 fun c v=>Own c G F/\v= .string r:=by
 unfold su at H
 refine en func38 rfl rfl<|sr ?_
 obtain ⟨f,g,h,rfl⟩:=(k).form
 refine me (bx 61 [I a.Kind,.slice f g h] d) ?_
 rintro v10 j m ⟨i,rfl,e,l⟩
 refine va (.string (⟨#[]⟩:ByteArray))<|Rx<|RB (Q i)<|vx (l1 u_3 (l 0 _ rfl))<|wln<|W.block<|sr<|Rk (a.Kind==0)<|RF H (fun b H=>?_) (fun b H=>?_)
 ·refine RB (.string (⟨#[46]⟩:ByteArray))<|RD<|RK ?_
  cases H
  exact Rz j ⟨e,rfl⟩
 cases H
def sw (p0:aH):Option ByteArray:=
 (qI p0).bind fun w=>
 if (!w)=true then
 none
 else
 (jJ p0.Wide).bind fun f=>
 (jJ p0.High).bind fun g=>
 (my ([(⟨#[115,99,114,101,101,110]⟩:ByteArray),f,g]:List ByteArray)).bind fun h=>
 (EZ ([]:List UInt8) h).bind fun i=>
 (jJ p0.At.Row).bind fun j=>
 (jJ p0.At.Col).bind fun k=>
 if p0.At.Pending then
 none
 else
 (my ([(⟨#[97,116]⟩:ByteArray),j,k]:List ByteArray)).bind fun l=>
 (EZ i l).bind fun m=>
 (pv p0.Auto (⟨#[111,110]⟩:ByteArray) (⟨#[111,102,102]⟩:ByteArray)).bind fun n=>
 (my ([(⟨#[97,117,116,111]⟩:ByteArray),n]:List ByteArray)).bind fun o=>
 (EZ m o).bind fun p=>
 (cm (σ:=Int×(List UInt8)) (τ:=(List UInt8)) (((p0.Lines.length:Int)-0).toNat+1) (fun a=>
 if decide (a.1<(p0.Lines.length:Int)) then
 (idx p0.Lines a.1).bind fun c=>
 (pv c.Wrap (⟨#[43]⟩:ByteArray) (⟨#[45]⟩:ByteArray)).bind fun q=>
 (cm (σ:=(List ByteArray)×Int) (τ:=(List ByteArray)) (((c.Cells.length:Int)-0).toNat+1) (fun b=>
 if decide (b.2<(c.Cells.length:Int)) then
 (idx c.Cells b.2).bind fun r=>
 (su r).bind fun s=>
 (app b.1 ([s]:List ByteArray)).bind fun t=>
 some (.inl (t,(w64 (b.2+1))))
 else
 some (.inr b.1)) (([q]:List ByteArray),0)).bind fun e=>
 (my e).bind fun u=>
 (EZ a.2 u).bind fun v=>
 some (.inl ((w64 (a.1+1)),v))
 else
 some (.inr a.2)) (0,p)).bind fun d=>
 some (mkS d)
theorem BU (O0:Own c0 G F) (hT:Et c0) (a:aH){r:ByteArray}(h2:Sl aN c0 v1 a.Lines) (H:sw a=some r): RU 16 #[.agg #[I a.Wide,I a.High,v1,I a.At.Row,I a.At.Col,B a.At.Pending,B a.Auto]] c0 fun c v=>Own c G F/\v= .string r:=by
 unfold sw at H;refine en func16 rfl rfl<|sr ?_;obtain ⟨a3,a4,a5,rfl⟩:=(h2).form;refine me (bx 31 [I a.Wide,I a.High,.slice a3 a4 a5,I a.At.Row,I a.At.Col,B a.At.Pending,B a.Auto] O0) ?_;rintro v10 c9 l9 ⟨n,rfl,O7,x⟩;refine va (.string (⟨#[]⟩:ByteArray))<|Rx<|sr<|vx (lN 31 x)<|bn H fun j7 h6 H=>cl (Ap O7 a h2.m h6) ?_;rintro v17 i l16 ⟨r5,rfl⟩;refine Ri (!j7)<|RF H (fun i6 H=>?_) (fun i6 H=>?_)
 ·cases H
 refine RG<|sr<|me (Kv r5 (by kernel_rfl)) ?_;rintro v21 c19 l19 ⟨rfl,o5⟩;obtain ⟨c22,j6,b0⟩:=o5.low;refine WL.gh j6 ?_;have l22:=b0.le;have s5:=b0.own;refine Rx ?_;obtain ⟨s0,k6,p5⟩:=b0.up (Cx.le.refl _) s5;rw [<-k6];refine W.regionE [] (Kp G0 []) (by kernel_rfl) ?_;have e0:=p5.drew;generalize (⟨s0.w.drew,s0.A,s0.t⟩:Cx)=c30 at e0|-;have l30:=e0.le;refine ta 0 (Q n)<|tx 1 (fun c' a1=>l1 u_3 ((mm x) 0 _ rfl))<|ta 3 (Qo n (0+1))<|tx 4 (fun c' a1=>l1 u_3 ((mm x) 1 _ rfl))<|bn H fun h1 l6 H=>o1 2 (gc 2 (e0.call fun c35 M B_=>have l35:=B_.le; nh B_.own hT.m a.Wide l6) ?_);rintro v33 c31 g9 ⟨t1,rfl⟩;refine ⟨.inr Kp.nil0,?_⟩;have l31:=t1.le;refine bn H fun i1 m6 H=>o1 5 (gc 5 (t1.call fun c40 M B_=>have l40:=B_.le; nh B_.own hT.m a.High m6) ?_);rintro v38 c36 h9 ⟨u1,rfl⟩;refine ⟨.inr Kp.nil0,?_⟩;have l36:=u1.le;refine o1 6 (gm 6 (LB u1 ([(⟨#[115,99,114,101,101,110]⟩:ByteArray),h1,i1]:List ByteArray) (by kernel_rfl) (by kernel_rfl)) ?_);rintro v43 c41 i9 ⟨w1,n6⟩;refine ⟨.inr Kp.nil0,?_⟩;have l41:=w1.le;refine bn H fun k5 o6 H=>o1 7 (gc 7 (w1.call fun c6 M B_=>have l49:=B_.le; py B_.own hT.m ([(⟨#[115,99,114,101,101,110]⟩:ByteArray),h1,i1]:List ByteArray) (n6 c6 M B_.nA) o6) ?_);rintro v47 c45 j9 ⟨x1,rfl⟩;refine ⟨.inr Kp.nil0,?_⟩;have l45:=x1.le;refine bn H fun x_18 p6 H=>o1 8 (gc 8 (vG x1 k5 p6) ?_);rintro v52 c50 k9 ⟨y1,rfl⟩;refine ⟨.inr Kp.nil0,?_⟩;have l50:=y1.le;refine dn ?_;obtain ⟨c54,q6,f0⟩:=y1.low;rw [<-q6];have l54:=f0.le;have t5:=f0.own;refine RQ<|rD [] (Kp G0 []) t5 ?_;intro d6 a7 u5;have p60:Kp G0 [] d6:=Kp.nil0;refine ta 0 (.pointer (some ⟨n,0+3,none⟩))<|ta 1 (Qo n (0+3))<|tx 2 (fun c' a1=>l1 u_3 ((mm x) 3 _ rfl))<|ta 4 (Qo n (0+3))<|ta 5 (Qo n (0+4))<|tx 6 (fun c' a1=>l1 u_3 ((mm x) 4 _ rfl))<|bn H fun S r6 H=>o1 3 (gc 3 (nh u5 hT.m a.At.Row r6) ?_);rintro v67 e6 b7 ⟨v5,rfl⟩;have g7:Kp G0 [] e6:=Kp.nil0;refine ⟨.inr g7,bn H fun T s6 H=>o1 7 (gc 7 (nh v5 hT.m a.At.Col s6) ?_)⟩;rintro v75 f6 c7 ⟨w5,rfl⟩;have h7:Kp G0 [] f6:=Kp.nil0;refine ⟨.inr h7,o1 8 (gm 8 (sl RS 9 [[.string (⟨#[97,116]⟩:ByteArray)],[.string S],[.string T]] ([(⟨#[97,116]⟩:ByteArray),S,T]:List ByteArray) w5 ⟨rfl,rfl,rfl,trivial⟩) ?_)⟩;rintro z1 g6 d7 ⟨u78,x5,t6⟩;have i7:Kp G0 [] g6:=Kp.nil0;refine ⟨.inr i7,ta 9 z1 (dn (RQ<|sr<|Rs n (0+3)<|Rs n (0+5)<|vx (l1 u_4 ((mm x) 5 _ rfl))<|RF H (fun u6 H=>?_) (fun u6 H=>?_)))⟩
 ·cases H
 refine RG<|RB z1 ?_;obtain ⟨c86,w6,e7,y5,v6⟩:=x5.frz 0 rfl t6;refine WL.gh w6 (bn H fun l5 x6 H=>cl (py y5 hT.m ([(⟨#[97,116]⟩:ByteArray),S,T]:List ByteArray) v6 x6) ?_);rintro v94 c93 f7 ⟨z5,rfl⟩;refine bn H fun x_37 y6 H=>?_;have a6:=z5.sD 1 [];obtain ⟨c97,z6,q5⟩:=f0.up (a7.trans (b7.trans (c7.trans (d7.trans (e7.trans f7))))) a6;refine WL.gh z6 (cl (vG q5 l5 y6) ?_);rintro p9 q7 s8 ⟨b2,rfl⟩;obtain ⟨r7,n3,y⟩:=b2.low;refine WL.gh n3 ?_;have t8:=y.le;have i2:=y.own;refine RO<|Rs n (0+6)<|vx (l1 u_4 ((mm x) 6 _ rfl))<|bn H fun U o3 H=>cl (wL i2 a.Auto (⟨#[111,110]⟩:ByteArray) (⟨#[111,102,102]⟩:ByteArray) o3) ?_;rintro q9 s7 s4 ⟨j2,rfl⟩;refine me (sl RS 9 [[.string (⟨#[97,117,116,111]⟩:ByteArray)],[.string U]] ([(⟨#[97,117,116,111]⟩:ByteArray),U]:List ByteArray) j2 ⟨rfl,rfl,trivial⟩) ?_;rintro r9 t7 t4 ⟨n9,k2,p3⟩;obtain ⟨u7,s3,u4,l2,q3⟩:=k2.frz 0 rfl p3;refine WL.gh s3 (bn H fun m5 t3 H=>cl (py l2 hT.m ([(⟨#[97,117,116,111]⟩:ByteArray),U]:List ByteArray) q3 t3) ?_);rintro s9 v7 v4 ⟨m2,rfl⟩;refine bn H fun x_44 u3 H=>?_;have n2:=m2.sD 1 [];obtain ⟨w7,v3,c2⟩:=y.up (s4.trans (t4.trans (u4.trans v4))) n2;refine WL.gh v3 (cl (vG c2 m5 u3) ?_);rintro t9 x7 u8 ⟨d2,rfl⟩;obtain ⟨h3,w3,z⟩:=d2.low;refine WL.gh w3 ?_;have v8:=z.le;have o2:=z.own;refine Rx<|sr<|Rs n (0+2)<|vx (l1 gb ((mm x) 2 _ rfl))<|vx (ln 3 gb h2.m)<|Ro 0<|wln<|W.block<|bn H fun f5 u0 g0=>lp u0 (fun b=>Jn i fun c l=>Own c G F/\l= [(3,.pointer (some ⟨i.w.heap.size,0,none⟩)),(47,.slice a3 a4 a5),(48,I (a.Lines.length:Int)),(49,I b.1)]/\Br false i c G F b.2) (fun s1 ex e w=>ex= .exit 0/\(Jn i fun c l=>Own c G F/\l= [(3,.pointer (some ⟨i.w.heap.size,0,none⟩))]/\Br false i c G F s1) e w) ?_ ?_ ?_
 ·clear g0 u0;intro b k7 t0 g1 H;revert t0 g1;rintro M w_ ⟨i3,o8,_,rfl,w4,rfl,h0,rfl,a0⟩;refine sr<|Rj (b.1<(a.Lines.length:Int))<|Rx<|cn H (fun x3 H=>?_) (fun x3 H=>?_)
  ·refine RG<|RM<|sr<|bn H fun h v0 H=>?_;obtain ⟨l7,y3,d5⟩:=Sl.at (h2.mono (l9.trans (l16.trans w4))) (aP v0);obtain ⟨u9,rfl,j⟩:=y3;refine vx (ix gb h2.m v0)<|vx (lN 56 d5)<|me (al 56 [Y,B false] h0) ?_;rintro v9 y7 P ⟨s,rfl,p2⟩;obtain ⟨o,p,q,rfl⟩:=((j.mono P)).form;refine md (sA 56 [.slice o p q,B h.Wrap] 0 p2 ⟨j.m.one,rfl,trivial⟩) ?_;rintro z7 b1 i0;refine RO<|Rs s 1<|vx (le1 1 u_4 (i0.on 0 rfl))<|bn H fun j1 z3 H=>cl (wL i0 h.Wrap (⟨#[43]⟩:ByteArray) (⟨#[45]⟩:ByteArray) z3) ?_;rintro w9 a8 c1 ⟨q2,rfl⟩;refine me (sl RS 9 [[.string j1]] ([j1]:List ByteArray) q2 ⟨rfl,trivial⟩) ?_;rintro e1 E d1 ⟨h5,j0,b4⟩;refine va e1<|Rx<|RB (Q s)<|vx (le1 0 cw (j0.on 1 rfl))<|vx (ln 3 cw j.m)<|Ro 0<|wln<|W.block<|bn H fun g5 w0 f=>lp w0 (fun d=>Jn E fun c l=>∃g u,Own c G (es true RS g 9 u d.1::(Eb s 56 [.slice o p q,B h.Wrap])::F)/\l= [(3,.pointer (some ⟨i.w.heap.size,0,none⟩)),(7,g),(47,.slice a3 a4 a5),(48,I (a.Lines.length:Int)),(49,I b.1),(58,.slice o p q),(59,I (h.Cells.length:Int)),(60,I d.2)]/\OA RS c g u d.1) (fun Z ex e w=>ex= .exit 2/\(Jn E fun c l=>∃k R,Own c G (es true RS k 9 R Z::(Eb s 56 [.slice o p q,B h.Wrap])::F)/\l= [(3,.pointer (some ⟨i.w.heap.size,0,none⟩)),(7,k),(47,.slice a3 a4 a5),(48,I (a.Lines.length:Int)),(49,I b.1)]/\OA RS c k R Z) e w) ?_ ?_ ?_
   ·clear f w0;intro d k7 t0 g1 H;revert t0 g1;rintro M w_ ⟨j3,p8,_,rfl,x4,rfl,g,u,k0,rfl,x0⟩;refine sr<|Rj (d.2<(h.Cells.length:Int))<|Rx<|cn H (fun c4 H=>?_) (fun c4 H=>?_)
    ·refine RG<|RM<|sr<|bn H fun X y0 H=>?_;obtain ⟨m7,d4,e5⟩:=Sl.at (j.mono (P.trans (b1.trans (c1.trans (d1.trans x4))))) (aP y0);obtain ⟨x9,rfl,N⟩:=d4;refine vx (ix cw j.m y0)<|vx (lN 61 e5)<|me (al 61 [I 0,Y] k0) ?_;rintro y9 b8 y4 ⟨p7,rfl,s2⟩;obtain ⟨m0,o0,q0,rfl⟩:=((N.mono y4)).form;refine md (sA 61 [I X.Kind,.slice m0 o0 q0] 0 s2 ⟨rfl,N.m.one,trivial⟩) ?_;rintro c8 w8 l0;refine wln<|Rv g<|vx (leN 61 0 [I X.Kind,.slice m0 o0 q0] (l0.on 0 rfl))<|bn H fun k1 e4 H=>cl (BS l0 X N.m e4) ?_;rintro z9 d8 x8 ⟨t2,rfl⟩;refine me (sl RS 9 [[.string k1]] ([k1]:List ByteArray) t2 ⟨rfl,trivial⟩) ?_;rintro v219 e8 y8 ⟨o9,u2,f4⟩;obtain ⟨f8,h4,z8,v2,g4⟩:=u2.frz 0 rfl f4;refine WL.gh h4 (bn H fun x_82 i4 H=>me (ap RS (.string ByteArray.empty) 16 93 2 v2 x0.m g4 i4 ki) ?_);rintro f1 k3 a9 ⟨i5,w2,j4⟩;refine va f1<|WL.nil<|RH<|W.region<|Rq (d.2+1)<|WL.nil ?_;cases H;refine ⟨_,rfl,?_⟩;have x2:=w2.sD 4 [2,3];exact jn k3 ⟨f1,i5,x2,rfl,j4⟩
    refine W.exit<|thx ?_;cases H;exact ⟨_,rfl,rfl,jn j3 ⟨g,u,k0,rfl,x0⟩⟩
   ·exact jn E ⟨e1,h5,j0,rfl,b4⟩
   rintro _ M w_ ⟨rfl,g8,q8,_,rfl,z4,rfl,k,R,y2,rfl,k4⟩;refine RJ<|Rv k ?_;obtain ⟨h8,m4,b5,z2,l4⟩:=y2.frz 0 rfl k4;refine WL.gh m4 (bn f fun n5 n4 f=>cl (py z2 hT.m g5 l4 n4) ?_);rintro v248 i8 c5 ⟨b3,rfl⟩;refine bn f fun x_90 o4 f=>?_;have c3:=b3.sD 2 [];obtain ⟨j8,p4,e2⟩:=a0.up (P.trans (b1.trans (c1.trans (d1.trans (z4.trans (b5.trans c5)))))) c3;refine WL.gh p4 (cl (vG e2 n5 o4) ?_);rintro v256 k8 b9 ⟨f2,rfl⟩;obtain ⟨l3,q4,D⟩:=f2.low;refine WL.gh q4 ?_;have d9:=D.le;have d3:=D.own;refine WL.nil<|RH<|W.region<|Rq (b.1+1)<|WL.nil ?_;cases f;exact ⟨_,rfl,jn l3 ⟨d3,rfl,D⟩⟩
  refine W.exit<|thx ?_;cases H;exact ⟨_,rfl,rfl,jn i3 ⟨h0,rfl,a0⟩⟩
 ·exact jn h3 ⟨o2,rfl,z⟩
 rintro _ M w_ ⟨rfl,l8,r8,_,rfl,e9,rfl,e3,rfl,g2⟩;refine RJ<|sr ?_;obtain ⟨n8,r4,d0⟩:=g2.up (Cx.le.refl _) e3;refine WL.gh r4 (cl (EY d0) ?_);rintro v273 m3 q1 ⟨f3,rfl⟩;have f9:=d0.le.trans q1;refine va (.string (mkS f5))<|RD ?_;cases g0;exact Rz m3 ⟨f3,rfl⟩
def nR (p0:List Int) (p1:Int):Option (List Int):=
 (cm (σ:=Unit) (τ:=Unit) ((p1-127).toNat+1) (fun c=>
 if decide (p1>127) then
 none
 else
 some (.inr ())) ()).bind fun b=>
 (app p0 ([(IntKind.u8.wrap p1)]:List Int)).bind fun a=>
 some a
theorem tU {a:Value}{d:List Value}(f:List Int) (b:Int) (P:Own c0 G (es true (RI .u8) a 5 d f::F)){r:List Int}(U:OA (RI .u8) c0 a d f) (H:nR f b=some r): RU 41 #[a,I b] c0 fun c v=>∃h N,Own c G (es true (RI .u8) h 5 N r::F)/\v=h/\OA (RI .u8) c h N r:=by
 unfold nR at H;refine en func41 rfl rfl<|RB Y<|Rx<|W.block<|bn H fun k0 u g=>lp u (fun D=>Jn c0 fun c l=>Own c G (es true (RI .u8) a 5 d f::F)/\l= [(0,a),(1,I b)]) (fun X ex e w=>ex= .exit 0/\(Jn c0 fun c l=>Own c G (es true (RI .u8) a 5 d f::F)/\l= [(0,a),(1,I b)]) e w) ?_ ?_ ?_
 ·clear g u;intro D m0 q M H;revert q M;rintro T Z ⟨S,g5,_,rfl,l4,rfl,R,rfl⟩;refine W.seq<|RA b<|Rj (b>127)<|RF H (fun s H=>?_) (fun s H=>?_)
  ·cases H
  refine W.exit<|thx ?_;cases H;exact ⟨_,rfl,rfl,jn S ⟨R,rfl⟩⟩
 ·exact jn c0 ⟨P,rfl⟩
 rintro _ T Z ⟨rfl,b0,f0,_,rfl,g0,rfl,i,rfl⟩;refine RJ<|RB a<|Ro b<|va (.int .u8 (IntKind.u8.wrap b))<|me (sl (RI .u8) 5 [[.int .u8 (IntKind.u8.wrap b)]] ([(IntKind.u8.wrap b)]:List Int) i ⟨rfl,trivial⟩) ?_;rintro v21 d0 h0 ⟨l0,j,t⟩;obtain ⟨e0,y,i0,k,x⟩:=j.frz 0 rfl t;refine WL.gh y (bn g fun a0 z g=>me (ap (RI .u8) (.int .u8 0) 1 48 1 k U.m x z vN) ?_);rintro v31 p j0 ⟨E,n,A⟩;refine va v31<|RD ?_;cases g;have o:=n.sD 2 [1];exact Rz p ⟨v31,E,o,rfl,A⟩
def mx (p0:Bool) (p1:Int):Option Int:=
 if p0 then
 some p1
 else
 some 0
theorem px (d:Own c0 G F) (b:Bool) (a:Int){r:Int}(H:mx b a=some r): RU 42 #[B b,.int .u8 a] c0 fun c v=>Own c G F/\v= .int .u8 r:=by
 unfold mx at H;refine en func42 rfl rfl<|RB (.int .u8 0)<|Rx<|Ru b<|RF H (fun e H=>?_) (fun e H=>?_)
 ·refine sr<|vv (.int .u8 a)<|RD<|thr ?_;cases H;exact Rz c0 ⟨d,rfl⟩
 refine RG<|RB (.int .u8 0)<|RD ?_;cases H;exact Rz c0 ⟨d,rfl⟩
def ul (p0:List aa):Option Int:=
 (cm (σ:=Int) (τ:=Int) (((p0.length:Int)-0).toNat+1) (fun a=>
 (bw (decide (a<(p0.length:Int))) ((idx p0 a).bind fun c=>
 (idx p0 0).bind fun d=>
 some ((c.Kind==0)==(d.Kind==0)))).bind fun b=>
 if b then
 some (.inl ((w64 (a+1))))
 else
 some (.inr a)) 0).bind fun e=>
 some e
theorem CN (O0:Own c0 G F) (n:List aa){r:Int}(k:Sl aw c0 v1 n) (H:ul n=some r): RU 79 #[v1] c0 fun c v=>Own c G F/\v=I r:=by
 unfold ul at H;refine en func79 rfl rfl<|RA 0<|wln<|RA 0<|Rx<|W.block<|bn H fun y T D=>lp T (fun a=>Jn c0 fun c l=>Own c G F/\l= [(0,v1),(3,I a)]) (fun A ex e w=>ex= .exit 0/\(Jn c0 fun c l=>Own c G F/\l= [(3,I A)]) e w) ?_ ?_ ?_
 ·clear D T;intro a t0 P d0 H;revert P d0;rintro N w_ ⟨c5,g6,_,rfl,X,rfl,O7,rfl⟩;refine W.seq<|W.seq<|bn H fun z s H=>W.join (Jn c5 fun c l=>Own c G F/\l= [(0,v1),(3,I a),(21,B z)]) ?_ ?_
  ·clear H;refine rD [] (Kp G0 []) O7 ?_;intro j x o;have s0:Kp G0 [] j:=Kp.nil0;refine ta 0 (I a)<|ta 1 v1<|tx 2 (fun i b=>ln 3 cw k.m)<|ta 3 (B (decide (a<(n.length:Int)))) ?_;rcases bo (decide (a<(n.length:Int))) with f|f
   ·have d:=anT f s;refine bn d fun g t d=>bn d fun h u d=>AC.takeb 4 f rfl (by kernel_rfl) (by kernel_rfl) (fun i b=>(by kernel_rfl)) (ta 5 v1<|ta 6 (I a) ?_);obtain ⟨h0,R,Z⟩:=Sl.at (k.mono (X.trans x)) (aP t);obtain ⟨v22,rfl,l0⟩:=R;refine tx 7 (fun i b=>ix cw k.m t)<|ta 8 (Qo (sb v1) (so v1+a.toNat*2))<|tx 9 (fun i b=>l1 u_3 ((mm Z) 0 _ rfl))<|ta 10 (B (g.Kind==0))<|ta 11 v1 ?_;obtain ⟨i0,S,a0⟩:=Sl.at (k.mono (X.trans x)) (aP u);obtain ⟨v27,rfl,m0⟩:=S;refine tx 12 (fun i b=>ix cw k.m u)<|ta 13 (Qo (sb v1) (so v1+(0:Int).toNat*2))<|tx 14 (fun i b=>l1 u_3 ((mm a0) 0 _ rfl))<|ta 15 (B (h.Kind==0))<|ta 16 (B ((g.Kind==0)==(h.Kind==0))) ?_;cases d;exact ta 17 (B ((g.Kind==0)==(h.Kind==0)))<|dn (nrm<|jn j ⟨o,rfl⟩)
   obtain rfl:=anF f s;exact AC.takeb 4 f rfl (by kernel_rfl) (by kernel_rfl) (fun i b=>(by kernel_rfl)) (tp 5<|tp 6<|tp 7<|tp 8<|tp 9<|tp 10<|tp 11<|tp 12<|tp 13<|tp 14<|tp 15<|tp 16<|ta 17 (B false)<|dn (nrm<|jn j ⟨o,rfl⟩))
  rintro N w_ ⟨q,j0,_,rfl,o0,rfl,p,rfl⟩;refine nrm<|cn H (fun U H=>?_) (fun U H=>?_)
  ·refine RG<|W.block<|RC a<|Rq (a+1)<|WL.nil<|bkn ?_;cases H;exact ⟨_,rfl,jn q ⟨p,rfl⟩⟩
  refine W.exit<|thx ?_;cases H;exact ⟨_,rfl,rfl,jn q ⟨p,rfl⟩⟩
 ·exact jn c0 ⟨O0,rfl⟩
 rintro _ N w_ ⟨rfl,M,k0,_,rfl,q0,rfl,E,rfl⟩;refine RJ<|sr<|vv (I y)<|RD ?_;cases D;exact Rz M ⟨E,rfl⟩
def ss (p0:List Int) (p1:ah):Option (List Int):=
 (mx p1.Wrap 1).bind fun k=>
 (app p0 ([k]:List Int)).bind fun l=>
 (cm (σ:=(List Int)×(List aa)) (τ:=(List Int)) (((p1.Cells.length:Int)-0).toNat+1) (fun a=>
 if decide ((a.2.length:Int)>0) then
 (ul a.2).bind fun c=>
 (idx a.2 0).bind fun f=>
 (mx (f.Kind != 0) 1).bind fun g=>
 (nR a.1 (w64 ((w64 (2*c))+(w64 g)))).bind fun h=>
 (slc a.2 0 c).bind fun d=>
 (cm (σ:=Int) (τ:=Unit) (((d.length:Int)-0).toNat+1) (fun b=>
 if decide (b<(d.length:Int)) then
 (idx d b).bind fun i=>
 if ((i.Text.length:Int)==0)=true then
 some (.inl ((w64 (b+1))))
 else
 none
 else
 some (.inr ())) 0).bind fun m=>
 (slc a.2 c a.2.length).bind fun j=>
 some (.inl (h,j))
 else
 some (.inr a.1)) (l,p1.Cells)).bind fun e=>
 some e
theorem BR {u:Value}{j0:List Value}(p0:List Int) (N:ah) (O0:Own c0 G (es true (RI .u8) u 5 j0 p0::F)){r:List Int}(h1:OA (RI .u8) c0 u j0 p0) (h3:Sl aw c0 v2 N.Cells) (H:ss p0 N=some r):
    RU 43 #[u,.agg #[v2,B N.Wrap]] c0 fun c v=>∃y1 y2,Own c G (es true (RI .u8) y1 5 y2 r::F)/\v=y1/\OA (RI .u8) c y1 y2 r:=by
 unfold ss at H
 refine en func43 rfl rfl<|sr ?_
 obtain ⟨a4,a5,a6,rfl⟩:=(h3).form
 refine me (bx 56 [.slice a4 a5 a6,B N.Wrap] O0) ?_
 rintro v11 y3 i4 ⟨b7,rfl,O8,m9⟩
 refine va Y<|wln<|RB u<|Rs b7 (0+1)<|vx (l1 u_4 (m9 1 _ rfl))<|bn H fun h g2 H=>cl (px O8 N.Wrap 1 g2) ?_
 rintro v18 z3 j4 ⟨u1,rfl⟩
 refine me (sl (RI .u8) 5 [[.int .u8 h]] ([h]:List Int) u1 ⟨rfl,trivial⟩) ?_
 rintro v23 b4 k4 ⟨q,v1,h2⟩
 obtain ⟨c4,j2,l4,w1,i2⟩:=v1.frz 0 rfl h2
 refine WL.gh j2 (bn H fun r4 k2 H=>me (ap (RI .u8) (.int .u8 0) 1 48 1 w1 h1.m i2 k2 vN) ?_)
 rintro v33 y m4 ⟨e3,x1,m2⟩
 refine va v33<|Rx<|RB (Q b7)<|vx (l1 cw ((mm m9) 0 _ rfl))<|va (.slice a4 a5 a6)<|wln<|W.block<|bn H fun u3 b0 X=>lp b0 (fun b=>Jn y fun c l=>∃v36 s v38,Own c G (es true (RI .u8) v36 5 s b.1::es false (RI .u8) v23 5 q ([h]:List Int)::F)/\l= [(0,v36),(5,v38)]/\OA (RI .u8) c v36 s b.1/\Sl aw c v38 b.2) (fun p ex e w=>ex= .exit 0/\(Jn y fun c l=>∃v39 t,Own c G (es true (RI .u8) v39 5 t p::es false (RI .u8) v23 5 q ([h]:List Int)::F)/\l= [(0,v39)]/\OA (RI .u8) c v39 t p) e w) ?_ ?_ ?_
 ·clear X b0
  intro b f3 A R H
  revert A R
  rintro e_ w_ ⟨e2,f4,_,rfl,n4,rfl,v36,s,v38,Z,rfl,d0,f⟩
  refine W.seq<|RB v38<|vx (ln 3 cw f)<|Rj ((b.2.length:Int)>0)<|RF H (fun n2 H=>?_) (fun n2 H=>?_)
  ·refine RG<|W.block<|RB v38<|bn H fun a o2 H=>cl (CN Z b.2 f o2) ?_
   rintro v56 d4 M ⟨z1,rfl⟩
   refine Ro a<|wln<|RB v38<|bn H fun i e0 H=>?_
   obtain ⟨s3,p2,b3⟩:=Sl.at (f.mono M) (aP e0)
   obtain ⟨o4,rfl,h4⟩:=p2
   refine vx (ix cw f.m e0)<|Rs (sb v38) (so v38+(0:Int).toNat*2)<|vx (l1 u_3 (b3 0 _ rfl))<|Rk (i.Kind != 0)<|wln<|RB v36<|Ro a<|Rt (2*a)<|Ri (i.Kind != 0)<|bn H fun n q2 H=>cl (px z1 (i.Kind != 0) 1 q2) ?_
   rintro p4 e4 h0 ⟨b2,rfl⟩
   refine Rt n<|Rt ((w64 (2*a))+(w64 n))<|bn H fun S s2 H=>cl (tU b.1 (w64 ((w64 (2*a))+(w64 n))) b2 d0.m s2) ?_
   rintro g z i0 ⟨_,P,c2,rfl,t2⟩
   refine va g<|Rx<|RB v38<|Ro a<|bn H fun T u2 H=>?_
   obtain ⟨k0,w2,D⟩:=A7 (k':= .i64) cw (by kernel_rfl) (f.mono (M.trans (h0.trans i0))) u2
   refine vr k0 (rx (by kernel_rfl) (w2 _))<|vx (ln 3 cw D)<|Ro 0<|wln<|W.block<|bn H fun v3 f0 o=>lp f0 (fun d=>Jn z fun c l=>Own c G (es true (RI .u8) g 5 P S::es false (RI .u8) v23 5 q ([h]:List Int)::F)/\l= [(0,g),(5,v38),(6,I a),(40,k0),(41,I (T.length:Int)),(42,I d)]) (fun i3 ex e w=>ex= .exit 2/\(Jn z fun c l=>Own c G (es true (RI .u8) g 5 P S::es false (RI .u8) v23 5 q ([h]:List Int)::F)/\l= [(0,g),(5,v38),(6,I a)]) e w) ?_ ?_ ?_
   ·clear o f0
    intro d f3 A R H
    revert A R
    rintro e_ w_ ⟨f2,g4,_,rfl,a3,rfl,a0,rfl⟩
    refine sr<|Rj (d<(T.length:Int))<|Rx<|cn H (fun x2 H=>?_) (fun x2 H=>?_)
    ·refine RG<|RM<|sr<|bn H fun U g0 H=>?_
     obtain ⟨t3,z2,d3⟩:=Sl.at (D.mono a3) (aP g0)
     obtain ⟨q4,rfl,E⟩:=z2
     refine vx (ix cw D.m g0)<|vx (lN 61 d3)<|me (al 61 [I 0,Y] a0) ?_
     rintro w3 l3 m1 ⟨a1,rfl,l0⟩
     obtain ⟨u0,v0,w0,rfl⟩:=((E.mono m1)).form
     refine md (sA 61 [I U.Kind,.slice u0 v0 w0] 0 l0 ⟨rfl,E.m.one,trivial⟩) ?_
     rintro b1 p3 x
     refine Rx<|sr<|Rs a1 1<|vx (le1 1 cD (x.on 0 rfl))<|vx (ln 3 cD E.m)<|Ri ((U.Text.length:Int)==0)<|RF H (fun f1 H=>?_) (fun f1 H=>?_)
     ·refine W.exit<|thx<|bke ?_
      have m0:=x.sD 3 [1,2]
      refine nrm<|W.region<|Rq (d+1)<|WL.nil ?_
      cases H
      exact ⟨_,rfl,jn b1 ⟨m0,rfl⟩⟩
     cases H
    refine W.exit<|thx ?_
    cases H
    exact ⟨_,rfl,rfl,jn f2 ⟨a0,rfl⟩⟩
   ·exact jn z ⟨c2,rfl⟩
   rintro _ e_ w_ ⟨rfl,c1,m3,_,rfl,n1,rfl,o0,rfl⟩
   refine RJ<|Rv v38<|Ro a<|bn o fun x3 g1 o=>?_
   obtain ⟨j,i1,j1⟩:=FG (k:= .i64) cw (by kernel_rfl) (f.mono (M.trans (h0.trans (i0.trans n1)))) g1
   refine vr j (rx (by kernel_rfl) (i1 _))<|va j<|WL.nil<|bkn ?_
   cases o
   exact ⟨_,rfl,jn c1 ⟨g,P,j,o0,rfl,t2.m,j1⟩⟩
  refine W.exit<|thx ?_
  cases H
  exact ⟨_,rfl,rfl,jn e2 ⟨v36,s,Z,rfl,d0⟩⟩
 ·have q0:=x1.sD 2 [1,0]
  exact jn y ⟨v33,e3,(.slice a4 a5 a6),q0,rfl,m2,h3.m⟩
 rintro _ e_ w_ ⟨rfl,d1,n3,_,rfl,q3,rfl,v39,t,s0,rfl,k1⟩
 refine RJ<|sr<|vv v39<|RD ?_
 cases X
 have t0:=s0.sD 2 [0]
 exact Rz d1 ⟨v39,t,t0,rfl,k1⟩
def um (p0:aH):Option ((List Int)×Er):=
 (kD p0).bind fun l=>
 if (!l)=true then
 none
 else
 (cm (σ:=(List Int)×Int) (τ:=(List Int)) (((([p0.Wide,p0.High,p0.At.Row,p0.At.Col]:List Int).length:Int)-0).toNat+1) (fun a=>
 if decide (a.2<(([p0.Wide,p0.High,p0.At.Row,p0.At.Col]:List Int).length:Int)) then
 (idx ([p0.Wide,p0.High,p0.At.Row,p0.At.Col]:List Int) a.2).bind fun e=>
 (nR a.1 e).bind fun f=>
 some (.inl (f,(w64 (a.2+1))))
 else
 some (.inr a.1)) (([76]:List Int),0)).bind fun c=>
 (mx p0.At.Pending 1).bind fun g=>
 (mx p0.Auto 2).bind fun h=>
 (app c ([(gW .u8 g h)]:List Int)).bind fun i=>
 (cm (σ:=(List Int)×Int) (τ:=(List Int)) (((p0.Lines.length:Int)-0).toNat+1) (fun b=>
 if decide (b.2<(p0.Lines.length:Int)) then
 (idx p0.Lines b.2).bind fun j=>
 (ss b.1 j).bind fun k=>
 some (.inl (k,(w64 (b.2+1))))
 else
 some (.inr b.1)) (i,0)).bind fun d=>
 some (d,Er.nil)
theorem CO (O0:Own c0 G F) (hG:Gl [0,2,3,4,7] c0) (a:aH){r:(List Int)×Er}(h2:Sl aN c0 v1 a.Lines) (H:um a=some r): RU 17 #[.agg #[I a.Wide,I a.High,v1,I a.At.Row,I a.At.Col,B a.At.Pending,B a.Auto]] c0 fun c v=>∃y1 y2 y3,Own c G (es true (RI .u8) y1 5 y2 r.1::F)/\v= .tuple #[y1,y3]/\OA (RI .u8) c y1 y2 r.1/\RE 352 80 c y3 r.2:=by
 unfold um at H;refine en func17 rfl rfl<|sr ?_;obtain ⟨a3,a4,a5,rfl⟩:=(h2).form;refine me (bx 31 [I a.Wide,I a.High,.slice a3 a4 a5,I a.At.Row,I a.At.Col,B a.At.Pending,B a.Auto] O0) ?_;rintro v10 c9 l9 ⟨i,rfl,O7,t⟩;refine va Y<|va (.nilIface)<|Rx<|sr<|vx (lN 31 t)<|bn H fun f4 u2 H=>cl (uc O7 (hG.m.le (by decide)) a h2.m u2) ?_;rintro v17 f5 l16 ⟨t1,rfl⟩;refine Ri (!f4)<|RF H (fun v2 H=>?_) (fun v2 H=>?_)
 ·cases H
 refine RG<|sr<|me (sl (RI .u8) 5 [[.int .u8 76]] ([76]:List Int) t1 ⟨rfl,trivial⟩) ?_;rintro v23 g5 m3 ⟨c4,u1,w2⟩;refine va v23<|Rx<|RB (Q i)<|vx (l1 u_3 ((mm t) 0 _ rfl))<|Rs i (0+1)<|vx (l1 u_3 ((mm t) 1 _ rfl))<|vv (Qo i (0+3))<|vx (l1 u_3 ((mm t) 3 _ rfl))<|Rs i (0+3)<|Rs i (0+4)<|vx (l1 u_3 ((mm t) 4 _ rfl))<|me (sl (RI .i64) 3 [[I a.Wide],[I a.High],[I a.At.Row],[I a.At.Col]] ([a.Wide,a.High,a.At.Row,a.At.Col]:List Int) u1 ⟨rfl,rfl,rfl,rfl,trivial⟩) ?_;rintro v28 X n3 ⟨D,w1,y⟩;refine vx (lnO 3 vM y)<|Ro 0<|wln<|W.block<|bn H fun x4 k0 b=>lp k0 (fun d=>Jn X fun c l=>∃v31 E,Own c G (es true (RI .u8) v31 5 E d.1::es true (RI .i64) v28 3 D ([a.Wide,a.High,a.At.Row,a.At.Col]:List Int)::F)/\l= [(1,Q i),(4,v31),(24,v28),(25,I (([a.Wide,a.High,a.At.Row,a.At.Col]:List Int).length:Int)),(26,I d.2)]/\OA (RI .u8) c v31 E d.1) (fun z ex e w=>ex= .exit 0/\(Jn X fun c l=>∃v33 g0,Own c G (es true (RI .u8) v33 5 g0 z::es true (RI .i64) v28 3 D ([a.Wide,a.High,a.At.Row,a.At.Col]:List Int)::F)/\l= [(1,Q i),(4,v33)]/\OA (RI .u8) c v33 g0 z) e w) ?_ ?_ ?_
 ·clear b k0;intro d g4 Z j0 H;revert Z j0;rintro e_ w_ ⟨m2,i5,_,rfl,o3,rfl,v31,E,R,rfl,l0⟩;refine sr<|Rj (d.2<(([a.Wide,a.High,a.At.Row,a.At.Col]:List Int).length:Int))<|Rx<|cn H (fun x2 H=>?_) (fun x2 H=>?_)
  ·refine RG<|RM<|sr<|bn H fun s f0 H=>vx (ixO vM y.m f0) ?_;obtain ⟨w4,z2,v3⟩:=OA.at (y.mono o3) f0;obtain rfl:=z2;refine vr (I s) (rx (by kernel_rfl) (sn u_3 rfl (R.on 1 rfl) (y.m.blk f0) (at1 (j:=0) v3 rfl)))<|Ro s<|wln<|Rv v31<|Ro s<|bn H fun c5 b3 H=>cl (tU d.1 s R l0 b3) ?_;rintro v49 n2 k5 ⟨_,d4,x1,rfl,c3⟩;refine va v49<|WL.nil<|RH<|W.region<|Rq (d.2+1)<|WL.nil ?_;cases H;exact ⟨_,rfl,jn n2 ⟨v49,d4,x1,rfl,c3⟩⟩
  refine W.exit<|thx ?_;cases H;exact ⟨_,rfl,rfl,jn m2 ⟨v31,E,R,rfl,l0⟩⟩
 ·have z1:=w1.sD 2 [1,0];exact jn X ⟨v23,c4,z1,rfl,w2.m⟩
 rintro _ e_ w_ ⟨rfl,h5,j5,_,rfl,p3,rfl,v33,g0,b2,rfl,d3⟩;refine RJ<|W.seq<|rD [] (Kp G0 []) b2 ?_;intro o2 q3 c2;have l5:Kp G0 [] o2:=Kp.nil0;refine ta 0 v33<|ta 1 (Qo i (0+3))<|ta 2 (Qo i (0+5))<|tx 3 (fun c' l3=>l1 u_4 ((mm t) 5 _ rfl))<|ta 5 (Qo i (0+6))<|tx 6 (fun c' l3=>l1 u_4 ((mm t) 6 _ rfl))<|bn b fun k e3 b=>o1 4 (gc 4 (px c2 a.At.Pending 1 e3) ?_);rintro m5 p2 s3 ⟨d2,rfl⟩;have w3:Kp G0 [] p2:=Kp.nil0;refine ⟨.inr w3,bn b fun n f3 b=>o1 7 (gc 7 (px d2 a.Auto 2 f3) ?_)⟩;rintro n5 q2 t3 ⟨e2,rfl⟩;have x3:Kp G0 [] q2:=Kp.nil0;refine ⟨.inr x3,ta 8 (.int .u8 (gW .u8 k n)) (o1 9 (gm 9 (sl (RI .u8) 5 [[.int .u8 (gW .u8 k n)]] ([(gW .u8 k n)]:List Int) e2 ⟨rfl,trivial⟩) ?_))⟩;rintro q0 s2 u3 ⟨o0,f2,g3⟩;have z3:Kp G0 [] s2:=Kp.nil0;refine ⟨.inr z3,?_⟩;obtain ⟨t2,i3,m0,g2,h3⟩:=f2.frz 0 rfl g3;have b4:Kp G0 [] t2:=Kp.nil0;refine AC.gh i3 m0 (fun _=>b4) (bn b fun d5 j3 b=>o1 10 (gm 10 (ap (RI .u8) (.int .u8 0) 1 48 1 g2 d3.m h3 j3 vN) ?_));rintro h0 o i1 ⟨e4,i2,k3⟩;have n1:Kp G0 [] o:=Kp.nil0;refine ⟨.inr n1,ta 11 h0 (dn (RQ<|sr<|Rs i (0+2)<|vx (l1 gb ((mm t) 2 _ rfl))<|vx (ln 3 gb h2.m)<|Ro 0<|wln<|W.block<|bn b fun y4 a0 M=>lp a0 (fun f=>Jn o fun c l=>∃h p,Own c G (es true (RI .u8) h 5 p f.1::es false (RI .u8) q0 5 o0 ([(gW .u8 k n)]:List Int)::es true (RI .i64) v28 3 D ([a.Wide,a.High,a.At.Row,a.At.Col]:List Int)::F)/\l= [(4,h),(46,.slice a3 a4 a5),(47,I (a.Lines.length:Int)),(48,I f.2)]/\OA (RI .u8) c h p f.1) (fun A ex e w=>ex= .exit 2/\(Jn o fun c l=>∃g q,Own c G (es true (RI .u8) g 5 q A::es false (RI .u8) q0 5 o0 ([(gW .u8 k n)]:List Int)::es true (RI .i64) v28 3 D ([a.Wide,a.High,a.At.Row,a.At.Col]:List Int)::F)/\l= [(4,g)]/\OA (RI .u8) c g q A) e w) ?_ ?_ ?_))⟩
 ·clear M a0;intro f g4 Z j0 b;revert Z j0;rintro e_ w_ ⟨z0,q4,_,rfl,j1,rfl,h,p,N,rfl,b0⟩;refine sr<|Rj (f.2<(a.Lines.length:Int))<|Rx<|cn b (fun d1 b=>?_) (fun d1 b=>?_)
  ·refine RG<|RM<|sr<|bn b fun x d0 b=>?_;obtain ⟨j4,e1,m1⟩:=Sl.at (h2.mono (l9.trans (l16.trans (m3.trans (n3.trans (p3.trans (q3.trans (s3.trans (t3.trans (u3.trans (m0.trans (i1.trans j1)))))))))))) (aP d0);obtain ⟨z4,rfl,u⟩:=e1;refine vx (ix gb h2.m d0)<|vx (lN 56 m1)<|me (al 56 [Y,B false] N) ?_;rintro b5 o4 k1 ⟨m4,rfl,s0⟩;obtain ⟨S,T,U,rfl⟩:=((u.mono k1)).form;refine md (sA 56 [.slice S T U,B x.Wrap] 0 s0 ⟨u.m.one,rfl,trivial⟩) ?_;rintro p4 s4 P;refine wln<|Rv h<|vx (leN 56 0 [.slice S T U,B x.Wrap] (P.on 0 rfl)) ?_;have t0:=P.sD 4 [1,0,2,3];refine bn b fun e5 f1 b=>cl (BR f.1 x t0 b0.m u.m f1) ?_;rintro i0 a1 t4 ⟨_,p1,u0,rfl,g1⟩;refine va i0<|WL.nil<|RH<|W.region<|Rq (f.2+1)<|WL.nil ?_;cases b;refine ⟨_,rfl,?_⟩;have v0:=u0.sD 4 [0,2,3];exact jn a1 ⟨i0,p1,v0,rfl,g1⟩
  refine W.exit<|thx ?_;cases b;exact ⟨_,rfl,rfl,jn z0 ⟨h,p,N,rfl,b0⟩⟩
 ·have w0:=i2.sD 3 [1,0,2];exact jn o ⟨h0,e4,w0,rfl,k3⟩
 rintro _ e_ w_ ⟨rfl,b1,r4,_,rfl,u4,rfl,g,q,x0,rfl,h1⟩;refine RJ<|sr<|vv g<|va (.nilIface)<|RD ?_;cases M;have y0:=x0.sD 3 [0];exact r2 (qq b1 ⟨g,q,.nilIface,y0,rfl,h1,rfl⟩)
def mf (sg:Sto) (p0:Option Nat):Option (Sto×(List ByteArray)×Bool):=
 (p0).bind fun d=>
 (sg.snap_reader[d]?).bind fun a=>
 (oC a.rest 10).bind fun c=>
 if decide (c<0) then
 none
 else
 (DK a.rest 0 c).bind fun e=>
 (DK a.rest (w64 (c+1)) (qA a.rest)).bind fun f=>
 (sg.set_snap_reader d (⟨f,a.n,a.v⟩:ck)).bind fun b=>
 (oz e (⟨#[32]⟩:ByteArray)).bind fun g=>
 some (b,g,true)
theorem un (o:Own c0 G F) (t:Rel c0 sg G) (hT:Et c0) (R:Option Nat){r:Sto×(List ByteArray)×Bool}(U:Pt 6 c0 v1 R) (H:mf sg R=some r): RU 63 #[v1] c0 fun c v=>∃T,∃G_:Gm,Own c G_ F/\Rel c r.1 G_/\v= .tuple #[T,B r.2.2]/\Sl RS c T r.2.1:=by
 unfold mf at H;refine en func63 rfl rfl<|RB Y<|Ri false<|wln<|RB v1<|bn H fun h0 X H=>?_;obtain ⟨b,rfl,P⟩:=(U).get X;refine vv (Q b)<|bn H fun a Z H=>?_;obtain ⟨v7,S,g,h9⟩:=Rel.open_snap_reader t Z P;refine vx (le1 0 u_9 (o.gon g 0 rfl))<|bn H fun d y H=>cl (tD o a.rest 10 y) ?_;rintro v17 e0 l16 ⟨h,rfl⟩;refine Ro d<|Rx<|RA d<|Rj (d<0)<|RF H (fun z H=>?_) (fun z H=>?_)
 ·cases H
 refine RG<|sr<|vv (Q b)<|va (Q b)<|vx (le1 0 u_9 (h.gon g 0 rfl))<|Ro d<|bn H fun e A H=>vr (.string e) (rx (by kernel_rfl) (DW (k':= .i64) u_9 A _))<|va (.string e)<|RO<|vv (Q b)<|vv (Q b)<|vx (le1 0 u_9 (h.gon g 0 rfl))<|Ro d<|Rt (d+1)<|bn H fun f D H=>vr (.string f) (rx (by kernel_rfl) (DV (k:= .i64) u_9 D _))<|vv (Q b)<|md (gC 9 0 (.string f) [.string f,I a.n,I a.v.Wide,I a.v.High,v7,I a.v.At.Row,I a.v.At.Col,B a.v.At.Pending,B a.v.Auto] 0 h g ⟨rfl,trivial⟩) ?_;rintro f0 i p;refine bn H fun j E H=>?_;obtain ⟨l,q,u,g0,d0⟩:=Rel.put_snap_reader p (t.mono (l16.trans i)) (E':=[(Eb b 78 [.string f,I a.n,I a.v.Wide,I a.v.High,v7,I a.v.At.Row,I a.v.At.Col,B a.v.At.Pending,B a.v.Auto]),es false aN v7 56 S a.v.Lines]) E ⟨b,v7,S,(tm P),rfl,(h9.mono (l16.trans i))⟩;refine wln<|RB (.string e)<|bn H fun b0 M H=>cl (wU q hT.m e (⟨#[32]⟩:ByteArray) M) ?_;rintro v30 x i0 ⟨_,s,rfl,N⟩;refine va v30<|Ri true<|RD ?_;cases H;exact r2 (qq x ⟨v30,l,s,u.m,rfl,N⟩)
def kI (sg:Sto) (p0:ByteArray) (d:Nat):Option (Sto×Bool):=
 (sg.api_Line[d]?).bind fun c=>
 (sg.set_api_Line d (⟨c.Cells,eqS p0 (⟨#[43]⟩:ByteArray)⟩:ah)).bind fun a=>
 (orE (eqS p0 (⟨#[43]⟩:ByteArray)) (some (eqS p0 (⟨#[45]⟩:ByteArray)))).bind fun b=>
 some (a,b)
theorem rd {b:Nat}(D:Own c0 G F) (n:Rel c0 sg G) (a:ByteArray) (y:Nat){r:Sto×Bool}(q:c0.t 7 y=some b) (H:kI sg a y=some r): RU 110 #[.string a,Q b] c0 fun c v=>∃G_:Gm,Own c G_ F/\Rel c r.1 G_/\v=B r.2:=by
 unfold kI at H;refine en func110 rfl rfl<|Ru false<|wln<|RB (.string a)<|vr (B (eqS a (⟨#[43]⟩:ByteArray))) (pq (by kernel_rfl))<|Rs b 1<|bn H fun x M H=>?_;obtain ⟨v3,A,P,N⟩:=Rel.open_api_Line n M q;refine md (gC 4 1 (B (eqS a (⟨#[43]⟩:ByteArray))) [v3,B (eqS a (⟨#[43]⟩:ByteArray))] 0 D P ⟨rfl,trivial⟩) ?_;rintro g u E;refine bn H fun z s H=>?_;obtain ⟨i,e,o,T,R⟩:=Rel.put_api_Line E (n.mono u) (E':=[(Eb b 56 [v3,B (eqS a (⟨#[43]⟩:ByteArray))]),es false aw v3 61 A x.Cells]) s ⟨b,v3,A,(tm q),rfl,(N.mono u)⟩;refine Rx<|bn H fun h f H=>W.join (Jn g fun c l=>Own c i F/\l= [(3,B h)]) ?_ ?_
 ·clear H;refine Rv (.string a)<|vr (B (eqS a (⟨#[43]⟩:ByteArray))) (pq (by kernel_rfl)) ?_;rcases bo (eqS a (⟨#[43]⟩:ByteArray)) with d|d
  ·obtain rfl:=orT d f;exact vb d<|pz<|Rk true<|Ry g ⟨e,rfl⟩
  have j:=orF d f;refine vb d<|wa (.string a)<|wn<|vr (B (eqS a (⟨#[45]⟩:ByteArray))) (pq (by kernel_rfl)) ?_;cases j;exact Rk (eqS a (⟨#[45]⟩:ByteArray))<|Ry g ⟨e,rfl⟩
 rintro X Z ⟨p,S,_,rfl,U,rfl,k,rfl⟩;refine nrm<|W.ret ?_;cases H;exact Rz p ⟨i,k,o.m,rfl⟩
def cK (sg:Sto) (p0:aD) (p1_0:Nat):Option (Sto×aD):=
 if p0.bad then
 none
 else
 (if decide (p0.at_>=(p0.words.length:Int)) then some (true,sg) else (idx p0.words p0.at_).bind fun c=>
 (kI sg c p1_0).bind fun b=>
 some (!b.2,b.1)).bind fun a=>
 if a.1 then
 none
 else
 some (a.2,(⟨p0.words,(w64 (p0.at_+1)),p0.bad⟩:aD))
theorem gO {a:Nat}{b1_0:Nat}(b:aD) (p1_0:Nat) (A:Own c0 G ((Eb a 131 [v1,I b.at_,B b.bad])::F)) (E:Rel c0 sg G){r:Sto×aD}(k:Sl RS c0 v1 b.words) (h3:c0.t 7 p1_0=some b1_0) (H:cK sg b p1_0=some r): RU 109 #[Q a,.func (.func 110) #[] #[Q b1_0]] c0 fun c v=>∃y1,∃G_:Gm,Own c G_ ((Eb a 131 [y1,I r.2.at_,B r.2.bad])::F)/\Rel c r.1 G_/\v= .tuple #[]/\Sl RS c y1 r.2.words:=by
 unfold cK at H;refine en func109 rfl rfl<|W.seq<|sr<|vv (Q a)<|Rs a 2<|vx (le1 2 u_4 (A.on 0 rfl))<|RF H (fun h4 H=>?_) (fun h4 H=>?_)
 ·cases H
 refine RG<|W.seq<|W.seq<|bn H fun h X H=>W.join (Jn c0 fun c l=>∃G_,Own c G_ ((Eb a 131 [v1,I b.at_,B b.bad])::F)/\l= [(0,Q a),(32,B h.1)]/\Rel c h.2 G_) ?_ ?_
 ·clear H;refine rD [] (Kp G0 [(Eb a 131 [v1,I b.at_,B b.bad])]) A ?_;intro R l6 u;have n:=(Kp.cons (u.on 0 rfl) Kp.nil0);refine ta 0 (Q a)<|ta 1 (Q a)<|ta 2 (Qo a 1)<|tkx 3 n (fun f d g=>le1 1 u_3 (g.on 0 rfl)) (ta 4 (Q a)<|ta 5 (Q a)<|ta 6 (Q a)<|tkx 7 n (fun f d g=>le1 0 ki (g.on 0 rfl)) (tx 8 (fun f d=>ln 3 ki k.m)<|ta 9 (B (decide (b.at_>=(b.words.length:Int)))) ?_));rcases bo (decide (b.at_>=(b.words.length:Int))) with i|i
  ·obtain rfl:=aL (it i X);exact AC.takeb 10 i rfl (by kernel_rfl) (by kernel_rfl) (fun f d=>(by kernel_rfl)) (tp 11<|tp 12<|tp 13<|tp 14<|tp 15<|tp 16<|tp 17<|tp 18<|tp 19<|tp 20<|tp 21<|tp 22<|tp 23<|ta 24 (B true)<|dn (nrm<|jn R ⟨G,u,rfl,E.m⟩))
  have e:=ie i X;refine bn e fun x s e=>bn e fun j S e=>AC.takeb 10 i rfl (by kernel_rfl) (by kernel_rfl) (fun f d=>(by kernel_rfl)) (ta 11 (.func (.func 110) #[] #[Q b1_0])<|ta 12 (Q a)<|ta 13 (Q a)<|ta 14 (Q a)<|tkx 15 n (fun f d g=>le1 0 ki (g.on 0 rfl)) (ta 16 (Q a)<|ta 17 (Q a)<|ta 18 (Qo a 1)<|tkx 19 n (fun f d g=>le1 1 u_3 (g.on 0 rfl)) ?_));obtain ⟨g0,T,Z⟩:=Sl.at (k.mono l6) (aP s);obtain rfl:=T;refine tx 20 (fun f d=>ix ki k.m s)<|tx 21 (fun f d=>l1 u_9 ((mm Z) 0 _ rfl))<|o1 22 (gc 22 (rd u E.m x p1_0 (tm h3) S) ?_);rintro v21 q j0 ⟨y,o,M,rfl⟩;have a0:=(Kp.cons (o.on 0 rfl) Kp.nil0);refine ⟨.inr a0,ta 23 (B (!j.2)) ?_⟩;cases e;exact ta 24 (B (!j.2))<|dn (nrm<|jn q ⟨y,o,rfl,M⟩)
 rintro e_ w_ ⟨h0,i0,_,rfl,k0,rfl,z,p,rfl,N⟩;refine nrm<|cn H (fun U H=>?_) (fun U H=>?_)
 ·cases H
 refine RG<|W.region<|vv (Q a)<|Rs a 1<|vx (le1 1 u_3 (p.on 0 rfl))<|Rt (b.at_+1)<|va (Q a)<|Rs a 1<|md (sC 3 1 (I (w64 (b.at_+1))) [v1,I (w64 (b.at_+1)),B b.bad] 0 p ⟨rfl,trivial⟩) ?_;rintro P l0 D;refine WL.nil ?_;cases H;exact RN P ⟨v1,z,D,N.m,rfl,k.m⟩
def wb (p0:ByteArray):Option (aa×Bool):=
 if (eqS p0 (⟨#[46]⟩:ByteArray))=true then
 some ((⟨0,([]:List Int)⟩:aa),true)
 else
 none
theorem EP (i:Own c0 G F) (a:ByteArray){r:aa×Bool}(H:wb a=some r):
   RU 112 #[.string a] c0 fun c v=>∃d h,Own c G (es true (RI .i32) d 21 h r.1.Text::F)/\v= .tuple #[.agg #[I r.1.Kind,d],B r.2]/\OA (RI .i32) c d h r.1.Text:=by
 unfold wb at H
 refine en func112 rfl rfl<|sr<|me (al 61 [I 0,Y] i) ?_
 rintro v4 o p ⟨n,rfl,j⟩
 refine Ri false<|Rx<|W.block<|RB (.string a)<|vr (B (eqS a (⟨#[46]⟩:ByteArray))) (pq (by kernel_rfl))<|Ri (eqS a (⟨#[46]⟩:ByteArray))<|RF H (fun l H=>?_) (fun l H=>?_)
 ·refine RB (.agg #[I 0,Y])<|md (sA 61 [I 0,Y] 0 j ⟨rfl,rfl,trivial⟩) ?_
  rintro b q k
  refine Ri true<|RD<|RK ?_
  cases H
  have m:OA (RI .i32) b Y [] []:=OA.nil (ba _)
  have g:=k.addHole (e:=es true (RI .i32) Y 21 [] ([]:List Int)) rfl
  have f:=g.sD 2 [0]
  exact xA (c:=b) (vs:=[I 0,Y]) (v:=B true) rfl (by kernel_rfl) (by kernel_rfl) (by kernel_rfl) (by kernel_rfl) (g.on 1 rfl _ rfl).1 ⟨_,b,rfl,rfl,pt,(Y),[],f,rfl,m⟩
 cases H
def kH (sg:Sto) (p0:ByteArray) (e:Nat):Option (Sto×Bool):=
 (wb p0).bind fun c=>
 (sg.api_Line[e]?).bind fun b=>
 (app b.Cells ([c.1]:List aa)).bind fun d=>
 (sg.set_api_Line e (⟨d,b.Wrap⟩:ah)).bind fun a=>
 some (a,c.2)
theorem ra {f:Nat}(O0:Own c0 G F) (R0:Rel c0 sg G) (s:ByteArray) (q0:Nat){r:Sto×Bool}(h1:c0.t 7 q0=some f) (H:kH sg s q0=some r): RU 111 #[.string s,Q f] c0 fun c v=>∃G_:Gm,Own c G_ F/\Rel c r.1 G_/\v=B r.2:=by
 unfold kH at H;refine en func111 rfl rfl<|Ru false<|wln<|RB (.string s)<|bn H fun a h2 H=>cl (EP O0 s h2) ?_;rintro v11 d1 o ⟨v3,u4,O7,rfl,E⟩;refine va (.tuple #[.agg #[I a.1.Kind,v3],B a.2])<|va (.agg #[I a.1.Kind,v3])<|Ri a.2<|me (al 61 [I 0,Y] O7) ?_;rintro v15 e1 g ⟨c1,rfl,R⟩;obtain ⟨a16,h,i,rfl⟩:=((E.mono g)).form;refine md (sA 61 [I a.1.Kind,.slice a16 h i] 0 R ⟨rfl,E.m.one,trivial⟩) ?_;rintro f1 k l;refine Ri a.2<|wln<|RB (Q f)<|bn H fun q k0 H=>?_;obtain ⟨v22,n1,u,l0⟩:=Rel.open_api_Line (R0.mono (o.trans (g.trans k))) k0 (tm h1);refine vx (le1 0 cw (l.gon u 0 rfl))<|vx (leN 61 0 [I a.1.Kind,.slice a16 h i] (l.on 0 rfl)) ?_;obtain ⟨g1,o0,x,S,m0⟩:=l.frz 1 rfl (E.mono (g.trans k));refine WL.gh o0 (me (sl aw 61 [[I a.1.Kind,.slice a16 h i]] ([a.1]:List aa) S ⟨⟨(.slice a16 h i),rfl,m0⟩,trivial⟩) ?_);rintro v34 i1 y ⟨p1,U,s0⟩;obtain ⟨j1,u0,z,X,t0⟩:=U.frz 0 rfl s0;refine WL.gh u0 (bn H fun M v0 H=>?_);have Z:=X.borrow 1 u rfl;refine me (ap aw (.agg #[I 0,Y]) 32 54 0 Z l0.m t0 v0 cw) ?_;rintro v45 k1 A ⟨D,a0,n⟩;have b0:=a0.giveB 1 rfl;refine va (Q f) ?_;obtain ⟨b,d,e,rfl⟩:=(n).form;refine md (Own.stGB (T:=54) (j:=0) (us:=[.slice b d e]) (nw:=[.slice b d e,B q.Wrap]) (v:= .slice b d e) 0 b0 (by kernel_rfl) rfl rfl rfl rfl (by kernel_rfl) ⟨(n).one,trivial⟩ (by kernel_rfl) rfl) ?_;rintro i0 p d0;refine bn H fun N w0 H=>?_;obtain ⟨P,e0,h0,m1,b1⟩:=Rel.put_api_Line d0 (R0.mono (o.trans (g.trans (k.trans (x.trans (y.trans (z.trans (A.trans p)))))))) (E':=[(Eb f 56 [.slice b d e,B q.Wrap]),es false aw (.slice b d e) 61 D M]) w0 ⟨f,(.slice b d e),D,((o.trans (g.trans (k.trans (x.trans (y.trans (z.trans (A.trans p))))))).t _ _ _ h1),rfl,(n.mono p)⟩;refine RO<|Rk a.2<|RD ?_;cases H;have f0:=e0.sD 3 [];exact Rz i0 ⟨P,f0,h0,rfl⟩
def cJ (sg:Sto) (p0:aD) (p1_0:Nat):Option (Sto×aD):=
 if p0.bad then
 none
 else
 (if decide (p0.at_>=(p0.words.length:Int)) then some (true,sg) else (idx p0.words p0.at_).bind fun c=>
 (kH sg c p1_0).bind fun b=>
 some (!b.2,b.1)).bind fun a=>
 if a.1 then
 none
 else
 some (a.2,(⟨p0.words,(w64 (p0.at_+1)),p0.bad⟩:aD))
theorem gN {a:Nat}{b1_0:Nat}(b:aD) (p1_0:Nat) (A:Own c0 G ((Eb a 131 [v1,I b.at_,B b.bad])::F)) (E:Rel c0 sg G){r:Sto×aD}(k:Sl RS c0 v1 b.words) (h3:c0.t 7 p1_0=some b1_0) (H:cJ sg b p1_0=some r): RU 109 #[Q a,.func (.func 111) #[] #[Q b1_0]] c0 fun c v=>∃y1,∃G_:Gm,Own c G_ ((Eb a 131 [y1,I r.2.at_,B r.2.bad])::F)/\Rel c r.1 G_/\v= .tuple #[]/\Sl RS c y1 r.2.words:=by
 unfold cJ at H;refine en func109 rfl rfl<|W.seq<|sr<|vv (Q a)<|Rs a 2<|vx (le1 2 u_4 (A.on 0 rfl))<|RF H (fun h4 H=>?_) (fun h4 H=>?_)
 ·cases H
 refine RG<|W.seq<|W.seq<|bn H fun h X H=>W.join (Jn c0 fun c l=>∃G_,Own c G_ ((Eb a 131 [v1,I b.at_,B b.bad])::F)/\l= [(0,Q a),(32,B h.1)]/\Rel c h.2 G_) ?_ ?_
 ·clear H;refine rD [] (Kp G0 [(Eb a 131 [v1,I b.at_,B b.bad])]) A ?_;intro R l6 u;have n:=(Kp.cons (u.on 0 rfl) Kp.nil0);refine ta 0 (Q a)<|ta 1 (Q a)<|ta 2 (Qo a 1)<|tkx 3 n (fun f d g=>le1 1 u_3 (g.on 0 rfl)) (ta 4 (Q a)<|ta 5 (Q a)<|ta 6 (Q a)<|tkx 7 n (fun f d g=>le1 0 ki (g.on 0 rfl)) (tx 8 (fun f d=>ln 3 ki k.m)<|ta 9 (B (decide (b.at_>=(b.words.length:Int)))) ?_));rcases bo (decide (b.at_>=(b.words.length:Int))) with i|i
  ·obtain rfl:=aL (it i X);exact AC.takeb 10 i rfl (by kernel_rfl) (by kernel_rfl) (fun f d=>(by kernel_rfl)) (tp 11<|tp 12<|tp 13<|tp 14<|tp 15<|tp 16<|tp 17<|tp 18<|tp 19<|tp 20<|tp 21<|tp 22<|tp 23<|ta 24 (B true)<|dn (nrm<|jn R ⟨G,u,rfl,E.m⟩))
  have e:=ie i X;refine bn e fun x s e=>bn e fun j S e=>AC.takeb 10 i rfl (by kernel_rfl) (by kernel_rfl) (fun f d=>(by kernel_rfl)) (ta 11 (.func (.func 111) #[] #[Q b1_0])<|ta 12 (Q a)<|ta 13 (Q a)<|ta 14 (Q a)<|tkx 15 n (fun f d g=>le1 0 ki (g.on 0 rfl)) (ta 16 (Q a)<|ta 17 (Q a)<|ta 18 (Qo a 1)<|tkx 19 n (fun f d g=>le1 1 u_3 (g.on 0 rfl)) ?_));obtain ⟨g0,T,Z⟩:=Sl.at (k.mono l6) (aP s);obtain rfl:=T;refine tx 20 (fun f d=>ix ki k.m s)<|tx 21 (fun f d=>l1 u_9 ((mm Z) 0 _ rfl))<|o1 22 (gc 22 (ra u E.m x p1_0 (tm h3) S) ?_);rintro v21 q j0 ⟨y,o,M,rfl⟩;have a0:=(Kp.cons (o.on 0 rfl) Kp.nil0);refine ⟨.inr a0,ta 23 (B (!j.2)) ?_⟩;cases e;exact ta 24 (B (!j.2))<|dn (nrm<|jn q ⟨y,o,rfl,M⟩)
 rintro e_ w_ ⟨h0,i0,_,rfl,k0,rfl,z,p,rfl,N⟩;refine nrm<|cn H (fun U H=>?_) (fun U H=>?_)
 ·cases H
 refine RG<|W.region<|vv (Q a)<|Rs a 1<|vx (le1 1 u_3 (p.on 0 rfl))<|Rt (b.at_+1)<|va (Q a)<|Rs a 1<|md (sC 3 1 (I (w64 (b.at_+1))) [v1,I (w64 (b.at_+1)),B b.bad] 0 p ⟨rfl,trivial⟩) ?_;rintro P l0 D;refine WL.nil ?_;cases H;exact RN P ⟨v1,z,D,N.m,rfl,k.m⟩
def ep (p0:aD):Option Er:=
 (orE p0.bad (some (decide (p0.at_<(p0.words.length:Int))))).bind fun a=>
 if a then
 none
 else
 some Er.nil
theorem jR {a:Nat}(b:aD) (t:Own c0 G ((Eb a 131 [v1,I b.at_,B b.bad])::F)){r:Er}(x:Sl RS c0 v1 b.words) (H:ep b=some r): RU 113 #[Q a] c0 fun c v=>∃q,Own c G ((Eb a 131 [v1,I b.at_,B b.bad])::F)/\v=q/\RE 352 80 c q r:=by
 unfold ep at H;refine en func113 rfl rfl<|RB (.nilIface)<|Rx<|W.seq<|bn H fun n p H=>W.join (Jn c0 fun c l=>Own c G ((Eb a 131 [v1,I b.at_,B b.bad])::F)/\l= [(0,Q a),(18,B n)]) ?_ ?_
 ·clear H;refine rD [] (Kp G0 [(Eb a 131 [v1,I b.at_,B b.bad])]) t ?_;intro i A h;have j:=(Kp.cons (h.on 0 rfl) Kp.nil0);refine ta 0 (Q a)<|ta 1 (Q a)<|ta 2 (Qo a 2)<|tkx 3 j (fun e d g=>le1 2 u_4 (g.on 0 rfl)) ?_;rcases bo b.bad with f|f
  ·obtain rfl:=orT f p;exact AC.takeb 4 f rfl (by kernel_rfl) (by kernel_rfl) (fun e d=>(by kernel_rfl)) (tp 5<|tp 6<|tp 7<|tp 8<|tp 9<|tp 10<|tp 11<|tp 12<|tp 13<|tp 14<|ta 15 (B true)<|dn (nrm<|jn i ⟨h,rfl⟩))
  have s:=orF f p;refine AC.takeb 4 f rfl (by kernel_rfl) (by kernel_rfl) (fun e d=>(by kernel_rfl)) (ta 5 (Q a)<|ta 6 (Q a)<|ta 7 (Qo a 1)<|tkx 8 j (fun e d g=>le1 1 u_3 (g.on 0 rfl)) (ta 9 (Q a)<|ta 10 (Q a)<|ta 11 (Q a)<|tkx 12 j (fun e d g=>le1 0 ki (g.on 0 rfl)) (tx 13 (fun e d=>ln 3 ki x.m)<|ta 14 (B (decide (b.at_<(b.words.length:Int)))) ?_)));cases s;exact ta 15 (B (decide (b.at_<(b.words.length:Int))))<|dn (nrm<|jn i ⟨h,rfl⟩)
 rintro z E ⟨u,y,_,rfl,D,rfl,k,rfl⟩;refine nrm<|cn H (fun o H=>?_) (fun o H=>?_)
 ·cases H
 refine RG<|RB (.nilIface)<|RD ?_;cases H;exact Rz u ⟨.nilIface,k,rfl,rfl⟩
def fa (sg:Sto) (p0:Option Nat) (p1:aD):Option (Sto×aD×Er):=
 (some (sg.add_api_Line (⟨([]:List aa),false⟩:ah))).bind fun j=>
 (cK j p1 sg.api_Line.length).bind fun e=>
 (p0).bind fun f=>
 (e.1.snap_reader[f]?).bind fun h=>
 (cm (σ:=Int×(List ByteArray)×Int×Bool×Sto) (τ:=((List ByteArray)×Int×Bool×Sto)) ((h.v.Wide-0).toNat+1) (fun a=>
 if decide (a.1<h.v.Wide) then
 (cJ a.2.2.2.2 (⟨a.2.1,a.2.2.1,a.2.2.2.1⟩:aD) sg.api_Line.length).bind fun d=>
 some (.inl ((w64 (a.1+1)),d.2.words,d.2.at_,d.2.bad,d.1))
 else
 some (.inr (a.2.1,a.2.2.1,a.2.2.2.1,a.2.2.2.2))) (0,e.2.words,e.2.at_,e.2.bad,e.1)).bind fun b=>
 (ep (⟨b.1,b.2.1,b.2.2.1⟩:aD)).bind fun k=>
 if (!k.isNil)=true then
 none
 else
 (b.2.2.2.api_Line[sg.api_Line.length]?).bind fun i=>
 (jm i.Cells).bind fun l=>
 if (!l)=true then
 none
 else
 (b.2.2.2.snap_reader[f]?).bind fun c=>
 (app c.v.Lines ([i]:List ah)).bind fun m=>
 (b.2.2.2.set_snap_reader f (⟨c.rest,c.n,(⟨c.v.Wide,c.v.High,m,c.v.At,c.v.Auto⟩:aH)⟩:ck)).bind fun g=>
 some (g,(⟨b.1,b.2.1,b.2.2.1⟩:aD),Er.nil)
theorem mH {h:Nat}(p0:Option Nat) (P:aD) (O0:Own c0 G ((Eb h 131 [v3,I P.at_,B P.bad])::F)) (R0:Rel c0 sg G){r:Sto×aD×Er}(h2:Pt 6 c0 v1 p0) (h4:Sl RS c0 v3 P.words) (H:fa sg p0 P=some r): RU 64 #[v1,Q h] c0 fun c v=>∃y1 y2,∃G_:Gm,Own c G_ ((Eb h 131 [y2,I r.2.1.at_,B r.2.1.bad])::F)/\Rel c r.1 G_/\v=y1/\RE 352 80 c y1 r.2.2/\Sl RS c y2 r.2.1.words:=by
 unfold fa at H;refine en func64 rfl rfl<|RB (.nilIface)<|RO ?_;have h6:OA aw c0 Y [] []:=OA.nil (ba _);have O5:=O0.addHole (e:=es false aw Y 61 [] ([]:List aa)) rfl;refine me (al 56 [(Y),B false] O5) ?_;rintro v10 c9 l9 ⟨q,rfl,O8⟩;have u2:=O8.sD 3 [0,1,2];refine bn H fun f4 i3 H=>?_;obtain ⟨e3,i5,j3,f1,S,v2,a1,u5,v5,j5⟩:=Rel.new_api_Line (E:=[(Eb q 56 [(Y),B false]),es false aw Y 61 [] ([]:List aa)]) (F:=(Eb h 131 [v3,I P.at_,B P.bad])::F) (x:=(⟨([]:List aa),false⟩:ah)) (b:=q) u2 (R0.mono l9) (fun c_ hle_=>⟨q,(Y),[],rfl,rfl,((h6.mono l9).mono hle_)⟩);rw [aL i3] at a1;refine WL.gh j3.1 ?_;have w5:Pt 7 e3 (Q q) (some sg.api_Line.length):=⟨q,rfl,S⟩;refine wln<|RB (Q h)<|va (.func (.func 110) #[] #[Q q]) ?_;obtain ⟨k5,l5,m5,rfl⟩:=((h4.mono (l9.trans f1))).form;refine bn H fun d6 k3 H=>cl (gO P sg.api_Line.length v2 a1 h4.m S k3) ?_;rintro v36 h0 c4 ⟨v29,q2,y0,b1,rfl,l3⟩;refine Rx<|RB v1<|bn H fun z4 m3 H=>?_;obtain ⟨g,rfl,m0⟩:=((h2.mono (l9.trans (f1.trans c4)))).get m3;refine va (Q g)<|vv (Qo g 2)<|bn H fun u0 o3 H=>?_;obtain ⟨v41,a6,p3,x5⟩:=Rel.open_snap_reader b1 o3 m0;refine vx (le1 2 u_3 (y0.gon p3 0 rfl))<|Ro 0<|wln<|W.block<|bn H fun N d1 a=>lp d1 (fun f=>Jn h0 fun c l=>∃v47 G_,Own c G_ ((Eb h 131 [v47,I f.2.2.1,B f.2.2.2.1])::F)/\l= [(0,Q g),(1,Q h),(5,Q q),(14,I u0.v.Wide),(15,I f.1)]/\Rel c f.2.2.2.2 G_/\Sl RS c v47 f.2.1) (fun p ex e w=>ex= .exit 0/\(Jn h0 fun c l=>∃v48 G_,Own c G_ ((Eb h 131 [v48,I p.2.1,B p.2.2.1])::F)/\l= [(0,Q g),(1,Q h),(5,Q q)]/\Rel c p.2.2.2 G_/\Sl RS c v48 p.1) e w) ?_ ?_ ?_
 ·clear a d1;intro f e6 h3 j4 H;revert h3 j4;rintro e_ w_ ⟨f3,s5,_,rfl,y5,rfl,v47,s2,z0,rfl,c1,o0⟩;refine sr<|Rj (f.1<u0.v.Wide)<|Rx<|cn H (fun q3 H=>?_) (fun q3 H=>?_)
  ·refine RG<|RM<|Rv (Q h)<|va (.func (.func 111) #[] #[Q q]) ?_;obtain ⟨n5,o5,p5,rfl⟩:=(o0).form;refine bn H fun h5 s3 H=>cl (gN (⟨f.2.1,f.2.2.1,f.2.2.2.1⟩:aD) sg.api_Line.length z0 c1 o0 (tm S) s3) ?_;rintro c6 g3 z5 ⟨g4,t2,w2,a3,rfl,t3⟩;refine WL.nil<|RH<|W.region<|Rq (f.1+1)<|WL.nil ?_;cases H;exact ⟨_,rfl,jn g3 ⟨g4,t2,w2,rfl,a3,t3⟩⟩
  refine W.exit<|thx ?_;cases H;exact ⟨_,rfl,rfl,jn f3 ⟨v47,s2,z0,rfl,c1,o0⟩⟩
 ·exact jn h0 ⟨v29,q2,y0,rfl,b1,l3⟩
 rintro _ e_ w_ ⟨rfl,q5,t5,_,rfl,d4,rfl,v48,R,x2,rfl,d0,q0⟩;refine RJ<|W.seq<|RB (Q h) ?_;obtain ⟨b3,c3,d3,rfl⟩:=(q0).form;refine bn a fun m2 u3 a=>cl (jR (⟨N.1,N.2.1,N.2.2.1⟩:aD) x2 q0 u3) ?_;rintro g1 r5 X ⟨_,b0,rfl,w3⟩;refine va g1<|wln<|RB g1<|vr (B (!m2.isNil)) (by rcases (w3).cs with ⟨k0,l0⟩|⟨b_,k0,l0⟩|⟨b_,k0,l0⟩ <;> (subst k0; rw [l0]; kernel_rfl))<|RF a (fun x3 a=>?_) (fun x3 a=>?_)
 ·cases a
 refine RG<|W.seq<|RB (Q q)<|bn a fun y y3 a=>?_;obtain ⟨i4,b6,U,e1⟩:=Rel.open_api_Line (d0.mono X) y3 (tm S);refine vx (le1 0 cw (b0.gon U 0 rfl)) ?_;have z3:=e1.sl (b0.gon U 1 rfl);refine bn a fun n2 a4 a=>cl (oM b0 y.Cells z3 a4) ?_;rintro c5 t4 s ⟨z2,rfl⟩;refine Ri (!n2)<|RF a (fun z1 a=>?_) (fun z1 a=>?_)
 ·cases a
 refine RG<|W.seq<|rD [8,12] (Kp R []) z2 ?_;intro t1 u z;have v0:=(Kp.nil z);refine ta 0 (Q g)<|ta 1 (Q g)<|ta 2 (Q g)<|ta 3 (Qo g 2)<|ta 4 (Qo g 4)<|bn a fun d b2 a=>?_;obtain ⟨d5,a5,i0,c2⟩:=Rel.open_snap_reader (d0.mono (X.trans (s.trans u))) b2 (tm m0);refine tkx 5 v0 (fun c' b4 hk=>le1 4 gb (hk.gon i0 0 rfl)) (tkx 6 v0 (fun c' b4 hk=>leN 56 0 [i4,B y.Wrap] (hk.gon U 0 rfl)) ?_);have j0:=(e1.mono (s.trans u)).sl (z.gon U 1 rfl);obtain ⟨e0,f0,g0,rfl⟩:=(j0).form;refine o1 7 (gm 7 (sl aN 56 [[.slice e0 f0 g0,B y.Wrap]] ([y]:List ah) z ⟨⟨(.slice e0 f0 g0),rfl,j0⟩,trivial⟩) ?_);rintro e5 u1 s0 ⟨b5,Z,d2⟩;have k2:=(Kp.nil Z);refine ⟨.inr k2,?_⟩;obtain ⟨w1,f2,D,a0,e2⟩:=Z.frz 0 rfl d2;have l2:=(Kp.nil a0);refine AC.gh f2 D (fun _=>l2) (bn a fun o2 g2 a=>?_);have i1:=a0.borrow 1 i0 rfl;refine o1 8 (gm 8 (ap aN (.agg #[Y,B false]) 32 27 0 i1 c2.m e2 g2 gb) ?_);rintro f5 u4 t0 ⟨w0,j1,A⟩;have k1:=j1.giveB 1 rfl;refine ⟨.inl rfl,ta 9 (Q g) (ta 10 (Qo g 2)<|ta 11 (Qo g 4) ?_)⟩;obtain ⟨i,k,o,rfl⟩:=(A).form;refine o1 12 (gD 12 (Own.stGB (T:=27) (j:=4) (us:=[.slice i k o]) (nw:=[.string d.rest,I d.n,I d.v.Wide,I d.v.High,.slice i k o,I d.v.At.Row,I d.v.At.Col,B d.v.At.Pending,B d.v.Auto]) (v:= .slice i k o) 0 k1 (by kernel_rfl) rfl rfl rfl rfl (by kernel_rfl) ⟨(A).one,trivial⟩ (by kernel_rfl) rfl) ?_);rintro x1 M m1;refine bn a fun p2 i2 a=>?_;obtain ⟨h1,n1,s1,w4,q4⟩:=Rel.put_snap_reader m1 (d0.mono (X.trans (s.trans (u.trans (s0.trans (D.trans (t0.trans M))))))) (E':=[(Eb g 78 [.string d.rest,I d.n,I d.v.Wide,I d.v.High,.slice i k o,I d.v.At.Row,I d.v.At.Col,B d.v.At.Pending,B d.v.Auto]),es false aN (.slice i k o) 56 w0 o2]) i2 ⟨g,(.slice i k o),w0,((d4.trans (X.trans (s.trans (u.trans (s0.trans (D.trans (t0.trans M))))))).t _ _ _ m0),rfl,(A.mono M)⟩;refine ⟨.inl rfl,dn (nrm<|RB (.nilIface)<|RD ?_)⟩;cases a;have q1:=n1.sD 2 [1];exact Rz x1 ⟨.nilIface,(.slice b3 c3 d3),h1,q1,s1,rfl,rfl,q0.m⟩
def kx (p0:ByteArray) (p1:Int):Option (Int×Bool):=
 (orE ((qA p0)==0) (some (decide ((qA p0)>4)))).bind fun h=>
 (orE h ((bw (decide ((qA p0)>1)) ((HD p0 0).bind fun f=>
 some (f==48))).bind fun c=>
 some c)).bind fun b=>
 (orE b ((oS p0 (⟨#[48,49,50,51,52,53,54,55,56,57]⟩:ByteArray)).bind fun g=>
 some (!(eqS g (⟨#[]⟩:ByteArray))))).bind fun d=>
 if d then
 none
 else
 (oU p0).bind fun a=>
 (bw a.2.isNil (some (decide (a.1<p1)))).bind fun e=>
 some (a.1,e)
theorem nV (q:Own c0 G F) (hT:Et c0) (b:ByteArray) (i:Int){r:Int×Bool}(H:kx b i=some r): RU 162 #[.string b,I i] c0 fun c v=>Own c G F/\v= .tuple #[I r.1,B r.2]:=by
 unfold kx at H;refine en func162 rfl rfl<|RA 0<|Ri false<|Rx<|W.seq<|bn H fun y0 h1 H=>bn H fun t0 R H=>bn H fun N x H=>W.join (Jn c0 fun c l=>Own c G F/\l= [(0,.string b),(1,I i),(30,B N)]) ?_ ?_
 ·clear H;refine Rv (.string b)<|vr (I (qA b)) (rx (by kernel_rfl) (uO (ty:=3) u_9 _))<|Ri ((qA b)==0) ?_;rcases bo ((qA b)==0) with y|y
  ·obtain rfl:=orT y h1;refine vb y<|pz<|ps<|Ri true ?_;have h5:true=true:=rfl;obtain rfl:=orT h5 R;refine vb h5<|pz<|pz<|pz<|pz<|Ri true ?_;have h6:true=true:=rfl;obtain rfl:=orT h6 x;exact vb h6<|pz<|ps<|Ri true<|Ry c0 ⟨q,rfl⟩
  have H7:=orF y h1;refine vb y<|wa (.string b)<|wn<|vr (I (qA b)) (rx (by kernel_rfl) (uO (ty:=3) u_9 _))<|Rm ((qA b)>4) ?_;cases H7;refine Rj ((qA b)>4) ?_;rcases bo (decide ((qA b)>4)) with z|z
  ·obtain rfl:=orT z R;refine vb z<|pz<|pz<|pz<|pz<|Ri true ?_;have h9:true=true:=rfl;obtain rfl:=orT h9 x;exact vb h9<|pz<|ps<|Ri true<|Ry c0 ⟨q,rfl⟩
  have j:=orF z R;refine vb z<|wa (.string b)<|wn<|vr (I (qA b)) (rx (by kernel_rfl) (uO (ty:=3) u_9 _))<|Rm ((qA b)>1)<|wn<|bn j fun u0 D j=>?_;rcases bo (decide ((qA b)>1)) with f|f
  ·have n:=anT f D;refine vb f<|wa (.string b)<|wn<|bn n fun d f0 n=>vr (.int .u8 d) (rx (by kernel_rfl) (xy (k:= .i64) u_9 f0 _))<|Rn (d==48)<|wn ?_;cases n;refine Ri (d==48) ?_;cases j;refine Ri (d==48) ?_;rcases bo (d==48) with g|g
   ·obtain rfl:=orT g x;exact vb g<|pz<|ps<|Ri true<|Ry c0 ⟨q,rfl⟩
   have o:=orF g x;refine vb g<|wa (.string b)<|wn<|bn o fun e g0 o=>cl (sG q hT b (⟨#[48,49,50,51,52,53,54,55,56,57]⟩:ByteArray) g0) ?_;rintro v23 a0 b1 ⟨T,rfl⟩;refine wn<|vr (B (!(eqS e (⟨#[]⟩:ByteArray)))) (zS (by kernel_rfl)) ?_;cases o;exact Ri (!(eqS e (⟨#[]⟩:ByteArray)))<|Ry a0 ⟨T,rfl⟩
  obtain rfl:=anF f D;refine vb f<|pz<|ps<|Rn false ?_;cases j;refine Ri false ?_;have E:false=false:=rfl;have p:=orF E x;refine vb E<|wa (.string b)<|wn<|bn p fun e h0 p=>cl (sG q hT b (⟨#[48,49,50,51,52,53,54,55,56,57]⟩:ByteArray) h0) ?_;rintro v32 b0 c1 ⟨U,rfl⟩;refine wn<|vr (B (!(eqS e (⟨#[]⟩:ByteArray)))) (zS (by kernel_rfl)) ?_;cases p;exact Ri (!(eqS e (⟨#[]⟩:ByteArray)))<|Ry b0 ⟨U,rfl⟩
 rintro e_ w_ ⟨x0,z0,_,rfl,d1,rfl,X,rfl⟩;refine nrm<|cn H (fun i0 H=>?_) (fun i0 H=>?_)
 ·cases H
 refine RG<|RB (.string b)<|bn H fun a j0 H=>cl (yh X hT.m b j0) ?_;rintro v48 s e1 ⟨v41,A,rfl,k0⟩;refine va (.tuple #[I a.1,v41])<|Ro a.1<|va v41<|Ro a.1<|va v41<|Rx<|bn H fun P M H=>W.join (Jn s fun c l=>Own c G F/\l= [(4,I a.1),(5,B P)]) ?_ ?_
 ·clear H;refine RC a.1<|va v41<|vr (B a.2.isNil) (by rcases (k0).cs with ⟨t,u⟩|⟨b_,t,u⟩|⟨b_,t,u⟩ <;> (subst t; rw [u]; kernel_rfl)) ?_;rcases bo a.2.isNil with h|h
  ·have S:=anT h M;refine vb h<|wa (I a.1)<|wa (I i)<|Rm (a.1<i) ?_;cases S;exact Rj (a.1<i)<|Ro a.1<|Rj (a.1<i)<|Ry s ⟨A,rfl⟩
  obtain rfl:=anF h M;exact vb h<|pz<|ps<|Ri false<|Ro a.1<|Ri false<|Ry s ⟨A,rfl⟩
 rintro e_ w_ ⟨d0,a1,_,rfl,f1,rfl,Z,rfl⟩;refine nrm<|W.ret ?_;cases H;exact r2 (qq d0 ⟨Z,rfl⟩)
def mj (sg:Sto) (p0:ByteArray) (q0_0:Int) (e:Nat) (q2_0:Int):Option (Sto×Bool):=
 (kx p0 q0_0).bind fun c=>
 (sg.snap_reader[e]?).bind fun a=>
 (sg.set_snap_reader e (⟨a.rest,a.n,(⟨c.1,a.v.High,a.v.Lines,a.v.At,a.v.Auto⟩:aH)⟩:ck)).bind fun b=>
 (bw c.2 (some (decide (c.1>=q2_0)))).bind fun d=>
 some (b,d)
theorem uu {i:Nat}{k:Nat}{bc1o:Nat}{o:Nat}(O0:Own c0 G F) (M:Rel c0 sg G) (hT:Et c0) (f:ByteArray) (q0_0:Int) (Z:Nat) (q2_0:Int){r:Sto×Bool}(m1:∀j u,([I q0_0]:List Value)[j]? = some u->Im c0 i (0+j) u) (m2:∀j u,([.pointer (some ⟨bc1o,2,none⟩)]:List Value)[j]? = some u->Im c0 k (0+j) u) (X:c0.t 6 Z=some bc1o) (m4:∀j u,([I q2_0]:List Value)[j]? = some u->Im c0 o (0+j) u) (H:mj sg f q0_0 Z q2_0=some r): RU 161 #[.string f,Q i,Q k,Q o] c0 fun c v=>∃G_:Gm,Own c G_ F/\Rel c r.1 G_/\v=B r.2:=by
 unfold mj at H;refine en func161 rfl rfl<|Ru false<|wln<|RB (.string f)<|vx (l1 u_3 (m1 0 _ rfl))<|bn H fun b h5 H=>cl (nV O0 hT f q0_0 h5) ?_;rintro v11 i0 q ⟨O7,rfl⟩;refine va (.tuple #[I b.1,B b.2])<|Ro b.1<|Ri b.2<|Ro b.1<|Ri b.2<|RO<|vx (l1 C5 ((mm m2) 0 _ rfl))<|Ro b.1<|Rs bc1o 2<|bn H fun a R H=>?_;obtain ⟨v13,x,T,S⟩:=Rel.open_snap_reader (M.mono q) R (tm X);refine md (gC 3 2 (I b.1) [.string a.rest,I a.n,I b.1,I a.v.High,v13,I a.v.At.Row,I a.v.At.Col,B a.v.At.Pending,B a.v.Auto] 0 O7 T ⟨rfl,trivial⟩) ?_;rintro e s D;refine bn H fun z U H=>?_;obtain ⟨g,h,N,k0,h0⟩:=Rel.put_snap_reader D (M.mono (q.trans s)) (E':=[(Eb bc1o 78 [.string a.rest,I a.n,I b.1,I a.v.High,v13,I a.v.At.Row,I a.v.At.Col,B a.v.At.Pending,B a.v.Auto]),es false aN v13 56 x a.v.Lines]) U ⟨bc1o,v13,x,(tm X),rfl,(S.mono s)⟩;refine Rx<|bn H fun y p H=>W.join (Jn e fun c l=>Own c g F/\l= [(5,B y)]) ?_ ?_
 ·clear H;refine W.region<|Ri b.2 ?_;rcases bo b.2 with d|d
  ·have A:=anT d p;refine vb d<|wa (I b.1)<|wn<|vx (l1 u_3 ((mm m4) 0 _ rfl))<|Rm (b.1>=q2_0) ?_;cases A;exact vv (B (decide (b.1>=q2_0)))<|Ry e ⟨h,rfl⟩
  obtain rfl:=anF d p;exact vb d<|pz<|ps<|Rk false<|Ry e ⟨h,rfl⟩
 rintro e_ w_ ⟨P,j0,_,rfl,l0,rfl,E,rfl⟩;refine nrm<|W.ret ?_;cases H;exact Rz P ⟨g,E,N.m,rfl⟩
def db (sg:Sto) (p0:aD) (p1_0_0:Int) (p1_1:Nat) (p1_2_0:Int):Option (Sto×aD):=
 if p0.bad then
 none
 else
 (if decide (p0.at_>=(p0.words.length:Int)) then some (true,sg) else (idx p0.words p0.at_).bind fun c=>
 (mj sg c p1_0_0 p1_1 p1_2_0).bind fun b=>
 some (!b.2,b.1)).bind fun a=>
 if a.1 then
 none
 else
 some (a.2,(⟨p0.words,(w64 (p0.at_+1)),p0.bad⟩:aD))
theorem iW {a:Nat}{b1_0:Nat}{b1_1:Nat}{b1_1o:Nat}{b1_2:Nat}(b:aD) (p1_0_0:Int) (p1_1:Nat) (p1_2_0:Int) (E:Own c0 G ((Eb a 131 [v1,I b.at_,B b.bad])::F)) (N:Rel c0 sg G) (hT:Et c0){r:Sto×aD}(p:Sl RS c0 v1 b.words) (m3:∀j u,([I p1_0_0]:List Value)[j]? = some u->Im c0 b1_0 (0+j) u) (m4:∀j u,([.pointer (some ⟨b1_1o,2,none⟩)]:List Value)[j]? = some u->Im c0 b1_1 (0+j) u) (h5:c0.t 6 p1_1=some b1_1o) (m6:∀j u,([I p1_2_0]:List Value)[j]? = some u->Im c0 b1_2 (0+j) u) (H:db sg b p1_0_0 p1_1 p1_2_0=some r): RU 109 #[Q a,.func (.func 161) #[] #[Q b1_0,Q b1_1,Q b1_2]] c0 fun c v=>∃y1,∃G_:Gm,Own c G_ ((Eb a 131 [y1,I r.2.at_,B r.2.bad])::F)/\Rel c r.1 G_/\v= .tuple #[]/\Sl RS c y1 r.2.words:=by
 unfold db at H;refine en func109 rfl rfl<|W.seq<|sr<|vv (Q a)<|Rs a 2<|vx (le1 2 u_4 (E.on 0 rfl))<|RF H (fun h7 H=>?_) (fun h7 H=>?_)
 ·cases H
 refine RG<|W.seq<|W.seq<|bn H fun n h8 H=>W.join (Jn c0 fun c l=>∃G_,Own c G_ ((Eb a 131 [v1,I b.at_,B b.bad])::F)/\l= [(0,Q a),(32,B n.1)]/\Rel c n.2 G_) ?_ ?_
 ·clear H;refine rD [] (Kp G0 [(Eb a 131 [v1,I b.at_,B b.bad])]) E ?_;intro T l9 k;have i:=(Kp.cons (k.on 0 rfl) Kp.nil0);refine ta 0 (Q a)<|ta 1 (Q a)<|ta 2 (Qo a 1)<|tkx 3 i (fun f d h=>le1 1 u_3 (h.on 0 rfl)) (ta 4 (Q a)<|ta 5 (Q a)<|ta 6 (Q a)<|tkx 7 i (fun f d h=>le1 0 ki (h.on 0 rfl)) (tx 8 (fun f d=>ln 3 ki p.m)<|ta 9 (B (decide (b.at_>=(b.words.length:Int)))) ?_));rcases bo (decide (b.at_>=(b.words.length:Int))) with g|g
  ·obtain rfl:=aL (it g h8);exact AC.takeb 10 g rfl (by kernel_rfl) (by kernel_rfl) (fun f d=>(by kernel_rfl)) (tp 11<|tp 12<|tp 13<|tp 14<|tp 15<|tp 16<|tp 17<|tp 18<|tp 19<|tp 20<|tp 21<|tp 22<|tp 23<|ta 24 (B true)<|dn (nrm<|jn T ⟨G,k,rfl,N.m⟩))
  have e:=ie g h8;refine bn e fun z y e=>bn e fun o U e=>AC.takeb 10 g rfl (by kernel_rfl) (by kernel_rfl) (fun f d=>(by kernel_rfl)) (ta 11 (.func (.func 161) #[] #[Q b1_0,Q b1_1,Q b1_2])<|ta 12 (Q a)<|ta 13 (Q a)<|ta 14 (Q a)<|tkx 15 i (fun f d h=>le1 0 ki (h.on 0 rfl)) (ta 16 (Q a)<|ta 17 (Q a)<|ta 18 (Qo a 1)<|tkx 19 i (fun f d h=>le1 1 u_3 (h.on 0 rfl)) ?_));obtain ⟨i0,X,b0⟩:=Sl.at (p.mono l9) (aP y);obtain rfl:=X;refine tx 20 (fun f d=>ix ki p.m y)<|tx 21 (fun f d=>l1 u_9 ((mm b0) 0 _ rfl))<|o1 22 (gc 22 (uu k N.m hT.m z p1_0_0 p1_1 p1_2_0 (mm m3) (mm m4) (tm h5) (mm m6) U) ?_);rintro v24 x q0 ⟨A,q,P,rfl⟩;have d0:=(Kp.cons (q.on 0 rfl) Kp.nil0);refine ⟨.inr d0,ta 23 (B (!o.2)) ?_⟩;cases e;exact ta 24 (B (!o.2))<|dn (nrm<|jn x ⟨A,q,rfl,P⟩)
 rintro e_ w_ ⟨m0,o0,_,rfl,s0,rfl,D,s,rfl,R⟩;refine nrm<|cn H (fun Z H=>?_) (fun Z H=>?_)
 ·cases H
 refine RG<|W.region<|vv (Q a)<|Rs a 1<|vx (le1 1 u_3 (s.on 0 rfl))<|Rt (b.at_+1)<|va (Q a)<|Rs a 1<|md (sC 3 1 (I (w64 (b.at_+1))) [v1,I (w64 (b.at_+1)),B b.bad] 0 s ⟨rfl,trivial⟩) ?_;rintro S t0 M;refine WL.nil ?_;cases H;exact RN S ⟨v1,D,M,R.m,rfl,p.m⟩
def mi (sg:Sto) (p0:ByteArray) (q0_0:Int) (e:Nat) (q2_0:Int):Option (Sto×Bool):=
 (kx p0 q0_0).bind fun c=>
 (sg.snap_reader[e]?).bind fun a=>
 (sg.set_snap_reader e (⟨a.rest,a.n,(⟨a.v.Wide,c.1,a.v.Lines,a.v.At,a.v.Auto⟩:aH)⟩:ck)).bind fun b=>
 (bw c.2 (some (decide (c.1>=q2_0)))).bind fun d=>
 some (b,d)
theorem ut {i:Nat}{k:Nat}{bc1o:Nat}{o:Nat}(O0:Own c0 G F) (M:Rel c0 sg G) (hT:Et c0) (f:ByteArray) (q0_0:Int) (Z:Nat) (q2_0:Int){r:Sto×Bool}(m1:∀j u,([I q0_0]:List Value)[j]? = some u->Im c0 i (0+j) u) (m2:∀j u,([.pointer (some ⟨bc1o,3,none⟩)]:List Value)[j]? = some u->Im c0 k (0+j) u) (X:c0.t 6 Z=some bc1o) (m4:∀j u,([I q2_0]:List Value)[j]? = some u->Im c0 o (0+j) u) (H:mi sg f q0_0 Z q2_0=some r): RU 161 #[.string f,Q i,Q k,Q o] c0 fun c v=>∃G_:Gm,Own c G_ F/\Rel c r.1 G_/\v=B r.2:=by
 unfold mi at H;refine en func161 rfl rfl<|Ru false<|wln<|RB (.string f)<|vx (l1 u_3 (m1 0 _ rfl))<|bn H fun b h5 H=>cl (nV O0 hT f q0_0 h5) ?_;rintro v11 i0 q ⟨O7,rfl⟩;refine va (.tuple #[I b.1,B b.2])<|Ro b.1<|Ri b.2<|Ro b.1<|Ri b.2<|RO<|vx (l1 C5 ((mm m2) 0 _ rfl))<|Ro b.1<|Rs bc1o 3<|bn H fun a R H=>?_;obtain ⟨v13,x,T,S⟩:=Rel.open_snap_reader (M.mono q) R (tm X);refine md (gC 3 3 (I b.1) [.string a.rest,I a.n,I a.v.Wide,I b.1,v13,I a.v.At.Row,I a.v.At.Col,B a.v.At.Pending,B a.v.Auto] 0 O7 T ⟨rfl,trivial⟩) ?_;rintro e s D;refine bn H fun z U H=>?_;obtain ⟨g,h,N,k0,h0⟩:=Rel.put_snap_reader D (M.mono (q.trans s)) (E':=[(Eb bc1o 78 [.string a.rest,I a.n,I a.v.Wide,I b.1,v13,I a.v.At.Row,I a.v.At.Col,B a.v.At.Pending,B a.v.Auto]),es false aN v13 56 x a.v.Lines]) U ⟨bc1o,v13,x,(tm X),rfl,(S.mono s)⟩;refine Rx<|bn H fun y p H=>W.join (Jn e fun c l=>Own c g F/\l= [(5,B y)]) ?_ ?_
 ·clear H;refine W.region<|Ri b.2 ?_;rcases bo b.2 with d|d
  ·have A:=anT d p;refine vb d<|wa (I b.1)<|wn<|vx (l1 u_3 ((mm m4) 0 _ rfl))<|Rm (b.1>=q2_0) ?_;cases A;exact vv (B (decide (b.1>=q2_0)))<|Ry e ⟨h,rfl⟩
  obtain rfl:=anF d p;exact vb d<|pz<|ps<|Rk false<|Ry e ⟨h,rfl⟩
 rintro e_ w_ ⟨P,j0,_,rfl,l0,rfl,E,rfl⟩;refine nrm<|W.ret ?_;cases H;exact Rz P ⟨g,E,N.m,rfl⟩
def da (sg:Sto) (p0:aD) (p1_0_0:Int) (p1_1:Nat) (p1_2_0:Int):Option (Sto×aD):=
 if p0.bad then
 none
 else
 (if decide (p0.at_>=(p0.words.length:Int)) then some (true,sg) else (idx p0.words p0.at_).bind fun c=>
 (mi sg c p1_0_0 p1_1 p1_2_0).bind fun b=>
 some (!b.2,b.1)).bind fun a=>
 if a.1 then
 none
 else
 some (a.2,(⟨p0.words,(w64 (p0.at_+1)),p0.bad⟩:aD))
theorem iV {a:Nat}{b1_0:Nat}{b1_1:Nat}{b1_1o:Nat}{b1_2:Nat}(b:aD) (p1_0_0:Int) (p1_1:Nat) (p1_2_0:Int) (E:Own c0 G ((Eb a 131 [v1,I b.at_,B b.bad])::F)) (N:Rel c0 sg G) (hT:Et c0){r:Sto×aD}(p:Sl RS c0 v1 b.words) (m3:∀j u,([I p1_0_0]:List Value)[j]? = some u->Im c0 b1_0 (0+j) u) (m4:∀j u,([.pointer (some ⟨b1_1o,3,none⟩)]:List Value)[j]? = some u->Im c0 b1_1 (0+j) u) (h5:c0.t 6 p1_1=some b1_1o) (m6:∀j u,([I p1_2_0]:List Value)[j]? = some u->Im c0 b1_2 (0+j) u) (H:da sg b p1_0_0 p1_1 p1_2_0=some r): RU 109 #[Q a,.func (.func 161) #[] #[Q b1_0,Q b1_1,Q b1_2]] c0 fun c v=>∃y1,∃G_:Gm,Own c G_ ((Eb a 131 [y1,I r.2.at_,B r.2.bad])::F)/\Rel c r.1 G_/\v= .tuple #[]/\Sl RS c y1 r.2.words:=by
 unfold da at H;refine en func109 rfl rfl<|W.seq<|sr<|vv (Q a)<|Rs a 2<|vx (le1 2 u_4 (E.on 0 rfl))<|RF H (fun h7 H=>?_) (fun h7 H=>?_)
 ·cases H
 refine RG<|W.seq<|W.seq<|bn H fun n h8 H=>W.join (Jn c0 fun c l=>∃G_,Own c G_ ((Eb a 131 [v1,I b.at_,B b.bad])::F)/\l= [(0,Q a),(32,B n.1)]/\Rel c n.2 G_) ?_ ?_
 ·clear H;refine rD [] (Kp G0 [(Eb a 131 [v1,I b.at_,B b.bad])]) E ?_;intro T l9 k;have i:=(Kp.cons (k.on 0 rfl) Kp.nil0);refine ta 0 (Q a)<|ta 1 (Q a)<|ta 2 (Qo a 1)<|tkx 3 i (fun f d h=>le1 1 u_3 (h.on 0 rfl)) (ta 4 (Q a)<|ta 5 (Q a)<|ta 6 (Q a)<|tkx 7 i (fun f d h=>le1 0 ki (h.on 0 rfl)) (tx 8 (fun f d=>ln 3 ki p.m)<|ta 9 (B (decide (b.at_>=(b.words.length:Int)))) ?_));rcases bo (decide (b.at_>=(b.words.length:Int))) with g|g
  ·obtain rfl:=aL (it g h8);exact AC.takeb 10 g rfl (by kernel_rfl) (by kernel_rfl) (fun f d=>(by kernel_rfl)) (tp 11<|tp 12<|tp 13<|tp 14<|tp 15<|tp 16<|tp 17<|tp 18<|tp 19<|tp 20<|tp 21<|tp 22<|tp 23<|ta 24 (B true)<|dn (nrm<|jn T ⟨G,k,rfl,N.m⟩))
  have e:=ie g h8;refine bn e fun z y e=>bn e fun o U e=>AC.takeb 10 g rfl (by kernel_rfl) (by kernel_rfl) (fun f d=>(by kernel_rfl)) (ta 11 (.func (.func 161) #[] #[Q b1_0,Q b1_1,Q b1_2])<|ta 12 (Q a)<|ta 13 (Q a)<|ta 14 (Q a)<|tkx 15 i (fun f d h=>le1 0 ki (h.on 0 rfl)) (ta 16 (Q a)<|ta 17 (Q a)<|ta 18 (Qo a 1)<|tkx 19 i (fun f d h=>le1 1 u_3 (h.on 0 rfl)) ?_));obtain ⟨i0,X,b0⟩:=Sl.at (p.mono l9) (aP y);obtain rfl:=X;refine tx 20 (fun f d=>ix ki p.m y)<|tx 21 (fun f d=>l1 u_9 ((mm b0) 0 _ rfl))<|o1 22 (gc 22 (ut k N.m hT.m z p1_0_0 p1_1 p1_2_0 (mm m3) (mm m4) (tm h5) (mm m6) U) ?_);rintro v24 x q0 ⟨A,q,P,rfl⟩;have d0:=(Kp.cons (q.on 0 rfl) Kp.nil0);refine ⟨.inr d0,ta 23 (B (!o.2)) ?_⟩;cases e;exact ta 24 (B (!o.2))<|dn (nrm<|jn x ⟨A,q,rfl,P⟩)
 rintro e_ w_ ⟨m0,o0,_,rfl,s0,rfl,D,s,rfl,R⟩;refine nrm<|cn H (fun Z H=>?_) (fun Z H=>?_)
 ·cases H
 refine RG<|W.region<|vv (Q a)<|Rs a 1<|vx (le1 1 u_3 (s.on 0 rfl))<|Rt (b.at_+1)<|va (Q a)<|Rs a 1<|md (sC 3 1 (I (w64 (b.at_+1))) [v1,I (w64 (b.at_+1)),B b.bad] 0 s ⟨rfl,trivial⟩) ?_;rintro S t0 M;refine WL.nil ?_;cases H;exact RN S ⟨v1,D,M,R.m,rfl,p.m⟩
def mh (sg:Sto) (p0:ByteArray) (q0_0:Int) (e:Nat) (q2_0:Int):Option (Sto×Bool):=
 (kx p0 q0_0).bind fun c=>
 (sg.snap_reader[e]?).bind fun a=>
 (sg.set_snap_reader e (⟨a.rest,a.n,(⟨a.v.Wide,a.v.High,a.v.Lines,(⟨c.1,a.v.At.Col,a.v.At.Pending⟩:ai),a.v.Auto⟩:aH)⟩:ck)).bind fun b=>
 (bw c.2 (some (decide (c.1>=q2_0)))).bind fun d=>
 some (b,d)
theorem ur {i:Nat}{k:Nat}{bc1o:Nat}{o:Nat}(O0:Own c0 G F) (M:Rel c0 sg G) (hT:Et c0) (f:ByteArray) (q0_0:Int) (Z:Nat) (q2_0:Int){r:Sto×Bool}(m1:∀j u,([I q0_0]:List Value)[j]? = some u->Im c0 i (0+j) u) (m2:∀j u,([.pointer (some ⟨bc1o,5,none⟩)]:List Value)[j]? = some u->Im c0 k (0+j) u) (X:c0.t 6 Z=some bc1o) (m4:∀j u,([I q2_0]:List Value)[j]? = some u->Im c0 o (0+j) u) (H:mh sg f q0_0 Z q2_0=some r): RU 161 #[.string f,Q i,Q k,Q o] c0 fun c v=>∃G_:Gm,Own c G_ F/\Rel c r.1 G_/\v=B r.2:=by
 unfold mh at H;refine en func161 rfl rfl<|Ru false<|wln<|RB (.string f)<|vx (l1 u_3 (m1 0 _ rfl))<|bn H fun b h5 H=>cl (nV O0 hT f q0_0 h5) ?_;rintro v11 i0 q ⟨O7,rfl⟩;refine va (.tuple #[I b.1,B b.2])<|Ro b.1<|Ri b.2<|Ro b.1<|Ri b.2<|RO<|vx (l1 C5 ((mm m2) 0 _ rfl))<|Ro b.1<|Rs bc1o 5<|bn H fun a R H=>?_;obtain ⟨v13,x,T,S⟩:=Rel.open_snap_reader (M.mono q) R (tm X);refine md (gC 3 5 (I b.1) [.string a.rest,I a.n,I a.v.Wide,I a.v.High,v13,I b.1,I a.v.At.Col,B a.v.At.Pending,B a.v.Auto] 0 O7 T ⟨rfl,trivial⟩) ?_;rintro e s D;refine bn H fun z U H=>?_;obtain ⟨g,h,N,k0,h0⟩:=Rel.put_snap_reader D (M.mono (q.trans s)) (E':=[(Eb bc1o 78 [.string a.rest,I a.n,I a.v.Wide,I a.v.High,v13,I b.1,I a.v.At.Col,B a.v.At.Pending,B a.v.Auto]),es false aN v13 56 x a.v.Lines]) U ⟨bc1o,v13,x,(tm X),rfl,(S.mono s)⟩;refine Rx<|bn H fun y p H=>W.join (Jn e fun c l=>Own c g F/\l= [(5,B y)]) ?_ ?_
 ·clear H;refine W.region<|Ri b.2 ?_;rcases bo b.2 with d|d
  ·have A:=anT d p;refine vb d<|wa (I b.1)<|wn<|vx (l1 u_3 ((mm m4) 0 _ rfl))<|Rm (b.1>=q2_0) ?_;cases A;exact vv (B (decide (b.1>=q2_0)))<|Ry e ⟨h,rfl⟩
  obtain rfl:=anF d p;exact vb d<|pz<|ps<|Rk false<|Ry e ⟨h,rfl⟩
 rintro e_ w_ ⟨P,j0,_,rfl,l0,rfl,E,rfl⟩;refine nrm<|W.ret ?_;cases H;exact Rz P ⟨g,E,N.m,rfl⟩
def cZ (sg:Sto) (p0:aD) (p1_0_0:Int) (p1_1:Nat) (p1_2_0:Int):Option (Sto×aD):=
 if p0.bad then
 none
 else
 (if decide (p0.at_>=(p0.words.length:Int)) then some (true,sg) else (idx p0.words p0.at_).bind fun c=>
 (mh sg c p1_0_0 p1_1 p1_2_0).bind fun b=>
 some (!b.2,b.1)).bind fun a=>
 if a.1 then
 none
 else
 some (a.2,(⟨p0.words,(w64 (p0.at_+1)),p0.bad⟩:aD))
theorem iU {a:Nat}{b1_0:Nat}{b1_1:Nat}{b1_1o:Nat}{b1_2:Nat}(b:aD) (p1_0_0:Int) (p1_1:Nat) (p1_2_0:Int) (E:Own c0 G ((Eb a 131 [v1,I b.at_,B b.bad])::F)) (N:Rel c0 sg G) (hT:Et c0){r:Sto×aD}(p:Sl RS c0 v1 b.words) (m3:∀j u,([I p1_0_0]:List Value)[j]? = some u->Im c0 b1_0 (0+j) u) (m4:∀j u,([.pointer (some ⟨b1_1o,5,none⟩)]:List Value)[j]? = some u->Im c0 b1_1 (0+j) u) (h5:c0.t 6 p1_1=some b1_1o) (m6:∀j u,([I p1_2_0]:List Value)[j]? = some u->Im c0 b1_2 (0+j) u) (H:cZ sg b p1_0_0 p1_1 p1_2_0=some r): RU 109 #[Q a,.func (.func 161) #[] #[Q b1_0,Q b1_1,Q b1_2]] c0 fun c v=>∃y1,∃G_:Gm,Own c G_ ((Eb a 131 [y1,I r.2.at_,B r.2.bad])::F)/\Rel c r.1 G_/\v= .tuple #[]/\Sl RS c y1 r.2.words:=by
 unfold cZ at H;refine en func109 rfl rfl<|W.seq<|sr<|vv (Q a)<|Rs a 2<|vx (le1 2 u_4 (E.on 0 rfl))<|RF H (fun h7 H=>?_) (fun h7 H=>?_)
 ·cases H
 refine RG<|W.seq<|W.seq<|bn H fun n h8 H=>W.join (Jn c0 fun c l=>∃G_,Own c G_ ((Eb a 131 [v1,I b.at_,B b.bad])::F)/\l= [(0,Q a),(32,B n.1)]/\Rel c n.2 G_) ?_ ?_
 ·clear H;refine rD [] (Kp G0 [(Eb a 131 [v1,I b.at_,B b.bad])]) E ?_;intro T l9 k;have i:=(Kp.cons (k.on 0 rfl) Kp.nil0);refine ta 0 (Q a)<|ta 1 (Q a)<|ta 2 (Qo a 1)<|tkx 3 i (fun f d h=>le1 1 u_3 (h.on 0 rfl)) (ta 4 (Q a)<|ta 5 (Q a)<|ta 6 (Q a)<|tkx 7 i (fun f d h=>le1 0 ki (h.on 0 rfl)) (tx 8 (fun f d=>ln 3 ki p.m)<|ta 9 (B (decide (b.at_>=(b.words.length:Int)))) ?_));rcases bo (decide (b.at_>=(b.words.length:Int))) with g|g
  ·obtain rfl:=aL (it g h8);exact AC.takeb 10 g rfl (by kernel_rfl) (by kernel_rfl) (fun f d=>(by kernel_rfl)) (tp 11<|tp 12<|tp 13<|tp 14<|tp 15<|tp 16<|tp 17<|tp 18<|tp 19<|tp 20<|tp 21<|tp 22<|tp 23<|ta 24 (B true)<|dn (nrm<|jn T ⟨G,k,rfl,N.m⟩))
  have e:=ie g h8;refine bn e fun z y e=>bn e fun o U e=>AC.takeb 10 g rfl (by kernel_rfl) (by kernel_rfl) (fun f d=>(by kernel_rfl)) (ta 11 (.func (.func 161) #[] #[Q b1_0,Q b1_1,Q b1_2])<|ta 12 (Q a)<|ta 13 (Q a)<|ta 14 (Q a)<|tkx 15 i (fun f d h=>le1 0 ki (h.on 0 rfl)) (ta 16 (Q a)<|ta 17 (Q a)<|ta 18 (Qo a 1)<|tkx 19 i (fun f d h=>le1 1 u_3 (h.on 0 rfl)) ?_));obtain ⟨i0,X,b0⟩:=Sl.at (p.mono l9) (aP y);obtain rfl:=X;refine tx 20 (fun f d=>ix ki p.m y)<|tx 21 (fun f d=>l1 u_9 ((mm b0) 0 _ rfl))<|o1 22 (gc 22 (ur k N.m hT.m z p1_0_0 p1_1 p1_2_0 (mm m3) (mm m4) (tm h5) (mm m6) U) ?_);rintro v24 x q0 ⟨A,q,P,rfl⟩;have d0:=(Kp.cons (q.on 0 rfl) Kp.nil0);refine ⟨.inr d0,ta 23 (B (!o.2)) ?_⟩;cases e;exact ta 24 (B (!o.2))<|dn (nrm<|jn x ⟨A,q,rfl,P⟩)
 rintro e_ w_ ⟨m0,o0,_,rfl,s0,rfl,D,s,rfl,R⟩;refine nrm<|cn H (fun Z H=>?_) (fun Z H=>?_)
 ·cases H
 refine RG<|W.region<|vv (Q a)<|Rs a 1<|vx (le1 1 u_3 (s.on 0 rfl))<|Rt (b.at_+1)<|va (Q a)<|Rs a 1<|md (sC 3 1 (I (w64 (b.at_+1))) [v1,I (w64 (b.at_+1)),B b.bad] 0 s ⟨rfl,trivial⟩) ?_;rintro S t0 M;refine WL.nil ?_;cases H;exact RN S ⟨v1,D,M,R.m,rfl,p.m⟩
def mg (sg:Sto) (p0:ByteArray) (q0_0:Int) (e:Nat) (q2_0:Int):Option (Sto×Bool):=
 (kx p0 q0_0).bind fun c=>
 (sg.snap_reader[e]?).bind fun a=>
 (sg.set_snap_reader e (⟨a.rest,a.n,(⟨a.v.Wide,a.v.High,a.v.Lines,(⟨a.v.At.Row,c.1,a.v.At.Pending⟩:ai),a.v.Auto⟩:aH)⟩:ck)).bind fun b=>
 (bw c.2 (some (decide (c.1>=q2_0)))).bind fun d=>
 some (b,d)
theorem uq {i:Nat}{k:Nat}{bc1o:Nat}{o:Nat}(O0:Own c0 G F) (M:Rel c0 sg G) (hT:Et c0) (f:ByteArray) (q0_0:Int) (Z:Nat) (q2_0:Int){r:Sto×Bool}(m1:∀j u,([I q0_0]:List Value)[j]? = some u->Im c0 i (0+j) u) (m2:∀j u,([.pointer (some ⟨bc1o,6,none⟩)]:List Value)[j]? = some u->Im c0 k (0+j) u) (X:c0.t 6 Z=some bc1o) (m4:∀j u,([I q2_0]:List Value)[j]? = some u->Im c0 o (0+j) u) (H:mg sg f q0_0 Z q2_0=some r): RU 161 #[.string f,Q i,Q k,Q o] c0 fun c v=>∃G_:Gm,Own c G_ F/\Rel c r.1 G_/\v=B r.2:=by
 unfold mg at H;refine en func161 rfl rfl<|Ru false<|wln<|RB (.string f)<|vx (l1 u_3 (m1 0 _ rfl))<|bn H fun b h5 H=>cl (nV O0 hT f q0_0 h5) ?_;rintro v11 i0 q ⟨O7,rfl⟩;refine va (.tuple #[I b.1,B b.2])<|Ro b.1<|Ri b.2<|Ro b.1<|Ri b.2<|RO<|vx (l1 C5 ((mm m2) 0 _ rfl))<|Ro b.1<|Rs bc1o 6<|bn H fun a R H=>?_;obtain ⟨v13,x,T,S⟩:=Rel.open_snap_reader (M.mono q) R (tm X);refine md (gC 3 6 (I b.1) [.string a.rest,I a.n,I a.v.Wide,I a.v.High,v13,I a.v.At.Row,I b.1,B a.v.At.Pending,B a.v.Auto] 0 O7 T ⟨rfl,trivial⟩) ?_;rintro e s D;refine bn H fun z U H=>?_;obtain ⟨g,h,N,k0,h0⟩:=Rel.put_snap_reader D (M.mono (q.trans s)) (E':=[(Eb bc1o 78 [.string a.rest,I a.n,I a.v.Wide,I a.v.High,v13,I a.v.At.Row,I b.1,B a.v.At.Pending,B a.v.Auto]),es false aN v13 56 x a.v.Lines]) U ⟨bc1o,v13,x,(tm X),rfl,(S.mono s)⟩;refine Rx<|bn H fun y p H=>W.join (Jn e fun c l=>Own c g F/\l= [(5,B y)]) ?_ ?_
 ·clear H;refine W.region<|Ri b.2 ?_;rcases bo b.2 with d|d
  ·have A:=anT d p;refine vb d<|wa (I b.1)<|wn<|vx (l1 u_3 ((mm m4) 0 _ rfl))<|Rm (b.1>=q2_0) ?_;cases A;exact vv (B (decide (b.1>=q2_0)))<|Ry e ⟨h,rfl⟩
  obtain rfl:=anF d p;exact vb d<|pz<|ps<|Rk false<|Ry e ⟨h,rfl⟩
 rintro e_ w_ ⟨P,j0,_,rfl,l0,rfl,E,rfl⟩;refine nrm<|W.ret ?_;cases H;exact Rz P ⟨g,E,N.m,rfl⟩
def cY (sg:Sto) (p0:aD) (p1_0_0:Int) (p1_1:Nat) (p1_2_0:Int):Option (Sto×aD):=
 if p0.bad then
 none
 else
 (if decide (p0.at_>=(p0.words.length:Int)) then some (true,sg) else (idx p0.words p0.at_).bind fun c=>
 (mg sg c p1_0_0 p1_1 p1_2_0).bind fun b=>
 some (!b.2,b.1)).bind fun a=>
 if a.1 then
 none
 else
 some (a.2,(⟨p0.words,(w64 (p0.at_+1)),p0.bad⟩:aD))
theorem iT {a:Nat}{b1_0:Nat}{b1_1:Nat}{b1_1o:Nat}{b1_2:Nat}(b:aD) (p1_0_0:Int) (p1_1:Nat) (p1_2_0:Int) (E:Own c0 G ((Eb a 131 [v1,I b.at_,B b.bad])::F)) (N:Rel c0 sg G) (hT:Et c0){r:Sto×aD}(p:Sl RS c0 v1 b.words) (m3:∀j u,([I p1_0_0]:List Value)[j]? = some u->Im c0 b1_0 (0+j) u) (m4:∀j u,([.pointer (some ⟨b1_1o,6,none⟩)]:List Value)[j]? = some u->Im c0 b1_1 (0+j) u) (h5:c0.t 6 p1_1=some b1_1o) (m6:∀j u,([I p1_2_0]:List Value)[j]? = some u->Im c0 b1_2 (0+j) u) (H:cY sg b p1_0_0 p1_1 p1_2_0=some r): RU 109 #[Q a,.func (.func 161) #[] #[Q b1_0,Q b1_1,Q b1_2]] c0 fun c v=>∃y1,∃G_:Gm,Own c G_ ((Eb a 131 [y1,I r.2.at_,B r.2.bad])::F)/\Rel c r.1 G_/\v= .tuple #[]/\Sl RS c y1 r.2.words:=by
 unfold cY at H;refine en func109 rfl rfl<|W.seq<|sr<|vv (Q a)<|Rs a 2<|vx (le1 2 u_4 (E.on 0 rfl))<|RF H (fun h7 H=>?_) (fun h7 H=>?_)
 ·cases H
 refine RG<|W.seq<|W.seq<|bn H fun n h8 H=>W.join (Jn c0 fun c l=>∃G_,Own c G_ ((Eb a 131 [v1,I b.at_,B b.bad])::F)/\l= [(0,Q a),(32,B n.1)]/\Rel c n.2 G_) ?_ ?_
 ·clear H;refine rD [] (Kp G0 [(Eb a 131 [v1,I b.at_,B b.bad])]) E ?_;intro T l9 k;have i:=(Kp.cons (k.on 0 rfl) Kp.nil0);refine ta 0 (Q a)<|ta 1 (Q a)<|ta 2 (Qo a 1)<|tkx 3 i (fun f d h=>le1 1 u_3 (h.on 0 rfl)) (ta 4 (Q a)<|ta 5 (Q a)<|ta 6 (Q a)<|tkx 7 i (fun f d h=>le1 0 ki (h.on 0 rfl)) (tx 8 (fun f d=>ln 3 ki p.m)<|ta 9 (B (decide (b.at_>=(b.words.length:Int)))) ?_));rcases bo (decide (b.at_>=(b.words.length:Int))) with g|g
  ·obtain rfl:=aL (it g h8);exact AC.takeb 10 g rfl (by kernel_rfl) (by kernel_rfl) (fun f d=>(by kernel_rfl)) (tp 11<|tp 12<|tp 13<|tp 14<|tp 15<|tp 16<|tp 17<|tp 18<|tp 19<|tp 20<|tp 21<|tp 22<|tp 23<|ta 24 (B true)<|dn (nrm<|jn T ⟨G,k,rfl,N.m⟩))
  have e:=ie g h8;refine bn e fun z y e=>bn e fun o U e=>AC.takeb 10 g rfl (by kernel_rfl) (by kernel_rfl) (fun f d=>(by kernel_rfl)) (ta 11 (.func (.func 161) #[] #[Q b1_0,Q b1_1,Q b1_2])<|ta 12 (Q a)<|ta 13 (Q a)<|ta 14 (Q a)<|tkx 15 i (fun f d h=>le1 0 ki (h.on 0 rfl)) (ta 16 (Q a)<|ta 17 (Q a)<|ta 18 (Qo a 1)<|tkx 19 i (fun f d h=>le1 1 u_3 (h.on 0 rfl)) ?_));obtain ⟨i0,X,b0⟩:=Sl.at (p.mono l9) (aP y);obtain rfl:=X;refine tx 20 (fun f d=>ix ki p.m y)<|tx 21 (fun f d=>l1 u_9 ((mm b0) 0 _ rfl))<|o1 22 (gc 22 (uq k N.m hT.m z p1_0_0 p1_1 p1_2_0 (mm m3) (mm m4) (tm h5) (mm m6) U) ?_);rintro v24 x q0 ⟨A,q,P,rfl⟩;have d0:=(Kp.cons (q.on 0 rfl) Kp.nil0);refine ⟨.inr d0,ta 23 (B (!o.2)) ?_⟩;cases e;exact ta 24 (B (!o.2))<|dn (nrm<|jn x ⟨A,q,rfl,P⟩)
 rintro e_ w_ ⟨m0,o0,_,rfl,s0,rfl,D,s,rfl,R⟩;refine nrm<|cn H (fun Z H=>?_) (fun Z H=>?_)
 ·cases H
 refine RG<|W.region<|vv (Q a)<|Rs a 1<|vx (le1 1 u_3 (s.on 0 rfl))<|Rt (b.at_+1)<|va (Q a)<|Rs a 1<|md (sC 3 1 (I (w64 (b.at_+1))) [v1,I (w64 (b.at_+1)),B b.bad] 0 s ⟨rfl,trivial⟩) ?_;rintro S t0 M;refine WL.nil ?_;cases H;exact RN S ⟨v1,D,M,R.m,rfl,p.m⟩
def kT (sg:Sto) (p0:ByteArray) (q0_0:Option Nat):Option (Sto×Bool):=
 (q0_0).bind fun c=>
 (sg.snap_reader[c]?).bind fun a=>
 (sg.set_snap_reader c (⟨a.rest,a.n,(⟨a.v.Wide,a.v.High,a.v.Lines,a.v.At,eqS p0 (⟨#[111,110]⟩:ByteArray)⟩:aH)⟩:ck)).bind fun b=>
 (orE (eqS p0 (⟨#[111,110]⟩:ByteArray)) (some (eqS p0 (⟨#[111,102,102]⟩:ByteArray)))).bind fun d=>
 some (b,d)
theorem sI {i:Nat}(R:Own c0 G F) (x:Rel c0 sg G) (b:ByteArray) (q0_0:Option Nat){r:Sto×Bool}(X:∀j u,([v2]:List Value)[j]? = some u->Im c0 i (0+j) u) (S:Pt 6 c0 v2 q0_0) (H:kT sg b q0_0=some r): RU 117 #[.string b,Q i] c0 fun c v=>∃G_:Gm,Own c G_ F/\Rel c r.1 G_/\v=B r.2:=by
 unfold kT at H;refine en func117 rfl rfl<|Ru false<|RO<|vx (l1 AW (X 0 _ rfl))<|va (.string b)<|vr (B (eqS b (⟨#[111,110]⟩:ByteArray))) (pq (by kernel_rfl))<|bn H fun d0 T H=>?_;obtain ⟨e,rfl,M⟩:=(S).get T;refine va (Q e)<|Rs e 2<|Rs e 8<|bn H fun a U H=>?_;obtain ⟨v8,P,D,A⟩:=Rel.open_snap_reader x U M;refine md (gC 4 8 (B (eqS b (⟨#[111,110]⟩:ByteArray))) [.string a.rest,I a.n,I a.v.Wide,I a.v.High,v8,I a.v.At.Row,I a.v.At.Col,B a.v.At.Pending,B (eqS b (⟨#[111,110]⟩:ByteArray))] 0 R D ⟨rfl,trivial⟩) ?_;rintro f o s;refine bn H fun N E H=>?_;obtain ⟨g,h,y,b0,Z⟩:=Rel.put_snap_reader s (x.mono o) (E':=[(Eb e 78 [.string a.rest,I a.n,I a.v.Wide,I a.v.High,v8,I a.v.At.Row,I a.v.At.Col,B a.v.At.Pending,B (eqS b (⟨#[111,110]⟩:ByteArray))]),es false aN v8 56 P a.v.Lines]) E ⟨e,v8,P,(tm M),rfl,(A.mono o)⟩;refine Rx<|bn H fun p k H=>W.join (Jn f fun c l=>Own c g F/\l= [(3,B p)]) ?_ ?_
 ·clear H;refine Rv (.string b)<|vr (B (eqS b (⟨#[111,110]⟩:ByteArray))) (pq (by kernel_rfl)) ?_;rcases bo (eqS b (⟨#[111,110]⟩:ByteArray)) with d|d
  ·obtain rfl:=orT d k;exact vb d<|pz<|Rk true<|Ry f ⟨h,rfl⟩
  have q:=orF d k;refine vb d<|wa (.string b)<|wn<|vr (B (eqS b (⟨#[111,102,102]⟩:ByteArray))) (pq (by kernel_rfl)) ?_;cases q;exact Rk (eqS b (⟨#[111,102,102]⟩:ByteArray))<|Ry f ⟨h,rfl⟩
 rintro e_ w_ ⟨z,a0,_,rfl,e0,rfl,t,rfl⟩;refine nrm<|W.ret ?_;cases H;exact Rz z ⟨g,t,y.m,rfl⟩
def cS (sg:Sto) (p0:aD) (p1_0_0:Option Nat):Option (Sto×aD):=
 if p0.bad then
 none
 else
 (if decide (p0.at_>=(p0.words.length:Int)) then some (true,sg) else (idx p0.words p0.at_).bind fun c=>
 (kT sg c p1_0_0).bind fun b=>
 some (!b.2,b.1)).bind fun a=>
 if a.1 then
 none
 else
 some (a.2,(⟨p0.words,(w64 (p0.at_+1)),p0.bad⟩:aD))
theorem gY {a:Nat}{b1_0:Nat}(b:aD) (p1_0_0:Option Nat) (D:Own c0 G ((Eb a 131 [v1,I b.at_,B b.bad])::F)) (M:Rel c0 sg G){r:Sto×aD}(o:Sl RS c0 v1 b.words) (m3:∀j u,([v4]:List Value)[j]? = some u->Im c0 b1_0 (0+j) u) (h5:Pt 6 c0 v4 p1_0_0) (H:cS sg b p1_0_0=some r): RU 109 #[Q a,.func (.func 117) #[] #[Q b1_0]] c0 fun c v=>∃y1,∃G_:Gm,Own c G_ ((Eb a 131 [y1,I r.2.at_,B r.2.bad])::F)/\Rel c r.1 G_/\v= .tuple #[]/\Sl RS c y1 r.2.words:=by
 unfold cS at H;refine en func109 rfl rfl<|W.seq<|sr<|vv (Q a)<|Rs a 2<|vx (le1 2 u_4 (D.on 0 rfl))<|RF H (fun h6 H=>?_) (fun h6 H=>?_)
 ·cases H
 refine RG<|W.seq<|W.seq<|bn H fun k Z H=>W.join (Jn c0 fun c l=>∃G_,Own c G_ ((Eb a 131 [v1,I b.at_,B b.bad])::F)/\l= [(0,Q a),(32,B k.1)]/\Rel c k.2 G_) ?_ ?_
 ·clear H;refine rD [] (Kp G0 [(Eb a 131 [v1,I b.at_,B b.bad])]) D ?_;intro S l8 x;have i:=(Kp.cons (x.on 0 rfl) Kp.nil0);refine ta 0 (Q a)<|ta 1 (Q a)<|ta 2 (Qo a 1)<|tkx 3 i (fun f d h=>le1 1 u_3 (h.on 0 rfl)) (ta 4 (Q a)<|ta 5 (Q a)<|ta 6 (Q a)<|tkx 7 i (fun f d h=>le1 0 ki (h.on 0 rfl)) (tx 8 (fun f d=>ln 3 ki o.m)<|ta 9 (B (decide (b.at_>=(b.words.length:Int)))) ?_));rcases bo (decide (b.at_>=(b.words.length:Int))) with g|g
  ·obtain rfl:=aL (it g Z);exact AC.takeb 10 g rfl (by kernel_rfl) (by kernel_rfl) (fun f d=>(by kernel_rfl)) (tp 11<|tp 12<|tp 13<|tp 14<|tp 15<|tp 16<|tp 17<|tp 18<|tp 19<|tp 20<|tp 21<|tp 22<|tp 23<|ta 24 (B true)<|dn (nrm<|jn S ⟨G,x,rfl,M.m⟩))
  have e:=ie g Z;refine bn e fun y t e=>bn e fun n T e=>AC.takeb 10 g rfl (by kernel_rfl) (by kernel_rfl) (fun f d=>(by kernel_rfl)) (ta 11 (.func (.func 117) #[] #[Q b1_0])<|ta 12 (Q a)<|ta 13 (Q a)<|ta 14 (Q a)<|tkx 15 i (fun f d h=>le1 0 ki (h.on 0 rfl)) (ta 16 (Q a)<|ta 17 (Q a)<|ta 18 (Qo a 1)<|tkx 19 i (fun f d h=>le1 1 u_3 (h.on 0 rfl)) ?_));obtain ⟨h0,U,a0⟩:=Sl.at (o.mono l8) (aP t);obtain rfl:=U;refine tx 20 (fun f d=>ix ki o.m t)<|tx 21 (fun f d=>l1 u_9 ((mm a0) 0 _ rfl))<|o1 22 (gc 22 (sI x M.m y p1_0_0 (mm m3) h5.m T) ?_);rintro v23 s l0 ⟨z,p,N,rfl⟩;have b0:=(Kp.cons (p.on 0 rfl) Kp.nil0);refine ⟨.inr b0,ta 23 (B (!n.2)) ?_⟩;cases e;exact ta 24 (B (!n.2))<|dn (nrm<|jn s ⟨z,p,rfl,N⟩)
 rintro e_ w_ ⟨j0,k0,_,rfl,m0,rfl,A,q,rfl,P⟩;refine nrm<|cn H (fun X H=>?_) (fun X H=>?_)
 ·cases H
 refine RG<|W.region<|vv (Q a)<|Rs a 1<|vx (le1 1 u_3 (q.on 0 rfl))<|Rt (b.at_+1)<|va (Q a)<|Rs a 1<|md (sC 3 1 (I (w64 (b.at_+1))) [v1,I (w64 (b.at_+1)),B b.bad] 0 q ⟨rfl,trivial⟩) ?_;rintro R o0 E;refine WL.nil ?_;cases H;exact RN R ⟨v1,A,E,P.m,rfl,o.m⟩
def sv (p0:ByteArray) (q0_0:ByteArray):Option Bool:=
 some (eqS p0 q0_0)
theorem BT {b:Nat}(d:Own c0 G F) (a:ByteArray) (q0_0:ByteArray){r:Bool}(e:∀j u,([.string q0_0]:List Value)[j]? = some u->Im c0 b (0+j) u) (H:sv a q0_0=some r): RU 160 #[.string a,Q b] c0 fun c v=>Own c G F/\v=B r:=by
 unfold sv at H;refine en func160 rfl rfl<|Ru false<|wln<|RB (.string a)<|vx (l1 u_9 (e 0 _ rfl))<|vr (B (eqS a q0_0)) (pq (by kernel_rfl))<|Ri (eqS a q0_0)<|RD ?_;cases H;exact Rz c0 ⟨d,rfl⟩
def bZ (p0:aD) (p1_0_0:ByteArray):Option aD:=
 if p0.bad then
 none
 else
 (orE (decide (p0.at_>=(p0.words.length:Int))) ((idx p0.words p0.at_).bind fun b=>
 (sv b p1_0_0).bind fun c=>
 some (!c))).bind fun a=>
 if a then
 none
 else
 some (⟨p0.words,(w64 (p0.at_+1)),p0.bad⟩:aD)
theorem dC {a:Nat}{b1_0:Nat}(b:aD) (p1_0_0:ByteArray) (z:Own c0 G ((Eb a 131 [v1,I b.at_,B b.bad])::F)){r:aD}(k:Sl RS c0 v1 b.words) (m3:∀j u,([.string p1_0_0]:List Value)[j]? = some u->Im c0 b1_0 (0+j) u) (H:bZ b p1_0_0=some r): RU 109 #[Q a,.func (.func 160) #[] #[Q b1_0]] c0 fun c v=>∃U,Own c G ((Eb a 131 [U,I r.at_,B r.bad])::F)/\v= .tuple #[]/\Sl RS c U r.words:=by
 unfold bZ at H;refine en func109 rfl rfl<|W.seq<|sr<|vv (Q a)<|Rs a 2<|vx (le1 2 u_4 (z.on 0 rfl))<|RF H (fun X H=>?_) (fun X H=>?_)
 ·cases H
 refine RG<|W.seq<|W.seq<|bn H fun x R H=>W.join (Jn c0 fun c l=>Own c G ((Eb a 131 [v1,I b.at_,B b.bad])::F)/\l= [(0,Q a),(32,B x)]) ?_ ?_
 ·clear H;refine rD [] (Kp G0 [(Eb a 131 [v1,I b.at_,B b.bad])]) z ?_;intro E Z t;have n:=(Kp.cons (t.on 0 rfl) Kp.nil0);refine ta 0 (Q a)<|ta 1 (Q a)<|ta 2 (Qo a 1)<|tkx 3 n (fun f d g=>le1 1 u_3 (g.on 0 rfl)) (ta 4 (Q a)<|ta 5 (Q a)<|ta 6 (Q a)<|tkx 7 n (fun f d g=>le1 0 ki (g.on 0 rfl)) (tx 8 (fun f d=>ln 3 ki k.m)<|ta 9 (B (decide (b.at_>=(b.words.length:Int)))) ?_));rcases bo (decide (b.at_>=(b.words.length:Int))) with h|h
  ·obtain rfl:=orT h R;exact AC.takeb 10 h rfl (by kernel_rfl) (by kernel_rfl) (fun f d=>(by kernel_rfl)) (tp 11<|tp 12<|tp 13<|tp 14<|tp 15<|tp 16<|tp 17<|tp 18<|tp 19<|tp 20<|tp 21<|tp 22<|tp 23<|ta 24 (B true)<|dn (nrm<|jn E ⟨t,rfl⟩))
  have e:=orF h R;refine bn e fun y s e=>bn e fun i M e=>AC.takeb 10 h rfl (by kernel_rfl) (by kernel_rfl) (fun f d=>(by kernel_rfl)) (ta 11 (.func (.func 160) #[] #[Q b1_0])<|ta 12 (Q a)<|ta 13 (Q a)<|ta 14 (Q a)<|tkx 15 n (fun f d g=>le1 0 ki (g.on 0 rfl)) (ta 16 (Q a)<|ta 17 (Q a)<|ta 18 (Qo a 1)<|tkx 19 n (fun f d g=>le1 1 u_3 (g.on 0 rfl)) ?_));obtain ⟨a0,N,S⟩:=Sl.at (k.mono Z) (aP s);obtain rfl:=N;refine tx 20 (fun f d=>ix ki k.m s)<|tx 21 (fun f d=>l1 u_9 ((mm S) 0 _ rfl))<|o1 22 (gc 22 (BT t y p1_0_0 (mm m3) M) ?_);rintro v21 q f0 ⟨o,rfl⟩;have T:=(Kp.cons (o.on 0 rfl) Kp.nil0);refine ⟨.inr T,ta 23 (B (!i)) ?_⟩;cases e;exact ta 24 (B (!i))<|dn (nrm<|jn q ⟨o,rfl⟩)
 rintro e_ w_ ⟨d0,e0,_,rfl,g0,rfl,p,rfl⟩;refine nrm<|cn H (fun P H=>?_) (fun P H=>?_)
 ·cases H
 refine RG<|W.region<|vv (Q a)<|Rs a 1<|vx (le1 1 u_3 (p.on 0 rfl))<|Rt (b.at_+1)<|va (Q a)<|Rs a 1<|md (sC 3 1 (I (w64 (b.at_+1))) [v1,I (w64 (b.at_+1)),B b.bad] 0 p ⟨rfl,trivial⟩) ?_;rintro D h0 A;refine WL.nil ?_;cases H;exact RN D ⟨v1,A,rfl,k.m⟩
def qe (p0:ByteArray):Option Unit:=
 some ()
theorem wg (e:Own c0 G F) (a:ByteArray){r:Unit}(H:qe a=some r): RU 114 #[.string a] c0 fun c v=>∃d:Nat,Own c G F/\v= .func (.func 160) #[] #[Q d]/\(∀j u,([.string a]:List Value)[j]? = some u->Im c d (0+j) u):=by
 unfold qe at H;refine en func114 rfl rfl<|sr<|me (bx 9 [.string a] e) ?_;rintro v5 g i ⟨b,rfl,f,h⟩;refine va (.nilFunc)<|RO<|vv (.func (.func 160) #[] #[Q b])<|RD ?_;cases H;exact Rz g ⟨b,f,rfl,h⟩
def nK (p0:Nat) (p1:Int) (p2:Int):Option Unit:=
 some ()
theorem wk {a:Nat}(p:Own c0 G F) (l:Nat) (d:Int) (e:Int){r:Unit}(M:c0.t 6 l=some a) (H:nK l d e=some r): RU 115 #[.pointer (some ⟨a,2,none⟩),I d,I e] c0 fun c v=>∃m:Nat,∃n:Nat,∃o:Nat,Own c G F/\v= .func (.func 161) #[] #[Q m,Q n,Q o]/\(∀j u,([I e]:List Value)[j]? = some u->Im c m (0+j) u)/\(∀j u,([.pointer (some ⟨a,2,none⟩)]:List Value)[j]? = some u->Im c n (0+j) u)/\(∀j u,([I d]:List Value)[j]? = some u->Im c o (0+j) u):=by
 unfold nK at H;refine en func115 rfl rfl<|sr<|me (bx 185 [.pointer (some ⟨a,2,none⟩)] p) ?_;rintro v6 E N ⟨f,rfl,q,x⟩;refine me (bx 3 [I d] q) ?_;rintro v11 z A ⟨g,rfl,s,y⟩;refine me (bx 3 [I e] s) ?_;rintro v16 i D ⟨b,rfl,h,k⟩;refine va (.nilFunc)<|RO<|vv (.func (.func 161) #[] #[Q b,Q f,Q g])<|RD ?_;cases H;exact Rz i ⟨b,f,g,h,rfl,k,(mm x),(mm y)⟩
def nJ (p0:Nat) (p1:Int) (p2:Int):Option Unit:=
 some ()
theorem wj {a:Nat}(p:Own c0 G F) (l:Nat) (d:Int) (e:Int){r:Unit}(M:c0.t 6 l=some a) (H:nJ l d e=some r): RU 115 #[.pointer (some ⟨a,3,none⟩),I d,I e] c0 fun c v=>∃m:Nat,∃n:Nat,∃o:Nat,Own c G F/\v= .func (.func 161) #[] #[Q m,Q n,Q o]/\(∀j u,([I e]:List Value)[j]? = some u->Im c m (0+j) u)/\(∀j u,([.pointer (some ⟨a,3,none⟩)]:List Value)[j]? = some u->Im c n (0+j) u)/\(∀j u,([I d]:List Value)[j]? = some u->Im c o (0+j) u):=by
 unfold nJ at H;refine en func115 rfl rfl<|sr<|me (bx 185 [.pointer (some ⟨a,3,none⟩)] p) ?_;rintro v6 E N ⟨f,rfl,q,x⟩;refine me (bx 3 [I d] q) ?_;rintro v11 z A ⟨g,rfl,s,y⟩;refine me (bx 3 [I e] s) ?_;rintro v16 i D ⟨b,rfl,h,k⟩;refine va (.nilFunc)<|RO<|vv (.func (.func 161) #[] #[Q b,Q f,Q g])<|RD ?_;cases H;exact Rz i ⟨b,f,g,h,rfl,k,(mm x),(mm y)⟩
def nI (p0:Nat) (p1:Int) (p2:Int):Option Unit:=
 some ()
theorem wi {a:Nat}(p:Own c0 G F) (l:Nat) (d:Int) (e:Int){r:Unit}(M:c0.t 6 l=some a) (H:nI l d e=some r): RU 115 #[.pointer (some ⟨a,5,none⟩),I d,I e] c0 fun c v=>∃m:Nat,∃n:Nat,∃o:Nat,Own c G F/\v= .func (.func 161) #[] #[Q m,Q n,Q o]/\(∀j u,([I e]:List Value)[j]? = some u->Im c m (0+j) u)/\(∀j u,([.pointer (some ⟨a,5,none⟩)]:List Value)[j]? = some u->Im c n (0+j) u)/\(∀j u,([I d]:List Value)[j]? = some u->Im c o (0+j) u):=by
 unfold nI at H;refine en func115 rfl rfl<|sr<|me (bx 185 [.pointer (some ⟨a,5,none⟩)] p) ?_;rintro v6 E N ⟨f,rfl,q,x⟩;refine me (bx 3 [I d] q) ?_;rintro v11 z A ⟨g,rfl,s,y⟩;refine me (bx 3 [I e] s) ?_;rintro v16 i D ⟨b,rfl,h,k⟩;refine va (.nilFunc)<|RO<|vv (.func (.func 161) #[] #[Q b,Q f,Q g])<|RD ?_;cases H;exact Rz i ⟨b,f,g,h,rfl,k,(mm x),(mm y)⟩
def nH (p0:Nat) (p1:Int) (p2:Int):Option Unit:=
 some ()
theorem wh {a:Nat}(p:Own c0 G F) (l:Nat) (d:Int) (e:Int){r:Unit}(M:c0.t 6 l=some a) (H:nH l d e=some r): RU 115 #[.pointer (some ⟨a,6,none⟩),I d,I e] c0 fun c v=>∃m:Nat,∃n:Nat,∃o:Nat,Own c G F/\v= .func (.func 161) #[] #[Q m,Q n,Q o]/\(∀j u,([I e]:List Value)[j]? = some u->Im c m (0+j) u)/\(∀j u,([.pointer (some ⟨a,6,none⟩)]:List Value)[j]? = some u->Im c n (0+j) u)/\(∀j u,([I d]:List Value)[j]? = some u->Im c o (0+j) u):=by
 unfold nH at H;refine en func115 rfl rfl<|sr<|me (bx 185 [.pointer (some ⟨a,6,none⟩)] p) ?_;rintro v6 E N ⟨f,rfl,q,x⟩;refine me (bx 3 [I d] q) ?_;rintro v11 z A ⟨g,rfl,s,y⟩;refine me (bx 3 [I e] s) ?_;rintro v16 i D ⟨b,rfl,h,k⟩;refine va (.nilFunc)<|RO<|vv (.func (.func 161) #[] #[Q b,Q f,Q g])<|RD ?_;cases H;exact Rz i ⟨b,f,g,h,rfl,k,(mm x),(mm y)⟩
def fp (sg:Sto) (p0:Option Nat) (p1:aD):Option (Sto×aD×Er):=
 ((p0).bind fun a=>
 (sg.snap_reader[a]?).bind fun g=>
 if (g.n==0)=true then
 (qe (⟨#[115,99,114,101,101,110]⟩:ByteArray)).bind fun o=>
 (bZ p1 (⟨#[115,99,114,101,101,110]⟩:ByteArray)).bind fun j=>
 (nK a 1 1025).bind fun p=>
 (db sg j 1025 a 1).bind fun i=>
 (nJ a 1 1025).bind fun q=>
 (da i.1 i.2 1025 a 1).bind fun d=>
 some (d.2.words,d.2.at_,d.2.bad,d.1)
 else
 if (g.n==1)=true then
 (qe (⟨#[97,116]⟩:ByteArray)).bind fun r=>
 (bZ p1 (⟨#[97,116]⟩:ByteArray)).bind fun k=>
 (nI a 0 g.v.High).bind fun s=>
 (cZ sg k g.v.High a 0).bind fun f=>
 (f.1.snap_reader[a]?).bind fun h=>
 (nH a 0 h.v.Wide).bind fun t=>
 (cY f.1 f.2 h.v.Wide a 0).bind fun b=>
 if decide (b.2.at_<(b.2.words.length:Int)) then
 none
 else
 some (b.2.words,b.2.at_,b.2.bad,b.1)
 else
 (qe (⟨#[97,117,116,111]⟩:ByteArray)).bind fun u=>
 (bZ p1 (⟨#[97,117,116,111]⟩:ByteArray)).bind fun l=>
 (cS sg l p0).bind fun e=>
 some (e.2.words,e.2.at_,e.2.bad,e.1)).bind fun c=>
 (ep (⟨c.1,c.2.1,c.2.2.1⟩:aD)).bind fun m=>
 some (c.2.2.2,(⟨c.1,c.2.1,c.2.2.1⟩:aD),m)
theorem ni {d:Nat}(p0:Option Nat) (x:aD) (O0:Own c0 G ((Eb d 131 [v3,I x.at_,B x.bad])::F)) (R0:Rel c0 sg G) (hT:Et c0){r:Sto×aD×Er}(h2:Pt 6 c0 v1 p0) (z:Sl RS c0 v3 x.words) (H:fp sg p0 x=some r):
    RU 65 #[v1,Q d] c0 fun c v=>∃y1 y2,∃G_:Gm,Own c G_ ((Eb d 131 [y2,I r.2.1.at_,B r.2.1.bad])::F)/\Rel c r.1 G_/\v=y1/\RE 352 80 c y1 r.2.2/\Sl RS c y2 r.2.1.words:=by
 unfold fp at H
 refine en func65 rfl rfl<|sr ?_
 obtain ⟨a5,rfl⟩:=(h2).form
 refine me (bx 76 [.pointer a5] O0) ?_
 rintro v10 c9 l9 ⟨b6,rfl,O7,o⟩
 refine va (.nilIface)<|wln<|bn H fun i a A=>W.seqJ (Jn c9 fun c l=>∃v13 G_,Own c G_ ((Eb d 131 [v13,I i.2.1,B i.2.2.1])::F)/\l= [(1,Q d)]/\Rel c i.2.2.2 G_/\Sl RS c v13 i.1) ?_ ?_
 ·refine sr<|vx (l1 AW (o 0 _ rfl))<|bn a fun h w3 a=>?_
  obtain ⟨b,x3,e⟩:=((h2.mono l9)).get w3
  cases x3
  refine va (Q b)<|Rs b 1<|bn a fun j y3 a=>?_
  obtain ⟨v19,o8,l0,j8⟩:=Rel.open_snap_reader (R0.mono l9) y3 e
  refine vx (le1 1 u_3 (O7.gon l0 0 rfl))<|wln<|W.block<|sr<|Rk (j.n==0)<|RF a (fun z3 a=>?_) (fun z3 a=>?_)
  ·refine RB (Q d)<|bn a fun d7 a4 a=>cl (wg O7 (⟨#[115,99,114,101,101,110]⟩:ByteArray) a4) ?_
   rintro v32 e8 k4 ⟨x7,l3,rfl,n4⟩
   obtain ⟨o7,p7,q7,rfl⟩:=((z.mono (l9.trans k4))).form
   refine bn a fun f3 b4 a=>cl (dC x (⟨#[115,99,114,101,101,110]⟩:ByteArray) l3 z.m n4 b4) ?_
   rintro v45 f8 k8 ⟨v38,m3,rfl,m0⟩
   refine wln<|RB (Q d)<|vx (l1 AW ((mm o) 0 _ rfl))<|va (Q b)<|vv (Qo b 2)<|bn a fun e7 c4 a=>cl (wk m3 h 1 1025 (tm e) c4) ?_
   rintro v58 g8 l4 ⟨y7,z7,a8,n3,rfl,o4,p4,q4⟩
   obtain ⟨r7,s7,t7,rfl⟩:=((m0.mono l4)).form
   refine bn a fun g3 d4 a=>cl (iW f3 1025 h 1 n3 R0.m hT.m m0.m o4 p4 (tm e) q4 d4) ?_
   rintro q8 h8 l8 ⟨p8,n7,o3,s3,rfl,o0⟩
   refine wln<|Rv (Q d)<|vx (l1 AW ((mm o) 0 _ rfl))<|va (Q b)<|Rs b 2<|Rs b 3<|bn a fun f7 e4 a=>cl (wj o3 h 1 1025 (tm e) e4) ?_
   rintro r8 i8 m4 ⟨b8,c8,d8,p3,rfl,r4,s4,t4⟩
   obtain ⟨u7,v7,w7,rfl⟩:=((o0.mono m4)).form
   refine bn a fun g7 f4 a=>cl (iV g3.2 1025 h 1 p3 s3.m hT.m o0.m r4 s4 (tm e) t4 f4) ?_
   rintro s8 u3 n8 ⟨u4,k3,q3,t3,rfl,g4⟩
   refine WL.nil<|RH ?_
   cases a
   exact jn u3 ⟨u4,k3,q3,rfl,t3,g4⟩
  refine sr<|Rk (j.n==1)<|RF a (fun i4 a=>?_) (fun i4 a=>?_)
  ·refine RB (Q d)<|bn a fun h7 j4 a=>cl (wg O7 (⟨#[97,116]⟩:ByteArray) j4) ?_
   rintro q6 y5 a0 ⟨p5,u0,rfl,p2⟩
   obtain ⟨y4,z4,b5,rfl⟩:=((z.mono (l9.trans a0))).form
   refine bn a fun h3 t1 a=>cl (dC x (⟨#[97,116]⟩:ByteArray) u0 z.m p2 t1) ?_
   rintro s6 z5 m2 ⟨r6,v0,rfl,T⟩
   refine Rx<|rD [12] (Kp G []) v0 ?_
   intro j1 b0 D
   have a3:=(Kp.nil D)
   refine ta 0 (Q d)<|tx 1 (fun k g=>l1 AW ((mm o) 0 _ rfl))<|ta 2 (Q b)<|ta 3 (Qo b 2)<|ta 4 (Qo b 5)<|ta 5 (Qo b 5)<|tx 6 (fun k g=>l1 AW ((mm o) 0 _ rfl))<|ta 7 (Q b)<|ta 8 (Qo b 2)<|ta 9 (Qo b 3)<|tkx 10 a3 (fun k g s=>le1 3 u_3 (s.gon l0 0 rfl)) (bn a fun i7 u1 a=>o1 11 (gc 11 (wi D h 0 j.v.High (tm e) u1) ?_))
   rintro t6 k1 d0 ⟨q5,r5,s5,E,rfl,q2,s2,t2⟩
   have b3:=(Kp.nil E)
   refine ⟨.inr b3,?_⟩
   obtain ⟨c5,d5,e5,rfl⟩:=((T.mono (b0.trans d0))).form
   refine bn a fun i3 w1 a=>o1 12 (gc 12 (iU h3 j.v.High h 0 E R0.m hT.m T.m q2 s2 (tm e) t2 w1) ?_)
   rintro v6 a6 n2 ⟨u6,p,w0,R,rfl,U⟩
   refine ⟨.inl rfl,dn (RQ<|rD [12] (Kp p []) w0 ?_)⟩
   intro m1 u M
   have c3:=(Kp.nil M)
   refine ta 0 (Q d)<|tx 1 (fun k g=>l1 AW ((mm o) 0 _ rfl))<|ta 2 (Q b)<|ta 3 (Qo b 2)<|ta 4 (Qo b 5)<|ta 5 (Qo b 6)<|tx 6 (fun k g=>l1 AW ((mm o) 0 _ rfl))<|ta 7 (Q b)<|ta 8 (Qo b 2)<|ta 9 (Qo b 2)<|bn a fun g0 x1 a=>?_
   obtain ⟨w6,p6,z1,i6⟩:=Rel.open_snap_reader (R.mono u) x1 (tm e)
   refine tkx 10 c3 (fun k g s=>le1 2 u_3 (s.gon z1 0 rfl)) (bn a fun j7 b2 a=>o1 11 (gc 11 (wh M h 0 g0.v.Wide (tm e) b2) ?_))
   rintro x6 n1 e0 ⟨t5,u5,v5,N,rfl,u2,v2,w2⟩
   have d3:=(Kp.nil N)
   refine ⟨.inr d3,?_⟩
   obtain ⟨f5,g5,h5,rfl⟩:=((U.mono (u.trans e0))).form
   refine bn a fun f c2 a=>o1 12 (gc 12 (iT i3.2 g0.v.Wide h 0 N R.m hT.m U.m u2 v2 ((a0.trans (m2.trans (b0.trans (d0.trans (n2.trans (u.trans e0)))))).t _ _ _ e) w2 c2) ?_)
   rintro y6 c6 j6 ⟨y,q0,x0,d1,rfl,X⟩
   refine ⟨.inl rfl,dn (RQ<|rD [] (Kp G0 [(Eb d 131 [y,I f.2.at_,B f.2.bad])]) x0 ?_)⟩
   intro S k6 P
   have h0:=(Kp.cons (P.on 0 rfl) Kp.nil0)
   refine ta 0 (Q d)<|ta 1 (Q d)<|ta 2 (Qo d 1)<|tkx 3 h0 (fun k g s=>le1 1 u_3 (s.on 0 rfl)) (ta 4 (Q d)<|ta 5 (Q d)<|ta 6 (Q d)<|tkx 7 h0 (fun k g s=>le1 0 ki (s.on 0 rfl)) (tx 8 (fun k g=>ln 3 ki X.m)<|ta 9 (B (decide (f.2.at_<(f.2.words.length:Int))))<|dn (nrm<|cn a (fun d2 a=>?_) (fun d2 a=>?_))))
   ·cases a
   refine W.skip<|RH ?_
   cases a
   exact jn S ⟨y,q0,P,rfl,d1.m,X.m⟩
  refine RB (Q d)<|bn a fun k7 e2 a=>cl (wg O7 (⟨#[97,117,116,111]⟩:ByteArray) e2) ?_
  rintro z6 d6 o2 ⟨w5,y0,rfl,x2⟩
  obtain ⟨i5,j5,k5,rfl⟩:=((z.mono (l9.trans o2))).form
  refine bn a fun j3 g2 a=>cl (dC x (⟨#[97,117,116,111]⟩:ByteArray) y0 z.m x2 g2) ?_
  rintro b7 e6 l6 ⟨a7,z0,rfl,Z⟩
  refine wln<|Rv (Q d)<|va (.func (.func 117) #[] #[Q b6]) ?_
  obtain ⟨l5,m5,n5,rfl⟩:=(Z).form
  refine bn a fun l7 i2 a=>cl (gY j3 p0 z0 R0.m Z (mm o) h2.m i2) ?_
  rintro c7 q1 m6 ⟨e3,s0,a1,e1,rfl,j2⟩
  refine WL.nil<|RH ?_
  cases a
  exact jn q1 ⟨e3,s0,a1,rfl,e1,j2⟩
 rintro e_ w_ ⟨f6,h6,_,rfl,n6,rfl,v13,t0,b1,rfl,f1,q⟩
 refine RB (Q d) ?_
 obtain ⟨g1,h1,i1,rfl⟩:=(q).form
 refine bn A fun m7 k2 A=>cl (jR (⟨i.1,i.2.1,i.2.2.1⟩:aD) b1 q k2) ?_
 rintro i0 s1 o6 ⟨_,c1,rfl,l2⟩
 refine va i0<|RD ?_
 cases A
 exact Rz s1 ⟨i0,(.slice g1 h1 i1),t0,c1,f1.m,rfl,l2,q.m⟩
def mO (sg:Sto) (p0:Option Nat):Option (Sto×Er):=
 (cm (σ:=Sto) (τ:=Sto) 2000 (fun g=>
 (p0).bind fun m=>
 (g.snap_reader[m]?).bind fun f=>
 (orE (decide (f.n<3)) (some (decide (f.n<(w64 (3+f.v.High)))))).bind fun l=>
 if l then
 (mf g p0).bind fun d=>
 if (!d.2.2)=true then
 none
 else
 (p0).bind fun e=>
 (d.1.snap_reader[e]?).bind fun j=>
 if decide (j.n<3) then
 (fp d.1 p0 (⟨d.2.1,0,false⟩:aD)).bind fun b=>
 if (!b.2.2.isNil)=true then
 none
 else
 (b.1.snap_reader[e]?).bind fun a=>
 (b.1.set_snap_reader e (⟨a.rest,(w64 (a.n+1)),a.v⟩:ck)).bind fun c=>
 some (.inl c)
 else
 (fa d.1 p0 (⟨d.2.1,0,false⟩:aD)).bind fun b=>
 if (!b.2.2.isNil)=true then
 none
 else
 (b.1.snap_reader[e]?).bind fun a=>
 (b.1.set_snap_reader e (⟨a.rest,(w64 (a.n+1)),a.v⟩:ck)).bind fun c=>
 some (.inl c)
 else
 some (.inr g)) sg).bind fun h=>
 (p0).bind fun i=>
 (h.snap_reader[i]?).bind fun k=>
 if (!(eqS k.rest (⟨#[]⟩:ByteArray)))=true then
 none
 else
 some (h,Er.nil)
theorem vt (O0:Own c0 G F) (R0:Rel c0 sg G) (hT:Et c0) (Z:Option Nat){r:Sto×Er}(x:Pt 6 c0 v1 Z) (H:mO sg Z=some r): RU 30 #[v1] c0 fun c v=>∃y1,∃G_:Gm,Own c G_ F/\Rel c r.1 G_/\v=y1/\RE 352 80 c y1 r.2:=by
 unfold mO at H;refine en func30 rfl rfl<|RB (.nilIface)<|Rx<|W.block<|bn H fun a5 h3 j=>lp h3 (fun w0=>Jn c0 fun c l=>∃G_,Own c G_ F/\l= [(0,v1)]/\Rel c w0 G_) (fun x1 ex e w=>ex= .exit 0/\(Jn c0 fun c l=>∃G_,Own c G_ F/\l= [(0,v1)]/\Rel c x1 G_) e w) ?_ ?_ ?_
 ·clear j h3;intro w0 h5 p2 p3 H;revert p2 p3;rintro e_ w_ ⟨c5,g6,_,rfl,l5,rfl,G8,O7,rfl,R9⟩;refine W.seq<|W.seq<|bn H fun w4 q2 H=>bn H fun i s2 H=>bn H fun n2 s0 H=>W.join (Jn c5 fun c l=>Own c G8 F/\l= [(0,v1),(24,B n2)]) ?_ ?_
  ·clear H;refine rD [] (Kp G8 []) O7 ?_;intro R u0 A;have a0:=(Kp.nil A);refine ta 0 v1 ?_;obtain ⟨f,rfl,t2⟩:=((x.mono (l5.trans u0))).get q2;refine ta 1 (Q f)<|ta 2 (Qo f 1) ?_;obtain ⟨v19,b5,T,r4⟩:=Rel.open_snap_reader (R9.mono u0) s2 t2;refine tkx 3 a0 (fun c' t U=>le1 1 u_3 (U.gon T 0 rfl)) (ta 4 (B (decide (i.n<3))) ?_);rcases bo (decide (i.n<3)) with o|o
   ·obtain rfl:=orT o s0;exact AC.takeb 5 o rfl (by kernel_rfl) (by kernel_rfl) (fun c' t=>(by kernel_rfl)) (tp 6<|tp 7<|tp 8<|tp 9<|tp 10<|tp 11<|tp 12<|tp 13<|tp 14<|tp 15<|tp 16<|ta 17 (B true)<|dn (nrm<|jn R ⟨A,rfl⟩))
   have d2:=orF o s0;refine AC.takeb 5 o rfl (by kernel_rfl) (by kernel_rfl) (fun c' t=>(by kernel_rfl)) (ta 6 (Q f)<|ta 7 (Q f)<|ta 8 (Qo f 1)<|tkx 9 a0 (fun c' t U=>le1 1 u_3 (U.gon T 0 rfl)) (ta 10 (Q f)<|ta 11 (Q f)<|ta 12 (Qo f 2)<|ta 13 (Qo f 3)<|tkx 14 a0 (fun c' t U=>le1 3 u_3 (U.gon T 0 rfl)) (ta 15 (I (w64 (3+i.v.High)))<|ta 16 (B (decide (i.n<(w64 (3+i.v.High))))) ?_)));cases d2;exact ta 17 (B (decide (i.n<(w64 (3+i.v.High)))))<|dn (nrm<|jn R ⟨A,rfl⟩)
  rintro e_ w_ ⟨l2,q4,_,rfl,l3,rfl,f0,rfl⟩;refine nrm<|cn H (fun v2 H=>?_) (fun v2 H=>?_)
  ·refine RG<|W.block<|RB v1<|bn H fun d w2 H=>cl (un f0 R9.m hT.m Z x.m w2) ?_;rintro v40 m4 m3 ⟨v33,g4,D,N,rfl,s⟩;refine va (.tuple #[v33,B d.2.2])<|va v33<|Ri d.2.2<|va v33<|Ri d.2.2<|Rx<|Ru d.2.2<|Ri (!d.2.2)<|RF H (fun x2 H=>?_) (fun x2 H=>?_)
   ·cases H
   refine RG<|RB v1<|vv (.func (.func 64) #[v1] #[])<|Rx<|RB v1<|bn H fun b4 y2 H=>?_;obtain ⟨b,rfl,p⟩:=((x.mono (l5.trans (l3.trans m3)))).get y2;refine va (Q b)<|Rs b 1<|bn H fun z1 z2 H=>?_;obtain ⟨v46,d5,a3,s4⟩:=Rel.open_snap_reader N z2 p;refine vx (le1 1 u_3 (D.gon a3 0 rfl))<|Rj (z1.n<3)<|RF H (fun b3 H=>?_) (fun b3 H=>?_)
   ·refine Rv (Q b)<|vv (.func (.func 65) #[Q b] #[])<|Rx<|RB (.func (.func 65) #[Q b] #[])<|va v33 ?_;obtain ⟨j0,k0,l0,rfl⟩:=(s).form;refine va (.agg #[.slice j0 k0 l0,I 0,B false])<|me (al 131 [.slice j0 k0 l0,I 0,B false] D) ?_;rintro v57 n4 x4 ⟨k4,rfl,e2⟩;refine bn H fun q c3 H=>cl (ni Z (⟨d.2.1,0,false⟩:aD) e2 N.m hT.m x.m s.m c3) ?_;rintro v60 o4 y4 ⟨_,e5,h4,g0,i0,rfl,d3,t4⟩;refine va v60<|wln<|RB v60<|vr (B (!q.2.2.isNil)) (by rcases (d3).cs with ⟨g,h⟩|⟨b_,g,h⟩|⟨b_,g,h⟩ <;> (subst g; rw [h]; kernel_rfl))<|RF H (fun e3 H=>?_) (fun e3 H=>?_)
    ·cases H
    refine RG<|W.region<|vv (Q b)<|Rs b 1<|bn H fun a f3 H=>?_;obtain ⟨u,x0,t0,g3⟩:=Rel.open_snap_reader i0 f3 (tm p);refine vx (le1 1 u_3 (g0.gon t0 0 rfl))<|Rt (a.n+1)<|va (Q b)<|Rs b 1<|md (gC 3 1 (I (w64 (a.n+1))) [.string a.rest,I (w64 (a.n+1)),I a.v.Wide,I a.v.High,u,I a.v.At.Row,I a.v.At.Col,B a.v.At.Pending,B a.v.Auto] 0 g0 t0 ⟨rfl,trivial⟩) ?_;rintro m2 v0 f2;refine bn H fun y i3 H=>?_;obtain ⟨c2,g2,k2,u4,j4⟩:=Rel.put_snap_reader f2 (i0.mono v0) (E':=[(Eb b 78 [.string a.rest,I (w64 (a.n+1)),I a.v.Wide,I a.v.High,u,I a.v.At.Row,I a.v.At.Col,B a.v.At.Pending,B a.v.Auto]),es false aN u 56 x0 a.v.Lines]) i3 ⟨b,u,x0,(tm p),rfl,(g3.mono v0)⟩;refine WL.nil<|bkn ?_;cases H;refine ⟨_,rfl,?_⟩;have i2:=g2.sD 1 [];exact jn m2 ⟨c2,i2,rfl,k2⟩
   refine RG<|W.seq<|RB (.func (.func 64) #[Q b] #[])<|va v33 ?_;obtain ⟨m0,o0,q0,rfl⟩:=(s).form;refine va (.agg #[.slice m0 o0 q0,I 0,B false])<|me (al 131 [.slice m0 o0 q0,I 0,B false] D) ?_;rintro f5 p4 z4 ⟨l4,rfl,j2⟩;refine bn H fun q j3 H=>cl (mH Z (⟨d.2.1,0,false⟩:aD) j2 N.m x.m s.m j3) ?_;rintro y0 w3 d4 ⟨_,g5,i4,h0,E,rfl,k3,v4⟩;refine va y0<|wln<|RB y0<|vr (B (!q.2.2.isNil)) (by rcases (k3).cs with ⟨g,h⟩|⟨b_,g,h⟩|⟨b_,g,h⟩ <;> (subst g; rw [h]; kernel_rfl))<|RF H (fun j1 H=>?_) (fun j1 H=>?_)
   ·cases H
   refine RG<|W.region<|vv (Q b)<|Rs b 1<|bn H fun a k1 H=>?_;obtain ⟨k,b0,S,m1⟩:=Rel.open_snap_reader E k1 (tm p);refine vx (le1 1 u_3 (h0.gon S 0 rfl))<|Rt (a.n+1)<|va (Q b)<|Rs b 1<|md (gC 3 1 (I (w64 (a.n+1))) [.string a.rest,I (w64 (a.n+1)),I a.v.Wide,I a.v.High,k,I a.v.At.Row,I a.v.At.Col,B a.v.At.Pending,B a.v.Auto] 0 h0 S ⟨rfl,trivial⟩) ?_;rintro h1 X b1;refine bn H fun y n1 H=>?_;obtain ⟨z0,c1,e1,z3,v3⟩:=Rel.put_snap_reader b1 (E.mono X) (E':=[(Eb b 78 [.string a.rest,I (w64 (a.n+1)),I a.v.Wide,I a.v.High,k,I a.v.At.Row,I a.v.At.Col,B a.v.At.Pending,B a.v.Auto]),es false aN k 56 b0 a.v.Lines]) n1 ⟨b,k,b0,(tm p),rfl,(m1.mono X)⟩;refine WL.nil<|bkn ?_;cases H;refine ⟨_,rfl,?_⟩;have d1:=c1.sD 1 [];exact jn h1 ⟨z0,d1,rfl,e1⟩
  refine W.exit<|thx ?_;cases H;exact ⟨_,rfl,rfl,jn l2 ⟨G8,f0,rfl,R9.m⟩⟩
 ·exact jn c0 ⟨G,O0,rfl,R0⟩
 rintro _ e_ w_ ⟨rfl,i1,y3,_,rfl,w1,rfl,a1,z,rfl,M⟩;refine RJ<|W.seq<|RB v1<|bn j fun c4 q1 j=>?_;obtain ⟨P,rfl,p1⟩:=((x.mono w1)).get q1;refine vv (Q P)<|bn j fun b2 s1 j=>?_;obtain ⟨f4,e4,t1,a4⟩:=Rel.open_snap_reader M s1 p1;refine vx (le1 0 u_9 (z.gon t1 0 rfl))<|vr (B (!(eqS b2.rest (⟨#[]⟩:ByteArray)))) (zS (by kernel_rfl))<|RF j (fun u1 j=>?_) (fun u1 j=>?_)
 ·cases j
 refine RG<|RB (.nilIface)<|RD ?_;cases j;exact Rz i1 ⟨.nilIface,a1,z,M,rfl,rfl⟩
end Go.Proofs.YtkgjnbiiiifoaaaGreatDoor
