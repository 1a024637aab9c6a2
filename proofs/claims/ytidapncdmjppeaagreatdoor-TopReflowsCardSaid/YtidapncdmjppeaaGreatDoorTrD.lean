/- Parts of the proofs of TopReflows: the walk through the code, and plain Lean. No condition. -/
import Derived.Test.YtidapncdmjppeaaGreatDoorTrA
import Derived.Test.YtidapncdmjppeaaGreatDoorProg
import Derived.Test.YtidapncdmjppeaaGreatDoorTrB
import Derived.WalkKit
import Derived.LaidEql
import Derived.Stop.Asserts
import Derived.RowKitTokens
import Derived.Elder7
import Derived.Test.YtidapncdmjppeaaGreatDoorTrC
import Derived.Laws.Cover4
import Derived.OpenShut
import Derived.LaidLaws
import Derived.Handed
import Derived.Lay
import Derived.JoinedOf
import Derived.KernelRfl
import Derived.SizedLaws
import Derived.Shelf.Vars
import Derived.ChangeMaps5
set_option linter.unusedVariables false
set_option linter.unusedSimpArgs false
namespace Go.Proofs.YtidapncdmjppeaaGreatDoor
open Go Go.Lt
set_option maxRecDepth 10000
set_option linter.unusedVariables false
attribute [local irreducible] W WL AC
open Tryz
variable {c0:Cx} {G:Gm} {F:List En} {sg:Sto} {v1 v2 v3 v4 v5 v6 v7 v8 v9 v10 v11 v12 v13 v14 v15 v16 v17 v18 v19 v20 v21 v22 v23 v24 v25 v26 v27 v28 v29 v30 v31 v32 v33 v34 v35 v36 v37 v38 v39 v40 v41 v42 v43 v44 v45 v46 v47 v48 v49 v50 v51 v52 v53 v54 v55 v56 v57 v58 v59 v60:Value}
def ko (sg:Sto) (p0:Option Nat):Option (Sto×(List ByteArray)×Bool):=
 (p0).bind fun d=>
 (sg.snap_reader[d]?).bind fun a=>
 (mn a.rest 10).bind fun c=>
 if (decide (c < 0))=true then
 none
 else
 (A1 a.rest 0 c).bind fun e=>
 (A1 a.rest (w64 (c+1)) (ot a.rest)).bind fun f=>
 (sg.set_snap_reader d (⟨f,a.n,a.v⟩:bX)).bind fun b=>
 (mi e (⟨#[32]⟩:ByteArray)).bind fun g=>
 some (b,g,true)
theorem qV (o:Own c0 G F) (t:Rel c0 sg G) (hT:Et c0) (R:Option Nat) {r:Sto×(List ByteArray)×Bool} (U:Pt 6 c0 v1 R) (H:ko sg R=some r): Calls prog 50 #[v1] c0.w (aQ c0 fun c v=>∃T,∃G_:Gm,Own c G_ (F)∧Rel c r.1 G_∧v= .tuple #[T,B r.2.2]∧Sl RS c T r.2.1):=by
 unfold ko at H;refine en func50 rfl rfl (sr (va (Y) (va (B false) (wln (sr (va (v1) (bn H fun h0 X H=>?_)))))));obtain ⟨b,rfl,P⟩:=(U).get X;refine vv (Q b) (bn H fun a Z H=>?_);obtain ⟨v7,S,g,h9⟩:=Rel.open_snap_reader t Z P;refine vx (le1 0 u_9 (o.gon g 0 rfl)) (bn H fun d y H=>cl (qp o a.rest 10 y) ?_);rintro v17 e0 l16 ⟨h,rfl⟩;refine va (I d) (wln (W.seq (sr (va (I d) (va (B (decide (d < 0))) (wln (cn H (fun z H=>?_) (fun z H=>?_))))))))
 ·cases H
 refine W.skip (nrm (sr (vv (Q b) (va (Q b) (vx (le1 0 u_9 (h.gon g 0 rfl)) (va (I d) (bn H fun e A H=>vr (.string e) (rx (by kernel_rfl) (A9 (k':= .i64) u_9 A _)) (va (.string e) (wln (sr (vv (Q b) (vv (Q b) (vx (le1 0 u_9 (h.gon g 0 rfl)) (va (I d) (va (I (w64 (d+1))) (bn H fun f D H=>vr (.string f) (rx (by kernel_rfl) (A8 (k:= .i64) u_9 D _)) (vv (Q b) (md (gC 9 0 (.string f) [.string f,I a.n,I a.v.Wide,I a.v.High,v7,I a.v.At.Row,I a.v.At.Col,B a.v.At.Pending,B a.v.Auto] 0 h g ⟨rfl,trivial⟩) ?_))))))))))))))))));rintro f0 i p;refine bn H fun j E H=>?_;obtain ⟨l,q,u,g0,d0⟩:=Rel.put_snap_reader p (t.mono (l16.trans i)) (E':=[(Eb b 76 [.string f,I a.n,I a.v.Wide,I a.v.High,v7,I a.v.At.Row,I a.v.At.Col,B a.v.At.Pending,B a.v.Auto]),es false ay v7 39 S a.v.Lines]) E ⟨b,v7,S,(tm P),rfl,(h9.mono (l16.trans i))⟩;refine wln (sr (va (.string e) (bn H fun b0 M H=>cl (tW q hT.m e (⟨#[32]⟩:ByteArray) M) ?_)));rintro v30 x i0 ⟨_,s,rfl,N⟩;refine va (v30) (va (B true) (wln (W.ret ?_)));obtain rfl:=si H;exact r2 (qq x ⟨v30,l,s,u.m,rfl,N⟩)
def ji (sg:Sto) (p0:ByteArray) (d:Nat):Option (Sto×Bool):=
 (sg.api_Line[d]?).bind fun c=>
 (sg.set_api_Line d (⟨c.Cells,eqS p0 (⟨#[43]⟩:ByteArray)⟩:ah)).bind fun a=>
 (orE (eqS p0 (⟨#[43]⟩:ByteArray)) (some (eqS p0 (⟨#[45]⟩:ByteArray)))).bind fun b=>
 some (a,b)
theorem oW {b:Nat} (D:Own c0 G F) (n:Rel c0 sg G) (a:ByteArray) (y:Nat) {r:Sto×Bool} (q:c0.t 7 y=some b) (H:ji sg a y=some r): Calls prog 87 #[.string a,Q b] c0.w (aQ c0 fun c v=>∃G_:Gm,Own c G_ (F)∧Rel c r.1 G_∧v=B r.2):=by
 unfold ji at H;refine en func87 rfl rfl (sr (va (B false) (wln (sr (va (.string a) (vr (B (eqS a (⟨#[43]⟩:ByteArray))) (nf (by kernel_rfl)) (va (Qo b 1) (bn H fun x M H=>?_))))))));obtain ⟨v3,A,P,N⟩:=Rel.open_api_Line n M q;refine md (gC 4 1 (B (eqS a (⟨#[43]⟩:ByteArray))) [v3,B (eqS a (⟨#[43]⟩:ByteArray))] 0 D P ⟨rfl,trivial⟩) ?_;rintro g u E;refine bn H fun z s H=>?_;obtain ⟨i,e,o,T,R⟩:=Rel.put_api_Line E (n.mono u) (E':=[(Eb b 39 [v3,B (eqS a (⟨#[43]⟩:ByteArray))]),es false am v3 36 A x.Cells]) s ⟨b,v3,A,(tm q),rfl,(N.mono u)⟩;refine wln (W.seq (bn H fun h f H=>W.join (Jn g fun c l=>Own c i (F)∧l= [(3,B h)]) ?_ ?_))
 ·clear H;refine W.region (va (.string a) (vr (B (eqS a (⟨#[43]⟩:ByteArray))) (nf (by kernel_rfl)) ?_));rcases bo (eqS a (⟨#[43]⟩:ByteArray)) with d | d
  ·obtain rfl:=orT d f;exact vb d (pz (vv (B true) (wln (jn g ⟨e,rfl⟩))))
  have j:=orF d f;refine vb d (wa (.string a) (wn (vr (B (eqS a (⟨#[45]⟩:ByteArray))) (nf (by kernel_rfl)) ?_)));obtain rfl:=si j;exact vv (B (eqS a (⟨#[45]⟩:ByteArray))) (wln (jn g ⟨e,rfl⟩))
 rintro X Z ⟨p,S,_,rfl,U,rfl,k,rfl⟩;refine nrm (W.ret ?_);obtain rfl:=si H;exact r1 (qq p ⟨i,k,o.m,rfl⟩)
def cw (sg:Sto) (p0:aC) (p1_0:Nat):Option (Sto×aC):=
 if p0.bad=true then
 none
 else
 (if (decide (p0.at_≥(p0.words.length:Int)))=true then some (true,sg) else (idx p0.words p0.at_).bind fun c=>
 (ji sg c p1_0).bind fun b=>
 some (!b.2,b.1)).bind fun a=>
 if a.1=true then
 none
 else
 some (a.2,(⟨p0.words,(w64 (p0.at_+1)),p0.bad⟩:aC))
theorem fE {a:Nat} {b1_0:Nat} (b:aC) (p1_0:Nat) (A:Own c0 G ((Eb a 130 [v1,I b.at_,B b.bad]) :: F)) (E:Rel c0 sg G) {r:Sto×aC} (k:Sl RS c0 v1 b.words) (h3:c0.t 7 p1_0=some b1_0) (H:cw sg b p1_0=some r): Calls prog 86 #[Q a,.func (.func 87) #[] #[Q b1_0]] c0.w (aQ c0 fun c v=>∃y1,∃G_:Gm,Own c G_ ((Eb a 130 [y1,I r.2.at_,B r.2.bad]) :: F)∧Rel c r.1 G_∧v= .tuple #[]∧Sl RS c y1 r.2.words):=by
 unfold cw at H;refine en func86 rfl rfl (W.seq (sr (vv (Q a) (va (Qo a 2) (vx (le1 2 u_4 (A.on 0 rfl)) (wln (cn H (fun h4 H=>?_) (fun h4 H=>?_))))))))
 ·cases H
 refine W.skip (nrm (W.seq (W.seq (bn H fun h X H=>W.join (Jn c0 fun c l=>∃G_,Own c G_ ((Eb a 130 [v1,I b.at_,B b.bad]) :: F)∧l= [(0,Q a),(32,B h.1)]∧Rel c h.2 G_) ?_ ?_))))
 ·clear H;refine rD [] (Kp G0 [(Eb a 130 [v1,I b.at_,B b.bad])]) A ?_;intro R l6 u;have n:Kp G0 [(Eb a 130 [v1,I b.at_,B b.bad])] R:=(Kp.cons (u.on 0 rfl) Kp.nil0);refine ta 0 (Q a) (ta 1 (Q a) (ta 2 (Qo a 1) (tkx 3 n (fun f d g=>le1 1 u_3 (g.on 0 rfl)) (ta 4 (Q a) (ta 5 (Q a) (ta 6 (Q a) (tkx 7 n (fun f d g=>le1 0 jg (g.on 0 rfl)) (tx 8 (fun f d=>ln 3 jg k.m) (ta 9 (B (decide (b.at_≥(b.words.length:Int)))) ?_)))))))));rcases bo (decide (b.at_≥(b.words.length:Int))) with i | i
  ·obtain rfl:=aq (it i X);exact AC.takeb 10 i rfl (by kernel_rfl) (by kernel_rfl) (fun f d=>(by kernel_rfl)) (tp 11 (tp 12 (tp 13 (tp 14 (tp 15 (tp 16 (tp 17 (tp 18 (tp 19 (tp 20 (tp 21 (tp 22 (tp 23 (ta 24 (B true) (dn (nrm (jn R ⟨G,u,rfl,E.m⟩)))))))))))))))))
  have e:=ie i X;refine bn e fun x s e=>bn e fun j S e=>AC.takeb 10 i rfl (by kernel_rfl) (by kernel_rfl) (fun f d=>(by kernel_rfl)) (ta 11 (.func (.func 87) #[] #[Q b1_0]) (ta 12 (Q a) (ta 13 (Q a) (ta 14 (Q a) (tkx 15 n (fun f d g=>le1 0 jg (g.on 0 rfl)) (ta 16 (Q a) (ta 17 (Q a) (ta 18 (Qo a 1) (tkx 19 n (fun f d g=>le1 1 u_3 (g.on 0 rfl)) ?_)))))))));obtain ⟨g0,T,Z⟩:=Sl.at (k.mono l6) (bi s);obtain rfl:=T;refine tx 20 (fun f d=>ix jg k.m s) (tx 21 (fun f d=>l1 u_9 ((mm Z) 0 _ rfl)) (o1 22 (gc 22 (oW u E.m x p1_0 (tm h3) S) ?_)));rintro v21 q j0 ⟨y,o,M,rfl⟩;have a0:Kp G0 [(Eb a 130 [v1,I b.at_,B b.bad])] q:=(Kp.cons (o.on 0 rfl) Kp.nil0);refine ⟨.inr a0,ta 23 (B (!j.2)) ?_⟩;obtain rfl:=si e;exact ta 24 (B (!j.2)) (dn (nrm (jn q ⟨y,o,rfl,M⟩)))
 rintro e_ w_ ⟨h0,i0,_,rfl,k0,rfl,z,p,rfl,N⟩;refine nrm (cn H (fun U H=>?_) (fun U H=>?_))
 ·cases H
 refine W.skip (nrm (W.region (vv (Q a) (va (Qo a 1) (vx (le1 1 u_3 (p.on 0 rfl)) (va (I (w64 (b.at_+1))) (va (Q a) (va (Qo a 1) (md (sC 3 1 (I (w64 (b.at_+1))) [v1,I (w64 (b.at_+1)),B b.bad] 0 p ⟨rfl,trivial⟩) ?_)))))))));rintro P l0 D;refine WL.nil ?_;obtain rfl:=si H;exact n0 (qq P ⟨v1,z,D,N.m,rfl,k.m⟩)
def sQ (p0:ByteArray):Option (aa×Bool):=
 if (eqS p0 (⟨#[46]⟩:ByteArray))=true then
 some ((⟨0,([]:List Int)⟩:aa),true)
 else
 none
theorem BI (i:Own c0 G F) (a:ByteArray) {r:aa×Bool} (H:sQ a=some r):
    Calls prog 89 #[.string a] c0.w (aQ c0 fun c v=>∃d h,Own c G (es true (RI .i32) d 21 h r.1.Text :: F)∧v= .tuple #[.agg #[I r.1.Kind,d],B r.2]∧OA (RI .i32) c d h r.1.Text):=by
 unfold sQ at H
 refine en func89 rfl rfl (sr (me (al 36 [I 0,Y] i) ?_))
 rintro v4 o p ⟨n,rfl,j⟩
 refine va (B false) (wln (W.seq (W.block (sr (va (.string a) (vr (B (eqS a (⟨#[46]⟩:ByteArray))) (nf (by kernel_rfl)) (va (B (eqS a (⟨#[46]⟩:ByteArray))) (wln (cn H (fun l H=>?_) (fun l H=>?_))))))))))
 ·refine sr (va (.agg #[I 0,Y]) (md (sA 36 [I 0,Y] 0 j ⟨rfl,rfl,trivial⟩) ?_))
  rintro b q k
  refine va (B true) (wln (W.ret (bkr (thr ?_))))
  obtain rfl:=si H
  have m:OA (RI .i32) b (Y) [] []:=OA.nil (aK _)
  have g:=k.addHole (e:=es true (RI .i32) (Y) 21 [] ([]:List Int)) rfl
  have f:=g.sD 2 [0]
  exact uC (c:=b) (vs:=[I 0,Y]) (v:=B true) rfl (by kernel_rfl) (by kernel_rfl) (by kernel_rfl) (by kernel_rfl) (g.on 1 rfl _ rfl).1 ⟨_,b,rfl,rfl,pt,(Y),[],f,rfl,m⟩
 cases H
def jh (sg:Sto) (p0:ByteArray) (e:Nat):Option (Sto×Bool):=
 (sQ p0).bind fun c=>
 (sg.api_Line[e]?).bind fun b=>
 (app b.Cells ([c.1]:List aa)).bind fun d=>
 (sg.set_api_Line e (⟨d,b.Wrap⟩:ah)).bind fun a=>
 some (a,c.2)
theorem oV {f:Nat} (O0:Own c0 G F) (R0:Rel c0 sg G) (s:ByteArray) (q0:Nat) {r:Sto×Bool} (h1:c0.t 7 q0=some f) (H:jh sg s q0=some r): Calls prog 88 #[.string s,Q f] c0.w (aQ c0 fun c v=>∃G_:Gm,Own c G_ (F)∧Rel c r.1 G_∧v=B r.2):=by
 unfold jh at H;refine en func88 rfl rfl (sr (va (B false) (wln (sr (va (.string s) (bn H fun a h2 H=>cl (BI O0 s h2) ?_))))));rintro v11 d1 o ⟨v3,u4,O7,rfl,E⟩;refine va (.tuple #[.agg #[I a.1.Kind,v3],B a.2]) (va (.agg #[I a.1.Kind,v3]) (va (B a.2) (me (al 36 [I 0,Y] O7) ?_)));rintro v15 e1 g ⟨c1,rfl,R⟩;obtain ⟨a16,h,i,rfl⟩:=((E.mono g)).form;refine md (sA 36 [I a.1.Kind,.slice a16 h i] 0 R ⟨rfl,E.m.one,trivial⟩) ?_;rintro f1 k l;refine va (B a.2) (wln (sr (va (Q f) (bn H fun q k0 H=>?_))));obtain ⟨v22,n1,u,l0⟩:=Rel.open_api_Line (R0.mono (o.trans (g.trans k))) k0 (tm h1);refine vx (le1 0 cC (l.gon u 0 rfl)) (vx (leN 36 0 [I a.1.Kind,.slice a16 h i] (l.on 0 rfl)) ?_);obtain ⟨g1,o0,x,S,m0⟩:=l.frz 1 rfl (E.mono (g.trans k));refine WL.gh o0 (me (sl am 36 [[I a.1.Kind,.slice a16 h i]] ([a.1]:List aa) S ⟨⟨(.slice a16 h i),rfl,m0⟩,trivial⟩) ?_);rintro v34 i1 y ⟨p1,U,s0⟩;obtain ⟨j1,u0,z,X,t0⟩:=U.frz 0 rfl s0;refine WL.gh u0 (bn H fun M v0 H=>?_);have Z:=X.borrow 1 u rfl;refine me (ap am (.agg #[I 0,Y]) 32 37 0 Z l0.m t0 v0 cC) ?_;rintro v45 k1 A ⟨D,a0,n⟩;have b0:=a0.giveB 1 rfl;refine va (Q f) ?_;obtain ⟨b,d,e,rfl⟩:=(n).form;refine md (Own.stGB (T:=37) (j:=0) (us:=[.slice b d e]) (nw:=[.slice b d e,B q.Wrap]) (v:= .slice b d e) 0 b0 (by kernel_rfl) rfl rfl rfl rfl (by kernel_rfl) ⟨(n).one,trivial⟩ (by kernel_rfl) rfl) ?_;rintro i0 p d0;refine bn H fun N w0 H=>?_;obtain ⟨P,e0,h0,m1,b1⟩:=Rel.put_api_Line d0 (R0.mono (o.trans (g.trans (k.trans (x.trans (y.trans (z.trans (A.trans p)))))))) (E':=[(Eb f 39 [.slice b d e,B q.Wrap]),es false am (.slice b d e) 36 D M]) w0 ⟨f,(.slice b d e),D,((o.trans (g.trans (k.trans (x.trans (y.trans (z.trans (A.trans p))))))).t _ _ _ h1),rfl,(n.mono p)⟩;refine wln (sr (vv (B a.2) (wln (W.ret ?_))));obtain rfl:=si H;have f0:=e0.sD 3 [];exact r1 (qq i0 ⟨P,f0,h0,rfl⟩)
def cu (sg:Sto) (p0:aC) (p1_0:Nat):Option (Sto×aC):=
 if p0.bad=true then
 none
 else
 (if (decide (p0.at_≥(p0.words.length:Int)))=true then some (true,sg) else (idx p0.words p0.at_).bind fun c=>
 (jh sg c p1_0).bind fun b=>
 some (!b.2,b.1)).bind fun a=>
 if a.1=true then
 none
 else
 some (a.2,(⟨p0.words,(w64 (p0.at_+1)),p0.bad⟩:aC))
theorem fD {a:Nat} {b1_0:Nat} (b:aC) (p1_0:Nat) (A:Own c0 G ((Eb a 130 [v1,I b.at_,B b.bad]) :: F)) (E:Rel c0 sg G) {r:Sto×aC} (k:Sl RS c0 v1 b.words) (h3:c0.t 7 p1_0=some b1_0) (H:cu sg b p1_0=some r): Calls prog 86 #[Q a,.func (.func 88) #[] #[Q b1_0]] c0.w (aQ c0 fun c v=>∃y1,∃G_:Gm,Own c G_ ((Eb a 130 [y1,I r.2.at_,B r.2.bad]) :: F)∧Rel c r.1 G_∧v= .tuple #[]∧Sl RS c y1 r.2.words):=by
 unfold cu at H;refine en func86 rfl rfl (W.seq (sr (vv (Q a) (va (Qo a 2) (vx (le1 2 u_4 (A.on 0 rfl)) (wln (cn H (fun h4 H=>?_) (fun h4 H=>?_))))))))
 ·cases H
 refine W.skip (nrm (W.seq (W.seq (bn H fun h X H=>W.join (Jn c0 fun c l=>∃G_,Own c G_ ((Eb a 130 [v1,I b.at_,B b.bad]) :: F)∧l= [(0,Q a),(32,B h.1)]∧Rel c h.2 G_) ?_ ?_))))
 ·clear H;refine rD [] (Kp G0 [(Eb a 130 [v1,I b.at_,B b.bad])]) A ?_;intro R l6 u;have n:Kp G0 [(Eb a 130 [v1,I b.at_,B b.bad])] R:=(Kp.cons (u.on 0 rfl) Kp.nil0);refine ta 0 (Q a) (ta 1 (Q a) (ta 2 (Qo a 1) (tkx 3 n (fun f d g=>le1 1 u_3 (g.on 0 rfl)) (ta 4 (Q a) (ta 5 (Q a) (ta 6 (Q a) (tkx 7 n (fun f d g=>le1 0 jg (g.on 0 rfl)) (tx 8 (fun f d=>ln 3 jg k.m) (ta 9 (B (decide (b.at_≥(b.words.length:Int)))) ?_)))))))));rcases bo (decide (b.at_≥(b.words.length:Int))) with i | i
  ·obtain rfl:=aq (it i X);exact AC.takeb 10 i rfl (by kernel_rfl) (by kernel_rfl) (fun f d=>(by kernel_rfl)) (tp 11 (tp 12 (tp 13 (tp 14 (tp 15 (tp 16 (tp 17 (tp 18 (tp 19 (tp 20 (tp 21 (tp 22 (tp 23 (ta 24 (B true) (dn (nrm (jn R ⟨G,u,rfl,E.m⟩)))))))))))))))))
  have e:=ie i X;refine bn e fun x s e=>bn e fun j S e=>AC.takeb 10 i rfl (by kernel_rfl) (by kernel_rfl) (fun f d=>(by kernel_rfl)) (ta 11 (.func (.func 88) #[] #[Q b1_0]) (ta 12 (Q a) (ta 13 (Q a) (ta 14 (Q a) (tkx 15 n (fun f d g=>le1 0 jg (g.on 0 rfl)) (ta 16 (Q a) (ta 17 (Q a) (ta 18 (Qo a 1) (tkx 19 n (fun f d g=>le1 1 u_3 (g.on 0 rfl)) ?_)))))))));obtain ⟨g0,T,Z⟩:=Sl.at (k.mono l6) (bi s);obtain rfl:=T;refine tx 20 (fun f d=>ix jg k.m s) (tx 21 (fun f d=>l1 u_9 ((mm Z) 0 _ rfl)) (o1 22 (gc 22 (oV u E.m x p1_0 (tm h3) S) ?_)));rintro v21 q j0 ⟨y,o,M,rfl⟩;have a0:Kp G0 [(Eb a 130 [v1,I b.at_,B b.bad])] q:=(Kp.cons (o.on 0 rfl) Kp.nil0);refine ⟨.inr a0,ta 23 (B (!j.2)) ?_⟩;obtain rfl:=si e;exact ta 24 (B (!j.2)) (dn (nrm (jn q ⟨y,o,rfl,M⟩)))
 rintro e_ w_ ⟨h0,i0,_,rfl,k0,rfl,z,p,rfl,N⟩;refine nrm (cn H (fun U H=>?_) (fun U H=>?_))
 ·cases H
 refine W.skip (nrm (W.region (vv (Q a) (va (Qo a 1) (vx (le1 1 u_3 (p.on 0 rfl)) (va (I (w64 (b.at_+1))) (va (Q a) (va (Qo a 1) (md (sC 3 1 (I (w64 (b.at_+1))) [v1,I (w64 (b.at_+1)),B b.bad] 0 p ⟨rfl,trivial⟩) ?_)))))))));rintro P l0 D;refine WL.nil ?_;obtain rfl:=si H;exact n0 (qq P ⟨v1,z,D,N.m,rfl,k.m⟩)
def dG (p0:aC):Option (Er):=
 (orE p0.bad (some (decide (p0.at_ < (p0.words.length:Int))))).bind fun a=>
 if a=true then
 none
 else
 some Er.nil
theorem iC {a:Nat} (b:aC) (t:Own c0 G ((Eb a 130 [v1,I b.at_,B b.bad]) :: F)) {r:Er} (x:Sl RS c0 v1 b.words) (H:dG b=some r): Calls prog 90 #[Q a] c0.w (aQ c0 fun c v=>∃q,Own c G ((Eb a 130 [v1,I b.at_,B b.bad]) :: F)∧v=q∧RE 341 78 c q r):=by
 unfold dG at H;refine en func90 rfl rfl (sr (va (.nilIface) (wln (W.seq (W.seq (bn H fun n p H=>W.join (Jn c0 fun c l=>Own c G ((Eb a 130 [v1,I b.at_,B b.bad]) :: F)∧l= [(0,Q a),(18,B n)]) ?_ ?_))))))
 ·clear H;refine rD [] (Kp G0 [(Eb a 130 [v1,I b.at_,B b.bad])]) t ?_;intro i A h;have j:Kp G0 [(Eb a 130 [v1,I b.at_,B b.bad])] i:=(Kp.cons (h.on 0 rfl) Kp.nil0);refine ta 0 (Q a) (ta 1 (Q a) (ta 2 (Qo a 2) (tkx 3 j (fun e d g=>le1 2 u_4 (g.on 0 rfl)) ?_)));rcases bo (b.bad) with f | f
  ·obtain rfl:=orT f p;exact AC.takeb 4 f rfl (by kernel_rfl) (by kernel_rfl) (fun e d=>(by kernel_rfl)) (tp 5 (tp 6 (tp 7 (tp 8 (tp 9 (tp 10 (tp 11 (tp 12 (tp 13 (tp 14 (ta 15 (B true) (dn (nrm (jn i ⟨h,rfl⟩))))))))))))))
  have s:=orF f p;refine AC.takeb 4 f rfl (by kernel_rfl) (by kernel_rfl) (fun e d=>(by kernel_rfl)) (ta 5 (Q a) (ta 6 (Q a) (ta 7 (Qo a 1) (tkx 8 j (fun e d g=>le1 1 u_3 (g.on 0 rfl)) (ta 9 (Q a) (ta 10 (Q a) (ta 11 (Q a) (tkx 12 j (fun e d g=>le1 0 jg (g.on 0 rfl)) (tx 13 (fun e d=>ln 3 jg x.m) (ta 14 (B (decide (b.at_ < (b.words.length:Int)))) ?_))))))))));obtain rfl:=si s;exact ta 15 (B (decide (b.at_ < (b.words.length:Int)))) (dn (nrm (jn i ⟨h,rfl⟩)))
 rintro z E ⟨u,y,_,rfl,D,rfl,k,rfl⟩;refine nrm (cn H (fun o H=>?_) (fun o H=>?_))
 ·cases H
 refine W.skip (nrm (sr (va (.nilIface) (wln (W.ret ?_)))));obtain rfl:=si H;exact r1 (qq u ⟨.nilIface,k,rfl,rfl⟩)
def ei (sg:Sto) (p0:Option Nat) (p1:aC):Option (Sto×aC×Er):=
 (some (sg.add_api_Line (⟨([]:List aa),false⟩:ah))).bind fun j=>
 (cw j p1 sg.api_Line.length).bind fun e=>
 (p0).bind fun f=>
 (e.1.snap_reader[f]?).bind fun h=>
 (cO (σ:=Int×(List ByteArray)×Int×Bool×Sto) (τ:=((List ByteArray)×Int×Bool×Sto)) ((h.v.Wide - 0).toNat+1) (fun a=>
 if (decide (a.1 < h.v.Wide))=true then
 (cu a.2.2.2.2 (⟨a.2.1,a.2.2.1,a.2.2.2.1⟩:aC) sg.api_Line.length).bind fun d=>
 some (.inl ((w64 (a.1+1)),d.2.words,d.2.at_,d.2.bad,d.1))
 else
 some (.inr (a.2.1,a.2.2.1,a.2.2.2.1,a.2.2.2.2))) (0,e.2.words,e.2.at_,e.2.bad,e.1)).bind fun b=>
 (dG (⟨b.1,b.2.1,b.2.2.1⟩:aC)).bind fun k=>
 if (!k.isNil)=true then
 none
 else
 (b.2.2.2.api_Line[sg.api_Line.length]?).bind fun i=>
 (fC i.Cells).bind fun l=>
 if (!l)=true then
 none
 else
 (b.2.2.2.snap_reader[f]?).bind fun c=>
 (app c.v.Lines ([i]:List ah)).bind fun m=>
 (b.2.2.2.set_snap_reader f (⟨c.rest,c.n,(⟨c.v.Wide,c.v.High,m,c.v.At,c.v.Auto⟩:bh)⟩:bX)).bind fun g=>
 some (g,(⟨b.1,b.2.1,b.2.2.1⟩:aC),Er.nil)
theorem kL {h:Nat} (p0:Option Nat) (P:aC) (O0:Own c0 G ((Eb h 130 [v3,I P.at_,B P.bad]) :: F)) (R0:Rel c0 sg G) {r:Sto×aC×Er} (h2:Pt 6 c0 v1 p0) (h4:Sl RS c0 v3 P.words) (H:ei sg p0 P=some r): Calls prog 51 #[v1,Q h] c0.w (aQ c0 fun c v=>∃y1 y2,∃G_:Gm,Own c G_ ((Eb h 130 [y2,I r.2.1.at_,B r.2.1.bad]) :: F)∧Rel c r.1 G_∧v=y1∧RE 341 78 c y1 r.2.2∧Sl RS c y2 r.2.1.words):=by
 unfold ei at H;refine en func51 rfl rfl (sr (va (.nilIface) (wln (sr ?_))));have h6:OA am c0 (Y) [] []:=OA.nil (aK _);have O5:=O0.addHole (e:=es false am (Y) 36 [] ([]:List aa)) rfl;refine me (al 39 [(Y),B false] O5) ?_;rintro v10 c9 l9 ⟨q,rfl,O8⟩;have u2:=O8.sD 3 [0,1,2];refine bn H fun f4 i3 H=>?_;obtain ⟨e3,i5,j3,f1,S,v2,a1,u5,v5,j5⟩:=Rel.new_api_Line (E:=[(Eb q 39 [(Y),B false]),es false am (Y) 36 [] ([]:List aa)]) (F:=(Eb h 130 [v3,I P.at_,B P.bad]) :: F) (x:=(⟨([]:List aa),false⟩:ah)) (b:=q) u2 (R0.mono l9) (fun c_ hle_=>⟨q,(Y),[],rfl,rfl,((h6.mono l9).mono hle_)⟩);rw [aq i3] at a1;refine WL.gh j3.1 ?_;have w5:Pt 7 e3 (Q q) (some sg.api_Line.length):=⟨q,rfl,S⟩;refine wln (sr (va (Q h) (va (.func (.func 87) #[] #[Q q]) ?_)));obtain ⟨k5,l5,m5,rfl⟩:=((h4.mono (l9.trans f1))).form;refine bn H fun d6 k3 H=>cl (fE P sg.api_Line.length v2 a1 h4.m S k3) ?_;rintro v36 h0 c4 ⟨v29,q2,y0,b1,rfl,l3⟩;refine wln (W.seq (sr (va (v1) (bn H fun z4 m3 H=>?_))));obtain ⟨g,rfl,m0⟩:=((h2.mono (l9.trans (f1.trans c4)))).get m3;refine va (Q g) (vv (Qo g 2) (bn H fun u0 o3 H=>?_));obtain ⟨v41,a6,p3,x5⟩:=Rel.open_snap_reader b1 o3 m0;refine vx (le1 2 u_3 (y0.gon p3 0 rfl)) (va (I 0) (wln (W.block (bn H fun N d1 a=>lp d1 (fun f=>Jn h0 fun c l=>∃v47 G_,Own c G_ ((Eb h 130 [v47,I f.2.2.1,B f.2.2.2.1]) :: F)∧l= [(0,Q g),(1,Q h),(5,Q q),(14,I u0.v.Wide),(15,I f.1)]∧Rel c f.2.2.2.2 G_∧Sl RS c v47 f.2.1) (fun p ex e w=>ex= .exit 0∧(Jn h0 fun c l=>∃v48 G_,Own c G_ ((Eb h 130 [v48,I p.2.1,B p.2.2.1]) :: F)∧l= [(0,Q g),(1,Q h),(5,Q q)]∧Rel c p.2.2.2 G_∧Sl RS c v48 p.1) e w) ?_ ?_ ?_))))
 ·clear a d1;intro f e6 h3 j4 H;revert h3 j4;rintro e_ w_ ⟨f3,s5,_,rfl,y5,rfl,v47,s2,z0,rfl,c1,o0⟩;refine sr (va (B (decide (f.1 < u0.v.Wide))) (wln (W.seq (cn H (fun q3 H=>?_) (fun q3 H=>?_)))))
  ·refine W.skip (nrm (W.seq (W.block (W.region (va (Q h) (va (.func (.func 88) #[] #[Q q]) ?_))))));obtain ⟨n5,o5,p5,rfl⟩:=(o0).form;refine bn H fun h5 s3 H=>cl (fD (⟨f.2.1,f.2.2.1,f.2.2.2.1⟩:aC) sg.api_Line.length z0 c1 o0 (tm S) s3) ?_;rintro c6 g3 z5 ⟨g4,t2,w2,a3,rfl,t3⟩;refine WL.nil (bkn (nrm (W.region (vv (I (w64 (f.1+1))) (WL.nil ?_)))));obtain rfl:=si H;exact ⟨_,rfl,jn g3 ⟨g4,t2,w2,rfl,a3,t3⟩⟩
  refine W.exit (thx ?_);obtain rfl:=si H;exact ⟨_,rfl,rfl,jn f3 ⟨v47,s2,z0,rfl,c1,o0⟩⟩
 ·exact jn h0 ⟨v29,q2,y0,rfl,b1,l3⟩
 rintro _ e_ w_ ⟨rfl,q5,t5,_,rfl,d4,rfl,v48,R,x2,rfl,d0,q0⟩;refine bke (nrm (W.seq (sr (va (Q h) ?_))));obtain ⟨b3,c3,d3,rfl⟩:=(q0).form;refine bn a fun m2 u3 a=>cl (iC (⟨N.1,N.2.1,N.2.2.1⟩:aC) x2 q0 u3) ?_;rintro g1 r5 X ⟨_,b0,rfl,w3⟩;refine va (g1) (wln (sr (va (g1) (vr (B (!m2.isNil)) (by rcases (w3).cs with ⟨k0,l0⟩ | ⟨b_,k0,l0⟩ | ⟨b_,k0,l0⟩ <;> (subst k0; rw [l0]; kernel_rfl)) (wln (cn a (fun x3 a=>?_) (fun x3 a=>?_)))))))
 ·cases a
 refine W.skip (nrm (W.seq (sr (va (Q q) (bn a fun y y3 a=>?_)))));obtain ⟨i4,b6,U,e1⟩:=Rel.open_api_Line (d0.mono X) y3 (tm S);refine vx (le1 0 cC (b0.gon U 0 rfl)) ?_;have z3:=e1.sl (b0.gon U 1 rfl);refine bn a fun n2 a4 a=>cl (ll b0 y.Cells z3 a4) ?_;rintro c5 t4 s ⟨z2,rfl⟩;refine va (B (!n2)) (wln (cn a (fun z1 a=>?_) (fun z1 a=>?_)))
 ·cases a
 refine W.skip (nrm (W.seq (rD [8,12] (Kp R []) z2 ?_)));intro t1 u z;have v0:Kp R [] t1:=(Kp.nil z);refine ta 0 (Q g) (ta 1 (Q g) (ta 2 (Q g) (ta 3 (Qo g 2) (ta 4 (Qo g 4) (bn a fun d b2 a=>?_)))));obtain ⟨d5,a5,i0,c2⟩:=Rel.open_snap_reader (d0.mono (X.trans (s.trans u))) b2 (tm m0);refine tkx 5 v0 (fun c' b4 hk=>le1 4 jS (hk.gon i0 0 rfl)) (tkx 6 v0 (fun c' b4 hk=>leN 39 0 [i4,B y.Wrap] (hk.gon U 0 rfl)) ?_);have j0:=(e1.mono (s.trans u)).sl (z.gon U 1 rfl);obtain ⟨e0,f0,g0,rfl⟩:=(j0).form;refine o1 7 (gm 7 (sl ay 39 [[.slice e0 f0 g0,B y.Wrap]] ([y]:List ah) z ⟨⟨(.slice e0 f0 g0),rfl,j0⟩,trivial⟩) ?_);rintro e5 u1 s0 ⟨b5,Z,d2⟩;have k2:Kp R [] u1:=(Kp.nil Z);refine ⟨.inr k2,?_⟩;obtain ⟨w1,f2,D,a0,e2⟩:=Z.frz 0 rfl d2;have l2:Kp R [] w1:=(Kp.nil a0);refine AC.gh f2 D (fun _=>l2) (bn a fun o2 g2 a=>?_);have i1:=a0.borrow 1 i0 rfl;refine o1 8 (gm 8 (ap ay (.agg #[Y,B false]) 32 27 0 i1 c2.m e2 g2 jS) ?_);rintro f5 u4 t0 ⟨w0,j1,A⟩;have k1:=j1.giveB 1 rfl;refine ⟨.inl rfl,ta 9 (Q g) (ta 10 (Qo g 2) (ta 11 (Qo g 4) ?_))⟩;obtain ⟨i,k,o,rfl⟩:=(A).form;refine o1 12 (gD 12 (Own.stGB (T:=27) (j:=4) (us:=[.slice i k o]) (nw:=[.string d.rest,I d.n,I d.v.Wide,I d.v.High,.slice i k o,I d.v.At.Row,I d.v.At.Col,B d.v.At.Pending,B d.v.Auto]) (v:= .slice i k o) 0 k1 (by kernel_rfl) rfl rfl rfl rfl (by kernel_rfl) ⟨(A).one,trivial⟩ (by kernel_rfl) rfl) ?_);rintro x1 M m1;refine bn a fun p2 i2 a=>?_;obtain ⟨h1,n1,s1,w4,q4⟩:=Rel.put_snap_reader m1 (d0.mono (X.trans (s.trans (u.trans (s0.trans (D.trans (t0.trans M))))))) (E':=[(Eb g 76 [.string d.rest,I d.n,I d.v.Wide,I d.v.High,.slice i k o,I d.v.At.Row,I d.v.At.Col,B d.v.At.Pending,B d.v.Auto]),es false ay (.slice i k o) 39 w0 o2]) i2 ⟨g,(.slice i k o),w0,((d4.trans (X.trans (s.trans (u.trans (s0.trans (D.trans (t0.trans M))))))).t _ _ _ m0),rfl,(A.mono M)⟩;refine ⟨.inl rfl,dn (nrm (sr (va (.nilIface) (wln (W.ret ?_)))))⟩;obtain rfl:=si a;have q1:=n1.sD 2 [1];exact r1 (qq x1 ⟨.nilIface,(.slice b3 c3 d3),h1,q1,s1,rfl,rfl,q0.m⟩)
def iX (p0:ByteArray) (p1:Int):Option (Int×Bool):=
 (orE ((ot p0)==0) (some (decide ((ot p0) > 4)))).bind fun h=>
 (orE h ((bL (decide ((ot p0) > 1)) ((DU p0 0).bind fun f=>
 some (f==48))).bind fun c=>
 some c)).bind fun b=>
 (orE b ((mJ p0 (⟨#[48,49,50,51,52,53,54,55,56,57]⟩:ByteArray)).bind fun g=>
 some (!(eqS g (⟨#[]⟩:ByteArray))))).bind fun d=>
 if d=true then
 none
 else
 (mM p0).bind fun a=>
 (bL a.2.isNil (some (decide (a.1 < p1)))).bind fun e=>
 some (a.1,e)
theorem lR (q:Own c0 G F) (hT:Et c0) (b:ByteArray) (i:Int) {r:Int×Bool} (H:iX b i=some r): Calls prog 124 #[.string b,I i] c0.w (aQ c0 fun c v=>Own c G (F)∧v= .tuple #[I r.1,B r.2]):=by
 unfold iX at H;refine en func124 rfl rfl (sr (va (I 0) (va (B false) (wln (W.seq (W.seq (bn H fun y0 h1 H=>bn H fun t0 R H=>bn H fun N x H=>W.join (Jn c0 fun c l=>Own c G (F)∧l= [(0,.string b),(1,I i),(30,B N)]) ?_ ?_)))))))
 ·clear H;refine W.region (va (.string b) (vr (I (ot b)) (rx (by kernel_rfl) (rA (ty:=3) u_9 _)) (va (B ((ot b)==0)) ?_)));rcases bo ((ot b)==0) with y | y
  ·obtain rfl:=orT y h1;refine vb y (pz (ps (va (B true) ?_)));have h5:true=true:=rfl;obtain rfl:=orT h5 R;refine vb h5 (pz (pz (pz (pz (va (B true) ?_)))));have h6:true=true:=rfl;obtain rfl:=orT h6 x;exact vb h6 (pz (ps (va (B true) (wln (jn c0 ⟨q,rfl⟩)))))
  have H7:=orF y h1;refine vb y (wa (.string b) (wn (vr (I (ot b)) (rx (by kernel_rfl) (rA (ty:=3) u_9 _)) (wa (B (decide ((ot b) > 4))) ?_))));obtain rfl:=si H7;refine va (B (decide ((ot b) > 4))) ?_;rcases bo (decide ((ot b) > 4)) with z | z
  ·obtain rfl:=orT z R;refine vb z (pz (pz (pz (pz (va (B true) ?_)))));have h9:true=true:=rfl;obtain rfl:=orT h9 x;exact vb h9 (pz (ps (va (B true) (wln (jn c0 ⟨q,rfl⟩)))))
  have j:=orF z R;refine vb z (wa (.string b) (wn (vr (I (ot b)) (rx (by kernel_rfl) (rA (ty:=3) u_9 _)) (wa (B (decide ((ot b) > 1))) (wn (bn j fun u0 D j=>?_))))));rcases bo (decide ((ot b) > 1)) with f | f
  ·have n:=anT f D;refine vb f (wa (.string b) (wn (bn n fun d f0 n=>vr (.int .u8 d) (rx (by kernel_rfl) (zA (k:= .i64) u_9 f0 _)) (wa (B (d==48)) (wn ?_)))));obtain rfl:=si n;refine va (B (d==48)) ?_;obtain rfl:=si j;refine va (B (d==48)) ?_;rcases bo (d==48) with g | g
   ·obtain rfl:=orT g x;exact vb g (pz (ps (va (B true) (wln (jn c0 ⟨q,rfl⟩)))))
   have o:=orF g x;refine vb g (wa (.string b) (wn (bn o fun e g0 o=>cl (pJ q hT b (⟨#[48,49,50,51,52,53,54,55,56,57]⟩:ByteArray) g0) ?_)));rintro v23 a0 b1 ⟨T,rfl⟩;refine wn (vr (B (!(eqS e (⟨#[]⟩:ByteArray)))) (uj (by kernel_rfl)) ?_);obtain rfl:=si o;exact va (B (!(eqS e (⟨#[]⟩:ByteArray)))) (wln (jn a0 ⟨T,rfl⟩))
  obtain rfl:=anF f D;refine vb f (pz (ps (wa (B false) ?_)));obtain rfl:=si j;refine va (B false) ?_;have E:false=false:=rfl;have p:=orF E x;refine vb E (wa (.string b) (wn (bn p fun e h0 p=>cl (pJ q hT b (⟨#[48,49,50,51,52,53,54,55,56,57]⟩:ByteArray) h0) ?_)));rintro v32 b0 c1 ⟨U,rfl⟩;refine wn (vr (B (!(eqS e (⟨#[]⟩:ByteArray)))) (uj (by kernel_rfl)) ?_);obtain rfl:=si p;exact va (B (!(eqS e (⟨#[]⟩:ByteArray)))) (wln (jn b0 ⟨U,rfl⟩))
 rintro e_ w_ ⟨x0,z0,_,rfl,d1,rfl,X,rfl⟩;refine nrm (cn H (fun i0 H=>?_) (fun i0 H=>?_))
 ·cases H
 refine W.skip (nrm (sr (va (.string b) (bn H fun a j0 H=>cl (vh X hT.m b j0) ?_))));rintro v48 s e1 ⟨v41,A,rfl,k0⟩;refine va (.tuple #[I a.1,v41]) (va (I a.1) (va (v41) (va (I a.1) (va (v41) (wln (W.seq (bn H fun P M H=>W.join (Jn s fun c l=>Own c G (F)∧l= [(4,I a.1),(5,B P)]) ?_ ?_)))))))
 ·clear H;refine W.region (va (I a.1) (va (v41) (vr (B a.2.isNil) (by rcases (k0).cs with ⟨t,u⟩ | ⟨b_,t,u⟩ | ⟨b_,t,u⟩ <;> (subst t; rw [u]; kernel_rfl)) ?_)));rcases bo (a.2.isNil) with h | h
  ·have S:=anT h M;refine vb h (wa (I a.1) (wa (I i) (wa (B (decide (a.1 < i))) ?_)));obtain rfl:=si S;exact va (B (decide (a.1 < i))) (va (I a.1) (va (B (decide (a.1 < i))) (wln (jn s ⟨A,rfl⟩))))
  obtain rfl:=anF h M;exact vb h (pz (ps (va (B false) (va (I a.1) (va (B false) (wln (jn s ⟨A,rfl⟩)))))))
 rintro e_ w_ ⟨d0,a1,_,rfl,f1,rfl,Z,rfl⟩;refine nrm (W.ret ?_);obtain rfl:=si H;exact r2 (qq d0 ⟨Z,rfl⟩)
def kt (sg:Sto) (p0:ByteArray) (q0_0:Int) (e:Nat) (q2_0:Int):Option (Sto×Bool):=
 (iX p0 q0_0).bind fun c=>
 (sg.snap_reader[e]?).bind fun a=>
 (sg.set_snap_reader e (⟨a.rest,a.n,(⟨c.1,a.v.High,a.v.Lines,a.v.At,a.v.Auto⟩:bh)⟩:bX)).bind fun b=>
 (bL c.2 (some (decide (c.1≥q2_0)))).bind fun d=>
 some (b,d)
theorem qZ {i:Nat} {k:Nat} {bc1o:Nat} {o:Nat} (O0:Own c0 G F) (M:Rel c0 sg G) (hT:Et c0) (f:ByteArray) (q0_0:Int) (Z:Nat) (q2_0:Int) {r:Sto×Bool} (m1:∀j u,([I q0_0]:List Value)[j]? = some u→Im c0 i (0+j) u) (m2:∀j u,([.pointer (some ⟨bc1o,2,none⟩)]:List Value)[j]? = some u→Im c0 k (0+j) u) (X:c0.t 6 Z=some bc1o) (m4:∀j u,([I q2_0]:List Value)[j]? = some u→Im c0 o (0+j) u) (H:kt sg f q0_0 Z q2_0=some r): Calls prog 123 #[.string f,Q i,Q k,Q o] c0.w (aQ c0 fun c v=>∃G_:Gm,Own c G_ (F)∧Rel c r.1 G_∧v=B r.2):=by
 unfold kt at H;refine en func123 rfl rfl (sr (va (B false) (wln (sr (va (.string f) (vx (l1 u_3 (m1 0 _ rfl)) (bn H fun b h5 H=>cl (lR O0 hT f q0_0 h5) ?_)))))));rintro v11 i0 q ⟨O7,rfl⟩;refine va (.tuple #[I b.1,B b.2]) (va (I b.1) (va (B b.2) (va (I b.1) (va (B b.2) (wln (sr (vx (l1 Aj ((mm m2) 0 _ rfl)) (va (I b.1) (va (Qo bc1o 2) (bn H fun a R H=>?_))))))))));obtain ⟨v13,x,T,S⟩:=Rel.open_snap_reader (M.mono q) R (tm X);refine md (gC 3 2 (I b.1) [.string a.rest,I a.n,I b.1,I a.v.High,v13,I a.v.At.Row,I a.v.At.Col,B a.v.At.Pending,B a.v.Auto] 0 O7 T ⟨rfl,trivial⟩) ?_;rintro e s D;refine bn H fun z U H=>?_;obtain ⟨g,h,N,k0,h0⟩:=Rel.put_snap_reader D (M.mono (q.trans s)) (E':=[(Eb bc1o 76 [.string a.rest,I a.n,I b.1,I a.v.High,v13,I a.v.At.Row,I a.v.At.Col,B a.v.At.Pending,B a.v.Auto]),es false ay v13 39 x a.v.Lines]) U ⟨bc1o,v13,x,(tm X),rfl,(S.mono s)⟩;refine wln (W.seq (bn H fun y p H=>W.join (Jn e fun c l=>Own c g (F)∧l= [(5,B y)]) ?_ ?_))
 ·clear H;refine W.region (va (B b.2) ?_);rcases bo (b.2) with d | d
  ·have A:=anT d p;refine vb d (wa (I b.1) (wn (vx (l1 u_3 ((mm m4) 0 _ rfl)) (wa (B (decide (b.1≥q2_0))) ?_))));obtain rfl:=si A;exact vv (B (decide (b.1≥q2_0))) (wln (jn e ⟨h,rfl⟩))
  obtain rfl:=anF d p;exact vb d (pz (ps (vv (B false) (wln (jn e ⟨h,rfl⟩)))))
 rintro e_ w_ ⟨P,j0,_,rfl,l0,rfl,E,rfl⟩;refine nrm (W.ret ?_);obtain rfl:=si H;exact r1 (qq P ⟨g,E,N.m,rfl⟩)
def cM (sg:Sto) (p0:aC) (p1_0_0:Int) (p1_1:Nat) (p1_2_0:Int):Option (Sto×aC):=
 if p0.bad=true then
 none
 else
 (if (decide (p0.at_≥(p0.words.length:Int)))=true then some (true,sg) else (idx p0.words p0.at_).bind fun c=>
 (kt sg c p1_0_0 p1_1 p1_2_0).bind fun b=>
 some (!b.2,b.1)).bind fun a=>
 if a.1=true then
 none
 else
 some (a.2,(⟨p0.words,(w64 (p0.at_+1)),p0.bad⟩:aC))
theorem gn {a:Nat} {b1_0:Nat} {b1_1:Nat} {b1_1o:Nat} {b1_2:Nat} (b:aC) (p1_0_0:Int) (p1_1:Nat) (p1_2_0:Int) (E:Own c0 G ((Eb a 130 [v1,I b.at_,B b.bad]) :: F)) (N:Rel c0 sg G) (hT:Et c0) {r:Sto×aC} (p:Sl RS c0 v1 b.words) (m3:∀j u,([I p1_0_0]:List Value)[j]? = some u→Im c0 b1_0 (0+j) u) (m4:∀j u,([.pointer (some ⟨b1_1o,2,none⟩)]:List Value)[j]? = some u→Im c0 b1_1 (0+j) u) (h5:c0.t 6 p1_1=some b1_1o) (m6:∀j u,([I p1_2_0]:List Value)[j]? = some u→Im c0 b1_2 (0+j) u) (H:cM sg b p1_0_0 p1_1 p1_2_0=some r): Calls prog 86 #[Q a,.func (.func 123) #[] #[Q b1_0,Q b1_1,Q b1_2]] c0.w (aQ c0 fun c v=>∃y1,∃G_:Gm,Own c G_ ((Eb a 130 [y1,I r.2.at_,B r.2.bad]) :: F)∧Rel c r.1 G_∧v= .tuple #[]∧Sl RS c y1 r.2.words):=by
 unfold cM at H;refine en func86 rfl rfl (W.seq (sr (vv (Q a) (va (Qo a 2) (vx (le1 2 u_4 (E.on 0 rfl)) (wln (cn H (fun h7 H=>?_) (fun h7 H=>?_))))))))
 ·cases H
 refine W.skip (nrm (W.seq (W.seq (bn H fun n h8 H=>W.join (Jn c0 fun c l=>∃G_,Own c G_ ((Eb a 130 [v1,I b.at_,B b.bad]) :: F)∧l= [(0,Q a),(32,B n.1)]∧Rel c n.2 G_) ?_ ?_))))
 ·clear H;refine rD [] (Kp G0 [(Eb a 130 [v1,I b.at_,B b.bad])]) E ?_;intro T l9 k;have i:Kp G0 [(Eb a 130 [v1,I b.at_,B b.bad])] T:=(Kp.cons (k.on 0 rfl) Kp.nil0);refine ta 0 (Q a) (ta 1 (Q a) (ta 2 (Qo a 1) (tkx 3 i (fun f d h=>le1 1 u_3 (h.on 0 rfl)) (ta 4 (Q a) (ta 5 (Q a) (ta 6 (Q a) (tkx 7 i (fun f d h=>le1 0 jg (h.on 0 rfl)) (tx 8 (fun f d=>ln 3 jg p.m) (ta 9 (B (decide (b.at_≥(b.words.length:Int)))) ?_)))))))));rcases bo (decide (b.at_≥(b.words.length:Int))) with g | g
  ·obtain rfl:=aq (it g h8);exact AC.takeb 10 g rfl (by kernel_rfl) (by kernel_rfl) (fun f d=>(by kernel_rfl)) (tp 11 (tp 12 (tp 13 (tp 14 (tp 15 (tp 16 (tp 17 (tp 18 (tp 19 (tp 20 (tp 21 (tp 22 (tp 23 (ta 24 (B true) (dn (nrm (jn T ⟨G,k,rfl,N.m⟩)))))))))))))))))
  have e:=ie g h8;refine bn e fun z y e=>bn e fun o U e=>AC.takeb 10 g rfl (by kernel_rfl) (by kernel_rfl) (fun f d=>(by kernel_rfl)) (ta 11 (.func (.func 123) #[] #[Q b1_0,Q b1_1,Q b1_2]) (ta 12 (Q a) (ta 13 (Q a) (ta 14 (Q a) (tkx 15 i (fun f d h=>le1 0 jg (h.on 0 rfl)) (ta 16 (Q a) (ta 17 (Q a) (ta 18 (Qo a 1) (tkx 19 i (fun f d h=>le1 1 u_3 (h.on 0 rfl)) ?_)))))))));obtain ⟨i0,X,b0⟩:=Sl.at (p.mono l9) (bi y);obtain rfl:=X;refine tx 20 (fun f d=>ix jg p.m y) (tx 21 (fun f d=>l1 u_9 ((mm b0) 0 _ rfl)) (o1 22 (gc 22 (qZ k N.m hT.m z p1_0_0 p1_1 p1_2_0 (mm m3) (mm m4) (tm h5) (mm m6) U) ?_)));rintro v24 x q0 ⟨A,q,P,rfl⟩;have d0:Kp G0 [(Eb a 130 [v1,I b.at_,B b.bad])] x:=(Kp.cons (q.on 0 rfl) Kp.nil0);refine ⟨.inr d0,ta 23 (B (!o.2)) ?_⟩;obtain rfl:=si e;exact ta 24 (B (!o.2)) (dn (nrm (jn x ⟨A,q,rfl,P⟩)))
 rintro e_ w_ ⟨m0,o0,_,rfl,s0,rfl,D,s,rfl,R⟩;refine nrm (cn H (fun Z H=>?_) (fun Z H=>?_))
 ·cases H
 refine W.skip (nrm (W.region (vv (Q a) (va (Qo a 1) (vx (le1 1 u_3 (s.on 0 rfl)) (va (I (w64 (b.at_+1))) (va (Q a) (va (Qo a 1) (md (sC 3 1 (I (w64 (b.at_+1))) [v1,I (w64 (b.at_+1)),B b.bad] 0 s ⟨rfl,trivial⟩) ?_)))))))));rintro S t0 M;refine WL.nil ?_;obtain rfl:=si H;exact n0 (qq S ⟨v1,D,M,R.m,rfl,p.m⟩)
def kr (sg:Sto) (p0:ByteArray) (q0_0:Int) (e:Nat) (q2_0:Int):Option (Sto×Bool):=
 (iX p0 q0_0).bind fun c=>
 (sg.snap_reader[e]?).bind fun a=>
 (sg.set_snap_reader e (⟨a.rest,a.n,(⟨a.v.Wide,c.1,a.v.Lines,a.v.At,a.v.Auto⟩:bh)⟩:bX)).bind fun b=>
 (bL c.2 (some (decide (c.1≥q2_0)))).bind fun d=>
 some (b,d)
theorem qY {i:Nat} {k:Nat} {bc1o:Nat} {o:Nat} (O0:Own c0 G F) (M:Rel c0 sg G) (hT:Et c0) (f:ByteArray) (q0_0:Int) (Z:Nat) (q2_0:Int) {r:Sto×Bool} (m1:∀j u,([I q0_0]:List Value)[j]? = some u→Im c0 i (0+j) u) (m2:∀j u,([.pointer (some ⟨bc1o,3,none⟩)]:List Value)[j]? = some u→Im c0 k (0+j) u) (X:c0.t 6 Z=some bc1o) (m4:∀j u,([I q2_0]:List Value)[j]? = some u→Im c0 o (0+j) u) (H:kr sg f q0_0 Z q2_0=some r): Calls prog 123 #[.string f,Q i,Q k,Q o] c0.w (aQ c0 fun c v=>∃G_:Gm,Own c G_ (F)∧Rel c r.1 G_∧v=B r.2):=by
 unfold kr at H;refine en func123 rfl rfl (sr (va (B false) (wln (sr (va (.string f) (vx (l1 u_3 (m1 0 _ rfl)) (bn H fun b h5 H=>cl (lR O0 hT f q0_0 h5) ?_)))))));rintro v11 i0 q ⟨O7,rfl⟩;refine va (.tuple #[I b.1,B b.2]) (va (I b.1) (va (B b.2) (va (I b.1) (va (B b.2) (wln (sr (vx (l1 Aj ((mm m2) 0 _ rfl)) (va (I b.1) (va (Qo bc1o 3) (bn H fun a R H=>?_))))))))));obtain ⟨v13,x,T,S⟩:=Rel.open_snap_reader (M.mono q) R (tm X);refine md (gC 3 3 (I b.1) [.string a.rest,I a.n,I a.v.Wide,I b.1,v13,I a.v.At.Row,I a.v.At.Col,B a.v.At.Pending,B a.v.Auto] 0 O7 T ⟨rfl,trivial⟩) ?_;rintro e s D;refine bn H fun z U H=>?_;obtain ⟨g,h,N,k0,h0⟩:=Rel.put_snap_reader D (M.mono (q.trans s)) (E':=[(Eb bc1o 76 [.string a.rest,I a.n,I a.v.Wide,I b.1,v13,I a.v.At.Row,I a.v.At.Col,B a.v.At.Pending,B a.v.Auto]),es false ay v13 39 x a.v.Lines]) U ⟨bc1o,v13,x,(tm X),rfl,(S.mono s)⟩;refine wln (W.seq (bn H fun y p H=>W.join (Jn e fun c l=>Own c g (F)∧l= [(5,B y)]) ?_ ?_))
 ·clear H;refine W.region (va (B b.2) ?_);rcases bo (b.2) with d | d
  ·have A:=anT d p;refine vb d (wa (I b.1) (wn (vx (l1 u_3 ((mm m4) 0 _ rfl)) (wa (B (decide (b.1≥q2_0))) ?_))));obtain rfl:=si A;exact vv (B (decide (b.1≥q2_0))) (wln (jn e ⟨h,rfl⟩))
  obtain rfl:=anF d p;exact vb d (pz (ps (vv (B false) (wln (jn e ⟨h,rfl⟩)))))
 rintro e_ w_ ⟨P,j0,_,rfl,l0,rfl,E,rfl⟩;refine nrm (W.ret ?_);obtain rfl:=si H;exact r1 (qq P ⟨g,E,N.m,rfl⟩)
def cL (sg:Sto) (p0:aC) (p1_0_0:Int) (p1_1:Nat) (p1_2_0:Int):Option (Sto×aC):=
 if p0.bad=true then
 none
 else
 (if (decide (p0.at_≥(p0.words.length:Int)))=true then some (true,sg) else (idx p0.words p0.at_).bind fun c=>
 (kr sg c p1_0_0 p1_1 p1_2_0).bind fun b=>
 some (!b.2,b.1)).bind fun a=>
 if a.1=true then
 none
 else
 some (a.2,(⟨p0.words,(w64 (p0.at_+1)),p0.bad⟩:aC))
theorem gk {a:Nat} {b1_0:Nat} {b1_1:Nat} {b1_1o:Nat} {b1_2:Nat} (b:aC) (p1_0_0:Int) (p1_1:Nat) (p1_2_0:Int) (E:Own c0 G ((Eb a 130 [v1,I b.at_,B b.bad]) :: F)) (N:Rel c0 sg G) (hT:Et c0) {r:Sto×aC} (p:Sl RS c0 v1 b.words) (m3:∀j u,([I p1_0_0]:List Value)[j]? = some u→Im c0 b1_0 (0+j) u) (m4:∀j u,([.pointer (some ⟨b1_1o,3,none⟩)]:List Value)[j]? = some u→Im c0 b1_1 (0+j) u) (h5:c0.t 6 p1_1=some b1_1o) (m6:∀j u,([I p1_2_0]:List Value)[j]? = some u→Im c0 b1_2 (0+j) u) (H:cL sg b p1_0_0 p1_1 p1_2_0=some r): Calls prog 86 #[Q a,.func (.func 123) #[] #[Q b1_0,Q b1_1,Q b1_2]] c0.w (aQ c0 fun c v=>∃y1,∃G_:Gm,Own c G_ ((Eb a 130 [y1,I r.2.at_,B r.2.bad]) :: F)∧Rel c r.1 G_∧v= .tuple #[]∧Sl RS c y1 r.2.words):=by
 unfold cL at H;refine en func86 rfl rfl (W.seq (sr (vv (Q a) (va (Qo a 2) (vx (le1 2 u_4 (E.on 0 rfl)) (wln (cn H (fun h7 H=>?_) (fun h7 H=>?_))))))))
 ·cases H
 refine W.skip (nrm (W.seq (W.seq (bn H fun n h8 H=>W.join (Jn c0 fun c l=>∃G_,Own c G_ ((Eb a 130 [v1,I b.at_,B b.bad]) :: F)∧l= [(0,Q a),(32,B n.1)]∧Rel c n.2 G_) ?_ ?_))))
 ·clear H;refine rD [] (Kp G0 [(Eb a 130 [v1,I b.at_,B b.bad])]) E ?_;intro T l9 k;have i:Kp G0 [(Eb a 130 [v1,I b.at_,B b.bad])] T:=(Kp.cons (k.on 0 rfl) Kp.nil0);refine ta 0 (Q a) (ta 1 (Q a) (ta 2 (Qo a 1) (tkx 3 i (fun f d h=>le1 1 u_3 (h.on 0 rfl)) (ta 4 (Q a) (ta 5 (Q a) (ta 6 (Q a) (tkx 7 i (fun f d h=>le1 0 jg (h.on 0 rfl)) (tx 8 (fun f d=>ln 3 jg p.m) (ta 9 (B (decide (b.at_≥(b.words.length:Int)))) ?_)))))))));rcases bo (decide (b.at_≥(b.words.length:Int))) with g | g
  ·obtain rfl:=aq (it g h8);exact AC.takeb 10 g rfl (by kernel_rfl) (by kernel_rfl) (fun f d=>(by kernel_rfl)) (tp 11 (tp 12 (tp 13 (tp 14 (tp 15 (tp 16 (tp 17 (tp 18 (tp 19 (tp 20 (tp 21 (tp 22 (tp 23 (ta 24 (B true) (dn (nrm (jn T ⟨G,k,rfl,N.m⟩)))))))))))))))))
  have e:=ie g h8;refine bn e fun z y e=>bn e fun o U e=>AC.takeb 10 g rfl (by kernel_rfl) (by kernel_rfl) (fun f d=>(by kernel_rfl)) (ta 11 (.func (.func 123) #[] #[Q b1_0,Q b1_1,Q b1_2]) (ta 12 (Q a) (ta 13 (Q a) (ta 14 (Q a) (tkx 15 i (fun f d h=>le1 0 jg (h.on 0 rfl)) (ta 16 (Q a) (ta 17 (Q a) (ta 18 (Qo a 1) (tkx 19 i (fun f d h=>le1 1 u_3 (h.on 0 rfl)) ?_)))))))));obtain ⟨i0,X,b0⟩:=Sl.at (p.mono l9) (bi y);obtain rfl:=X;refine tx 20 (fun f d=>ix jg p.m y) (tx 21 (fun f d=>l1 u_9 ((mm b0) 0 _ rfl)) (o1 22 (gc 22 (qY k N.m hT.m z p1_0_0 p1_1 p1_2_0 (mm m3) (mm m4) (tm h5) (mm m6) U) ?_)));rintro v24 x q0 ⟨A,q,P,rfl⟩;have d0:Kp G0 [(Eb a 130 [v1,I b.at_,B b.bad])] x:=(Kp.cons (q.on 0 rfl) Kp.nil0);refine ⟨.inr d0,ta 23 (B (!o.2)) ?_⟩;obtain rfl:=si e;exact ta 24 (B (!o.2)) (dn (nrm (jn x ⟨A,q,rfl,P⟩)))
 rintro e_ w_ ⟨m0,o0,_,rfl,s0,rfl,D,s,rfl,R⟩;refine nrm (cn H (fun Z H=>?_) (fun Z H=>?_))
 ·cases H
 refine W.skip (nrm (W.region (vv (Q a) (va (Qo a 1) (vx (le1 1 u_3 (s.on 0 rfl)) (va (I (w64 (b.at_+1))) (va (Q a) (va (Qo a 1) (md (sC 3 1 (I (w64 (b.at_+1))) [v1,I (w64 (b.at_+1)),B b.bad] 0 s ⟨rfl,trivial⟩) ?_)))))))));rintro S t0 M;refine WL.nil ?_;obtain rfl:=si H;exact n0 (qq S ⟨v1,D,M,R.m,rfl,p.m⟩)
def kq (sg:Sto) (p0:ByteArray) (q0_0:Int) (e:Nat) (q2_0:Int):Option (Sto×Bool):=
 (iX p0 q0_0).bind fun c=>
 (sg.snap_reader[e]?).bind fun a=>
 (sg.set_snap_reader e (⟨a.rest,a.n,(⟨a.v.Wide,a.v.High,a.v.Lines,(⟨c.1,a.v.At.Col,a.v.At.Pending⟩:ai),a.v.Auto⟩:bh)⟩:bX)).bind fun b=>
 (bL c.2 (some (decide (c.1≥q2_0)))).bind fun d=>
 some (b,d)
theorem qX {i:Nat} {k:Nat} {bc1o:Nat} {o:Nat} (O0:Own c0 G F) (M:Rel c0 sg G) (hT:Et c0) (f:ByteArray) (q0_0:Int) (Z:Nat) (q2_0:Int) {r:Sto×Bool} (m1:∀j u,([I q0_0]:List Value)[j]? = some u→Im c0 i (0+j) u) (m2:∀j u,([.pointer (some ⟨bc1o,5,none⟩)]:List Value)[j]? = some u→Im c0 k (0+j) u) (X:c0.t 6 Z=some bc1o) (m4:∀j u,([I q2_0]:List Value)[j]? = some u→Im c0 o (0+j) u) (H:kq sg f q0_0 Z q2_0=some r): Calls prog 123 #[.string f,Q i,Q k,Q o] c0.w (aQ c0 fun c v=>∃G_:Gm,Own c G_ (F)∧Rel c r.1 G_∧v=B r.2):=by
 unfold kq at H;refine en func123 rfl rfl (sr (va (B false) (wln (sr (va (.string f) (vx (l1 u_3 (m1 0 _ rfl)) (bn H fun b h5 H=>cl (lR O0 hT f q0_0 h5) ?_)))))));rintro v11 i0 q ⟨O7,rfl⟩;refine va (.tuple #[I b.1,B b.2]) (va (I b.1) (va (B b.2) (va (I b.1) (va (B b.2) (wln (sr (vx (l1 Aj ((mm m2) 0 _ rfl)) (va (I b.1) (va (Qo bc1o 5) (bn H fun a R H=>?_))))))))));obtain ⟨v13,x,T,S⟩:=Rel.open_snap_reader (M.mono q) R (tm X);refine md (gC 3 5 (I b.1) [.string a.rest,I a.n,I a.v.Wide,I a.v.High,v13,I b.1,I a.v.At.Col,B a.v.At.Pending,B a.v.Auto] 0 O7 T ⟨rfl,trivial⟩) ?_;rintro e s D;refine bn H fun z U H=>?_;obtain ⟨g,h,N,k0,h0⟩:=Rel.put_snap_reader D (M.mono (q.trans s)) (E':=[(Eb bc1o 76 [.string a.rest,I a.n,I a.v.Wide,I a.v.High,v13,I b.1,I a.v.At.Col,B a.v.At.Pending,B a.v.Auto]),es false ay v13 39 x a.v.Lines]) U ⟨bc1o,v13,x,(tm X),rfl,(S.mono s)⟩;refine wln (W.seq (bn H fun y p H=>W.join (Jn e fun c l=>Own c g (F)∧l= [(5,B y)]) ?_ ?_))
 ·clear H;refine W.region (va (B b.2) ?_);rcases bo (b.2) with d | d
  ·have A:=anT d p;refine vb d (wa (I b.1) (wn (vx (l1 u_3 ((mm m4) 0 _ rfl)) (wa (B (decide (b.1≥q2_0))) ?_))));obtain rfl:=si A;exact vv (B (decide (b.1≥q2_0))) (wln (jn e ⟨h,rfl⟩))
  obtain rfl:=anF d p;exact vb d (pz (ps (vv (B false) (wln (jn e ⟨h,rfl⟩)))))
 rintro e_ w_ ⟨P,j0,_,rfl,l0,rfl,E,rfl⟩;refine nrm (W.ret ?_);obtain rfl:=si H;exact r1 (qq P ⟨g,E,N.m,rfl⟩)
def cK (sg:Sto) (p0:aC) (p1_0_0:Int) (p1_1:Nat) (p1_2_0:Int):Option (Sto×aC):=
 if p0.bad=true then
 none
 else
 (if (decide (p0.at_≥(p0.words.length:Int)))=true then some (true,sg) else (idx p0.words p0.at_).bind fun c=>
 (kq sg c p1_0_0 p1_1 p1_2_0).bind fun b=>
 some (!b.2,b.1)).bind fun a=>
 if a.1=true then
 none
 else
 some (a.2,(⟨p0.words,(w64 (p0.at_+1)),p0.bad⟩:aC))
theorem gj {a:Nat} {b1_0:Nat} {b1_1:Nat} {b1_1o:Nat} {b1_2:Nat} (b:aC) (p1_0_0:Int) (p1_1:Nat) (p1_2_0:Int) (E:Own c0 G ((Eb a 130 [v1,I b.at_,B b.bad]) :: F)) (N:Rel c0 sg G) (hT:Et c0) {r:Sto×aC} (p:Sl RS c0 v1 b.words) (m3:∀j u,([I p1_0_0]:List Value)[j]? = some u→Im c0 b1_0 (0+j) u) (m4:∀j u,([.pointer (some ⟨b1_1o,5,none⟩)]:List Value)[j]? = some u→Im c0 b1_1 (0+j) u) (h5:c0.t 6 p1_1=some b1_1o) (m6:∀j u,([I p1_2_0]:List Value)[j]? = some u→Im c0 b1_2 (0+j) u) (H:cK sg b p1_0_0 p1_1 p1_2_0=some r): Calls prog 86 #[Q a,.func (.func 123) #[] #[Q b1_0,Q b1_1,Q b1_2]] c0.w (aQ c0 fun c v=>∃y1,∃G_:Gm,Own c G_ ((Eb a 130 [y1,I r.2.at_,B r.2.bad]) :: F)∧Rel c r.1 G_∧v= .tuple #[]∧Sl RS c y1 r.2.words):=by
 unfold cK at H;refine en func86 rfl rfl (W.seq (sr (vv (Q a) (va (Qo a 2) (vx (le1 2 u_4 (E.on 0 rfl)) (wln (cn H (fun h7 H=>?_) (fun h7 H=>?_))))))))
 ·cases H
 refine W.skip (nrm (W.seq (W.seq (bn H fun n h8 H=>W.join (Jn c0 fun c l=>∃G_,Own c G_ ((Eb a 130 [v1,I b.at_,B b.bad]) :: F)∧l= [(0,Q a),(32,B n.1)]∧Rel c n.2 G_) ?_ ?_))))
 ·clear H;refine rD [] (Kp G0 [(Eb a 130 [v1,I b.at_,B b.bad])]) E ?_;intro T l9 k;have i:Kp G0 [(Eb a 130 [v1,I b.at_,B b.bad])] T:=(Kp.cons (k.on 0 rfl) Kp.nil0);refine ta 0 (Q a) (ta 1 (Q a) (ta 2 (Qo a 1) (tkx 3 i (fun f d h=>le1 1 u_3 (h.on 0 rfl)) (ta 4 (Q a) (ta 5 (Q a) (ta 6 (Q a) (tkx 7 i (fun f d h=>le1 0 jg (h.on 0 rfl)) (tx 8 (fun f d=>ln 3 jg p.m) (ta 9 (B (decide (b.at_≥(b.words.length:Int)))) ?_)))))))));rcases bo (decide (b.at_≥(b.words.length:Int))) with g | g
  ·obtain rfl:=aq (it g h8);exact AC.takeb 10 g rfl (by kernel_rfl) (by kernel_rfl) (fun f d=>(by kernel_rfl)) (tp 11 (tp 12 (tp 13 (tp 14 (tp 15 (tp 16 (tp 17 (tp 18 (tp 19 (tp 20 (tp 21 (tp 22 (tp 23 (ta 24 (B true) (dn (nrm (jn T ⟨G,k,rfl,N.m⟩)))))))))))))))))
  have e:=ie g h8;refine bn e fun z y e=>bn e fun o U e=>AC.takeb 10 g rfl (by kernel_rfl) (by kernel_rfl) (fun f d=>(by kernel_rfl)) (ta 11 (.func (.func 123) #[] #[Q b1_0,Q b1_1,Q b1_2]) (ta 12 (Q a) (ta 13 (Q a) (ta 14 (Q a) (tkx 15 i (fun f d h=>le1 0 jg (h.on 0 rfl)) (ta 16 (Q a) (ta 17 (Q a) (ta 18 (Qo a 1) (tkx 19 i (fun f d h=>le1 1 u_3 (h.on 0 rfl)) ?_)))))))));obtain ⟨i0,X,b0⟩:=Sl.at (p.mono l9) (bi y);obtain rfl:=X;refine tx 20 (fun f d=>ix jg p.m y) (tx 21 (fun f d=>l1 u_9 ((mm b0) 0 _ rfl)) (o1 22 (gc 22 (qX k N.m hT.m z p1_0_0 p1_1 p1_2_0 (mm m3) (mm m4) (tm h5) (mm m6) U) ?_)));rintro v24 x q0 ⟨A,q,P,rfl⟩;have d0:Kp G0 [(Eb a 130 [v1,I b.at_,B b.bad])] x:=(Kp.cons (q.on 0 rfl) Kp.nil0);refine ⟨.inr d0,ta 23 (B (!o.2)) ?_⟩;obtain rfl:=si e;exact ta 24 (B (!o.2)) (dn (nrm (jn x ⟨A,q,rfl,P⟩)))
 rintro e_ w_ ⟨m0,o0,_,rfl,s0,rfl,D,s,rfl,R⟩;refine nrm (cn H (fun Z H=>?_) (fun Z H=>?_))
 ·cases H
 refine W.skip (nrm (W.region (vv (Q a) (va (Qo a 1) (vx (le1 1 u_3 (s.on 0 rfl)) (va (I (w64 (b.at_+1))) (va (Q a) (va (Qo a 1) (md (sC 3 1 (I (w64 (b.at_+1))) [v1,I (w64 (b.at_+1)),B b.bad] 0 s ⟨rfl,trivial⟩) ?_)))))))));rintro S t0 M;refine WL.nil ?_;obtain rfl:=si H;exact n0 (qq S ⟨v1,D,M,R.m,rfl,p.m⟩)
def kp (sg:Sto) (p0:ByteArray) (q0_0:Int) (e:Nat) (q2_0:Int):Option (Sto×Bool):=
 (iX p0 q0_0).bind fun c=>
 (sg.snap_reader[e]?).bind fun a=>
 (sg.set_snap_reader e (⟨a.rest,a.n,(⟨a.v.Wide,a.v.High,a.v.Lines,(⟨a.v.At.Row,c.1,a.v.At.Pending⟩:ai),a.v.Auto⟩:bh)⟩:bX)).bind fun b=>
 (bL c.2 (some (decide (c.1≥q2_0)))).bind fun d=>
 some (b,d)
theorem qW {i:Nat} {k:Nat} {bc1o:Nat} {o:Nat} (O0:Own c0 G F) (M:Rel c0 sg G) (hT:Et c0) (f:ByteArray) (q0_0:Int) (Z:Nat) (q2_0:Int) {r:Sto×Bool} (m1:∀j u,([I q0_0]:List Value)[j]? = some u→Im c0 i (0+j) u) (m2:∀j u,([.pointer (some ⟨bc1o,6,none⟩)]:List Value)[j]? = some u→Im c0 k (0+j) u) (X:c0.t 6 Z=some bc1o) (m4:∀j u,([I q2_0]:List Value)[j]? = some u→Im c0 o (0+j) u) (H:kp sg f q0_0 Z q2_0=some r): Calls prog 123 #[.string f,Q i,Q k,Q o] c0.w (aQ c0 fun c v=>∃G_:Gm,Own c G_ (F)∧Rel c r.1 G_∧v=B r.2):=by
 unfold kp at H;refine en func123 rfl rfl (sr (va (B false) (wln (sr (va (.string f) (vx (l1 u_3 (m1 0 _ rfl)) (bn H fun b h5 H=>cl (lR O0 hT f q0_0 h5) ?_)))))));rintro v11 i0 q ⟨O7,rfl⟩;refine va (.tuple #[I b.1,B b.2]) (va (I b.1) (va (B b.2) (va (I b.1) (va (B b.2) (wln (sr (vx (l1 Aj ((mm m2) 0 _ rfl)) (va (I b.1) (va (Qo bc1o 6) (bn H fun a R H=>?_))))))))));obtain ⟨v13,x,T,S⟩:=Rel.open_snap_reader (M.mono q) R (tm X);refine md (gC 3 6 (I b.1) [.string a.rest,I a.n,I a.v.Wide,I a.v.High,v13,I a.v.At.Row,I b.1,B a.v.At.Pending,B a.v.Auto] 0 O7 T ⟨rfl,trivial⟩) ?_;rintro e s D;refine bn H fun z U H=>?_;obtain ⟨g,h,N,k0,h0⟩:=Rel.put_snap_reader D (M.mono (q.trans s)) (E':=[(Eb bc1o 76 [.string a.rest,I a.n,I a.v.Wide,I a.v.High,v13,I a.v.At.Row,I b.1,B a.v.At.Pending,B a.v.Auto]),es false ay v13 39 x a.v.Lines]) U ⟨bc1o,v13,x,(tm X),rfl,(S.mono s)⟩;refine wln (W.seq (bn H fun y p H=>W.join (Jn e fun c l=>Own c g (F)∧l= [(5,B y)]) ?_ ?_))
 ·clear H;refine W.region (va (B b.2) ?_);rcases bo (b.2) with d | d
  ·have A:=anT d p;refine vb d (wa (I b.1) (wn (vx (l1 u_3 ((mm m4) 0 _ rfl)) (wa (B (decide (b.1≥q2_0))) ?_))));obtain rfl:=si A;exact vv (B (decide (b.1≥q2_0))) (wln (jn e ⟨h,rfl⟩))
  obtain rfl:=anF d p;exact vb d (pz (ps (vv (B false) (wln (jn e ⟨h,rfl⟩)))))
 rintro e_ w_ ⟨P,j0,_,rfl,l0,rfl,E,rfl⟩;refine nrm (W.ret ?_);obtain rfl:=si H;exact r1 (qq P ⟨g,E,N.m,rfl⟩)
def cJ (sg:Sto) (p0:aC) (p1_0_0:Int) (p1_1:Nat) (p1_2_0:Int):Option (Sto×aC):=
 if p0.bad=true then
 none
 else
 (if (decide (p0.at_≥(p0.words.length:Int)))=true then some (true,sg) else (idx p0.words p0.at_).bind fun c=>
 (kp sg c p1_0_0 p1_1 p1_2_0).bind fun b=>
 some (!b.2,b.1)).bind fun a=>
 if a.1=true then
 none
 else
 some (a.2,(⟨p0.words,(w64 (p0.at_+1)),p0.bad⟩:aC))
theorem gi {a:Nat} {b1_0:Nat} {b1_1:Nat} {b1_1o:Nat} {b1_2:Nat} (b:aC) (p1_0_0:Int) (p1_1:Nat) (p1_2_0:Int) (E:Own c0 G ((Eb a 130 [v1,I b.at_,B b.bad]) :: F)) (N:Rel c0 sg G) (hT:Et c0) {r:Sto×aC} (p:Sl RS c0 v1 b.words) (m3:∀j u,([I p1_0_0]:List Value)[j]? = some u→Im c0 b1_0 (0+j) u) (m4:∀j u,([.pointer (some ⟨b1_1o,6,none⟩)]:List Value)[j]? = some u→Im c0 b1_1 (0+j) u) (h5:c0.t 6 p1_1=some b1_1o) (m6:∀j u,([I p1_2_0]:List Value)[j]? = some u→Im c0 b1_2 (0+j) u) (H:cJ sg b p1_0_0 p1_1 p1_2_0=some r): Calls prog 86 #[Q a,.func (.func 123) #[] #[Q b1_0,Q b1_1,Q b1_2]] c0.w (aQ c0 fun c v=>∃y1,∃G_:Gm,Own c G_ ((Eb a 130 [y1,I r.2.at_,B r.2.bad]) :: F)∧Rel c r.1 G_∧v= .tuple #[]∧Sl RS c y1 r.2.words):=by
 unfold cJ at H;refine en func86 rfl rfl (W.seq (sr (vv (Q a) (va (Qo a 2) (vx (le1 2 u_4 (E.on 0 rfl)) (wln (cn H (fun h7 H=>?_) (fun h7 H=>?_))))))))
 ·cases H
 refine W.skip (nrm (W.seq (W.seq (bn H fun n h8 H=>W.join (Jn c0 fun c l=>∃G_,Own c G_ ((Eb a 130 [v1,I b.at_,B b.bad]) :: F)∧l= [(0,Q a),(32,B n.1)]∧Rel c n.2 G_) ?_ ?_))))
 ·clear H;refine rD [] (Kp G0 [(Eb a 130 [v1,I b.at_,B b.bad])]) E ?_;intro T l9 k;have i:Kp G0 [(Eb a 130 [v1,I b.at_,B b.bad])] T:=(Kp.cons (k.on 0 rfl) Kp.nil0);refine ta 0 (Q a) (ta 1 (Q a) (ta 2 (Qo a 1) (tkx 3 i (fun f d h=>le1 1 u_3 (h.on 0 rfl)) (ta 4 (Q a) (ta 5 (Q a) (ta 6 (Q a) (tkx 7 i (fun f d h=>le1 0 jg (h.on 0 rfl)) (tx 8 (fun f d=>ln 3 jg p.m) (ta 9 (B (decide (b.at_≥(b.words.length:Int)))) ?_)))))))));rcases bo (decide (b.at_≥(b.words.length:Int))) with g | g
  ·obtain rfl:=aq (it g h8);exact AC.takeb 10 g rfl (by kernel_rfl) (by kernel_rfl) (fun f d=>(by kernel_rfl)) (tp 11 (tp 12 (tp 13 (tp 14 (tp 15 (tp 16 (tp 17 (tp 18 (tp 19 (tp 20 (tp 21 (tp 22 (tp 23 (ta 24 (B true) (dn (nrm (jn T ⟨G,k,rfl,N.m⟩)))))))))))))))))
  have e:=ie g h8;refine bn e fun z y e=>bn e fun o U e=>AC.takeb 10 g rfl (by kernel_rfl) (by kernel_rfl) (fun f d=>(by kernel_rfl)) (ta 11 (.func (.func 123) #[] #[Q b1_0,Q b1_1,Q b1_2]) (ta 12 (Q a) (ta 13 (Q a) (ta 14 (Q a) (tkx 15 i (fun f d h=>le1 0 jg (h.on 0 rfl)) (ta 16 (Q a) (ta 17 (Q a) (ta 18 (Qo a 1) (tkx 19 i (fun f d h=>le1 1 u_3 (h.on 0 rfl)) ?_)))))))));obtain ⟨i0,X,b0⟩:=Sl.at (p.mono l9) (bi y);obtain rfl:=X;refine tx 20 (fun f d=>ix jg p.m y) (tx 21 (fun f d=>l1 u_9 ((mm b0) 0 _ rfl)) (o1 22 (gc 22 (qW k N.m hT.m z p1_0_0 p1_1 p1_2_0 (mm m3) (mm m4) (tm h5) (mm m6) U) ?_)));rintro v24 x q0 ⟨A,q,P,rfl⟩;have d0:Kp G0 [(Eb a 130 [v1,I b.at_,B b.bad])] x:=(Kp.cons (q.on 0 rfl) Kp.nil0);refine ⟨.inr d0,ta 23 (B (!o.2)) ?_⟩;obtain rfl:=si e;exact ta 24 (B (!o.2)) (dn (nrm (jn x ⟨A,q,rfl,P⟩)))
 rintro e_ w_ ⟨m0,o0,_,rfl,s0,rfl,D,s,rfl,R⟩;refine nrm (cn H (fun Z H=>?_) (fun Z H=>?_))
 ·cases H
 refine W.skip (nrm (W.region (vv (Q a) (va (Qo a 1) (vx (le1 1 u_3 (s.on 0 rfl)) (va (I (w64 (b.at_+1))) (va (Q a) (va (Qo a 1) (md (sC 3 1 (I (w64 (b.at_+1))) [v1,I (w64 (b.at_+1)),B b.bad] 0 s ⟨rfl,trivial⟩) ?_)))))))));rintro S t0 M;refine WL.nil ?_;obtain rfl:=si H;exact n0 (qq S ⟨v1,D,M,R.m,rfl,p.m⟩)
def pC (p0:ByteArray) (q0_0:ByteArray):Option (Bool):=
 some (eqS p0 q0_0)
theorem yS {b:Nat} (d:Own c0 G F) (a:ByteArray) (q0_0:ByteArray) {r:Bool} (e:∀j u,([.string q0_0]:List Value)[j]? = some u→Im c0 b (0+j) u) (H:pC a q0_0=some r): Calls prog 122 #[.string a,Q b] c0.w (aQ c0 fun c v=>Own c G (F)∧v=B r):=by
 unfold pC at H;refine en func122 rfl rfl (sr (va (B false) (wln (sr (va (.string a) (vx (l1 u_9 (e 0 _ rfl)) (vr (B (eqS a q0_0)) (nf (by kernel_rfl)) (va (B (eqS a q0_0)) (wln (W.ret ?_))))))))));obtain rfl:=si H;exact r1 (qq c0 ⟨d,rfl⟩)
def bT (p0:aC) (p1_0_0:ByteArray):Option (aC):=
 if p0.bad=true then
 none
 else
 (orE (decide (p0.at_≥(p0.words.length:Int))) ((idx p0.words p0.at_).bind fun b=>
 (pC b p1_0_0).bind fun c=>
 some (!c))).bind fun a=>
 if a=true then
 none
 else
 some (⟨p0.words,(w64 (p0.at_+1)),p0.bad⟩:aC)
theorem dg {a:Nat} {b1_0:Nat} (b:aC) (p1_0_0:ByteArray) (z:Own c0 G ((Eb a 130 [v1,I b.at_,B b.bad]) :: F)) {r:aC} (k:Sl RS c0 v1 b.words) (m3:∀j u,([.string p1_0_0]:List Value)[j]? = some u→Im c0 b1_0 (0+j) u) (H:bT b p1_0_0=some r): Calls prog 86 #[Q a,.func (.func 122) #[] #[Q b1_0]] c0.w (aQ c0 fun c v=>∃U,Own c G ((Eb a 130 [U,I r.at_,B r.bad]) :: F)∧v= .tuple #[]∧Sl RS c U r.words):=by
 unfold bT at H;refine en func86 rfl rfl (W.seq (sr (vv (Q a) (va (Qo a 2) (vx (le1 2 u_4 (z.on 0 rfl)) (wln (cn H (fun X H=>?_) (fun X H=>?_))))))))
 ·cases H
 refine W.skip (nrm (W.seq (W.seq (bn H fun x R H=>W.join (Jn c0 fun c l=>Own c G ((Eb a 130 [v1,I b.at_,B b.bad]) :: F)∧l= [(0,Q a),(32,B x)]) ?_ ?_))))
 ·clear H;refine rD [] (Kp G0 [(Eb a 130 [v1,I b.at_,B b.bad])]) z ?_;intro E Z t;have n:Kp G0 [(Eb a 130 [v1,I b.at_,B b.bad])] E:=(Kp.cons (t.on 0 rfl) Kp.nil0);refine ta 0 (Q a) (ta 1 (Q a) (ta 2 (Qo a 1) (tkx 3 n (fun f d g=>le1 1 u_3 (g.on 0 rfl)) (ta 4 (Q a) (ta 5 (Q a) (ta 6 (Q a) (tkx 7 n (fun f d g=>le1 0 jg (g.on 0 rfl)) (tx 8 (fun f d=>ln 3 jg k.m) (ta 9 (B (decide (b.at_≥(b.words.length:Int)))) ?_)))))))));rcases bo (decide (b.at_≥(b.words.length:Int))) with h | h
  ·obtain rfl:=orT h R;exact AC.takeb 10 h rfl (by kernel_rfl) (by kernel_rfl) (fun f d=>(by kernel_rfl)) (tp 11 (tp 12 (tp 13 (tp 14 (tp 15 (tp 16 (tp 17 (tp 18 (tp 19 (tp 20 (tp 21 (tp 22 (tp 23 (ta 24 (B true) (dn (nrm (jn E ⟨t,rfl⟩)))))))))))))))))
  have e:=orF h R;refine bn e fun y s e=>bn e fun i M e=>AC.takeb 10 h rfl (by kernel_rfl) (by kernel_rfl) (fun f d=>(by kernel_rfl)) (ta 11 (.func (.func 122) #[] #[Q b1_0]) (ta 12 (Q a) (ta 13 (Q a) (ta 14 (Q a) (tkx 15 n (fun f d g=>le1 0 jg (g.on 0 rfl)) (ta 16 (Q a) (ta 17 (Q a) (ta 18 (Qo a 1) (tkx 19 n (fun f d g=>le1 1 u_3 (g.on 0 rfl)) ?_)))))))));obtain ⟨a0,N,S⟩:=Sl.at (k.mono Z) (bi s);obtain rfl:=N;refine tx 20 (fun f d=>ix jg k.m s) (tx 21 (fun f d=>l1 u_9 ((mm S) 0 _ rfl)) (o1 22 (gc 22 (yS t y p1_0_0 (mm m3) M) ?_)));rintro v21 q f0 ⟨o,rfl⟩;have T:Kp G0 [(Eb a 130 [v1,I b.at_,B b.bad])] q:=(Kp.cons (o.on 0 rfl) Kp.nil0);refine ⟨.inr T,ta 23 (B (!i)) ?_⟩;obtain rfl:=si e;exact ta 24 (B (!i)) (dn (nrm (jn q ⟨o,rfl⟩)))
 rintro e_ w_ ⟨d0,e0,_,rfl,g0,rfl,p,rfl⟩;refine nrm (cn H (fun P H=>?_) (fun P H=>?_))
 ·cases H
 refine W.skip (nrm (W.region (vv (Q a) (va (Qo a 1) (vx (le1 1 u_3 (p.on 0 rfl)) (va (I (w64 (b.at_+1))) (va (Q a) (va (Qo a 1) (md (sC 3 1 (I (w64 (b.at_+1))) [v1,I (w64 (b.at_+1)),B b.bad] 0 p ⟨rfl,trivial⟩) ?_)))))))));rintro D h0 A;refine WL.nil ?_;obtain rfl:=si H;exact n0 (qq D ⟨v1,A,rfl,k.m⟩)
def jt (sg:Sto) (p0:ByteArray) (q0_0:Option Nat):Option (Sto×Bool):=
 (q0_0).bind fun c=>
 (sg.snap_reader[c]?).bind fun a=>
 (sg.set_snap_reader c (⟨a.rest,a.n,(⟨a.v.Wide,a.v.High,a.v.Lines,a.v.At,eqS p0 (⟨#[111,110]⟩:ByteArray)⟩:bh)⟩:bX)).bind fun b=>
 (orE (eqS p0 (⟨#[111,110]⟩:ByteArray)) (some (eqS p0 (⟨#[111,102,102]⟩:ByteArray)))).bind fun d=>
 some (b,d)
theorem pK {i:Nat} (R:Own c0 G F) (x:Rel c0 sg G) (b:ByteArray) (q0_0:Option Nat) {r:Sto×Bool} (X:∀j u,([v2]:List Value)[j]? = some u→Im c0 i (0+j) u) (S:Pt 6 c0 v2 q0_0) (H:jt sg b q0_0=some r): Calls prog 94 #[.string b,Q i] c0.w (aQ c0 fun c v=>∃G_:Gm,Own c G_ (F)∧Rel c r.1 G_∧v=B r.2):=by
 unfold jt at H;refine en func94 rfl rfl (sr (va (B false) (wln (sr (vx (l1 xN (X 0 _ rfl)) (va (.string b) (vr (B (eqS b (⟨#[111,110]⟩:ByteArray))) (nf (by kernel_rfl)) (bn H fun d0 T H=>?_))))))));obtain ⟨e,rfl,M⟩:=(S).get T;refine va (Q e) (va (Qo e 2) (va (Qo e 8) (bn H fun a U H=>?_)));obtain ⟨v8,P,D,A⟩:=Rel.open_snap_reader x U M;refine md (gC 4 8 (B (eqS b (⟨#[111,110]⟩:ByteArray))) [.string a.rest,I a.n,I a.v.Wide,I a.v.High,v8,I a.v.At.Row,I a.v.At.Col,B a.v.At.Pending,B (eqS b (⟨#[111,110]⟩:ByteArray))] 0 R D ⟨rfl,trivial⟩) ?_;rintro f o s;refine bn H fun N E H=>?_;obtain ⟨g,h,y,b0,Z⟩:=Rel.put_snap_reader s (x.mono o) (E':=[(Eb e 76 [.string a.rest,I a.n,I a.v.Wide,I a.v.High,v8,I a.v.At.Row,I a.v.At.Col,B a.v.At.Pending,B (eqS b (⟨#[111,110]⟩:ByteArray))]),es false ay v8 39 P a.v.Lines]) E ⟨e,v8,P,(tm M),rfl,(A.mono o)⟩;refine wln (W.seq (bn H fun p k H=>W.join (Jn f fun c l=>Own c g (F)∧l= [(3,B p)]) ?_ ?_))
 ·clear H;refine W.region (va (.string b) (vr (B (eqS b (⟨#[111,110]⟩:ByteArray))) (nf (by kernel_rfl)) ?_));rcases bo (eqS b (⟨#[111,110]⟩:ByteArray)) with d | d
  ·obtain rfl:=orT d k;exact vb d (pz (vv (B true) (wln (jn f ⟨h,rfl⟩))))
  have q:=orF d k;refine vb d (wa (.string b) (wn (vr (B (eqS b (⟨#[111,102,102]⟩:ByteArray))) (nf (by kernel_rfl)) ?_)));obtain rfl:=si q;exact vv (B (eqS b (⟨#[111,102,102]⟩:ByteArray))) (wln (jn f ⟨h,rfl⟩))
 rintro e_ w_ ⟨z,a0,_,rfl,e0,rfl,t,rfl⟩;refine nrm (W.ret ?_);obtain rfl:=si H;exact r1 (qq z ⟨g,t,y.m,rfl⟩)
def cE (sg:Sto) (p0:aC) (p1_0_0:Option Nat):Option (Sto×aC):=
 if p0.bad=true then
 none
 else
 (if (decide (p0.at_≥(p0.words.length:Int)))=true then some (true,sg) else (idx p0.words p0.at_).bind fun c=>
 (jt sg c p1_0_0).bind fun b=>
 some (!b.2,b.1)).bind fun a=>
 if a.1=true then
 none
 else
 some (a.2,(⟨p0.words,(w64 (p0.at_+1)),p0.bad⟩:aC))
theorem fN {a:Nat} {b1_0:Nat} (b:aC) (p1_0_0:Option Nat) (D:Own c0 G ((Eb a 130 [v1,I b.at_,B b.bad]) :: F)) (M:Rel c0 sg G) {r:Sto×aC} (o:Sl RS c0 v1 b.words) (m3:∀j u,([v4]:List Value)[j]? = some u→Im c0 b1_0 (0+j) u) (h5:Pt 6 c0 v4 p1_0_0) (H:cE sg b p1_0_0=some r): Calls prog 86 #[Q a,.func (.func 94) #[] #[Q b1_0]] c0.w (aQ c0 fun c v=>∃y1,∃G_:Gm,Own c G_ ((Eb a 130 [y1,I r.2.at_,B r.2.bad]) :: F)∧Rel c r.1 G_∧v= .tuple #[]∧Sl RS c y1 r.2.words):=by
 unfold cE at H;refine en func86 rfl rfl (W.seq (sr (vv (Q a) (va (Qo a 2) (vx (le1 2 u_4 (D.on 0 rfl)) (wln (cn H (fun h6 H=>?_) (fun h6 H=>?_))))))))
 ·cases H
 refine W.skip (nrm (W.seq (W.seq (bn H fun k Z H=>W.join (Jn c0 fun c l=>∃G_,Own c G_ ((Eb a 130 [v1,I b.at_,B b.bad]) :: F)∧l= [(0,Q a),(32,B k.1)]∧Rel c k.2 G_) ?_ ?_))))
 ·clear H;refine rD [] (Kp G0 [(Eb a 130 [v1,I b.at_,B b.bad])]) D ?_;intro S l8 x;have i:Kp G0 [(Eb a 130 [v1,I b.at_,B b.bad])] S:=(Kp.cons (x.on 0 rfl) Kp.nil0);refine ta 0 (Q a) (ta 1 (Q a) (ta 2 (Qo a 1) (tkx 3 i (fun f d h=>le1 1 u_3 (h.on 0 rfl)) (ta 4 (Q a) (ta 5 (Q a) (ta 6 (Q a) (tkx 7 i (fun f d h=>le1 0 jg (h.on 0 rfl)) (tx 8 (fun f d=>ln 3 jg o.m) (ta 9 (B (decide (b.at_≥(b.words.length:Int)))) ?_)))))))));rcases bo (decide (b.at_≥(b.words.length:Int))) with g | g
  ·obtain rfl:=aq (it g Z);exact AC.takeb 10 g rfl (by kernel_rfl) (by kernel_rfl) (fun f d=>(by kernel_rfl)) (tp 11 (tp 12 (tp 13 (tp 14 (tp 15 (tp 16 (tp 17 (tp 18 (tp 19 (tp 20 (tp 21 (tp 22 (tp 23 (ta 24 (B true) (dn (nrm (jn S ⟨G,x,rfl,M.m⟩)))))))))))))))))
  have e:=ie g Z;refine bn e fun y t e=>bn e fun n T e=>AC.takeb 10 g rfl (by kernel_rfl) (by kernel_rfl) (fun f d=>(by kernel_rfl)) (ta 11 (.func (.func 94) #[] #[Q b1_0]) (ta 12 (Q a) (ta 13 (Q a) (ta 14 (Q a) (tkx 15 i (fun f d h=>le1 0 jg (h.on 0 rfl)) (ta 16 (Q a) (ta 17 (Q a) (ta 18 (Qo a 1) (tkx 19 i (fun f d h=>le1 1 u_3 (h.on 0 rfl)) ?_)))))))));obtain ⟨h0,U,a0⟩:=Sl.at (o.mono l8) (bi t);obtain rfl:=U;refine tx 20 (fun f d=>ix jg o.m t) (tx 21 (fun f d=>l1 u_9 ((mm a0) 0 _ rfl)) (o1 22 (gc 22 (pK x M.m y p1_0_0 (mm m3) h5.m T) ?_)));rintro v23 s l0 ⟨z,p,N,rfl⟩;have b0:Kp G0 [(Eb a 130 [v1,I b.at_,B b.bad])] s:=(Kp.cons (p.on 0 rfl) Kp.nil0);refine ⟨.inr b0,ta 23 (B (!n.2)) ?_⟩;obtain rfl:=si e;exact ta 24 (B (!n.2)) (dn (nrm (jn s ⟨z,p,rfl,N⟩)))
 rintro e_ w_ ⟨j0,k0,_,rfl,m0,rfl,A,q,rfl,P⟩;refine nrm (cn H (fun X H=>?_) (fun X H=>?_))
 ·cases H
 refine W.skip (nrm (W.region (vv (Q a) (va (Qo a 1) (vx (le1 1 u_3 (q.on 0 rfl)) (va (I (w64 (b.at_+1))) (va (Q a) (va (Qo a 1) (md (sC 3 1 (I (w64 (b.at_+1))) [v1,I (w64 (b.at_+1)),B b.bad] 0 q ⟨rfl,trivial⟩) ?_)))))))));rintro R o0 E;refine WL.nil ?_;obtain rfl:=si H;exact n0 (qq R ⟨v1,A,E,P.m,rfl,o.m⟩)
def nR (p0:ByteArray):Option (Unit):=
 some ()
theorem sS (e:Own c0 G F) (a:ByteArray) {r:Unit} (H:nR a=some r): Calls prog 91 #[.string a] c0.w (aQ c0 fun c v=>∃d:Nat,Own c G (F)∧v= .func (.func 122) #[] #[Q d]∧(∀j u,([.string a]:List Value)[j]? = some u→Im c d (0+j) u)):=by
 unfold nR at H;refine en func91 rfl rfl (sr (me (bx 9 [.string a] e) ?_));rintro v5 g i ⟨b,rfl,f,h⟩;refine va (.nilFunc) (wln (sr (vv (.func (.func 122) #[] #[Q b]) (wln (W.ret ?_)))));obtain rfl:=si H;exact r1 (qq g ⟨b,f,rfl,h⟩)
def lI (p0:Nat) (p1:Int) (p2:Int):Option (Unit):=
 some ()
theorem sX {a:Nat} (p:Own c0 G F) (l:Nat) (d:Int) (e:Int) {r:Unit} (M:c0.t 6 l=some a) (H:lI l d e=some r): Calls prog 92 #[.pointer (some ⟨a,2,none⟩),I d,I e] c0.w (aQ c0 fun c v=>∃m:Nat,∃n:Nat,∃o:Nat,Own c G (F)∧v= .func (.func 123) #[] #[Q m,Q n,Q o]∧(∀j u,([I e]:List Value)[j]? = some u→Im c m (0+j) u)∧(∀j u,([.pointer (some ⟨a,2,none⟩)]:List Value)[j]? = some u→Im c n (0+j) u)∧(∀j u,([I d]:List Value)[j]? = some u→Im c o (0+j) u)):=by
 unfold lI at H;refine en func92 rfl rfl (sr (me (bx 174 [.pointer (some ⟨a,2,none⟩)] p) ?_));rintro v6 E N ⟨f,rfl,q,x⟩;refine me (bx 3 [I d] q) ?_;rintro v11 z A ⟨g,rfl,s,y⟩;refine me (bx 3 [I e] s) ?_;rintro v16 i D ⟨b,rfl,h,k⟩;refine va (.nilFunc) (wln (sr (vv (.func (.func 123) #[] #[Q b,Q f,Q g]) (wln (W.ret ?_)))));obtain rfl:=si H;exact r1 (qq i ⟨b,f,g,h,rfl,k,(mm x),(mm y)⟩)
def lH (p0:Nat) (p1:Int) (p2:Int):Option (Unit):=
 some ()
theorem sW {a:Nat} (p:Own c0 G F) (l:Nat) (d:Int) (e:Int) {r:Unit} (M:c0.t 6 l=some a) (H:lH l d e=some r): Calls prog 92 #[.pointer (some ⟨a,3,none⟩),I d,I e] c0.w (aQ c0 fun c v=>∃m:Nat,∃n:Nat,∃o:Nat,Own c G (F)∧v= .func (.func 123) #[] #[Q m,Q n,Q o]∧(∀j u,([I e]:List Value)[j]? = some u→Im c m (0+j) u)∧(∀j u,([.pointer (some ⟨a,3,none⟩)]:List Value)[j]? = some u→Im c n (0+j) u)∧(∀j u,([I d]:List Value)[j]? = some u→Im c o (0+j) u)):=by
 unfold lH at H;refine en func92 rfl rfl (sr (me (bx 174 [.pointer (some ⟨a,3,none⟩)] p) ?_));rintro v6 E N ⟨f,rfl,q,x⟩;refine me (bx 3 [I d] q) ?_;rintro v11 z A ⟨g,rfl,s,y⟩;refine me (bx 3 [I e] s) ?_;rintro v16 i D ⟨b,rfl,h,k⟩;refine va (.nilFunc) (wln (sr (vv (.func (.func 123) #[] #[Q b,Q f,Q g]) (wln (W.ret ?_)))));obtain rfl:=si H;exact r1 (qq i ⟨b,f,g,h,rfl,k,(mm x),(mm y)⟩)
def lG (p0:Nat) (p1:Int) (p2:Int):Option (Unit):=
 some ()
theorem sV {a:Nat} (p:Own c0 G F) (l:Nat) (d:Int) (e:Int) {r:Unit} (M:c0.t 6 l=some a) (H:lG l d e=some r): Calls prog 92 #[.pointer (some ⟨a,5,none⟩),I d,I e] c0.w (aQ c0 fun c v=>∃m:Nat,∃n:Nat,∃o:Nat,Own c G (F)∧v= .func (.func 123) #[] #[Q m,Q n,Q o]∧(∀j u,([I e]:List Value)[j]? = some u→Im c m (0+j) u)∧(∀j u,([.pointer (some ⟨a,5,none⟩)]:List Value)[j]? = some u→Im c n (0+j) u)∧(∀j u,([I d]:List Value)[j]? = some u→Im c o (0+j) u)):=by
 unfold lG at H;refine en func92 rfl rfl (sr (me (bx 174 [.pointer (some ⟨a,5,none⟩)] p) ?_));rintro v6 E N ⟨f,rfl,q,x⟩;refine me (bx 3 [I d] q) ?_;rintro v11 z A ⟨g,rfl,s,y⟩;refine me (bx 3 [I e] s) ?_;rintro v16 i D ⟨b,rfl,h,k⟩;refine va (.nilFunc) (wln (sr (vv (.func (.func 123) #[] #[Q b,Q f,Q g]) (wln (W.ret ?_)))));obtain rfl:=si H;exact r1 (qq i ⟨b,f,g,h,rfl,k,(mm x),(mm y)⟩)
def lF (p0:Nat) (p1:Int) (p2:Int):Option (Unit):=
 some ()
theorem sU {a:Nat} (p:Own c0 G F) (l:Nat) (d:Int) (e:Int) {r:Unit} (M:c0.t 6 l=some a) (H:lF l d e=some r): Calls prog 92 #[.pointer (some ⟨a,6,none⟩),I d,I e] c0.w (aQ c0 fun c v=>∃m:Nat,∃n:Nat,∃o:Nat,Own c G (F)∧v= .func (.func 123) #[] #[Q m,Q n,Q o]∧(∀j u,([I e]:List Value)[j]? = some u→Im c m (0+j) u)∧(∀j u,([.pointer (some ⟨a,6,none⟩)]:List Value)[j]? = some u→Im c n (0+j) u)∧(∀j u,([I d]:List Value)[j]? = some u→Im c o (0+j) u)):=by
 unfold lF at H;refine en func92 rfl rfl (sr (me (bx 174 [.pointer (some ⟨a,6,none⟩)] p) ?_));rintro v6 E N ⟨f,rfl,q,x⟩;refine me (bx 3 [I d] q) ?_;rintro v11 z A ⟨g,rfl,s,y⟩;refine me (bx 3 [I e] s) ?_;rintro v16 i D ⟨b,rfl,h,k⟩;refine va (.nilFunc) (wln (sr (vv (.func (.func 123) #[] #[Q b,Q f,Q g]) (wln (W.ret ?_)))));obtain rfl:=si H;exact r1 (qq i ⟨b,f,g,h,rfl,k,(mm x),(mm y)⟩)
def ey (sg:Sto) (p0:Option Nat) (p1:aC):Option (Sto×aC×Er):=
 ((p0).bind fun a=>
 (sg.snap_reader[a]?).bind fun g=>
 if (g.n==0)=true then
 (nR (⟨#[115,99,114,101,101,110]⟩:ByteArray)).bind fun o=>
 (bT p1 (⟨#[115,99,114,101,101,110]⟩:ByteArray)).bind fun j=>
 (lI a 1 1025).bind fun p=>
 (cM sg j 1025 a 1).bind fun i=>
 (lH a 1 1025).bind fun q=>
 (cL i.1 i.2 1025 a 1).bind fun d=>
 some (d.2.words,d.2.at_,d.2.bad,d.1)
 else
 if (g.n==1)=true then
 (nR (⟨#[97,116]⟩:ByteArray)).bind fun r=>
 (bT p1 (⟨#[97,116]⟩:ByteArray)).bind fun k=>
 (lG a 0 g.v.High).bind fun s=>
 (cK sg k g.v.High a 0).bind fun f=>
 (f.1.snap_reader[a]?).bind fun h=>
 (lF a 0 h.v.Wide).bind fun t=>
 (cJ f.1 f.2 h.v.Wide a 0).bind fun b=>
 if (decide (b.2.at_ < (b.2.words.length:Int)))=true then
 none
 else
 some (b.2.words,b.2.at_,b.2.bad,b.1)
 else
 (nR (⟨#[97,117,116,111]⟩:ByteArray)).bind fun u=>
 (bT p1 (⟨#[97,117,116,111]⟩:ByteArray)).bind fun l=>
 (cE sg l p0).bind fun e=>
 some (e.2.words,e.2.at_,e.2.bad,e.1)).bind fun c=>
 (dG (⟨c.1,c.2.1,c.2.2.1⟩:aC)).bind fun m=>
 some (c.2.2.2,(⟨c.1,c.2.1,c.2.2.1⟩:aC),m)
theorem lc {d:Nat} (p0:Option Nat) (x:aC) (O0:Own c0 G ((Eb d 130 [v3,I x.at_,B x.bad]) :: F)) (R0:Rel c0 sg G) (hT:Et c0) {r:Sto×aC×Er} (h2:Pt 6 c0 v1 p0) (z:Sl RS c0 v3 x.words) (H:ey sg p0 x=some r):
    Calls prog 52 #[v1,Q d] c0.w (aQ c0 fun c v=>∃y1 y2,∃G_:Gm,Own c G_ ((Eb d 130 [y2,I r.2.1.at_,B r.2.1.bad]) :: F)∧Rel c r.1 G_∧v=y1∧RE 341 78 c y1 r.2.2∧Sl RS c y2 r.2.1.words):=by
 unfold ey at H
 refine en func52 rfl rfl (sr ?_)
 obtain ⟨a5,rfl⟩:=(h2).form
 refine me (bx 74 [.pointer a5] O0) ?_
 rintro v10 c9 l9 ⟨b6,rfl,O7,o⟩
 refine va (.nilIface) (wln (bn H fun i a A=>W.seqJ (Jn c9 fun c l=>∃v13 G_,Own c G_ ((Eb d 130 [v13,I i.2.1,B i.2.2.1]) :: F)∧l= [(1,Q d)]∧Rel c i.2.2.2 G_∧Sl RS c v13 i.1) ?_ ?_))
 ·refine sr (vx (l1 xN (o 0 _ rfl)) (bn a fun h w3 a=>?_))
  obtain ⟨b,x3,e⟩:=((h2.mono l9)).get w3
  cases x3
  refine va (Q b) (va (Qo b 1) (bn a fun j y3 a=>?_))
  obtain ⟨v19,o8,l0,j8⟩:=Rel.open_snap_reader (R0.mono l9) y3 e
  refine vx (le1 1 u_3 (O7.gon l0 0 rfl)) (wln (W.block (sr (vv (B (j.n==0)) (wln (cn a (fun z3 a=>?_) (fun z3 a=>?_)))))))
  ·refine sr (va (Q d) (bn a fun d7 a4 a=>cl (sS O7 (⟨#[115,99,114,101,101,110]⟩:ByteArray) a4) ?_))
   rintro v32 e8 k4 ⟨x7,l3,rfl,n4⟩
   obtain ⟨o7,p7,q7,rfl⟩:=((z.mono (l9.trans k4))).form
   refine bn a fun f3 b4 a=>cl (dg x (⟨#[115,99,114,101,101,110]⟩:ByteArray) l3 z.m n4 b4) ?_
   rintro v45 f8 k8 ⟨v38,m3,rfl,m0⟩
   refine wln (sr (va (Q d) (vx (l1 xN ((mm o) 0 _ rfl)) (va (Q b) (vv (Qo b 2) (bn a fun e7 c4 a=>cl (sX m3 h 1 1025 (tm e) c4) ?_))))))
   rintro v58 g8 l4 ⟨y7,z7,a8,n3,rfl,o4,p4,q4⟩
   obtain ⟨r7,s7,t7,rfl⟩:=((m0.mono l4)).form
   refine bn a fun g3 d4 a=>cl (gn f3 1025 h 1 n3 R0.m hT.m m0.m o4 p4 (tm e) q4 d4) ?_
   rintro q8 h8 l8 ⟨p8,n7,o3,s3,rfl,o0⟩
   refine wln (W.region (va (Q d) (vx (l1 xN ((mm o) 0 _ rfl)) (va (Q b) (va (Qo b 2) (va (Qo b 3) (bn a fun f7 e4 a=>cl (sW o3 h 1 1025 (tm e) e4) ?_)))))))
   rintro r8 i8 m4 ⟨b8,c8,d8,p3,rfl,r4,s4,t4⟩
   obtain ⟨u7,v7,w7,rfl⟩:=((o0.mono m4)).form
   refine bn a fun g7 f4 a=>cl (gk g3.2 1025 h 1 p3 s3.m hT.m o0.m r4 s4 (tm e) t4 f4) ?_
   rintro s8 u3 n8 ⟨u4,k3,q3,t3,rfl,g4⟩
   refine WL.nil (bkn (nrm ?_))
   obtain rfl:=si a
   exact jn u3 ⟨u4,k3,q3,rfl,t3,g4⟩
  refine sr (vv (B (j.n==1)) (wln (cn a (fun i4 a=>?_) (fun i4 a=>?_))))
  ·refine sr (va (Q d) (bn a fun h7 j4 a=>cl (sS O7 (⟨#[97,116]⟩:ByteArray) j4) ?_))
   rintro q6 y5 a0 ⟨p5,u0,rfl,p2⟩
   obtain ⟨y4,z4,b5,rfl⟩:=((z.mono (l9.trans a0))).form
   refine bn a fun h3 t1 a=>cl (dg x (⟨#[97,116]⟩:ByteArray) u0 z.m p2 t1) ?_
   rintro s6 z5 m2 ⟨r6,v0,rfl,T⟩
   refine wln (W.seq (rD [12] (Kp G []) v0 ?_))
   intro j1 b0 D
   have a3:Kp G [] j1:=(Kp.nil D)
   refine ta 0 (Q d) (tx 1 (fun k g=>l1 xN ((mm o) 0 _ rfl)) (ta 2 (Q b) (ta 3 (Qo b 2) (ta 4 (Qo b 5) (ta 5 (Qo b 5) (tx 6 (fun k g=>l1 xN ((mm o) 0 _ rfl)) (ta 7 (Q b) (ta 8 (Qo b 2) (ta 9 (Qo b 3) (tkx 10 a3 (fun k g s=>le1 3 u_3 (s.gon l0 0 rfl)) (bn a fun i7 u1 a=>o1 11 (gc 11 (sV D h 0 j.v.High (tm e) u1) ?_))))))))))))
   rintro t6 k1 d0 ⟨q5,r5,s5,E,rfl,q2,s2,t2⟩
   have b3:Kp G [] k1:=(Kp.nil E)
   refine ⟨.inr b3,?_⟩
   obtain ⟨c5,d5,e5,rfl⟩:=((T.mono (b0.trans d0))).form
   refine bn a fun i3 w1 a=>o1 12 (gc 12 (gj h3 j.v.High h 0 E R0.m hT.m T.m q2 s2 (tm e) t2 w1) ?_)
   rintro v6 a6 n2 ⟨u6,p,w0,R,rfl,U⟩
   refine ⟨.inl rfl,dn (nrm (W.seq (rD [12] (Kp p []) w0 ?_)))⟩
   intro m1 u M
   have c3:Kp p [] m1:=(Kp.nil M)
   refine ta 0 (Q d) (tx 1 (fun k g=>l1 xN ((mm o) 0 _ rfl)) (ta 2 (Q b) (ta 3 (Qo b 2) (ta 4 (Qo b 5) (ta 5 (Qo b 6) (tx 6 (fun k g=>l1 xN ((mm o) 0 _ rfl)) (ta 7 (Q b) (ta 8 (Qo b 2) (ta 9 (Qo b 2) (bn a fun g0 x1 a=>?_))))))))))
   obtain ⟨w6,p6,z1,i6⟩:=Rel.open_snap_reader (R.mono u) x1 (tm e)
   refine tkx 10 c3 (fun k g s=>le1 2 u_3 (s.gon z1 0 rfl)) (bn a fun j7 b2 a=>o1 11 (gc 11 (sU M h 0 g0.v.Wide (tm e) b2) ?_))
   rintro x6 n1 e0 ⟨t5,u5,v5,N,rfl,u2,v2,w2⟩
   have d3:Kp p [] n1:=(Kp.nil N)
   refine ⟨.inr d3,?_⟩
   obtain ⟨f5,g5,h5,rfl⟩:=((U.mono (u.trans e0))).form
   refine bn a fun f c2 a=>o1 12 (gc 12 (gi i3.2 g0.v.Wide h 0 N R.m hT.m U.m u2 v2 ((a0.trans (m2.trans (b0.trans (d0.trans (n2.trans (u.trans e0)))))).t _ _ _ e) w2 c2) ?_)
   rintro y6 c6 j6 ⟨y,q0,x0,d1,rfl,X⟩
   refine ⟨.inl rfl,dn (nrm (W.seq (rD [] (Kp G0 [(Eb d 130 [y,I f.2.at_,B f.2.bad])]) x0 ?_)))⟩
   intro S k6 P
   have h0:Kp G0 [(Eb d 130 [y,I f.2.at_,B f.2.bad])] S:=(Kp.cons (P.on 0 rfl) Kp.nil0)
   refine ta 0 (Q d) (ta 1 (Q d) (ta 2 (Qo d 1) (tkx 3 h0 (fun k g s=>le1 1 u_3 (s.on 0 rfl)) (ta 4 (Q d) (ta 5 (Q d) (ta 6 (Q d) (tkx 7 h0 (fun k g s=>le1 0 jg (s.on 0 rfl)) (tx 8 (fun k g=>ln 3 jg X.m) (ta 9 (B (decide (f.2.at_ < (f.2.words.length:Int)))) (dn (nrm (cn a (fun d2 a=>?_) (fun d2 a=>?_)))))))))))))
   ·cases a
   refine W.skip (bkn (nrm ?_))
   obtain rfl:=si a
   exact jn S ⟨y,q0,P,rfl,d1.m,X.m⟩
  refine sr (va (Q d) (bn a fun k7 e2 a=>cl (sS O7 (⟨#[97,117,116,111]⟩:ByteArray) e2) ?_))
  rintro z6 d6 o2 ⟨w5,y0,rfl,x2⟩
  obtain ⟨i5,j5,k5,rfl⟩:=((z.mono (l9.trans o2))).form
  refine bn a fun j3 g2 a=>cl (dg x (⟨#[97,117,116,111]⟩:ByteArray) y0 z.m x2 g2) ?_
  rintro b7 e6 l6 ⟨a7,z0,rfl,Z⟩
  refine wln (W.region (va (Q d) (va (.func (.func 94) #[] #[Q b6]) ?_)))
  obtain ⟨l5,m5,n5,rfl⟩:=(Z).form
  refine bn a fun l7 i2 a=>cl (fN j3 p0 z0 R0.m Z (mm o) h2.m i2) ?_
  rintro c7 q1 m6 ⟨e3,s0,a1,e1,rfl,j2⟩
  refine WL.nil (bkn (nrm ?_))
  obtain rfl:=si a
  exact jn q1 ⟨e3,s0,a1,rfl,e1,j2⟩
 rintro e_ w_ ⟨f6,h6,_,rfl,n6,rfl,v13,t0,b1,rfl,f1,q⟩
 refine sr (va (Q d) ?_)
 obtain ⟨g1,h1,i1,rfl⟩:=(q).form
 refine bn A fun m7 k2 A=>cl (iC (⟨i.1,i.2.1,i.2.2.1⟩:aC) b1 q k2) ?_
 rintro i0 s1 o6 ⟨_,c1,rfl,l2⟩
 refine va (i0) (wln (W.ret ?_))
 obtain rfl:=si A
 exact r1 (qq s1 ⟨i0,(.slice g1 h1 i1),t0,c1,f1.m,rfl,l2,q.m⟩)
def kN (sg:Sto) (p0:Option Nat):Option (Sto×Er):=
 (cO (σ:=Sto) (τ:=Sto) (2000) (fun g=>
 (p0).bind fun m=>
 (g.snap_reader[m]?).bind fun f=>
 (orE (decide (f.n < 3)) (some (decide (f.n < (w64 (3+f.v.High)))))).bind fun l=>
 if l=true then
 (ko g p0).bind fun d=>
 if (!d.2.2)=true then
 none
 else
 (p0).bind fun e=>
 (d.1.snap_reader[e]?).bind fun j=>
 if (decide (j.n < 3))=true then
 (ey d.1 p0 (⟨d.2.1,0,false⟩:aC)).bind fun b=>
 if (!b.2.2.isNil)=true then
 none
 else
 (b.1.snap_reader[e]?).bind fun a=>
 (b.1.set_snap_reader e (⟨a.rest,(w64 (a.n+1)),a.v⟩:bX)).bind fun c=>
 some (.inl (c))
 else
 (ei d.1 p0 (⟨d.2.1,0,false⟩:aC)).bind fun b=>
 if (!b.2.2.isNil)=true then
 none
 else
 (b.1.snap_reader[e]?).bind fun a=>
 (b.1.set_snap_reader e (⟨a.rest,(w64 (a.n+1)),a.v⟩:bX)).bind fun c=>
 some (.inl (c))
 else
 some (.inr (g))) (sg)).bind fun h=>
 (p0).bind fun i=>
 (h.snap_reader[i]?).bind fun k=>
 if (!(eqS k.rest (⟨#[]⟩:ByteArray)))=true then
 none
 else
 some (h,Er.nil)
theorem rX (O0:Own c0 G F) (R0:Rel c0 sg G) (hT:Et c0) (Z:Option Nat) {r:Sto×Er} (x:Pt 6 c0 v1 Z) (H:kN sg Z=some r): Calls prog 25 #[v1] c0.w (aQ c0 fun c v=>∃y1,∃G_:Gm,Own c G_ (F)∧Rel c r.1 G_∧v=y1∧RE 341 78 c y1 r.2):=by
 unfold kN at H;refine en func25 rfl rfl (sr (va (.nilIface) (wln (W.seq (W.block (bn H fun a5 h3 j=>lp h3 (fun w0=>Jn c0 fun c l=>∃G_,Own c G_ (F)∧l= [(0,v1)]∧Rel c w0 G_) (fun x1 ex e w=>ex= .exit 0∧(Jn c0 fun c l=>∃G_,Own c G_ (F)∧l= [(0,v1)]∧Rel c x1 G_) e w) ?_ ?_ ?_))))))
 ·clear j h3;intro w0 h5 p2 p3 H;revert p2 p3;rintro e_ w_ ⟨c5,g6,_,rfl,l5,rfl,G8,O7,rfl,R9⟩;refine W.seq (W.seq (bn H fun w4 q2 H=>bn H fun i s2 H=>bn H fun n2 s0 H=>W.join (Jn c5 fun c l=>Own c G8 (F)∧l= [(0,v1),(24,B n2)]) ?_ ?_))
  ·clear H;refine rD [] (Kp G8 []) O7 ?_;intro R u0 A;have a0:Kp G8 [] R:=(Kp.nil A);refine ta 0 (v1) ?_;obtain ⟨f,rfl,t2⟩:=((x.mono (l5.trans u0))).get q2;refine ta 1 (Q f) (ta 2 (Qo f 1) ?_);obtain ⟨v19,b5,T,r4⟩:=Rel.open_snap_reader (R9.mono u0) s2 t2;refine tkx 3 a0 (fun c' t U=>le1 1 u_3 (U.gon T 0 rfl)) (ta 4 (B (decide (i.n < 3))) ?_);rcases bo (decide (i.n < 3)) with o | o
   ·obtain rfl:=orT o s0;exact AC.takeb 5 o rfl (by kernel_rfl) (by kernel_rfl) (fun c' t=>(by kernel_rfl)) (tp 6 (tp 7 (tp 8 (tp 9 (tp 10 (tp 11 (tp 12 (tp 13 (tp 14 (tp 15 (tp 16 (ta 17 (B true) (dn (nrm (jn R ⟨A,rfl⟩)))))))))))))))
   have d2:=orF o s0;refine AC.takeb 5 o rfl (by kernel_rfl) (by kernel_rfl) (fun c' t=>(by kernel_rfl)) (ta 6 (Q f) (ta 7 (Q f) (ta 8 (Qo f 1) (tkx 9 a0 (fun c' t U=>le1 1 u_3 (U.gon T 0 rfl)) (ta 10 (Q f) (ta 11 (Q f) (ta 12 (Qo f 2) (ta 13 (Qo f 3) (tkx 14 a0 (fun c' t U=>le1 3 u_3 (U.gon T 0 rfl)) (ta 15 (I (w64 (3+i.v.High))) (ta 16 (B (decide (i.n < (w64 (3+i.v.High))))) ?_)))))))))));obtain rfl:=si d2;exact ta 17 (B (decide (i.n < (w64 (3+i.v.High))))) (dn (nrm (jn R ⟨A,rfl⟩)))
  rintro e_ w_ ⟨l2,q4,_,rfl,l3,rfl,f0,rfl⟩;refine nrm (cn H (fun v2 H=>?_) (fun v2 H=>?_))
  ·refine W.skip (nrm (W.block (sr (va (v1) (bn H fun d w2 H=>cl (qV f0 R9.m hT.m Z x.m w2) ?_)))));rintro v40 m4 m3 ⟨v33,g4,D,N,rfl,s⟩;refine va (.tuple #[v33,B d.2.2]) (va (v33) (va (B d.2.2) (va (v33) (va (B d.2.2) (wln (W.seq (sr (va (B d.2.2) (va (B (!d.2.2)) (wln (cn H (fun x2 H=>?_) (fun x2 H=>?_))))))))))))
   ·cases H
   refine W.skip (nrm (sr (va (v1) (vv (.func (.func 51) #[v1] #[]) (wln (W.seq (sr (va (v1) (bn H fun b4 y2 H=>?_)))))))));obtain ⟨b,rfl,p⟩:=((x.mono (l5.trans (l3.trans m3)))).get y2;refine va (Q b) (va (Qo b 1) (bn H fun z1 z2 H=>?_));obtain ⟨v46,d5,a3,s4⟩:=Rel.open_snap_reader N z2 p;refine vx (le1 1 u_3 (D.gon a3 0 rfl)) (va (B (decide (z1.n < 3))) (wln (cn H (fun b3 H=>?_) (fun b3 H=>?_))))
   ·refine W.region (va (Q b) (vv (.func (.func 52) #[Q b] #[]) (wln (W.seq (sr (va (.func (.func 52) #[Q b] #[]) (va (v33) ?_)))))));obtain ⟨j0,k0,l0,rfl⟩:=(s).form;refine va (.agg #[.slice j0 k0 l0,I 0,B false]) (me (al 130 [.slice j0 k0 l0,I 0,B false] D) ?_);rintro v57 n4 x4 ⟨k4,rfl,e2⟩;refine bn H fun q c3 H=>cl (lc Z (⟨d.2.1,0,false⟩:aC) e2 N.m hT.m x.m s.m c3) ?_;rintro v60 o4 y4 ⟨_,e5,h4,g0,i0,rfl,d3,t4⟩;refine va (v60) (wln (sr (va (v60) (vr (B (!q.2.2.isNil)) (by rcases (d3).cs with ⟨g,h⟩ | ⟨b_,g,h⟩ | ⟨b_,g,h⟩ <;> (subst g; rw [h]; kernel_rfl)) (wln (cn H (fun e3 H=>?_) (fun e3 H=>?_)))))))
    ·cases H
    refine W.skip (nrm (W.region (vv (Q b) (va (Qo b 1) (bn H fun a f3 H=>?_)))));obtain ⟨u,x0,t0,g3⟩:=Rel.open_snap_reader i0 f3 (tm p);refine vx (le1 1 u_3 (g0.gon t0 0 rfl)) (va (I (w64 (a.n+1))) (va (Q b) (va (Qo b 1) (md (gC 3 1 (I (w64 (a.n+1))) [.string a.rest,I (w64 (a.n+1)),I a.v.Wide,I a.v.High,u,I a.v.At.Row,I a.v.At.Col,B a.v.At.Pending,B a.v.Auto] 0 g0 t0 ⟨rfl,trivial⟩) ?_))));rintro m2 v0 f2;refine bn H fun y i3 H=>?_;obtain ⟨c2,g2,k2,u4,j4⟩:=Rel.put_snap_reader f2 (i0.mono v0) (E':=[(Eb b 76 [.string a.rest,I (w64 (a.n+1)),I a.v.Wide,I a.v.High,u,I a.v.At.Row,I a.v.At.Col,B a.v.At.Pending,B a.v.Auto]),es false ay u 39 x0 a.v.Lines]) i3 ⟨b,u,x0,(tm p),rfl,(g3.mono v0)⟩;refine WL.nil (bkn ?_);obtain rfl:=si H;refine ⟨_,rfl,?_⟩;have i2:=g2.sD 1 [];exact jn m2 ⟨c2,i2,rfl,k2⟩
   refine W.skip (nrm (W.seq (sr (va (.func (.func 51) #[Q b] #[]) (va (v33) ?_)))));obtain ⟨m0,o0,q0,rfl⟩:=(s).form;refine va (.agg #[.slice m0 o0 q0,I 0,B false]) (me (al 130 [.slice m0 o0 q0,I 0,B false] D) ?_);rintro f5 p4 z4 ⟨l4,rfl,j2⟩;refine bn H fun q j3 H=>cl (kL Z (⟨d.2.1,0,false⟩:aC) j2 N.m x.m s.m j3) ?_;rintro y0 w3 d4 ⟨_,g5,i4,h0,E,rfl,k3,v4⟩;refine va (y0) (wln (sr (va (y0) (vr (B (!q.2.2.isNil)) (by rcases (k3).cs with ⟨g,h⟩ | ⟨b_,g,h⟩ | ⟨b_,g,h⟩ <;> (subst g; rw [h]; kernel_rfl)) (wln (cn H (fun j1 H=>?_) (fun j1 H=>?_)))))))
   ·cases H
   refine W.skip (nrm (W.region (vv (Q b) (va (Qo b 1) (bn H fun a k1 H=>?_)))));obtain ⟨k,b0,S,m1⟩:=Rel.open_snap_reader E k1 (tm p);refine vx (le1 1 u_3 (h0.gon S 0 rfl)) (va (I (w64 (a.n+1))) (va (Q b) (va (Qo b 1) (md (gC 3 1 (I (w64 (a.n+1))) [.string a.rest,I (w64 (a.n+1)),I a.v.Wide,I a.v.High,k,I a.v.At.Row,I a.v.At.Col,B a.v.At.Pending,B a.v.Auto] 0 h0 S ⟨rfl,trivial⟩) ?_))));rintro h1 X b1;refine bn H fun y n1 H=>?_;obtain ⟨z0,c1,e1,z3,v3⟩:=Rel.put_snap_reader b1 (E.mono X) (E':=[(Eb b 76 [.string a.rest,I (w64 (a.n+1)),I a.v.Wide,I a.v.High,k,I a.v.At.Row,I a.v.At.Col,B a.v.At.Pending,B a.v.Auto]),es false ay k 39 b0 a.v.Lines]) n1 ⟨b,k,b0,(tm p),rfl,(m1.mono X)⟩;refine WL.nil (bkn ?_);obtain rfl:=si H;refine ⟨_,rfl,?_⟩;have d1:=c1.sD 1 [];exact jn h1 ⟨z0,d1,rfl,e1⟩
  refine W.exit (thx ?_);obtain rfl:=si H;exact ⟨_,rfl,rfl,jn l2 ⟨G8,f0,rfl,R9.m⟩⟩
 ·exact jn c0 ⟨G,O0,rfl,R0⟩
 rintro _ e_ w_ ⟨rfl,i1,y3,_,rfl,w1,rfl,a1,z,rfl,M⟩;refine bke (nrm (W.seq (sr (va (v1) (bn j fun c4 q1 j=>?_)))));obtain ⟨P,rfl,p1⟩:=((x.mono w1)).get q1;refine vv (Q P) (bn j fun b2 s1 j=>?_);obtain ⟨f4,e4,t1,a4⟩:=Rel.open_snap_reader M s1 p1;refine vx (le1 0 u_9 (z.gon t1 0 rfl)) (vr (B (!(eqS b2.rest (⟨#[]⟩:ByteArray)))) (uj (by kernel_rfl)) (wln (cn j (fun u1 j=>?_) (fun u1 j=>?_))))
 ·cases j
 refine W.skip (nrm (sr (va (.nilIface) (wln (W.ret ?_)))));obtain rfl:=si j;exact r1 (qq i1 ⟨.nilIface,a1,z,M,rfl,rfl⟩)
end Go.Proofs.YtidapncdmjppeaaGreatDoor
namespace Go.Proofs.YtidapncdmjppeaaGreatDoor
open Go Go.Lt
set_option maxRecDepth 10000
set_option linter.unusedVariables false
attribute [local irreducible] W WL AC
open Go.RowKit Go.Extern.Stop Go.Stop Go.Extern
theorem xD (t:Addr) (w:World):(ReflectliteValue.unpack (.iface 80 (.pointer (some t)))).run Tryz.prog w
  = .ok (.agg #[.pointer (some ⟨17,80,none⟩),.pointer (some ⟨w.heap.size,0,none⟩),.int .u64 150]) (w.alloc (.cells #[.pointer (some t)] 80)):=by kernel_rfl
theorem BS (a:Addr) (w:World):(ReflectliteValue.methodAny (ReflectliteValue.valueError "reflectlite.Value.Type" 0) (fun t _ _ _=>ReflectliteType.toType t) #[.agg #[.pointer (some ⟨17,80,none⟩),.pointer (some a),.int .u64 150]]).run Tryz.prog w
  = .ok (.iface 176 (.agg #[.pointer (some ⟨17,80,none⟩)])) w:=by kernel_rfl
theorem vZ (h:Value) (w:World):(Go.method 470 176 (.agg #[h]) "Kind").run Tryz.prog w= .ok (292,h) w:=by kernel_rfl
theorem BT (w:World):((ReflectliteType.abiMethod fun t=>(fun a:Nat=>Value.int IntKind.u8 (a:Int)) <$> Rtype.kind t) #[.pointer (some ⟨17,80,none⟩)]).run Tryz.prog w= .ok (.int .u8 22) w:=by kernel_rfl
theorem BU (w:World):((ReflectliteType.abiMethod fun t=>(fun a:Nat=>Value.int IntKind.u8 (a:Int)) <$> Rtype.kind t) #[.pointer (some ⟨17,78,none⟩)]).run Tryz.prog w= .ok (.int .u8 22) w:=by kernel_rfl
theorem DC (z:Sem Value) (f:TypeId→Addr→Nat→Nat→Sem Value) (v:Value):
  ReflectliteValue.method z f #[v]=(do match ←ReflectliteValue.parts v with | none=>z | some (t,a,fl)=>f t a fl (fl % 32)):=rfl
theorem vA (a:Addr) (w:World):(ReflectliteValue.parts (.agg #[.pointer (some ⟨17,80,none⟩),.pointer (some a),.int .u64 150])).run Tryz.prog w= .ok (some (80,a,150)) w:=by kernel_rfl
theorem Ac (a p:Addr) (W:World) (ha:W.cell? a=some (.pointer (some p))):
  (ReflectliteValue.method (ReflectliteValue.valueError "reflectlite.Value.IsNil" 0) ReflectliteValue.isNil #[.agg #[.pointer (some ⟨17,80,none⟩),.pointer (some a),.int .u64 150]]).run Tryz.prog W= .ok (.bool false) W:=by
 rw [DC];simp only [fO,vA,Result.andThen];simp [ReflectliteValue.isNil,loadVar,isAgg,underlying,Tryz.underlying80,ha,Result.andThen]
theorem wb (h:Value) (w:World):(Go.method 470 176 (.agg #[h]) "Elem").run Tryz.prog w= .ok (305,.agg #[h]) w:=by kernel_rfl
theorem qy (h:Value) (w:World):(Go.method 470 176 (.agg #[h]) "Implements").run Tryz.prog w= .ok (306,.agg #[h]) w:=by kernel_rfl
theorem pa (h:Value) (w:World):(Go.method 470 176 (.agg #[h]) "AssignableTo").run Tryz.prog w= .ok (303,.agg #[h]) w:=by kernel_rfl
theorem BV (w:World):(ReflectliteType.method ReflectliteType.elem #[.agg #[.pointer (some ⟨17,80,none⟩)]]).run Tryz.prog w= .ok (.iface 176 (.agg #[.pointer (some ⟨17,78,none⟩)])) w:=by kernel_rfl
theorem ud (w:World):(ReflectliteType.relation "Implements" ReflectliteType.implements_ #[.agg #[.pointer (some ⟨17,78,none⟩)],.iface 176 (.agg #[.pointer (some ⟨17,42,none⟩)])]).run Tryz.prog w= .ok (.bool true) w:=by kernel_rfl
theorem zf (v:Value) (w:World):(ReflectliteType.typeOf #[.iface 78 v]).run Tryz.prog w= .ok (.iface 176 (.agg #[.pointer (some ⟨17,78,none⟩)])) w:=by kernel_rfl
theorem ue (w:World):(ReflectliteType.relation "AssignableTo" ReflectliteType.assignableTo #[.agg #[.pointer (some ⟨17,78,none⟩)],.iface 176 (.agg #[.pointer (some ⟨17,78,none⟩)])]).run Tryz.prog w= .ok (.bool true) w:=by kernel_rfl
theorem xE (e:Addr) (w:World):(ReflectliteValue.unpack (.iface 78 (.pointer (some e)))).run Tryz.prog w
  = .ok (.agg #[.pointer (some ⟨17,78,none⟩),.pointer (some ⟨w.heap.size,0,none⟩),.int .u64 150]) (w.alloc (.cells #[.pointer (some e)] 78)):=by kernel_rfl
theorem zh (w:World):(Rtype.elem? 80).run Tryz.prog w= .ok (some 78) w:=by kernel_rfl
theorem ES (p:Addr) (w:World):(ReflectliteValue.mk 78 p ReflectliteValue.flagAddr).run Tryz.prog w= .ok (.agg #[.pointer (some ⟨17,78,none⟩),.pointer (some p),.int .u64 406]) w:=by kernel_rfl
theorem Ad (a p:Addr) (W:World) (ha:W.cell? a=some (.pointer (some p))):
  (ReflectliteValue.method (ReflectliteValue.valueError "reflectlite.Value.Elem" 0) ReflectliteValue.elem #[.agg #[.pointer (some ⟨17,80,none⟩),.pointer (some a),.int .u64 150]]).run Tryz.prog W
   = .ok (.agg #[.pointer (some ⟨17,78,none⟩),.pointer (some p),.int .u64 406]) W:=by
 rw [DC];simp only [fO,vA,Result.andThen];simp [ReflectliteValue.elem,loadVar,isAgg,underlying,Tryz.underlying80,ha,Result.andThen,zh,ES]
theorem Gg (v x:Value):ReflectliteValue.set #[v,x]=(do
  let (some (dst,a,fl),some (src,b,_)):=(←ReflectliteValue.parts v,←ReflectliteValue.parts x)
   | unsupported (.noEntry "extern/(internal/reflectlite.Value).Set.zeroValue")
  if fl / ReflectliteValue.flagAddr % 2==0 then unsupported (.noEntry "extern/(internal/reflectlite.Value).Set.unaddressable")
  let val ←loadVar src b
  if ←Rtype.directlyAssignable dst src then storeVar dst a val
  else if ←Rtype.implements dst src then
   if (←Rtype.kind src)==20 then
    match val with
    | .nilIface=>unsupported (.noEntry "extern/reflectlite: a nil value of one interface type handed on as a value of another")
    | _=>storeVar dst a val
   else storeVar dst a (.iface src val)
  else panicString ("reflectlite.Set: value of type " ++(←Rtype.spelt src)++ " is not assignable to type " ++(←Rtype.spelt dst))
  pure (.tuple #[])):=rfl
theorem zg (a:Addr) (w:World):(ReflectliteValue.parts (.agg #[.pointer (some ⟨17,78,none⟩),.pointer (some a),.int .u64 406])).run Tryz.prog w= .ok (some (78,a,406)) w:=by kernel_rfl
theorem Ab (a:Addr) (w:World):(ReflectliteValue.parts (.agg #[.pointer (some ⟨17,78,none⟩),.pointer (some a),.int .u64 150])).run Tryz.prog w= .ok (some (78,a,150)) w:=by kernel_rfl
theorem zi (w:World):(Rtype.directlyAssignable 78 78).run Tryz.prog w= .ok true w:=by kernel_rfl
theorem DB (ta b e:Addr) (old:Value) (W:World) (hb:W.cell? b=some (.pointer (some e))) (ht:W.cell? ta=some old) (hf:W.frozen? ta=false):
  (ReflectliteValue.set #[.agg #[.pointer (some ⟨17,78,none⟩),.pointer (some ta),.int .u64 406],.agg #[.pointer (some ⟨17,78,none⟩),.pointer (some b),.int .u64 150]]).run Tryz.prog W
   = .ok (.tuple #[]) (W.setCell ta (.pointer (some e))):=by
 rw [Gg];simp only [fO,zg,Ab,Result.andThen];simp [ReflectliteValue.flagAddr,loadVar,isAgg,underlying,Tryz.underlying78,hb,Result.andThen,zi,storeVar,Value.cells,storeCells,Addr.add];rw [run_store Tryz.prog W ta _ _ (by rfl)];simp [ht,hf]
set_option maxHeartbeats 4000000 in
theorem Gi (e t:Addr) (old:Value) (w:World) (hg:w.cell? ⟨4,0,none⟩=some (.iface 176 (.agg #[.pointer (some ⟨17,42,none⟩)]))) (ht0:w.cell? t=some old) (hf0:w.frozen? t=false):
  Calls Tryz.prog 26 #[.iface 78 (.pointer (some e)),.iface 80 (.pointer (some t))] w fun ev w'=>ev= .returned (.bool true)∧w'=((((w.alloc (.cells #[.pointer (some t)] 80)).alloc (.cells #[.pointer (some ⟨17,80,none⟩),.pointer (some ⟨w.heap.size,0,none⟩),.int .u64 150] 134)).alloc (.cells #[.pointer (some ⟨17,80,none⟩),.pointer (some ⟨w.heap.size,0,none⟩),.int .u64 150] 134)).alloc (.cells #[.pointer (some e)] 78)).setCell t (.pointer (some e)):=by
 have h6:= @cH Tryz.prog 53 _ (fun args=>ReflectliteValue.unpack (args.getD 0 (.tuple #[]))) Tryz.func53 (by kernel_rfl) (by kernel_rfl) (by kernel_rfl) (by kernel_rfl);have h7:= @cH Tryz.prog 54 _ (ReflectliteValue.methodAny (ReflectliteValue.valueError "reflectlite.Value.Type" 0) (fun t _ _ _=>ReflectliteType.toType t)) Tryz.func54 (by kernel_rfl) (by kernel_rfl) (by kernel_rfl) (by kernel_rfl);have h8:= @cH Tryz.prog 55 _ (ReflectliteValue.method (ReflectliteValue.valueError "reflectlite.Value.IsNil" 0) ReflectliteValue.isNil) Tryz.func55 (by kernel_rfl) (by kernel_rfl) (by kernel_rfl) (by kernel_rfl);have h27:= @cH Tryz.prog 292 _ (ReflectliteType.abiMethod fun t=>do pure (.int .u8 (←Rtype.kind t))) Tryz.func292 (by kernel_rfl) (by kernel_rfl) (by kernel_rfl) (by kernel_rfl);have h37:= @cH Tryz.prog 305 _ (ReflectliteType.method ReflectliteType.elem) Tryz.func305 (by kernel_rfl) (by kernel_rfl) (by kernel_rfl) (by kernel_rfl);have h38:= @cH Tryz.prog 306 _ (ReflectliteType.relation "Implements" ReflectliteType.implements_) Tryz.func306 (by kernel_rfl) (by kernel_rfl) (by kernel_rfl) (by kernel_rfl);have h10:= @cH Tryz.prog 57 _ ReflectliteType.typeOf Tryz.func57 (by kernel_rfl) (by kernel_rfl) (by kernel_rfl) (by kernel_rfl);have h35:= @cH Tryz.prog 303 _ (ReflectliteType.relation "AssignableTo" ReflectliteType.assignableTo) Tryz.func303 (by kernel_rfl) (by kernel_rfl) (by kernel_rfl) (by kernel_rfl);have h11:= @cH Tryz.prog 95 _ (ReflectliteValue.method (ReflectliteValue.valueError "reflectlite.Value.Elem" 0) ReflectliteValue.elem) Tryz.func95 (by kernel_rfl) (by kernel_rfl) (by kernel_rfl) (by kernel_rfl);have h12:= @cH Tryz.prog 96 _ ReflectliteValue.set Tryz.func96 (by kernel_rfl) (by kernel_rfl) (by kernel_rfl) (by kernel_rfl);have tO:=zf;have mA:=pa;have a25:=ue;have v25:=xE;have f6:=xD;have f7:=BS;have mK:=vZ;have mE:=wb;have mI:=qy;have k27:=BT;have k25:=BU;have e27:=BV;have i25:=ud;have n8:=Ac ⟨w.heap.size,0,none⟩ t ((w.alloc (.cells #[.pointer (some t)] 80)).alloc (.cells #[.pointer (some ⟨17,80,none⟩),.pointer (some ⟨w.heap.size,0,none⟩),.int .u64 150] 134)) (by simp);have hlt:4 < w.heap.size:=by
  rcases aL 4 w.heap.size with h | h
  ·exact h
  ·simp [World.cell?,jU h] at hg
 have hg2:((w.alloc (.cells #[.pointer (some t)] 80)).alloc (.cells #[.pointer (some ⟨17,80,none⟩),.pointer (some ⟨w.heap.size,0,none⟩),.int .u64 150] 134)).cell? ⟨4,0,none⟩=some (.iface 176 (.agg #[.pointer (some ⟨17,42,none⟩)])):=by
  rw [fX _ _ ⟨4,0,none⟩ (by simp; omega),fX _ _ ⟨4,0,none⟩ hlt]; exact hg
 have htl:t.block < w.heap.size:=by
  rcases aL t.block w.heap.size with h | h
  ·exact h
  ·simp [World.cell?,jU h] at ht0
 have el:=Ad ⟨w.heap.size,0,none⟩ t (((w.alloc (.cells #[.pointer (some t)] 80)).alloc (.cells #[.pointer (some ⟨17,80,none⟩),.pointer (some ⟨w.heap.size,0,none⟩),.int .u64 150] 134)).alloc (.cells #[.pointer (some ⟨17,80,none⟩),.pointer (some ⟨w.heap.size,0,none⟩),.int .u64 150] 134)) (by rw [fX _ _ ⟨w.heap.size,0,none⟩ (by simp; omega)]; simp);have st:=DB t ⟨w.heap.size+1+1+1,0,none⟩ e old ((((w.alloc (.cells #[.pointer (some t)] 80)).alloc (.cells #[.pointer (some ⟨17,80,none⟩),.pointer (some ⟨w.heap.size,0,none⟩),.int .u64 150] 134)).alloc (.cells #[.pointer (some ⟨17,80,none⟩),.pointer (some ⟨w.heap.size,0,none⟩),.int .u64 150] 134)).alloc (.cells #[.pointer (some e)] 78))
  (by rw [World.cell?_alloc_at _ _ _ _ (by simp)]; rfl)
  (by rw [fX _ _ t (by simp; omega),fX _ _ t (by simp; omega),fX _ _ t (by simp; omega),fX _ _ t htl]; exact ht0)
  (by rw [mu _ _ t (by simp; omega),mu _ _ t (by simp; omega),mu _ _ t (by simp; omega),mu _ _ t (Nat.ne_of_lt htl)]; exact hf0)
 go_enter Tryz.func26,Tryz.ntmps26
 go_wp2
 refine wp_loop_rounds 1 ?_;rw [rounds_succ]
 go_wp2
 go_ret
 exact ⟨rfl,rfl⟩
structure gY (w w':World) (t:Nat):Prop where
 os:w'.os=w.os
 output:w'.output=w.output
 size:w.heap.size≤w'.heap.size
 block:∀k,k < w.heap.size→k≠t→w'.heap[k]? = w.heap[k]?
 frz:∀a,a.block < w.heap.size→w'.frozen? a=w.frozen? a
theorem gY.one (w:World) (v:Array Value) (T:TypeId) (t:Nat):gY w (w.alloc (.cells v T)) t:=
 ⟨rfl,rfl,by simp,fun k hk _=>cU _ _ _ hk,fun a _=>DI _ _ _ _⟩
theorem gY.set (w:World) (t:Nat) (v:Value):gY w (w.setCell ⟨t,0,none⟩ v) t:=
 ⟨rfl,rfl,by simp [World.setCell],fun k hk hne=>by
  show (w.heap.modify t _)[k]? = _;rw [uh,ag fun h=>hne h.symm],fun a _=>World.frozen?_setCell _ _ _ _⟩
theorem gY.trans {w w' w'':World} {t:Nat} (h:gY w w' t) (k:gY w' w'' t):gY w w'' t:=
 ⟨k.os.trans h.os,k.output.trans h.output,dI h.size k.size,fun i hi hn=>(k.block i (fF hi h.size) hn).trans (h.block i hi hn),
  fun a ha=>(k.frz a (fF ha h.size)).trans (h.frz a ha)⟩
theorem gY.cell {w w':World} {t:Nat} (h:gY w w' t) {k:Nat} (o:Nat) (hk:k < w.heap.size) (hn:k≠t):w'.cell? ⟨k,o,none⟩=w.cell? ⟨k,o,none⟩:=
 dO (w:=w) (a:=⟨k,o,none⟩) (h.block k hk hn)
def Eh (c:Cx):Prop:=Im c 4 0 (.iface 176 (.agg #[.pointer (some ⟨17,42,none⟩)]))
theorem Eh.m {c c':Cx} (h:Eh c) (k:c.le c':=by repeat (first | assumption | refine Cx.le.trans ?_ (by assumption))):Eh c':=Im.mono h k
def FP (c:Cx) (u:Value) (e:Er):Prop:=match e with
 | .fault i e=>∃b w,u= .pointer (some ⟨b,0,none⟩)∧Im c b 0 (.int .i64 i)∧Im c b 1 w∧RE 341 78 c w e
 | _=>u= .pointer none
theorem FP.lw {c c':Cx} {u:Value} {e:Er} (h:FP c u e) (k:c.lw c'):FP c' u e:=by
 cases e with
 | fault i e=>obtain ⟨b,w,h1,h2,h3,h4⟩:=h; exact ⟨b,w,h1,h2.lw k,h3.lw k,h4.lw k⟩
 | nil=>exact h
 | sent g=>exact h
theorem FP.mono {c c':Cx} {u:Value} {e:Er} (h:FP c u e) (k:c.le c'):FP c' u e:=h.lw k.lw
theorem FP.m {c c':Cx} {u:Value} {e:Er} (h:FP c u e) (k:c.le c':=by repeat (first | assumption | refine Cx.le.trans ?_ (by assumption))):FP c' u e:=h.mono k
def flt (e:Er):Option (Int×Er):=match e with
 | .fault i e=>some (i,e)
 | _=>none
theorem FP.get {c:Cx} {u:Value} {e:Er} {y:Int×Er} (h:FP c u e) (hy:flt e=some y):∃b w,u= .pointer (some ⟨b,0,none⟩)∧(∀j x,([.int .i64 y.1,w]:List Value)[j]? = some x→Im c b (0+j) x)∧RE 341 78 c w y.2:=by
 cases e with
 | fault i e=>
  cases hy;obtain ⟨b,w,rfl,h2,h3,h4⟩:=h;refine ⟨b,w,rfl,fun j x hx=>?_,h4⟩
  match j,hx with
  | 0,hx=>cases hx; exact h2
  | 1,hx=>cases hx; exact h3
  | j+2,hx=>simp at hx
 | nil=>cases hy
 | sent g=>cases hy
def tK (p0:Er):Option Bool:=match p0 with
 | .nil=>some false
 | .fault _ _=>some true
 | .sent _=>none
theorem ET (e:Addr) (tb:Nat) (w:World) (hg:w.cell? ⟨4,0,none⟩=some (.iface 176 (.agg #[.pointer (some ⟨17,42,none⟩)]))) (ht0:w.heap[tb]? = some (.cells #[.pointer none] 78 (0,0))):
  Calls Tryz.prog 26 #[.iface 78 (.pointer (some e)),.iface 80 (.pointer (some ⟨tb,0,none⟩))] w fun ev w'=>ev= .returned (.bool true)∧w'.heap[tb]? = some (.cells #[.pointer (some e)] 78 (0,0))∧gY w w' tb:=by
 have hlt:tb < w.heap.size:=(Array.getElem?_eq_some_iff.1 ht0).1;have h1:∀o,w.cell? ⟨tb,o,none⟩=(#[Value.pointer none]:Array Value)[o]? :=fun o=>by unfold World.cell?; rw [ht0]; rfl
 refine (Gi e ⟨tb,0,none⟩ (.pointer none) w hg (by rw [h1]; rfl) (by unfold World.frozen?; rw [ht0]; rfl)).mono ?_;rintro ev w' ⟨rfl,rfl⟩;have hk:=((((gY.one w #[.pointer (some ⟨tb,0,none⟩)] 80 tb).trans (gY.one _ #[.pointer (some ⟨17,80,none⟩),.pointer (some ⟨w.heap.size,0,none⟩),.int .u64 150] 134 tb)).trans
  (gY.one _ #[.pointer (some ⟨17,80,none⟩),.pointer (some ⟨w.heap.size,0,none⟩),.int .u64 150] 134 tb)).trans (gY.one _ #[.pointer (some e)] 78 tb))
 refine ⟨rfl,?_,hk.trans (gY.set _ _ _)⟩;unfold World.setCell;rw [uh,af rfl,cU _ _ _ (by simp; omega),cU _ _ _ (by simp; omega),cU _ _ _ (by simp; omega),cU _ _ _ hlt,ht0];rfl
set_option maxRecDepth 1000000 in
theorem Gh (t:Value) (w:World):Calls Tryz.prog 26 #[.nilIface,t] w fun ev w'=>ev= .returned (.bool false)∧w'=w:=by
 go_enter Tryz.func26,Tryz.ntmps26
 go_wp2
 go_ret
 exact ⟨rfl,rfl⟩
theorem yY {c0:Cx} {G:Gm} {F:List En} {v1:Value} {b:Nat} (O0:Own c0 G (⟨.pointer (some ⟨b,0,none⟩),78,[.pointer none],0⟩ :: F)) (hU:Eh c0) (p0:Er) (h1:RE 341 78 c0 v1 p0) {r:Bool} (H:tK p0=some r):
  Calls Tryz.prog 26 #[v1,.iface 80 (.pointer (some ⟨b,0,none⟩))] c0.w (aQ c0 fun c v=>∃u,Own c G (⟨.pointer (some ⟨b,0,none⟩),78,[u],0⟩ :: F)∧v= .bool r∧FP c u p0):=by
 obtain ⟨hh,hA⟩:=O0.on 0 rfl b rfl
 cases p0 with
 | nil=>
  cases H
  cases h1
  refine (Gh _ c0.w).mono ?_
  rintro e w' ⟨rfl,rfl⟩
  exact ⟨_,c0,rfl,rfl,Cx.le.refl _,_,O0,rfl,rfl⟩
 | sent g=>cases H
 | fault i e=>
  cases H
  obtain ⟨fb,u,rfl,h2,h3,h4⟩:=h1
  refine (ET ⟨fb,0,none⟩ b c0.w hU.cell hh).mono ?_
  rintro e w' ⟨rfl,ht,hk⟩
  have hne:∀k o,¬c0.A k o→k≠b:=fun k o h q=>h (by rw [q]; exact (hA o).2 (db _))
  have hb:c0.but (fun k=>k=b) ⟨w',c0.A,c0.t⟩:=⟨⟨hk.os,hk.output,hk.size,fun k o h q=>⟨hk.cell o h (hne k o q),q⟩,fun k h q=>hk.block k h (hne k 0 (q 0)),fun a h _=>hk.frz a h,fun _ _ _ h=>h⟩,rfl,fun k h q=>⟨hk.block k h q,fun _=>tA⟩⟩
  refine ⟨_,⟨w',c0.A,c0.t⟩,rfl,rfl,hb.le,.pointer (some ⟨fb,0,none⟩),O0.set 0 rfl hb (fun k h=>by rw [h]; rfl) (fun b' hb'=>?_) (fun b' h=> .inl h),rfl,fb,u,rfl,h2.mono hb.le,h3.mono hb.le,h4.mono hb.le⟩
  simp only [blk,aM] at hb'
  subst hb'
  exact ⟨ht,hA⟩
def yI (gl:List Nat):Er→Bool
 | .nil=>true
 | .sent g=>gl.contains g
 | .fault _ e=>yI gl e
def rT (k:Nat):Er→Bool
 | .nil=>false
 | .sent g=>g==k
 | .fault _ e=>rT k e
def oD:Er→Nat
 | .nil=>0
 | .sent _=>0
 | .fault _ e=>oD e+1
def oB (gl:List Nat) (p0 p1:Er):Option Bool:=match p1 with
 | .sent k=>if gl.contains k=true∧yI gl p0=true then some (rT k p0) else none
 | _=>none
def rS (p0 p1:Er):Option Bool:=oB [0,1] p0 p1
theorem Bw (v:Value) (w:World):(Extern.ReflectliteType.typeOf #[.iface 341 v]).run Tryz.prog w= .ok (.iface 176 (.agg #[.pointer (some ⟨17,341,none⟩)])) w:=by kernel_rfl
theorem vL (w:World):((Extern.ReflectliteType.method fun t=>do Extern.Rtype.noPackHeld "Comparable" t; pure (.bool (←typeInfo t).comparable)) #[.agg #[.pointer (some ⟨17,341,none⟩)]]).run Tryz.prog w= .ok (.bool true) w:=by kernel_rfl
theorem qo (v:Value) (w:World):(Go.method 470 176 v "Comparable").run Tryz.prog w= .ok (304,v) w:=by kernel_rfl
theorem Ex:(Tryz.prog.info? 341).map (·.comparable)=some true:=by kernel_rfl
theorem Ew:(Tryz.prog.info? 343).map (·.size)=some 1:=by kernel_rfl
theorem C1 (v:Value) (xT:TypeId) (w:World):(Instr.typeAssert (.iface 341 v) xT 187 true).run Tryz.prog w= .ok (.tuple #[.nilIface,.bool false]) w:=run_typeAssert_lacksB Tryz.underlying187 (by kernel_rfl) (by kernel_rfl) v xT w
theorem xg (v:Value) (xT:TypeId) (w:World):(Instr.typeAssert (.iface 341 v) xT 183 true).run Tryz.prog w= .ok (.tuple #[.nilIface,.bool false]) w:=run_typeAssert_lacksB Tryz.underlying183 (by kernel_rfl) (by kernel_rfl) v xT w
theorem vJ (v:Value) (xT:TypeId) (w:World):(Instr.typeAssert (.iface 341 v) xT 184 true).run Tryz.prog w= .ok (.tuple #[.nilIface,.bool false]) w:=run_typeAssert_lacksB Tryz.underlying184 (by kernel_rfl) (by kernel_rfl) v xT w
theorem CZ (v:Value) (xT:TypeId) (w:World):(Instr.typeAssert (.iface 78 v) xT 187 true).run Tryz.prog w= .ok (.tuple #[.nilIface,.bool false]) w:=run_typeAssert_lacksB Tryz.underlying187 (by kernel_rfl) (by kernel_rfl) v xT w
theorem vK (v:Value) (xT:TypeId) (w:World):(Instr.typeAssert (.iface 78 v) xT 183 true).run Tryz.prog w= .ok (.tuple #[.iface 78 v,.bool true]) w:=run_typeAssert_hasB Tryz.underlying183 (by kernel_rfl) v xT w
theorem tS (v:Value) (w:World):(Go.method 470 78 v "Unwrap").run Tryz.prog w= .ok (296,v) w:=by kernel_rfl
open Classical in
noncomputable def uS (c:Cx) (E:Value):Nat:=if h:∃p,RE 341 78 c E p then oD h.choose else 0
theorem uR {c:Cx}:∀{p p':Er} {E:Value},RE 341 78 c E p→RE 341 78 c E p'→oD p=oD p'
 | .nil,.nil,_,_,_=>rfl
 | .nil,.sent _,_,h,h'=>rfl
 | .nil,.fault _ _,_,h,h'=>by
  obtain rfl:=h;obtain ⟨b,u,e,_⟩:=h';cases e
 | .sent _,.nil,_,_,_=>rfl
 | .sent _,.sent _,_,_,_=>rfl
 | .sent _,.fault _ _,_,h,h'=>by
  obtain ⟨a,rfl,_⟩:=h;obtain ⟨b,u,e,_⟩:=h';cases e
 | .fault _ _,.nil,_,h,h'=>by
  obtain rfl:=h';obtain ⟨b,u,e,_⟩:=h;cases e
 | .fault _ _,.sent _,_,h,h'=>by
  obtain ⟨a,rfl,_⟩:=h';obtain ⟨b,u,e,_⟩:=h;cases e
 | .fault _ p,.fault _ p',_,h,h'=>by
  obtain ⟨b,u,rfl,_,h1,h2⟩:=h;obtain ⟨b',u',e,_,h1',h2'⟩:=h';cases e;have:=h1.cell.symm.trans h1'.cell;cases this;show oD p+1=oD p'+1;rw [uR h2 h2']
theorem wy {c:Cx} {E:Value} {p:Er} (h:RE 341 78 c E p):uS c E=oD p:=by
 unfold uS;rw [sR ⟨p,h⟩];exact uR (Exists.choose_spec ⟨p,h⟩) h
set_option maxRecDepth 1000000 in
theorem yx {c:Cx} {gl:List Nat} (hG:Gl gl c) (b:Addr) (k:Nat) (hk:k∈gl) (h2:RE 341 78 c (.iface 341 (.pointer (some b))) (.sent k)) (E:Value) (p0:Er) (h1:RE 341 78 c E p0) (hn:p0.isNil=false) (ha:yI gl p0=true):
  Calls Tryz.prog 58 #[E,.iface 341 (.pointer (some b)),.bool true] c.w fun e w'=>e= .returned (.bool (rT k p0))∧w'=c.w:=by
 obtain ⟨i,hi,hcmp⟩:=Option.map_eq_some_iff.1 Ex;obtain ⟨j,hj,hjs⟩:=Option.map_eq_some_iff.1 Ew;have nE:=C1;have uE:=xg;have vE:=vJ;have nW:=CZ;have uW:=vK;have mU:=tS;obtain ⟨b',eb,hkm,hkf⟩:=h2;cases eb;obtain ⟨W,hW⟩:∃W,Hid (W=c.w):=⟨_,rfl⟩;rw [←hW.out]
 go_enter Tryz.func58,Tryz.ntmps58
 go_wp2
 go_loopw [0] (fun E' wl=>wl=W∧∃p,RE 341 78 c E' p∧p.isNil=false∧yI gl p=true∧rT k p0=rT k p) (fun E' _=>uS c E')
 case atStart=>exact ⟨rfl,p0,h1,hn,ha,rfl⟩
 case round=>
  obtain ⟨rfl,p,hp,hpn,hpa,hiff⟩:=hrel
  cases p with
  | nil=>cases hpn
  | sent g=>
   obtain ⟨a,rfl,hgm,hgf⟩:=hp;by_cases hab:a=b
   ·subst hab;have hgk:g=k:=DM fun hne=>hG.2 g k (List.contains_iff_mem.1 hpa) hk hne a hgm hkm;have heq:=run_eql_iface_ptr_same (P:=Tryz.prog) wr a Tryz.underlying42 Tryz.underlying341 hi hcmp hj
    go_wp2
    go_ret
    exact ⟨by rw [hiff]; simp [rT,hgk],rfl⟩
   ·obtain ⟨ca,ta,hca⟩:=hgf.blk;obtain ⟨cb,tb,hcb⟩:=hkf.blk;rw [←hW.out] at hca hcb;have hgk:¬g=k:=fun e=>by
     subst e;have:=hgm.cell.symm.trans hkm.cell;cases this;exact hab rfl
    have heq:=run_eql_iface_ptr_other (P:=Tryz.prog) wr Tryz.underlying42 Tryz.underlying341 hi hcmp hj (by rw [hjs]; decide) hab hca hcb
    go_wp2
    go_ret
    exact ⟨by rw [hiff]; simp [rT,hgk],rfl⟩
  | fault n e1=>
   obtain ⟨fb,u,rfl,hi0,hi1,hre⟩:=hp;have hcell:=hi1.cell;rw [←hW.out] at hcell;have hty:=run_eql_iface_types (P:=Tryz.prog) 78 341 (.pointer (some ⟨fb,0,none⟩)) (.pointer (some b)) Tryz.underlying42 (by decide) wr;have hlen:=wy hre;have hlen0:=wy (c:=c) (E:= .iface 78 (.pointer (some ⟨fb,0,none⟩))) (p:= .fault n e1) ⟨fb,u,rfl,hi0,hi1,hre⟩;have HC:Hid (RE 341 78 c u e1):=hre
   cases e1 with
   | nil=>
    obtain rfl:=hre
    go_wp2
    go_ret
    exact ⟨by rw [hiff]; simp [rT],rfl⟩
   | sent g=>
    obtain ⟨a,rfl,_⟩:=hre
    go_wp2
    go_roundw
    case rel=>exact ⟨trivial,_,HC.out,rfl,hpa,hiff⟩
    case measure=>
     show uS c (.iface 341 (.pointer (some a))) < _;rw [hlen,hlen0]; simp [oD]
   | fault n2 e2=>
    obtain ⟨fb2,u2,rfl,_⟩:=hre
    go_wp2
    go_roundw
    case rel=>exact ⟨trivial,_,HC.out,rfl,hpa,hiff⟩
    case measure=>
     show uS c (.iface 78 (.pointer (some ⟨fb2,0,none⟩))) < _;rw [hlen,hlen0]; simp [oD]
set_option maxRecDepth 1000000 in
theorem GR {c:Cx} {gl:List Nat} (hG:Gl gl c) (b:Addr) (k:Nat) (hk:k∈gl) (h2:RE 341 78 c (.iface 341 (.pointer (some b))) (.sent k)) (E:Value) (p0:Er) (h1:RE 341 78 c E p0) (ha:yI gl p0=true):
  Calls Tryz.prog 27 #[E,.iface 341 (.pointer (some b))] c.w fun e w'=>e= .returned (.bool (rT k p0))∧w'=c.w:=by
 have h8:= @cH Tryz.prog 57 _ Extern.ReflectliteType.typeOf Tryz.func57 (by kernel_rfl) (by kernel_rfl) (by kernel_rfl) (by kernel_rfl);have h320:= @cH Tryz.prog 304 _ (Extern.ReflectliteType.method fun t=>do Extern.Rtype.noPackHeld "Comparable" t; pure (.bool (←typeInfo t).comparable)) Tryz.func304 (by kernel_rfl) (by kernel_rfl) (by kernel_rfl) (by kernel_rfl);have h32:∀w,(callFunc 304 #[.agg #[.pointer (some ⟨17,341,none⟩)]]).run Tryz.prog w= .ok (.value (.bool true)) w:=fun w=>by rw [h320,vL]; rfl
 clear h320
 have tT:=Bw;have mR:=qo
 cases p0 with
 | nil=>
  obtain rfl:=h1;have hn:=run_eql_iface_nil_left (P:=Tryz.prog) c.w 341 (.pointer (some b)) Tryz.underlying42
  clear h2 hG
  go_enter Tryz.func27,Tryz.ntmps27
  go_wp2
  go_ret
  exact ⟨rfl,rfl⟩
 | sent g=>
  have hcon:=yx hG b k hk h2 E (.sent g) h1 rfl ha;obtain ⟨a,rfl,_⟩:=h1
  clear h2 hG
  go_enter Tryz.func27,Tryz.ntmps27
  go_wp2_with (first | (go_at_call 58; refine hcon.mono ?_; rintro e w' ⟨rfl,rfl⟩) | go_in)
  go_ret
  exact ⟨rfl,rfl⟩
 | fault i e=>
  have hcon:=yx hG b k hk h2 E (.fault i e) h1 rfl ha;obtain ⟨fb,u,rfl,_⟩:=h1
  clear h2 hG
  go_enter Tryz.func27,Tryz.ntmps27
  go_wp2_with (first | (go_at_call 58; refine hcon.mono ?_; rintro e w' ⟨rfl,rfl⟩) | go_in)
  go_ret
  exact ⟨rfl,rfl⟩
theorem xu {gl:List Nat} {c0:Cx} {G:Gm} {F:List En} {v1 v2:Value} (O0:Own c0 G F) (hG:Gl gl c0) (p0 p1:Er) (h1:RE 341 78 c0 v1 p0) (h2:RE 341 78 c0 v2 p1) {r:Bool} (H:oB gl p0 p1=some r): Calls Tryz.prog 27 #[v1,v2] c0.w (aQ c0 fun c v=>Own c G F∧v= .bool r):=by
 unfold oB at H;split at H
 ·rename_i k;split at H
  ·rename_i hh;obtain rfl:=aq H;obtain ⟨b,rfl,h3⟩:=id h2;refine (GR hG b k (List.contains_iff_mem.1 hh.1) h2 v1 p0 h1 hh.2).mono ?_;rintro e w' ⟨rfl,rfl⟩;exact ⟨_,c0,rfl,rfl,Cx.le.refl _,O0,rfl⟩
  ·cases H
 ·cases H
theorem xv {c0:Cx} {G:Gm} {F:List En} {v1 v2:Value} (O0:Own c0 G F) (hG:Gl [0,1] c0) (p0 p1:Er) (h1:RE 341 78 c0 v1 p0) (h2:RE 341 78 c0 v2 p1) {r:Bool} (H:rS p0 p1=some r):
  Calls Tryz.prog 27 #[v1,v2] c0.w (aQ c0 fun c v=>Own c G F∧v= .bool r):=xu O0 hG p0 p1 h1 h2 H
end Go.Proofs.YtidapncdmjppeaaGreatDoor
namespace Go.Proofs.YtidapncdmjppeaaGreatDoor
open Go Go.Lt
set_option maxRecDepth 10000
set_option linter.unusedVariables false
attribute [local irreducible] W WL AC
open Tryz
variable {c0:Cx} {G:Gm} {F:List En} {sg:Sto} {v1 v2 v3 v4 v5 v6 v7 v8 v9 v10 v11 v12 v13 v14 v15 v16 v17 v18 v19 v20 v21 v22 v23 v24 v25 v26 v27 v28 v29 v30 v31 v32 v33 v34 v35 v36 v37 v38 v39 v40 v41 v42 v43 v44 v45 v46 v47 v48 v49 v50 v51 v52 v53 v54 v55 v56 v57 v58 v59 v60:Value}
def pE (sg:Sto) (p0:ByteArray):Option (Sto×bh×Er):=
 if (decide ((ot p0) > 1048576))=true then
 none
 else
 (some (sg.add_snap_reader (⟨p0,0,(⟨0,0,([]:List ah),(⟨0,0,false⟩:ai),false⟩:bh)⟩:bX))).bind fun b=>
 (kN b (some sg.snap_reader.length)).bind fun a=>
 (tK a.2).bind fun e=>
 (bL e ((flt a.2).bind fun f=>
 (rS f.2 (Er.sent 1)).bind fun g=>
 some g)).bind fun c=>
 if c=true then
 none
 else
 if (!a.2.isNil)=true then
 none
 else
 (a.1.snap_reader[sg.snap_reader.length]?).bind fun d=>
 some (a.1,d.v,Er.nil)
theorem yU (O0:Own c0 G F) (R0:Rel c0 sg G) (hG:Gl [0,1] c0) (hU:Eh c0) (hT:Et c0) (f:ByteArray) {r:Sto×bh×Er} (H:pE sg f=some r): Calls prog 13 #[.string f] c0.w (aQ c0 fun c v=>∃y1 y2,∃G_:Gm,Own c G_ (F)∧Rel c r.1 G_∧v= .tuple #[.agg #[I r.2.1.Wide,I r.2.1.High,y1,I r.2.1.At.Row,I r.2.1.At.Col,B r.2.1.At.Pending,B r.2.1.Auto],y2]∧Sl ay c y1 r.2.1.Lines∧RE 341 78 c y2 r.2.2):=by
 unfold pE at H;refine en func13 rfl rfl (sr (me (al 31 [I 0,I 0,Y,I 0,I 0,B false,B false] O0) ?_));rintro v4 c3 l3 ⟨b1,rfl,O2⟩;refine va (.nilIface) (wln (W.seq (sr (va (.string f) (vr (I (ot f)) (rx (by kernel_rfl) (rA (ty:=3) u_9 _)) (va (B (decide ((ot f) > 1048576))) (wln (cn H (fun h5 H=>?_) (fun h5 H=>?_)))))))))
 ·cases H
 refine W.skip (nrm (sr (va (.string f) (va (.agg #[.string f,I 0,I 0,I 0,Y,I 0,I 0,B false,B false]) ?_))));have h7:OA ay c3 (Y) [] []:=OA.nil (aK _);have O6:=O2.addHole (e:=es false ay (Y) 39 [] ([]:List ah)) rfl;refine me (al 76 [.string f,I 0,I 0,I 0,(Y),I 0,I 0,B false,B false] O6) ?_;rintro v11 n2 D ⟨d,rfl,O9⟩;have k0:=O9.sD 3 [0,1,2];refine bn H fun j0 z0 H=>?_;obtain ⟨u0,l2,a1,p1,T,l0,P,s2,t2,m2⟩:=Rel.new_snap_reader (E:=[(Eb d 76 [.string f,I 0,I 0,I 0,(Y),I 0,I 0,B false,B false]),es false ay (Y) 39 [] ([]:List ah)]) (F:=(Eb b1 31 [I 0,I 0,Y,I 0,I 0,B false,B false]) :: F) (x:=(⟨f,0,(⟨0,0,([]:List ah),(⟨0,0,false⟩:ai),false⟩:bh)⟩:bX)) (b:=d) k0 (R0.mono (l3.trans D)) (fun c_ hle_=>⟨d,(Y),[],rfl,rfl,((h7.mono D).mono hle_)⟩);rw [aq z0] at P;refine WL.gh a1.1 ?_;have c1:Pt 6 u0 (Q d) (some sg.snap_reader.length):=⟨d,rfl,T⟩;refine va (Q d) (wln (sr (va (Q d) (bn H fun i d1 H=>cl (rX l0 P hT.m (some sg.snap_reader.length) c1 d1) ?_))));rintro v26 o2 s1 ⟨_,M,m0,R,rfl,U⟩;refine va (v26) (wln (sr (me (al 78 [.pointer none] m0) ?_)));rintro v37 v0 b0 ⟨q,rfl,o0⟩;refine wln (W.seq (W.seq (bn H fun g0 e1 H=>bn H fun f0 X H=>W.join (Jn v0 fun c l=>∃v40,Own c M ((Eb q 78 [v40]) :: (Eb b1 31 [I 0,I 0,Y,I 0,I 0,B false,B false]) :: F)∧l= [(2,Q b1),(4,Q d),(5,v26),(6,Q q),(27,B f0)]∧FP c v40 i.2) ?_ ?_)))
 ·clear H;refine rD [2,4,9] (Kp G0 []) o0 ?_;intro w0 t1 q0;have x2:Kp G0 [] w0:=Kp.nil0;refine ta 0 (v26) (ta 1 (.iface 80 (Q q)) (o1 2 (gc 2 (yY q0 hU.m i.2 U.m e1) ?_)));rintro v47 x0 u1 ⟨v44,j,rfl,y⟩;refine ⟨.inl rfl,?_⟩;rcases bo (g0) with h | h
  ·have g:=anT h X;refine bn g fun h0 f1 g=>bn g fun i0 g1 g=>AC.takeb 3 h rfl (by kernel_rfl) (by kernel_rfl) (fun c' A=>(by kernel_rfl)) ?_;obtain ⟨v53,Z⟩:=(hG.mono (l3.trans (D.trans (p1.trans (s1.trans (b0.trans (t1.trans u1))))))).get 1 (by decide);refine tx 8 (fun c' A=>l1 pg Z.m.im) (o1 4 (gl 4 (le1 0 underlying78 (j.on 0 rfl)) ?_));obtain ⟨s,v56,h1,w1,i1⟩:=(y).get f1;subst h1;refine ta 5 (Q s) (ta 6 (Qo s (0+1)) (tx 7 (fun c' A=>l1 pg ((mm w1) 1 _ rfl)) (o1 9 (gc 9 (xv j (hG.m.le (by decide)) h0.2 (Er.sent 1) i1 Z g1) ?_))));rintro a3 y0 v2 ⟨s0,rfl⟩;refine ⟨.inl rfl,?_⟩;obtain rfl:=si g;exact ta 10 (B i0) (dn (nrm (jn y0 ⟨(Q s),s0,rfl,y.m⟩)))
  obtain rfl:=anF h X;exact AC.takeb 3 h rfl (by kernel_rfl) (by kernel_rfl) (fun c' A=>(by kernel_rfl)) (tp 8 (tp 4 (tp 5 (tp 6 (tp 7 (tp 9 (ta 10 (B false) (dn (nrm (jn x0 ⟨v44,j,rfl,y⟩))))))))))
 rintro e_ w_ ⟨p2,q2,_,rfl,v1,rfl,v40,k,rfl,u2⟩;refine nrm (cn H (fun j1 H=>?_) (fun j1 H=>?_))
 ·cases H
 refine W.skip (nrm (W.seq (sr (va (v26) (vr (B (!i.2.isNil)) (by rcases U.m.cs with ⟨t,u⟩ | ⟨b_,t,u⟩ | ⟨b_,t,u⟩ <;> (subst t; rw [u]; kernel_rfl)) (wln (cn H (fun k1 H=>?_) (fun k1 H=>?_))))))))
 ·cases H
 refine W.skip (nrm (sr (vv (Q d) (va (Qo d 2) (bn H fun a m1 H=>?_)))));obtain ⟨x1,z2,a0,n1⟩:=Rel.open_snap_reader (R.mono (b0.trans v1)) m1 (tm T);refine vx (leN 31 2 [I a.v.Wide,I a.v.High,x1,I a.v.At.Row,I a.v.At.Col,B a.v.At.Pending,B a.v.Auto] (k.gon a0 0 rfl)) ?_;have z:=n1.sl (k.gon a0 1 rfl);obtain ⟨n,o,p,rfl⟩:=(z).form;refine md (sA 31 [I a.v.Wide,I a.v.High,.slice n o p,I a.v.At.Row,I a.v.At.Col,B a.v.At.Pending,B a.v.Auto] 1 k ⟨rfl,rfl,z.one,rfl,rfl,rfl,rfl,trivial⟩) ?_;rintro S w2 N;refine va (.nilIface) (wln (W.ret ?_));obtain rfl:=si H;have t0:=N.sD 2 [];exact uC (c:=S) (vs:=[I a.v.Wide,I a.v.High,.slice n o p,I a.v.At.Row,I a.v.At.Col,B a.v.At.Pending,B a.v.Auto]) (v:= .nilIface) rfl (by kernel_rfl) (by kernel_rfl) (by kernel_rfl) (by kernel_rfl) (N.on 1 rfl _ rfl).1 ⟨_,S,rfl,rfl,pt,(.slice n o p),.nilIface,M,t0,R.m,rfl,z.m,rfl⟩
def dV (sg:Sto):Option (Sto×Bool):=
 (jN sg 2 1).bind fun b=>
 if b.2.isNone=true then
 none
 else
 (dw b.1 b.2).bind fun g=>
 (pD g).bind fun h=>
 (pE b.1 h).bind fun a=>
 (dw a.1 b.2).bind fun i=>
 (qT i).bind fun c=>
 (bL a.2.2.isNil (some c.2.isNil)).bind fun d=>
 (bL d (some (a.2.1.Wide==2))).bind fun e=>
 (bL e (some ((c.1.length:Int)==8))).bind fun f=>
 some (a.1,f)
theorem mT (O0:Own c0 G F) (R0:Rel c0 sg G) (hG:Gl [0,1,2,3,5,7] c0) (hU:Eh c0) (hT:Et c0) {r:Sto×Bool} (H:dV sg=some r): Calls prog 4 #[] c0.w (aQ c0 fun c v=>∃G_:Gm,Own c G_ (F)∧Rel c r.1 G_∧v=B r.2):=by
 unfold dV at H;refine en func4 rfl rfl (sr (va (B false) (wln (sr (bn H fun t h1 H=>cl (rY O0 R0 2 1 h1) ?_)))));rintro v2 c8 l8 ⟨_,G4,O5,R6,a7,rfl,U⟩;refine va (v2) (wln (W.seq (sr (va (v2) (vr (B t.2.isNone) (by rcases (U).cs with ⟨b,d⟩ | ⟨u,b,d⟩ <;> (subst b; rw [d]; kernel_rfl)) (wln (cn H (fun q0 H=>?_) (fun q0 H=>?_))))))))
 ·cases H
 refine W.skip (nrm (sr (va (v2) (bn H fun q s0 H=>cl (jD O5 R6 t.2 U s0) ?_))));rintro v20 u1 e2 ⟨v12,i1,d0,rfl,t0⟩;obtain ⟨v1,v0,f2,e0,u0⟩:=d0.frz 0 rfl t0;refine WL.gh v0 (bn H fun X w0 H=>cl (yT e0 hT.m q u0 w0) ?_);rintro v31 w1 g2 ⟨f0,rfl⟩;refine bn H fun a x0 H=>cl (yU f0 R6.m (hG.m.le (by decide)) hU.m hT.m X x0) ?_;rintro v42 x1 h2 ⟨v33,v35,x,g0,y,rfl,M,y0⟩;refine va (.tuple #[.agg #[I a.2.1.Wide,I a.2.1.High,v33,I a.2.1.At.Row,I a.2.1.At.Col,B a.2.1.At.Pending,B a.2.1.Auto],v35]) (va (.agg #[I a.2.1.Wide,I a.2.1.High,v33,I a.2.1.At.Row,I a.2.1.At.Col,B a.2.1.At.Pending,B a.2.1.Auto]) (va (v35) (me (al 31 [I 0,I 0,Y,I 0,I 0,B false,B false] g0) ?_)));rintro v46 y1 g1 ⟨E,rfl,h0⟩;obtain ⟨z,A,D,rfl⟩:=((M.mono g1)).form;refine md (sA 31 [I a.2.1.Wide,I a.2.1.High,.slice z A D,I a.2.1.At.Row,I a.2.1.At.Col,B a.2.1.At.Pending,B a.2.1.Auto] 0 h0 ⟨rfl,rfl,M.m.one,rfl,rfl,rfl,rfl,trivial⟩) ?_;rintro z1 i2 i0;refine va (v35) (wln (sr (va (v2) (bn H fun s z0 H=>cl (jD i0 y.m t.2 U.m z0) ?_))));rintro n2 b2 j2 ⟨v53,j1,j0,rfl,a1⟩;obtain ⟨c2,c1,k2,k0,b1⟩:=j0.frz 0 rfl a1;refine WL.gh c1 (bn H fun e d1 H=>cl (zT k0 (hG.m.le (by decide)) s b1 d1) ?_);rintro o2 g l2 ⟨k,k1,o,f,rfl,e1,f1⟩;refine va (.tuple #[k,o]) (va (k) (va (o) (va (k) (va (o) (wln (W.seq (bn H fun q1 N H=>bn H fun s1 p H=>bn H fun T n H=>W.join (Jn g fun c l=>Own c x (es true (RI .u8) k 5 k1 e.1 :: es false ay v53 39 j1 s.Lines :: (Eb E 31 [I a.2.1.Wide,I a.2.1.High,.slice z A D,I a.2.1.At.Row,I a.2.1.At.Col,B a.2.1.At.Pending,B a.2.1.Auto]) :: es false ay v12 39 i1 q.Lines :: F)∧l= [(0,B T)]) ?_ ?_)))))))
 ·clear H;refine W.region (va (v35) (vr (B a.2.2.isNil) (by rcases y0.m.cs with ⟨b,d⟩ | ⟨u,b,d⟩ | ⟨u,b,d⟩ <;> (subst b; rw [d]; kernel_rfl)) ?_));rcases bo (a.2.2.isNil) with h | h
  ·have Z:=anT h N;refine vb h (wa (o) (wn (vr (B e.2.isNil) (by rcases (f1).cs with ⟨b,d⟩ | ⟨u,b,d⟩ | ⟨u,b,d⟩ <;> (subst b; rw [d]; kernel_rfl)) ?_)));obtain rfl:=si Z;refine va (B e.2.isNil) ?_;rcases bo (e.2.isNil) with i | i
   ·have a0:=anT i p;refine vb i (wa (Q E) (wn (vx (le1 0 u_3 (f.on 2 rfl)) (wa (B (a.2.1.Wide==2)) ?_))));obtain rfl:=si a0;refine va (B (a.2.1.Wide==2)) ?_;rcases bo (a.2.1.Wide==2) with j | j
    ·have b0:=anT j n;refine vb j (wa (k) (wn (vx (lnO 3 wH e1) (wa (B ((e.1.length:Int)==8)) ?_))));obtain rfl:=si b0;exact vv (B ((e.1.length:Int)==8)) (wln (jn g ⟨f,rfl⟩))
    obtain rfl:=anF j n;exact vb j (pz (ps (vv (B false) (wln (jn g ⟨f,rfl⟩)))))
   obtain rfl:=anF i p;refine vb i (pz (ps (va (B false) ?_)));have P:false=false:=rfl;obtain rfl:=anF P n;exact vb P (pz (ps (vv (B false) (wln (jn g ⟨f,rfl⟩)))))
  obtain rfl:=anF h N;refine vb h (pz (va (B false) ?_));have R:false=false:=rfl;obtain rfl:=anF R p;refine vb R (pz (ps (va (B false) ?_)));have S:false=false:=rfl;obtain rfl:=anF S n;exact vb S (pz (ps (vv (B false) (wln (jn g ⟨f,rfl⟩)))))
 rintro e_ w_ ⟨p0,d2,_,rfl,m2,rfl,l0,rfl⟩;refine nrm (W.ret ?_);obtain rfl:=si H;have m0:=l0.sD 4 [];exact r1 (qq p0 ⟨x,m0,y.m,rfl⟩)
end Go.Proofs.YtidapncdmjppeaaGreatDoor
namespace Go.Lt
open Go
variable {c:Cx}
def zC (l:List Int):ByteArray:=runesBytes l
theorem yc {P:Program} {c:Cx} {src dst e:TypeId} {v:Value} {xs:List Int} (hs:P.underlying src=some (.slice e)) (he:P.underlying e=some (.int .i32)) (hd:P.underlying dst=some .string) (h:Sl (RI .i32) c v xs):
  (convert src dst v).run P c.w= .ok (.string (zC xs)) c.w:=by
 obtain ⟨a,cap,rfl,_,_,h4⟩:=h;rw [run_convert_runes_string c.w src dst e a xs.length cap hs he hd]
 cases xs with
 | nil=>
  cases a with
  | none=>rfl
  | some ad=>
   have:=run_runesToString (P:=P) c.w ad 0 cap [] (by simp [loadCells,loadCellsFrom]);exact this
 | cons y t=>
  obtain ⟨b,off,l,rfl,_,_⟩:=h4 0 y rfl;have hl:=run_loadCells_list (P:=P) (w:=c.w) ⟨b,off,none⟩ ((y :: t).map (Value.int .i32)) (fun j v hj=>by
   rw [bm,Option.map_eq_some_iff] at hj;obtain ⟨x,hx,rfl⟩:=hj;obtain ⟨b',off',l',e,hl,hc⟩:=h4 j x hx;cases e;have:=(hc 0 _ (by rw [show l'= [.int .i32 x] from hl]; rfl)).cell;rw [show off+j * (RI .i32).size+0=off+j by show off+j * 1+0=off+j; omega] at this;rw [dX];exact this)
  rw [eF] at hl;rw [run_runesToString c.w ⟨b,off,none⟩ (y :: t).length cap (y :: t) hl];rfl
end Go.Lt
namespace Go.Proofs.YtidapncdmjppeaaGreatDoor
open Go Go.Lt
set_option maxRecDepth 10000
set_option linter.unusedVariables false
attribute [local irreducible] W WL AC
open Tryz
variable {c0:Cx} {G:Gm} {F:List En} {sg:Sto} {v1 v2 v3 v4 v5 v6 v7 v8 v9 v10 v11 v12 v13 v14 v15 v16 v17 v18 v19 v20 v21 v22 v23 v24 v25 v26 v27 v28 v29 v30 v31 v32 v33 v34 v35 v36 v37 v38 v39 v40 v41 v42 v43 v44 v45 v46 v47 v48 v49 v50 v51 v52 v53 v54 v55 v56 v57 v58 v59 v60:Value}
def gy (p0:List aa):Option (List Int):=
 (cO (σ:=(List Int)×Int) (τ:=(List Int)) (((p0.length:Int) - 0).toNat+1) (fun a=>
 if (decide (a.2 < (p0.length:Int)))=true then
 ((idx p0 a.2).bind fun b=>
 if (b.Kind==0)=true then
 (app a.1 ([32]:List Int)).bind fun c=>
 some (c)
 else
 (if (b.Kind==1)=true then
 some (b.Kind==1)
 else
 some (b.Kind==2)).bind fun f=>
 if f=true then
 (app a.1 b.Text).bind fun d=>
 some (d)
 else
 some (a.1)).bind fun e=>
 some (.inl (e,(w64 (a.2+1))))
 else
 some (.inr (a.1))) (([]:List Int),0)).bind fun g=>
 some g
theorem oO (O0:Own c0 G F) (n:List aa) {r:List Int} (P:Sl am c0 v1 n) (H:gy n=some r): Calls prog 20 #[v1] c0.w (aQ c0 fun c v=>∃S y2,Own c G (es true (RI .i32) S 21 y2 r :: F)∧v=S∧OA (RI .i32) c S y2 r):=by
 unfold gy at H;refine en func20 rfl rfl (sr (va (Y) (wln (sr (va (Y) (wln (W.seq (sr (va (v1) (vx (ln 3 cC P) (va (I 0) (wln (W.block (bn H fun t2 h3 X=>lp h3 (fun b=>Jn c0 fun c l=>∃v5 o,Own c G (es true (RI .i32) v5 21 o b.1 :: F)∧l= [(3,v5),(6,v1),(7,I (n.length:Int)),(8,I b.2)]∧OA (RI .i32) c v5 o b.1) (fun t ex e w=>ex= .exit 0∧(Jn c0 fun c l=>∃v7 x,Own c G (es true (RI .i32) v7 21 x t :: F)∧l= [(3,v7)]∧OA (RI .i32) c v7 x t) e w) ?_ ?_ ?_))))))))))))))
 ·clear X h3;intro b v2 u0 s1 H;revert u0 s1;rintro N R ⟨c9,f2,_,rfl,l9,rfl,v5,o,y,rfl,j⟩;refine sr (va (B (decide (b.2 < (n.length:Int)))) (wln (W.seq (cn H (fun v0 H=>?_) (fun v0 H=>?_)))))
  ·refine W.skip (nrm (bn H fun u d U=>W.seqJ (Jn c9 fun c l=>∃v19 k,Own c G (es true (RI .i32) v19 21 k u :: F)∧l= [(3,v19),(6,v1),(7,I (n.length:Int)),(8,I b.2)]∧OA (RI .i32) c v19 k u) ?_ ?_))
   ·refine W.block (sr (bn d fun a E d=>?_));obtain ⟨x1,w0,n1⟩:=Sl.at (P.mono l9) (bi E);obtain ⟨v25,rfl,s⟩:=w0;refine vx (ix cC P.m E) (vx (lN 36 n1) (me (al 36 [I 0,Y] y) ?_));rintro v30 c2 m1 ⟨i,rfl,Z⟩;obtain ⟨z,A,D,rfl⟩:=((s.mono m1)).form;refine md (sA 36 [I a.Kind,.slice z A D] 0 Z ⟨rfl,s.m.one,trivial⟩) ?_;rintro q k2 h;refine wln (sr (va (Q i) (vx (le1 0 u_3 (h.on 0 rfl)) (wln (W.block (sr (vv (B (a.Kind==0)) (wln (cn d (fun y0 d=>?_) (fun y0 d=>?_))))))))))
    ·refine W.region (va (v5) (me (sl (RI .i32) 21 [[J 32]] ([32]:List Int) h ⟨rfl,trivial⟩) ?_));rintro v41 d2 l2 ⟨u2,a0,z0⟩;obtain ⟨e2,b1,m2,b0,a1⟩:=a0.frz 0 rfl z0;refine WL.gh b1 (bn d fun z1 c1 d=>me (ap (RI .i32) (J 0) 4 34 2 b0 j.m a1 c1 fv) ?_);rintro v51 l0 n2 ⟨p1,d0,d1⟩;refine va (v51) (WL.nil (bkn (bkn (nrm ?_))));obtain rfl:=si d;have e0:=d0.sD 3 [2];exact jn l0 ⟨v51,p1,e0,rfl,d1⟩
    refine bn d fun T g f=>W.seqJ (Jn q fun c l=>Own c G ((Eb i 36 [I a.Kind,.slice z A D]) :: es true (RI .i32) v5 21 o b.1 :: F)∧l= [(3,v5),(5,Q i),(6,v1),(7,I (n.length:Int)),(8,I b.2),(19,B T)]) ?_ ?_
    ·refine sr (vv (B (a.Kind==1)) (wln (cn g (fun e1 g=>?_) (fun e1 g=>?_))))
     ·refine W.skip (nrm ?_);obtain rfl:=si g;exact jn q ⟨h,rfl⟩
     refine W.region (vv (B (a.Kind==2)) (wln ?_));obtain rfl:=si g;exact jn q ⟨h,rfl⟩
    rintro N R ⟨m0,g2,_,rfl,o2,rfl,p,rfl⟩;refine cn f (fun f1 f=>?_) (fun f1 f=>?_)
    ·refine W.region (va (v5) (va (Qo i 1) (vx (le1 1 fv (p.on 0 rfl)) (bn f fun b2 g1 f=>me (ap (RI .i32) (J 0) 4 34 1 p j.m s.m g1 fv) ?_))));rintro M o0 p2 ⟨q1,f0,h1⟩;refine va (M) (WL.nil (bkn (bkn (nrm ?_))));obtain rfl:=si f;have g0:=f0.sD 2 [1];exact jn o0 ⟨M,q1,g0,rfl,h1⟩
    refine W.skip (bkn (bkn (nrm ?_)));obtain rfl:=si f;have h0:=p.sD 2 [1];exact jn m0 ⟨v5,o,h0,rfl,j.m⟩
   rintro N R ⟨q0,i2,_,rfl,q2,rfl,v19,k,i0,rfl,i1⟩;refine W.region (vv (I (w64 (b.2+1))) (WL.nil ?_));obtain rfl:=si U;exact ⟨_,rfl,jn q0 ⟨v19,k,i0,rfl,i1⟩⟩
  refine W.exit (thx ?_);obtain rfl:=si H;exact ⟨_,rfl,rfl,jn c9 ⟨v5,o,y,rfl,j⟩⟩
 ·have j1:OA (RI .i32) c0 (Y) [] []:=OA.nil (aK _);have j0:=O0.addHole (e:=es true (RI .i32) (Y) 21 [] ([]:List Int)) rfl;exact jn c0 ⟨(Y),[],j0,rfl,j1⟩
 rintro _ N R ⟨rfl,s0,j2,_,rfl,s2,rfl,v7,x,k0,rfl,k1⟩;refine bke (nrm (sr (vv (v7) (wln (W.ret ?_)))));obtain rfl:=si X;exact r1 (qq s0 ⟨v7,x,k0,rfl,k1⟩)
def iw (p0:List aa):Option (List aa):=
 (bL (decide ((w64 ((p0.length:Int) - 1))≥0)) ((idx p0 (w64 ((p0.length:Int) - 1))).bind fun b=>
 some (b.Kind==0))).bind fun a=>
 if a=true then
 (slc p0 0 (w64 ((p0.length:Int) - 1))).bind fun c=>
 some c
 else
 some p0
theorem th (j:Own c0 G F) (a:List aa) {r:List aa} (b:Sl am c0 v1 a) (H:iw a=some r): Calls prog 21 #[v1] c0.w (aQ c0 fun c v=>∃u,Own c G (F)∧v=u∧Sl am c u r):=by
 unfold iw at H;refine en func21 rfl rfl (sr (va (Y) (wln (W.seq (sr (va (v1) (vx (ln 3 cC b) (vv (I (w64 ((a.length:Int) - 1))) (wln (W.seq (bn H fun i q H=>W.join (Jn c0 fun c l=>Own c G (F)∧l= [(0,v1),(3,I (w64 ((a.length:Int) - 1))),(16,B i)]) ?_ ?_)))))))))))
 ·clear H;refine W.region (va (I (w64 ((a.length:Int) - 1))) (va (B (decide ((w64 ((a.length:Int) - 1))≥0))) ?_));rcases bo (decide ((w64 ((a.length:Int) - 1))≥0)) with d | d
  ·have h:=anT d q;refine vb d (wa (v1) (wa (I (w64 ((a.length:Int) - 1))) (wn (bn h fun e s h=>?_))));obtain ⟨E,x,y⟩:=Sl.at b (bi s);obtain ⟨v10,rfl,D⟩:=x;refine vx (ix cC b s) (wa (Qo (sb v1) (so v1+(w64 ((a.length:Int) - 1)).toNat * 2)) (wn (vx (l1 u_3 (y 0 _ rfl)) (wa (B (e.Kind==0)) ?_))));obtain rfl:=si h;exact va (B (e.Kind==0)) (wln (jn c0 ⟨j,rfl⟩))
  obtain rfl:=anF d q;exact vb d (pz (pz (pz (va (B false) (wln (jn c0 ⟨j,rfl⟩))))))
 rintro M N ⟨g,A,_,rfl,t,rfl,f,rfl⟩;refine nrm (cn H (fun k H=>?_) (fun k H=>?_))
 ·refine sr (va (v1) (va (I (w64 ((a.length:Int) - 1))) (bn H fun z n H=>?_)));obtain ⟨v20,o,p⟩:=nK (k':= .i64) cC (by kernel_rfl) (b.mono t) n;refine vr v20 (rx (by kernel_rfl) (o _)) (va (v20) (wln (W.ret (thr ?_))));obtain rfl:=si H;exact r1 (qq g ⟨v20,f,rfl,p⟩)
 refine W.skip (nrm (sr (vv (v1) (wln (W.ret ?_)))));obtain rfl:=si H;exact r1 (qq g ⟨v1,f,rfl,b.m⟩)
def iv (p0:List aa):Option (List aa):=
 (cO (σ:=Int) (τ:=Int) (((p0.length:Int) - 0).toNat+1) (fun a=>
 (bL (decide (a > 0)) ((idx p0 (w64 (a - 1))).bind fun c=>
 some (c.Kind==0))).bind fun b=>
 if b=true then
 some (.inl ((w64 (a - 1))))
 else
 some (.inr (a))) ((p0.length:Int))).bind fun e=>
 (slc p0 0 e).bind fun d=>
 some d
theorem tg (O0:Own c0 G F) (s:List aa) {r:List aa} (h:Sl am c0 v1 s) (H:iv s=some r): Calls prog 22 #[v1] c0.w (aQ c0 fun c v=>∃Z,Own c G (F)∧v=Z∧Sl am c Z r):=by
 unfold iv at H;refine en func22 rfl rfl (sr (va (Y) (wln (sr (va (v1) (vx (ln 3 cC h) (va (I (s.length:Int)) (wln (W.seq (W.block (bn H fun T E g=>lp E (fun a=>Jn c0 fun c l=>Own c G (F)∧l= [(0,v1),(3,I a)]) (fun q ex e w=>ex= .exit 0∧(Jn c0 fun c l=>Own c G (F)∧l= [(0,v1),(3,I q)]) e w) ?_ ?_ ?_)))))))))))
 ·clear g E;intro a j0 z X H;revert z X;rintro y U ⟨o,g6,_,rfl,l5,rfl,u,rfl⟩;refine W.seq (W.seq (bn H fun p k H=>W.join (Jn o fun c l=>Own c G (F)∧l= [(0,v1),(3,I a),(16,B p)]) ?_ ?_))
  ·clear H;refine W.region (va (I a) (va (B (decide (a > 0))) ?_));rcases bo (decide (a > 0)) with b | b
   ·have d:=anT b k;refine vb b (wa (v1) (wa (I a) (wa (I (w64 (a - 1))) (wn (bn d fun f n d=>?_)))));obtain ⟨d0,A,S⟩:=Sl.at (h.mono l5) (bi n);obtain ⟨v18,rfl,h0⟩:=A;refine vx (ix cC h.m n) (wa (Qo (sb v1) (so v1+(w64 (a - 1)).toNat * 2)) (wn (vx (l1 u_3 (S 0 _ rfl)) (wa (B (f.Kind==0)) ?_))));obtain rfl:=si d;exact va (B (f.Kind==0)) (wln (jn o ⟨u,rfl⟩))
   obtain rfl:=anF b k;exact vb b (pz (pz (pz (ps (va (B false) (wln (jn o ⟨u,rfl⟩)))))))
  rintro y U ⟨j,f0,_,rfl,i0,rfl,i,rfl⟩;refine nrm (cn H (fun D H=>?_) (fun D H=>?_))
  ·refine W.skip (nrm (W.block (W.region (va (I a) (vv (I (w64 (a - 1))) (WL.nil (bkn ?_)))))));obtain rfl:=si H;exact ⟨_,rfl,jn j ⟨i,rfl⟩⟩
  refine W.exit (thx ?_);obtain rfl:=si H;exact ⟨_,rfl,rfl,jn j ⟨i,rfl⟩⟩
 ·exact jn c0 ⟨O0,rfl⟩
 rintro _ y U ⟨rfl,x,g0,_,rfl,R,rfl,t,rfl⟩;refine bke (nrm (sr (va (v1) (va (I T) (bn g fun e0 M g=>?_)))));obtain ⟨v34,N,P⟩:=nK (k':= .i64) cC (by kernel_rfl) (h.mono R) M;refine vr v34 (rx (by kernel_rfl) (N _)) (va (v34) (wln (W.ret ?_)));obtain rfl:=si g;exact r1 (qq x ⟨v34,t,rfl,P⟩)
def iy (p0:bh):Option (List (List Int)):=
 (cO (σ:=(List (List Int))×(List Int)×Int) (τ:=(List (List Int))) (((p0.Lines.length:Int) - 0).toNat+1) (fun a=>
 if (decide (a.2.2 < (p0.Lines.length:Int)))=true then
 ((idx p0.Lines a.2.2).bind fun b=>
 (bL b.Wrap (some (decide (a.2.2 < (w64 ((p0.Lines.length:Int) - 1)))))).bind fun d=>
 if d=true then
 (iw b.Cells).bind fun f=>
 (gy f).bind fun g=>
 (app a.2.1 g).bind fun h=>
 some (a.1,h)
 else
 (iv b.Cells).bind fun i=>
 (gy i).bind fun j=>
 (app a.2.1 j).bind fun k=>
 (app a.1 ([k]:List (List Int))).bind fun l=>
 some (l,([]:List Int))).bind fun c=>
 some (.inl (c.1,c.2,(w64 (a.2.2+1))))
 else
 some (.inr (a.1))) (([]:List (List Int)),([]:List Int),0)).bind fun e=>
 some e
theorem tj (O0:Own c0 G F) (d:bh) {r:List (List Int)} (P:Sl ay c0 v1 d.Lines) (H:iy d=some r): Calls prog 9 #[.agg #[I d.Wide,I d.High,v1,I d.At.Row,I d.At.Col,B d.At.Pending,B d.Auto]] c0.w (aQ c0 fun c v=>∃y1 y2,Own c G (es true (RL (RI .i32)) y1 34 y2 r :: F)∧v=y1∧OA (RL (RI .i32)) c y1 y2 r):=by
 unfold iy at H;refine en func9 rfl rfl (sr ?_);obtain ⟨T,U,X,rfl⟩:=(P).form;refine me (bx 31 [I d.Wide,I d.High,.slice T U X,I d.At.Row,I d.At.Col,B d.At.Pending,B d.Auto] O0) ?_;rintro v10 M l9 ⟨A,rfl,O7,m8⟩;refine va (Y) (wln (sr (va (Y) (wln (sr (va (Y) (wln (W.seq (sr (va (Qo A (0+2)) (vx (l1 jS (m8 2 _ rfl)) (vx (ln 3 jS P.m) (va (I 0) (wln (W.block (bn H fun r4 g0 Z=>lp g0 (fun a=>Jn M fun c l=>∃v13 p v15 g,Own c G (es true (RI .i32) v13 21 p a.2.1 :: es true (RL (RI .i32)) v15 34 g a.1 :: F)∧l= [(1,Q A),(3,v15),(4,v13),(8,.slice T U X),(9,I (d.Lines.length:Int)),(10,I a.2.2)]∧OA (RI .i32) c v13 p a.2.1∧OA (RL (RI .i32)) c v15 g a.1) (fun o ex e w=>ex= .exit 0∧(Jn M fun c l=>∃v17 q,Own c G (es true (RL (RI .i32)) v17 34 q o :: F)∧l= [(3,v17)]∧OA (RL (RI .i32)) c v17 q o) e w) ?_ ?_ ?_))))))))))))))))
 ·clear Z g0;intro a v5 w2 t3 H;revert w2 t3;rintro e_ w_ ⟨f0,i5,_,rfl,n3,rfl,v13,p,v15,g,a0,rfl,h0,R⟩;refine sr (va (B (decide (a.2.2 < (d.Lines.length:Int)))) (wln (W.seq (cn H (fun x2 H=>?_) (fun x2 H=>?_)))))
  ·refine W.skip (nrm (bn H fun h b l2=>W.seqJ (Jn f0 fun c l=>∃v30 s v32 t,Own c G (es true (RI .i32) v30 21 s h.2 :: es true (RL (RI .i32)) v32 34 t h.1 :: F)∧l= [(1,Q A),(3,v32),(4,v30),(8,.slice T U X),(9,I (d.Lines.length:Int)),(10,I a.2.2)]∧OA (RI .i32) c v30 s h.2∧OA (RL (RI .i32)) c v32 t h.1) ?_ ?_))
   ·refine W.block (sr (va (I a.2.2) (bn b fun f i0 b=>?_)));obtain ⟨q4,z2,p3⟩:=Sl.at (P.mono (l9.trans n3)) (bi i0);obtain ⟨v38,rfl,n⟩:=z2;refine vx (ix jS P.m i0) (vx (lN 39 p3) (me (al 39 [Y,B false] a0) ?_));rintro v43 c5 o3 ⟨i,rfl,n2⟩;refine va (I a.2.2) ?_;obtain ⟨b0,d0,e0,rfl⟩:=((n.mono o3)).form;refine md (sA 39 [.slice b0 d0 e0,B f.Wrap] 0 n2 ⟨n.m.one,rfl,trivial⟩) ?_;rintro E k5 u;refine wln (W.seq (W.seq (bn b fun f1 j0 b=>W.join (Jn E fun c l=>Own c G ((Eb i 39 [.slice b0 d0 e0,B f.Wrap]) :: es true (RI .i32) v13 21 p a.2.1 :: es true (RL (RI .i32)) v15 34 g a.1 :: F)∧l= [(1,Q A),(3,v15),(4,v13),(6,Q i),(8,.slice T U X),(9,I (d.Lines.length:Int)),(10,I a.2.2),(24,B f1)]) ?_ ?_)))
    ·clear b;refine W.region (va (Qo i 1) (vx (le1 1 u_4 (u.on 0 rfl)) ?_));rcases bo (f.Wrap) with j | j
     ·have m2:=anT j j0;refine vb j (wa (I a.2.2) (wa (Qo A (0+2)) (wn (vx (l1 jS ((mm m8) 2 _ rfl)) (wn (vx (ln 3 jS P.m) (wa (I (w64 ((d.Lines.length:Int) - 1))) (wa (B (decide (a.2.2 < (w64 ((d.Lines.length:Int) - 1))))) ?_))))))));obtain rfl:=si m2;exact va (B (decide (a.2.2 < (w64 ((d.Lines.length:Int) - 1))))) (wln (jn E ⟨u,rfl⟩))
     obtain rfl:=anF j j0;exact vb j (pz (pz (pz (va (B false) (wln (jn E ⟨u,rfl⟩))))))
    rintro e_ w_ ⟨d5,j5,_,rfl,l5,rfl,k,rfl⟩;refine nrm (cn b (fun b3 b=>?_) (fun b3 b=>?_))
    ·refine sr (va (v13) (va (Q i) (vx (le1 0 cC (k.on 0 rfl)) (bn b fun g2 c3 b=>cl (th k f.Cells n.m c3) ?_))));rintro v60 e5 m5 ⟨_,o2,rfl,d3⟩;refine bn b fun x4 e3 b=>cl (oO o2 g2 d3 e3) ?_;rintro s5 f5 n5 ⟨_,r5,p2,rfl,f3⟩;obtain ⟨g5,h3,o5,q2,g3⟩:=p2.frz 0 rfl f3;refine WL.gh h3 (bn b fun y4 i3 b=>me (ap (RI .i32) (J 0) 4 34 2 q2 h0.m g3 i3 fv) ?_);rintro k0 v2 p5 ⟨s3,s2,j3⟩;refine va (k0) (wln (W.exit (thx (bke (nrm ?_)))));obtain rfl:=si b;have t2:=s2.sD 4 [2,3];exact jn v2 ⟨k0,s3,v15,g,t2,rfl,j3,R.m⟩
    refine W.skip (nrm (sr (va (v15) (va (v13) (va (Q i) (vx (le1 0 cC (k.on 0 rfl)) (bn b fun i2 k3 b=>cl (tg k f.Cells n.m k3) ?_)))))));rintro t5 h5 q5 ⟨_,u2,rfl,l3⟩;refine bn b fun z4 m3 b=>cl (oO u2 i2 l3 m3) ?_;rintro u5 x3 g4 ⟨_,s4,l0,rfl,h1⟩;obtain ⟨y3,j1,h4,m0,i1⟩:=l0.frz 0 rfl h1;refine WL.gh j1 (bn b fun j2 k1 b=>me (ap (RI .i32) (J 0) 4 34 2 m0 h0.m i1 k1 fv) ?_);rintro v4 z3 i4 ⟨t4,o0,m1⟩;obtain ⟨b4,n1,j4,q0,N⟩:=o0.frz 2 rfl m1;refine WL.gh n1 ?_;obtain ⟨x,y,z,rfl⟩:=(N).form;refine me (sl (RL (RI .i32)) 34 [[.slice x y z]] ([j2]:List (List Int)) q0 ⟨⟨(.slice x y z),rfl,N⟩,trivial⟩) ?_;rintro w4 c4 k4 ⟨u4,s0,p1⟩;obtain ⟨d4,s1,l4,t0,q1⟩:=s0.frz 0 rfl p1;refine WL.gh s1 (bn b fun b5 t1 b=>me (ap (RL (RI .i32)) (Y) 24 45 4 t0 R.m q1 t1 AZ) ?_);rintro S D m4 ⟨e2,u0,u1⟩;refine va (S) (wln (W.region (va (Y) (WL.nil (bkn (nrm ?_))))));obtain rfl:=si b;have w1:OA (RI .i32) D (Y) [] []:=OA.nil (aK _);have v0:=u0.addHole (e:=es true (RI .i32) (Y) 21 [] ([]:List Int)) rfl;have w0:=v0.sD 6 [0,5];exact jn D ⟨(Y),[],S,e2,w0,rfl,w1,u1⟩
   rintro e_ w_ ⟨d1,e4,_,rfl,n4,rfl,v30,s,v32,t,x0,rfl,x1,z1⟩;refine W.region (vv (I (w64 (a.2.2+1))) (WL.nil ?_));obtain rfl:=si l2;exact ⟨_,rfl,jn d1 ⟨v30,s,v32,t,x0,rfl,x1,z1⟩⟩
  refine W.exit (thx ?_);obtain rfl:=si H;refine ⟨_,rfl,rfl,?_⟩;have y0:=a0.sD 2 [1];exact jn f0 ⟨v15,g,y0,rfl,R⟩
 ·have b2:OA (RI .i32) M (Y) [] []:=OA.nil (aK _);have z0:=O7.addHole (e:=es true (RI .i32) (Y) 21 [] ([]:List Int)) rfl;have c2:OA (RL (RI .i32)) M (Y) [] []:=OA.nil (aK _);have a1:=z0.addHole (e:=es true (RL (RI .i32)) (Y) 34 [] ([]:List (List Int))) rfl;have b1:=a1.sD 2 [1,0];exact jn M ⟨(Y),[],(Y),[],b1,rfl,b2,c2⟩
 rintro _ e_ w_ ⟨rfl,e1,f4,_,rfl,o4,rfl,v17,q,c1,rfl,d2⟩;refine bke (nrm (sr (vv (v17) (wln (W.ret ?_)))));obtain rfl:=si Z;exact r1 (qq e1 ⟨v17,q,c1,rfl,d2⟩)
def eN (p0:List Int):Option (List Int):=
 (cO (σ:=(List Int)×Int) (τ:=(List Int)) (((p0.length:Int) - 0).toNat+1) (fun a=>
 if (decide (a.2 < (p0.length:Int)))=true then
 ((idx p0 a.2).bind fun b=>
 if (b != 32)=true then
 (idx p0 a.2).bind fun c=>
 (app a.1 ([c]:List Int)).bind fun d=>
 some (d)
 else
 some (a.1)).bind fun e=>
 some (.inl (e,(w64 (a.2+1))))
 else
 some (.inr (a.1))) (([]:List Int),0)).bind fun f=>
 some f
theorem mV (O0:Own c0 G F) (t:List Int) {r:List Int} (h:Sl (RI .i32) c0 v1 t) (H:eN t=some r): Calls prog 11 #[v1] c0.w (aQ c0 fun c v=>∃x y2,Own c G (es true (RI .i32) x 21 y2 r :: F)∧v=x∧OA (RI .i32) c x y2 r):=by
 unfold eN at H;refine en func11 rfl rfl (sr (va (Y) (wln (sr (va (Y) (wln (W.seq (sr (va (I 0) (wln (W.block (bn H fun n1 h3 z=>lp h3 (fun a=>Jn c0 fun c l=>∃v5 j,Own c G (es true (RI .i32) v5 21 j a.1 :: F)∧l= [(0,v1),(3,v5),(4,I a.2)]∧OA (RI .i32) c v5 j a.1) (fun i ex e w=>ex= .exit 0∧(Jn c0 fun c l=>∃v7 o,Own c G (es true (RI .i32) v7 21 o i :: F)∧l= [(3,v7)]∧OA (RI .i32) c v7 o i) e w) ?_ ?_ ?_))))))))))))
 ·clear z h3;intro a q1 Z w0 H;revert Z w0;rintro X w_ ⟨s,e1,_,rfl,l9,rfl,v5,j,f,rfl,g⟩;refine W.seq (sr (va (I a.2) (va (v1) (vx (ln 3 fv h.m) (va (B (decide (a.2 < (t.length:Int)))) (wln (cn H (fun a0 H=>?_) (fun a0 H=>?_))))))))
  ·refine W.skip (nrm (bn H fun n b y=>W.seqJ (Jn s fun c l=>∃v19 d,Own c G (es true (RI .i32) v19 21 d n :: F)∧l= [(0,v1),(3,v19),(4,I a.2)]∧OA (RI .i32) c v19 d n) ?_ ?_))
   ·refine W.block (sr (va (v1) (va (I a.2) (bn b fun u p b=>?_))));obtain ⟨z0,b0,s0⟩:=Sl.at (h.mono l9) (bi p);obtain rfl:=b0;refine vx (ix fv h.m p) (vx (l1 oU (s0 0 _ rfl)) (va (B (u != 32)) (wln (cn b (fun d0 b=>?_) (fun d0 b=>?_)))))
    ·refine W.region (va (v5) (va (v1) (va (I a.2) (bn b fun k q b=>?_))));obtain ⟨a1,e0,t0⟩:=Sl.at (h.mono l9) (bi q);obtain rfl:=e0;refine vx (ix fv h.m q) (vx (l1 oU (t0 0 _ rfl)) (me (sl (RI .i32) 21 [[J k]] ([k]:List Int) f ⟨rfl,trivial⟩) ?_));rintro v34 c1 h1 ⟨p1,A,g0⟩;obtain ⟨d1,i0,i1,D,h0⟩:=A.frz 0 rfl g0;refine WL.gh i0 (bn b fun b1 j0 b=>me (ap (RI .i32) (J 0) 4 34 1 D g.m h0 j0 fv) ?_);rintro v44 S j1 ⟨u0,E,k0⟩;refine va (v44) (WL.nil (bkn (nrm ?_)));obtain rfl:=si b;have M:=E.sD 2 [1];exact jn S ⟨v44,u0,M,rfl,k0⟩
    refine W.skip (bkn (nrm ?_));obtain rfl:=si b;exact jn s ⟨v5,j,f,rfl,g⟩
   rintro X w_ ⟨T,f1,_,rfl,k1,rfl,v19,d,N,rfl,l0⟩;refine W.region (va (I a.2) (vv (I (w64 (a.2+1))) (WL.nil ?_)));obtain rfl:=si y;exact ⟨_,rfl,jn T ⟨v19,d,N,rfl,l0⟩⟩
  refine W.exit (thx ?_);obtain rfl:=si H;exact ⟨_,rfl,rfl,jn s ⟨v5,j,f,rfl,g⟩⟩
 ·have m0:OA (RI .i32) c0 (Y) [] []:=OA.nil (aK _);have P:=O0.addHole (e:=es true (RI .i32) (Y) 21 [] ([]:List Int)) rfl;exact jn c0 ⟨(Y),[],P,rfl,m0⟩
 rintro _ X w_ ⟨rfl,U,g1,_,rfl,m1,rfl,v7,o,R,rfl,o0⟩;refine bke (nrm (sr (vv (v7) (wln (W.ret ?_)))));obtain rfl:=si z;exact r1 (qq U ⟨v7,o,R,rfl,o0⟩)
def lK (p0:List aa):Option ((List aD)×Er):=
 (fC p0).bind fun i=>
 if (!i)=true then
 some (([]:List aD),(Er.sent 3))
 else
 (cO (σ:=(List aD)×Int) (τ:=(List aD)) (((p0.length:Int) - 0).toNat+1) (fun a=>
 if (decide (a.2 < (p0.length:Int)))=true then
 ((idx p0 a.2).bind fun b=>
 if (b.Kind==3)=true then
 (idx a.1 (w64 ((a.1.length:Int) - 1))).bind fun e=>
 (jp a.1 (w64 ((a.1.length:Int) - 1)) (⟨2,e.Text⟩:aD)).bind fun d=>
 some (d)
 else
 (dv b.Text).bind fun f=>
 (app a.1 ([(⟨1,f⟩:aD)]:List aD)).bind fun g=>
 some (g)).bind fun h=>
 some (.inl (h,(w64 (a.2+1))))
 else
 some (.inr (a.1))) (([]:List aD),0)).bind fun c=>
 some (c,Er.nil)
theorem zV (O0:Own c0 G F) (hG:Gl [3] c0) (o:List aa) {r:(List aD)×Er} (E:Sl am c0 v1 o) (H:lK o=some r): Calls prog 44 #[v1] c0.w (aQ c0 fun c v=>∃y1 y2 y3,Own c G (es true be y1 113 y2 r.1 :: F)∧v= .tuple #[y1,y3]∧OA be c y1 y2 r.1∧RE 341 78 c y3 r.2):=by
 unfold lK at H;refine en func44 rfl rfl (sr (va (Y) (va (.nilIface) (wln (W.seq (sr (va (v1) (bn H fun v2 h3 H=>cl (ll O0 o E h3) ?_))))))));rintro v9 D l8 ⟨O5,rfl⟩;refine va (B (!v2)) (wln (cn H (fun n1 H=>?_) (fun n1 H=>?_)))
 ·refine W.seq (rD [] (Kp G0 []) O5 ?_);intro t k2 q0;have b4:Kp G0 [] t:=Kp.nil0;obtain ⟨v14,U⟩:=(hG.mono (l8.trans k2)).get 3 (by decide);refine tx 0 (fun c' s3=>l1 pg U.m.im) (ta 1 (Y) (ta 2 (v14) (dn (nrm (W.ret (thr ?_))))));obtain rfl:=si H;have p1:OA be t (Y) [] []:=OA.nil (aK _);have s0:=q0.addHole (e:=es true be (Y) 113 [] ([]:List aD)) rfl;exact r2 (qq t ⟨(Y),[],v14,s0,rfl,p1,U⟩)
 refine W.skip (nrm (sr (va (Y) (wln (W.seq (sr (va (v1) (vx (ln 3 cC E.m) (va (I 0) (wln (W.block (bn H fun f3 X M=>lp X (fun b=>Jn D fun c l=>∃v20 i,Own c G (es true be v20 113 i b.1 :: F)∧l= [(4,v20),(11,v1),(12,I (o.length:Int)),(13,I b.2)]∧OA be c v20 i b.1) (fun h ex e w=>ex= .exit 0∧(Jn D fun c l=>∃v22 k,Own c G (es true be v22 113 k h :: F)∧l= [(4,v22)]∧OA be c v22 k h) e w) ?_ ?_ ?_))))))))))))
 ·clear M X;intro b g4 m1 u2 H;revert m1 u2;rintro e_ w_ ⟨S,p3,_,rfl,l2,rfl,v20,i,N,rfl,d⟩;refine sr (va (B (decide (b.2 < (o.length:Int)))) (wln (W.seq (cn H (fun q1 H=>?_) (fun q1 H=>?_)))))
  ·refine W.skip (nrm (bn H fun A a o0=>W.seqJ (Jn S fun c l=>∃v34 n,Own c G (es true be v34 113 n A :: F)∧l= [(4,v34),(11,v1),(12,I (o.length:Int)),(13,I b.2)]∧OA be c v34 n A) ?_ ?_))
   ·refine W.block (sr (bn a fun f Z a=>?_));obtain ⟨d3,s1,o2⟩:=Sl.at (E.mono (l8.trans l2)) (bi Z);obtain ⟨v40,rfl,y⟩:=s1;refine vx (ix cC E.m Z) (vx (lN 36 o2) (me (al 36 [I 0,Y] N) ?_));rintro v45 j3 d0 ⟨P,rfl,t0⟩;obtain ⟨e1,f1,g1,rfl⟩:=((y.mono d0)).form;refine md (sA 36 [I f.Kind,.slice e1 f1 g1] 0 t0 ⟨rfl,y.m.one,trivial⟩) ?_;rintro k3 m2 g;refine wln (W.seq (sr (va (Q P) (vx (le1 0 u_3 (g.on 0 rfl)) (va (B (f.Kind==3)) (wln (cn a (fun t1 a=>?_) (fun t1 a=>?_))))))))
    ·refine sr (vv (v20) (vx (lnO 3 rm d.m) (va (I (w64 ((b.1.length:Int) - 1))) (bn a fun z a0 a=>vx (ixO rm d.m a0) (va (Qo (sb v20) ((w64 ((b.1.length:Int) - 1)).toNat * 2)) ?_)))));obtain ⟨e3,u1,p2⟩:=OA.at (d.mono (d0.trans m2)) a0;obtain ⟨v56,rfl,w1⟩:=u1;refine bn a fun g3 x1 a=>md (Own.stO (R:=be) (T:=3) (us:=[I 2]) (x':=(⟨2,z.Text⟩:aD)) (u:=I 2) (x:=(⟨2,z.Text⟩:aD)) (j:=0) (l':=[I 2,v56]) 1 g (by kernel_rfl) rfl d.m x1 p2 rfl (by kernel_rfl) ⟨rfl,trivial⟩ (by kernel_rfl) rfl ⟨v56,rfl,w1⟩) ?_;rintro h1 t3 ⟨q2,v0,z1⟩;refine wln (W.exit (thx (bke (nrm ?_))));obtain rfl:=si a;have w0:=v0.sD 2 [1];exact jn h1 ⟨v20,q2,w0,rfl,z1⟩
    refine W.skip (nrm (W.region (va (v20) (va (Qo P 1) (vx (le1 1 fv (g.on 0 rfl)) (bn a fun l0 b2 a=>cl (pL g f.Text y.m b2) ?_))))));rintro e4 l3 u3 ⟨_,c4,x0,rfl,b0⟩;obtain ⟨p,q,s,rfl⟩:=(b0).form;refine va (.agg #[I 1,.slice p q s]) ?_;obtain ⟨m3,d2,v3,y0,c2⟩:=x0.frz 0 rfl b0;refine WL.gh d2 (me (sl be 113 [[I 1,.slice p q s]] ([(⟨1,l0⟩:aD)]:List aD) y0 ⟨⟨(.slice p q s),rfl,c2⟩,trivial⟩) ?_);rintro f4 n3 w3 ⟨d4,z0,e2⟩;obtain ⟨o3,g2,x3,a1,f2⟩:=z0.frz 0 rfl e2;refine WL.gh g2 (bn a fun i3 i2 a=>me (ap be (.agg #[I 0,Y]) 32 64 3 a1 d.m f2 i2 rm) ?_);rintro e0 i1 z3 ⟨s2,b1,j2⟩;refine va (e0) (WL.nil (bkn (nrm ?_)));obtain rfl:=si a;have c1:=b1.sD 4 [3];exact jn i1 ⟨e0,s2,c1,rfl,j2⟩
   rintro e_ w_ ⟨j1,q3,_,rfl,a4,rfl,v34,n,d1,rfl,i0⟩;refine W.region (vv (I (w64 (b.2+1))) (WL.nil ?_));obtain rfl:=si o0;exact ⟨_,rfl,jn j1 ⟨v34,n,d1,rfl,i0⟩⟩
  refine W.exit (thx ?_);obtain rfl:=si H;exact ⟨_,rfl,rfl,jn S ⟨v20,i,N,rfl,d⟩⟩
 ·have j0:OA be D (Y) [] []:=OA.nil (aK _);have f0:=O5.addHole (e:=es true be (Y) 113 [] ([]:List aD)) rfl;exact jn D ⟨(Y),[],f0,rfl,j0⟩
 rintro _ e_ w_ ⟨rfl,h0,a3,_,rfl,c3,rfl,v22,k,g0,rfl,k0⟩;refine bke (nrm (sr (vv (v22) (va (.nilIface) (wln (W.ret ?_))))));obtain rfl:=si M;exact r2 (qq h0 ⟨v22,k,.nilIface,g0,rfl,k0,rfl⟩)
def fU (p0:aD):Option (Bool):=
 some ((p0.Text.length:Int)==0)
theorem pQ (d:Own c0 G F) (a:aD) {r:Bool} (b:Sl (RI .i32) c0 v1 a.Text) (H:fU a=some r): Calls prog 79 #[.agg #[I a.Wide,v1]] c0.w (aQ c0 fun c v=>Own c G (F)∧v=B r):=by
 unfold fU at H;refine en func79 rfl rfl (sr ?_);obtain ⟨f,g,h,rfl⟩:=(b).form;refine me (bx 113 [I a.Wide,.slice f g h] d) ?_;rintro v10 j l ⟨i,rfl,e,k⟩;refine va (B false) (wln (sr (va (Qo i (0+1)) (vx (l1 fv (k 1 _ rfl)) (vx (ln 3 fv b.m) (vv (B ((a.Text.length:Int)==0)) (wln (W.ret ?_))))))));obtain rfl:=si H;exact r1 (qq j ⟨e,rfl⟩)
def iq (p0:List aD) (p1:Bool):Option (List aD):=
 (bL p1 (some (decide ((w64 ((p0.length:Int) - 1))≥0)))).bind fun l=>
 (bL l ((idx p0 (w64 ((p0.length:Int) - 1))).bind fun f=>
 (fU f).bind fun g=>
 some g)).bind fun b=>
 if b=true then
 (slc p0 0 (w64 ((p0.length:Int) - 1))).bind fun h=>
 some h
 else
 (cO (σ:=(List aD)) (τ:=(List aD)) (2000) (fun a=>
 (bL (!p1) (some (decide ((a.length:Int) > 0)))).bind fun c=>
 (bL c ((idx a (w64 ((a.length:Int) - 1))).bind fun i=>
 (fU i).bind fun j=>
 some j)).bind fun d=>
 if d=true then
 (slc a 0 (w64 ((a.length:Int) - 1))).bind fun k=>
 some (.inl (k))
 else
 some (.inr (a))) (p0)).bind fun e=>
 some e
theorem tf (S:Own c0 G F) (d:List aD) (f:Bool) {r:List aD} (p:Sl be c0 v1 d) (H:iq d f=some r): Calls prog 45 #[v1,B f] c0.w (aQ c0 fun c v=>∃y1,Own c G (F)∧v=y1∧Sl be c y1 r):=by
 unfold iq at H;refine en func45 rfl rfl (sr (va (Y) (wln (W.seq (sr (va (v1) (vx (ln 3 rm p) (vv (I (w64 ((d.length:Int) - 1))) (wln (W.seq (bn H fun c2 h3 H=>bn H fun T Z H=>W.join (Jn c0 fun c l=>Own c G (F)∧l= [(0,v1),(1,B f),(5,I (w64 ((d.length:Int) - 1))),(20,B T)]) ?_ ?_)))))))))))
 ·clear H;refine W.region (va (B f) ?_);rcases bo (f) with s | s
  ·have H6:=anT s h3;refine vb s (wa (I (w64 ((d.length:Int) - 1))) (wa (B (decide ((w64 ((d.length:Int) - 1))≥0))) ?_));obtain rfl:=si H6;refine va (B (decide ((w64 ((d.length:Int) - 1))≥0))) ?_;rcases bo (decide ((w64 ((d.length:Int) - 1))≥0)) with t | t
   ·have k:=anT t Z;refine vb t (wa (v1) (wa (I (w64 ((d.length:Int) - 1))) (wn (bn k fun b0 h9 k=>?_))));obtain ⟨u1,q0,k1⟩:=Sl.at p (bi h9);obtain ⟨v13,rfl,s0⟩:=q0;refine vx (ix rm p h9) (wn (vx (lN 113 k1) (wn (bn k fun d0 t0 k=>cl (pQ S b0 s0 t0) ?_))));rintro v21 k0 i2 ⟨h0,rfl⟩;obtain rfl:=si k;exact va (B d0) (wln (jn k0 ⟨h0,rfl⟩))
   obtain rfl:=anF t Z;exact vb t (pz (pz (ps (va (B false) (wln (jn c0 ⟨S,rfl⟩))))))
  obtain rfl:=anF s h3;refine vb s (pz (va (B false) ?_));have E:false=false:=rfl;obtain rfl:=anF E Z;exact vb E (pz (pz (ps (va (B false) (wln (jn c0 ⟨S,rfl⟩))))))
 rintro X w_ ⟨j,d2,_,rfl,i1,rfl,z,rfl⟩;refine nrm (cn H (fun u0 H=>?_) (fun u0 H=>?_))
 ·refine sr (va (v1) (va (I (w64 ((d.length:Int) - 1))) (bn H fun z1 w0 H=>?_)));obtain ⟨v31,x0,y0⟩:=nK (k':= .i64) rm (by kernel_rfl) (p.mono i1) w0;refine vr v31 (rx (by kernel_rfl) (x0 _)) (va (v31) (wln (W.ret (thr ?_))));obtain rfl:=si H;exact r1 (qq j ⟨v31,z,rfl,y0⟩)
 refine W.skip (nrm (W.seq (W.block (bn H fun x1 M y=>lp M (fun a=>Jn j fun c l=>∃v36,Own c G (F)∧l= [(0,v36),(1,B f)]∧Sl be c v36 a) (fun x ex e w=>ex= .exit 0∧(Jn j fun c l=>∃v37,Own c G (F)∧l= [(0,v37)]∧Sl be c v37 x) e w) ?_ ?_ ?_))))
 ·clear y M;intro a n2 o0 n1 H;revert o0 n1;rintro X w_ ⟨o,e2,_,rfl,j2,rfl,v36,n,rfl,b⟩;refine W.seq (W.seq (bn H fun t1 N H=>bn H fun U q H=>W.join (Jn o fun c l=>Own c G (F)∧l= [(0,v36),(1,B f),(39,B U)]) ?_ ?_))
  ·clear H;refine W.region (va (B f) (va (B (!f)) ?_));rcases bo (!f) with h | h
   ·have g0:=anT h N;refine vb h (wa (v36) (wn (vx (ln 3 rm b) (wa (B (decide ((a.length:Int) > 0))) ?_))));obtain rfl:=si g0;refine va (B (decide ((a.length:Int) > 0))) ?_;rcases bo (decide ((a.length:Int) > 0)) with i | i
    ·have g:=anT i q;refine vb i (wa (v36) (wa (v36) (wn (vx (ln 3 rm b) (wa (I (w64 ((a.length:Int) - 1))) (wn (bn g fun e0 P g=>?_)))))));obtain ⟨w1,z0,m1⟩:=Sl.at b (bi P);obtain ⟨v55,rfl,a1⟩:=z0;refine vx (ix rm b P) (wn (vx (lN 113 m1) (wn (bn g fun f0 b1 g=>cl (pQ n e0 a1 b1) ?_))));rintro m2 l0 k2 ⟨i0,rfl⟩;obtain rfl:=si g;exact va (B f0) (wln (jn l0 ⟨i0,rfl⟩))
    obtain rfl:=anF i q;exact vb i (pz (pz (pz (ps (va (B false) (wln (jn o ⟨n,rfl⟩)))))))
   obtain rfl:=anF h N;refine vb h (pz (ps (va (B false) ?_)));have R:false=false:=rfl;obtain rfl:=anF R q;exact vb R (pz (pz (pz (ps (va (B false) (wln (jn o ⟨n,rfl⟩)))))))
  rintro X w_ ⟨D,f2,_,rfl,j1,rfl,A,rfl⟩;refine nrm (cn H (fun c1 H=>?_) (fun c1 H=>?_))
  ·refine W.skip (nrm (W.block (W.region (vv (v36) (vx (ln 3 rm b.m) (va (I (w64 ((a.length:Int) - 1))) (bn H fun b2 d1 H=>?_)))))));obtain ⟨u,e1,f1⟩:=nK (k':= .i64) rm (by kernel_rfl) (b.mono j1) d1;refine vr u (rx (by kernel_rfl) (e1 _)) (va (u) (WL.nil (bkn ?_)));obtain rfl:=si H;exact ⟨_,rfl,jn D ⟨u,A,rfl,f1⟩⟩
  refine W.exit (thx ?_);obtain rfl:=si H;exact ⟨_,rfl,rfl,jn D ⟨v36,A,rfl,b.m⟩⟩
 ·exact jn j ⟨v1,z,rfl,p.m⟩
 rintro _ X w_ ⟨rfl,m0,g2,_,rfl,l2,rfl,v37,j0,rfl,g1⟩;refine bke (nrm (sr (vv (v37) (wln (W.ret ?_)))));obtain rfl:=si y;exact r1 (qq m0 ⟨v37,j0,rfl,g1⟩)
end Go.Proofs.YtidapncdmjppeaaGreatDoor
namespace Go.Proofs.YtidapncdmjppeaaGreatDoor
open Go Go.Lt
set_option maxRecDepth 10000
set_option linter.unusedVariables false
attribute [local irreducible] W WL AC
theorem sN {c:Cx} {g k:Nat} {e:En} (h:e.on c):Kp (fm G0 g k [e]) [] c:=fun i e' hi=>by
 rcases i with j | ⟨g',k',r⟩
 ·simp [at_] at hi
 ·simp only [at_,fm] at hi;split at hi
  ·cases r with
   | zero=>simp at hi; subst hi; exact h
   | succ r=>simp at hi
  ·simp [G0] at hi
def ee (sg:Sto) (p0:Option Nat) (p1:Bool):Option (Sto):=
 (p0).bind fun k_3=>
 (sg.reflow_breaker[k_3]?).bind fun o_5=>
 (dB (w64 (o_5.w - (o_5.line.length:Int)))).bind fun x_21=>
 (app o_5.line x_21).bind fun x_22=>
 (app o_5.out ([(⟨x_22,p1⟩:ah)]:List ah)).bind fun x_29=>
 (sg.set_reflow_breaker k_3 (⟨o_5.w,x_29,([]:List aa)⟩:bV)).bind fun s_37001=>
 some s_37001
theorem mh {c0:Cx} {G:Gm} {F:List En} {sg:Sto} {v1:Value} (O0:Own c0 G F) (R0:Rel c0 sg G) (p0:Option Nat) (p1:Bool) {r:Sto} (h2:Pt 8 c0 v1 p0) (H:ee sg p0 p1=some r): Calls Tryz.prog 48 #[v1,.bool p1] c0.w (aQ c0 fun c v=>∃G_:Gm,Own c G_ (F)∧Rel c r G_∧v= .tuple #[]):=by
 unfold ee at H;refine enter (l:=[v1,.bool p1]) Tryz.func48 rfl rfl rfl ?_;refine W.seq ?_;obtain ⟨k_3,h8,H⟩:=bs H;obtain ⟨b6,rfl,h7⟩:=h2.get h8;obtain ⟨o_5,h9,H⟩:=bs H;obtain ⟨v10,u11,v13,u14,h16,h12,h15⟩:=Rel.open_reflow_breaker R0 h9 h7;refine W.regionD [27] (Kp (fm G0 8 k_3 [⟨.pointer (some ⟨b6,0,none⟩),111,[.int .i64 o_5.w,v10,v13],0⟩]) []) O0 (by kernel_rfl) ?_;intro c3 l3 O4;have p5:(Kp (fm G0 8 k_3 [⟨.pointer (some ⟨b6,0,none⟩),111,[.int .i64 o_5.w,v10,v13],0⟩]) []) c3:=sN (O4.gon h16 0 rfl);refine ta 0 (.pointer (some ⟨b6,0,none⟩)) ?_;refine ta 1 (.pointer (some ⟨b6,0,none⟩)) ?_;refine ta 2 (.pointer (some ⟨b6,0,none⟩)) ?_;refine ta 3 (.pointer (some ⟨b6,1,none⟩)) ?_;refine AC.takeK 4 (v10) p5 rfl (by kernel_rfl) (by kernel_rfl) (by kernel_rfl) (fun c' hle hk=>(rx (by kernel_rfl) (my (j:=1) Tryz.underlying27 rfl (hk.gon (bC _ _ _ _) 0 rfl) rfl rfl))) ?_;refine ta 5 (.pointer (some ⟨b6,0,none⟩)) ?_;refine ta 6 (.pointer (some ⟨b6,0,none⟩)) ?_;refine ta 7 (.pointer (some ⟨b6,2,none⟩)) ?_;refine AC.takeK 8 (v13) p5 rfl (by kernel_rfl) (by kernel_rfl) (by kernel_rfl) (fun c' hle hk=>(rx (by kernel_rfl) (my (j:=2) Tryz.underlying37 rfl (hk.gon (bC _ _ _ _) 0 rfl) rfl rfl))) ?_;refine ta 9 (.pointer (some ⟨b6,0,none⟩)) ?_;refine ta 10 (.pointer (some ⟨b6,0,none⟩)) ?_;refine ta 11 (.pointer (some ⟨b6,0,none⟩)) ?_;refine AC.takeK 12 (.int .i64 o_5.w) p5 rfl (by kernel_rfl) (by kernel_rfl) (by kernel_rfl) (fun c' hle hk=>(rx (by kernel_rfl) (my (j:=0) Tryz.underlying3 rfl (hk.gon (bC _ _ _ _) 0 rfl) rfl rfl))) ?_;refine ta 13 (.pointer (some ⟨b6,0,none⟩)) ?_;refine ta 14 (.pointer (some ⟨b6,0,none⟩)) ?_;refine ta 15 (.pointer (some ⟨b6,2,none⟩)) ?_;refine AC.takeK 16 (v13) p5 rfl (by kernel_rfl) (by kernel_rfl) (by kernel_rfl) (fun c' hle hk=>(rx (by kernel_rfl) (my (j:=2) Tryz.underlying37 rfl (hk.gon (bC _ _ _ _) 0 rfl) rfl rfl))) ?_;refine AC.take 17 (.int .i64 (o_5.line.length:Int)) rfl (by kernel_rfl) (by kernel_rfl) (fun c' hle=>(rx (by kernel_rfl) (rB (ty:=3) Tryz.underlying37 (h15.mono l3) _))) ?_;refine ta 18 (.int .i64 (w64 (o_5.w - (o_5.line.length:Int)))) ?_;refine ta 21 (.bool p1) ?_;obtain ⟨x_21,h17,H⟩:=bs H;refine AC.one 19 (by kernel_rfl) (Go1.callP 19 rfl (by kernel_rfl) (by kernel_rfl) (by kernel_rfl) (gO O4 (w64 (o_5.w - (o_5.line.length:Int))) h17) ?_);rintro v18 c25 l25 ⟨_,u19,O22,rfl,h20⟩;have p27:(Kp (fm G0 8 k_3 [⟨.pointer (some ⟨b6,0,none⟩),111,[.int .i64 o_5.w,v10,v13],0⟩]) []) c25:=sN (O22.gon h16 0 rfl);refine ⟨.inr p27,?_⟩;obtain ⟨c30,h31,l30,O28,h29⟩:=O22.frz 0 rfl h20;have p32:(Kp (fm G0 8 k_3 [⟨.pointer (some ⟨b6,0,none⟩),111,[.int .i64 o_5.w,v10,v13],0⟩]) []) c30:=sN (O28.gon h16 0 rfl);refine AC.gh h31 l30 (fun _=>p32) ?_;obtain ⟨x_22,h33,H⟩:=bs H;have O34:=O28.borrow 2 h16 rfl;refine AC.one 20 (by kernel_rfl) (Go1.mem 20 rfl (by kernel_rfl) (by kernel_rfl) (Own.app (R:=am) (z:= .agg #[.int .i64 0,.slice none 0 0]) (by_:=32) (ty:=37) 0 O34 rfl (h15.mono (l3.trans (l25.trans l30))) h29 h33 Tryz.underlying37 (by kernel_rfl) rfl (by kernel_rfl) (by kernel_rfl)) ?_);rintro v39 c38 l38 ⟨u36,O35,h37⟩;have O40:=O35.giveB 2 rfl;have p41:(Kp (fm G0 8 k_3 [⟨.pointer (some ⟨b6,0,none⟩),111,[.int .i64 o_5.w,v10,v13],0⟩]) []) c38:=sN (O40.gon (bC _ _ _ _) 0 rfl);refine ⟨.inr p41,?_⟩;obtain ⟨a41,a42,a43,rfl⟩:=(h37).form;have O48:Own c38 (fm G 8 k_3 [⟨.pointer (some ⟨b6,0,none⟩),111,[.int .i64 o_5.w,v10,v13],0⟩,es false ay v10 39 u11 o_5.out,es false am (.slice a41 a42 a43) 36 u36 x_22]) _:=O40;have h53:=h37.sl (O48.gon (bC _ _ _ _) 2 rfl);refine ta 22 (.agg #[.slice a41 a42 a43,.bool p1]) ?_;refine AC.one 23 (by kernel_rfl) (Go1.mem 23 rfl (by kernel_rfl) (by kernel_rfl) (Own.sl (R:=ay) (E:=39) (ls:=[[.slice a41 a42 a43,.bool p1]]) (vs:=[.slice a41 a42 a43,.bool p1]) (xs:=([(⟨x_22,p1⟩:ah)]:List ah)) false O48 (aK _) rfl ⟨⟨(.slice a41 a42 a43),rfl,h53⟩,trivial⟩ (by kernel_rfl) (by kernel_rfl)) ?_);rintro v58 c57 l57 ⟨u55,O54,h56⟩;have p58:(Kp (fm G0 8 k_3 [⟨.pointer (some ⟨b6,0,none⟩),111,[.int .i64 o_5.w,v10,v13],0⟩]) []) c57:=sN (O54.gon (bC _ _ _ _) 0 rfl);refine ⟨.inr p58,?_⟩;have h60:=O54.slf 0 rfl h56;obtain ⟨x_29,h64,H⟩:=bs H;have O65:=O54.borrow 1 (bC _ _ _ _) rfl;refine AC.one 24 (by kernel_rfl) (Go1.mem 24 rfl (by kernel_rfl) (by kernel_rfl) (Own.app (R:=ay) (z:= .agg #[.slice none 0 0,.bool false]) (by_:=32) (ty:=27) 0 O65 rfl (h12.mono (l3.trans (l25.trans (l30.trans (l38.trans l57))))) h60 h64 Tryz.underlying27 (by kernel_rfl) rfl (by kernel_rfl) (by kernel_rfl)) ?_);rintro v70 c69 l69 ⟨u67,O66,h68⟩;have O71:=O66.giveB 1 rfl;have p71:(Kp (fm G0 8 k_3 [⟨.pointer (some ⟨b6,0,none⟩),111,[.int .i64 o_5.w,v10,v13],0⟩]) []) c69:=sN (O71.gon (bC _ _ _ _) 0 rfl);refine ⟨.inr p71,?_⟩;refine ta 25 (.pointer (some ⟨b6,0,none⟩)) ?_;refine ta 26 (.pointer (some ⟨b6,1,none⟩)) ?_;obtain ⟨a72,a73,a74,rfl⟩:=(h68).form;refine AC.one 27 (by kernel_rfl) (Go1.memD 27 rfl (by kernel_rfl) (by kernel_rfl) (Own.stGB (T:=27) (j:=1) (us:=[.slice a72 a73 a74]) (nw:=[.int .i64 o_5.w,.slice a72 a73 a74,v13]) (v:= .slice a72 a73 a74) 0 O71 (by kernel_rfl) rfl rfl rfl rfl (by kernel_rfl) ⟨(h68).one,trivial⟩ (by kernel_rfl) rfl) ?_);rintro c77 l77 O76;refine ⟨.inl rfl,?_⟩;refine AC.done (by kernel_rfl) ?_;refine nrm ?_;refine W.region ?_;refine va (.pointer (some ⟨b6,0,none⟩)) ?_;refine va (.pointer (some ⟨b6,0,none⟩)) ?_;refine va (.pointer (some ⟨b6,2,none⟩)) ?_;refine WL.memD rfl (Own.stG (T:=37) (j:=2) (us:=[.slice none 0 0]) (nw:=[.int .i64 o_5.w,.slice a72 a73 a74,.slice none 0 0]) (v:= .slice none 0 0) 0 O76 (by kernel_rfl) (bC _ _ _ _) rfl rfl rfl rfl (by kernel_rfl) ⟨rfl,trivial⟩ rfl rfl) ?_;rintro c89 l89 O85;have h88:OA am c89 (.slice none 0 0) [] []:=OA.nil (aK _);have O86:=O85.addHole (e:=es false am (.slice none 0 0) 36 [] []) rfl;have O87:=O86.giveB 2 rfl;obtain ⟨s_37001,h94,H⟩:=bs H;have O88:=O87;simp only [sF] at O88;obtain ⟨G90,O91,R92,h93,a95⟩:=Rel.put_reflow_breaker O88 (R0.mono (l3.trans (l25.trans (l30.trans (l38.trans (l57.trans ((l69.trans (l77.trans l89))))))))) (E':=[⟨.pointer (some ⟨b6,0,none⟩),111,[.int .i64 o_5.w,.slice a72 a73 a74,(.slice none 0 0)],0⟩,es false ay (.slice a72 a73 a74) 39 u67 x_29,es false am (.slice none 0 0) 36 [] ([]:List aa)]) h94 ⟨b6,(.slice a72 a73 a74),u67,(.slice none 0 0),[],((l3.trans (l25.trans (l30.trans (l38.trans (l57.trans ((l69.trans (l77.trans l89)))))))).t _ _ _ h7),rfl,(h68.mono (l77.trans l89)),h88⟩;refine WL.nil ?_;obtain rfl:=aq H;have O96:=O91.selD 2 [] (by kernel_rfl) (by kernel_rfl);exact GY rfl ⟨_,c89,rfl,rfl,(l3.trans (l25.trans (l30.trans (l38.trans (l57.trans ((l69.trans (l77.trans l89)))))))),G90,O96,R92,rfl⟩
end Go.Proofs.YtidapncdmjppeaaGreatDoor
namespace Go.Lt
open Go
set_option linter.unusedVariables false
variable {c c':Cx} {α:Type} {R:Rp α}
def NG (R:Rp α) (c:Cx) (cv:Value) (cvs:List Value) (cur:List α) (hv:Value) (hvs:List Value) (hs:List Value) (out:List (List α)):Prop:=
 OA R c cv cvs cur∧OA R_V c hv hvs hs∧((hs= []∧out= [])∨∃(h0:List Value) (gs:List (List α)),hs=h0++ [cv]∧out=gs++ [cur]∧h0.length=gs.length∧∀(i:Nat) (h:Value) (g:List α),h0[i]? = some h→gs[i]? = some g→Sl R c h g)
theorem NG.mono {cv hv:Value} {cvs hvs hs:List Value} {cur:List α} {out:List (List α)} (h:NG R c cv cvs cur hv hvs hs out) (k:c.le c'):NG R c' cv cvs cur hv hvs hs out:=
 ⟨h.1.mono k,h.2.1.mono k,h.2.2.imp id fun ⟨h0,gs,a,b,d,e⟩=>⟨h0,gs,a,b,d,fun i x g p q=>(e i x g p q).mono k⟩⟩
theorem NG.len {cv hv:Value} {cvs hvs hs:List Value} {cur:List α} {out:List (List α)} (h:NG R c cv cvs cur hv hvs hs out):hs.length=out.length:=by
 rcases h.2.2 with ⟨rfl,rfl⟩ | ⟨h0,gs,rfl,rfl,e,_⟩
 ·rfl
 ·rw [aj,aj,e];rfl
theorem NG.none0 (R:Rp α) (hR:0 < R.size) (c:Cx):NG R c (.slice none 0 0) [] [] (.slice none 0 0) [] [] []:=⟨OA.nil hR,OA.nil (aK _),.inl ⟨rfl,rfl⟩⟩
theorem NG.next {cv hv hv':Value} {cvs hvs hs hvs' hs':List Value} {cur:List α} {out out':List (List α)} (h:NG R c cv cvs cur hv hvs hs out) (k:c.le c') (hc:Sl R c' cv cur) (ho:app out ([[]]:List (List α))=some out') (hR:0 < R.size) (h1:hs'=hs++ [.slice none 0 0]) (hn:OA R_V c' hv' hvs' hs'):NG R c' (.slice none 0 0) [] [] hv' hvs' hs' out':=by
 have ho':out'=out++ [[]]:=by
  unfold app at ho;split at ho
  ·exact (aq ho).symm
  ·cases ho
 subst ho' h1;refine ⟨OA.nil hR,hn,.inr ?_⟩;rcases h.2.2 with ⟨rfl,rfl⟩ | ⟨h0,gs,rfl,rfl,e,f⟩
 ·exact ⟨[],[],rfl,rfl,rfl,fun i x g p=>by simp at p⟩
 ·refine ⟨h0++ [cv],gs++ [cur],rfl,rfl,by rw [aj,aj,e]; rfl,fun i x g p q=>?_⟩;rcases aL i h0.length with hi | hi
  ·rw [aB hi] at p;rw [aB (by omega)] at q;exact (f i x g p q).mono k
  ·rw [aG hi] at p;rw [aG (by omega)] at q;have hj:i - h0.length=0:=by
    by_cases h:i - h0.length=0
    ·exact h
    ·rw [aR (by simp; omega)] at p;cases p
   rw [hj] at p;rw [show i - gs.length=0 by omega] at q;cases p;cases q;exact hc
theorem Gk {cv hv:Value} {cvs hvs hs:List Value} {cur:List α} {out out':List (List α)} (h:NG R c cv cvs cur hv hvs hs out) (ho:app out ([[]]:List (List α))=some out') (v:Value):app hs [v]=some (hs++ [v]):=by
 unfold app at ho⊢;split at ho
 ·rename_i q
  rw [af (by rw [h.len]; exact q)]
 ·cases ho
theorem NG.last {cv hv:Value} {cvs hvs hs:List Value} {cur x:List α} {out:List (List α)} {m:Nat} (h:NG R c cv cvs cur hv hvs hs out) (hm:out.length=m) (hx:idx out (w64 ((m:Int) - 1))=some x):x=cur∧idx hs (w64 ((m:Int) - 1))=some cv∧(∀v,∃hs',jp hs (w64 ((m:Int) - 1)) v=some hs'∧
  ∀y out' c' cvs' hv' hvs',jp out (w64 ((m:Int) - 1)) y=some out'→c.le c'→OA R c' v cvs' y→OA R_V c' hv' hvs' hs'→NG R c' v cvs' y hv' hvs' hs' out'∧out'.length=m):=by
 have hl:=h.2.1.len_le;rw [h.len,hm] at hl;rcases h.2.2 with ⟨rfl,rfl⟩ | ⟨h0,gs,rfl,rfl,e,f⟩
 ·unfold idx at hx;split at hx
  ·simp at hx
  ·cases hx
 ·have hg:m=gs.length+1:=by rw [←hm]; simp
  subst hg;have hw:w64 (((gs.length+1:Nat):Int) - 1)=(gs.length:Int):=by
   have:(((gs.length+1:Nat):Int) - 1)=(gs.length:Int):=by omega
   rw [this];exact aN (by simp at hl; omega)
  rw [hw] at hx⊢;refine ⟨?_,?_,fun v=>⟨h0++ [v],?_,fun y out' c2 cvs' hv' hvs' hs2 k hc hh=>?_⟩⟩
  ·unfold idx at hx;rw [af (by omega),aZ,aG (ao _),dd] at hx;cases hx;rfl
  ·unfold idx;rw [af (by omega),aZ,aG (by omega),e,dd];rfl
  ·unfold jp;rw [af (by simp; omega),aZ,←e,dH _ _ (ao _),dd];rfl
  ·unfold jp at hs2;rw [af (by simp; omega),aZ,dH _ _ (ao _),dd] at hs2;cases hs2;exact ⟨⟨hc,hh,.inr ⟨h0,gs,rfl,rfl,e,fun i x g p q=>(f i x g p q).mono k⟩⟩,by simp⟩
theorem NG.all {cv hv:Value} {cvs hvs hs:List Value} {cur:List α} {out:List (List α)} (h:NG R c cv cvs cur hv hvs hs out) (k:c.le c') (hc:Sl R c' cv cur):OA (RL R) c' hv hvs out:=by
 refine ⟨aK _,?_,fun i x hx=>?_⟩
 ·rcases h.2.1.2.1 with ⟨e,e2⟩ | ⟨g,cap,e,h1,h2,h3⟩
  ·refine .inl ⟨e,bW ?_⟩;rw [←h.len,e2];rfl
  ·rw [h.len] at e h1;exact .inr ⟨g,cap,e,h1,h2,h3⟩
 ·have hi:i < hs.length:=by
   rw [h.len];exact (List.getElem?_eq_some_iff.1 hx).1
  obtain ⟨e,_⟩:=h.2.1.2.2 i hs[i] (ab hi);refine ⟨hs[i],e,?_⟩;rcases h.2.2 with ⟨_,rfl⟩ | ⟨h0,gs,rfl,rfl,el,f⟩
  ·cases hx
  ·rcases aL i h0.length with hj | hj
   ·rw [aB (by omega)] at hx;exact (f i _ x (by rw [rj hj]; exact ab hj) hx).mono k
   ·have hj2:i=h0.length:=by simp at hi; omega
    subst hj2;rw [aG (by omega),el,dd] at hx;cases hx;rw [qz (ao _)];simpa using hc
end Go.Lt
namespace Go.Proofs.YtidapncdmjppeaaGreatDoor
open Go Go.Lt
set_option maxRecDepth 10000
set_option linter.unusedVariables false
attribute [local irreducible] W WL AC
def jc (p0:List ah):Option ((List (List aD))×Er):=
 (cO (σ:=(List (List aD))×Bool×Int) (τ:=((List (List aD))×Er) ⊕ (List (List aD))) (((p0.length:Int) - 0).toNat+1) (fun s_13=>
 if (decide (s_13.2.2 < (p0.length:Int)))=true then
 (idx p0 s_13.2.2).bind fun x_17=>
 (lK x_17.Cells).bind fun x_25=>
 if (!x_25.2.isNil)=true then
 (jC s_13.2.2 x_25.2).bind fun x_37=>
 some (.inr (.inl (([]:List (List aD)),x_37)))
 else
 (if (!s_13.2.1)=true then
 (app s_13.1 ([[]]:List (List aD))).bind fun x_47=>
 some x_47
 else
 some s_13.1).bind fun z_41=>
 (bL x_17.Wrap (some (decide (s_13.2.2 < (w64 ((p0.length:Int) - 1)))))).bind fun d_53=>
 (idx z_41 (w64 ((z_41.length:Int) - 1))).bind fun x_71=>
 (iq x_25.1 d_53).bind fun x_76=>
 (app x_71 x_76).bind fun x_77=>
 (jp z_41 (w64 ((z_41.length:Int) - 1)) x_77).bind fun w_79=>
 some (.inl (w_79,d_53,(w64 (s_13.2.2+1))))
 else
 some (.inr (.inr (s_13.1)))) (([]:List (List aD)),false,0)).bind fun o_13=>
 match o_13 with
 | .inl o_13=>
 some o_13
 | .inr o_13=>
 some (o_13,Er.nil)
theorem vQ {c0:Cx} {G:Gm} {F:List En} {v1:Value} (O0:Own c0 G F) (hG:Gl [3] c0) (p0:List ah) {r:(List (List aD))×Er} (h2:Sl ay c0 v1 p0) (H:jc p0=some r): Calls Tryz.prog 18 #[v1] c0.w (aQ c0 fun c v=>∃y1:Value,∃y2:List Value,∃y3:Value,Own c G (es true (RL be) y1 64 y2 r.1 :: F)∧v= .tuple #[y1,y3]∧OA (RL be) c y1 y2 r.1∧RE 341 78 c y3 r.2):=by
 unfold jc at H;refine enter (l:=[v1]) Tryz.func18 rfl rfl rfl ?_;refine sr ?_;refine va (.slice none 0 0) ?_;refine va (.nilIface) ?_;refine wln ?_;refine sr ?_;refine va (.slice none 0 0) ?_;refine wln ?_;refine sr ?_;refine va (.bool false) ?_;refine wln ?_;refine W.seq ?_;refine sr ?_;refine va (v1) ?_;refine WL.val0 (v:= .int .i64 (p0.length:Int)) rfl (rx (by kernel_rfl) (qd (ty:=3) Tryz.underlying27 h2 _)) ?_;refine va (.int .i64 0) ?_;refine wln ?_;refine W.block ?_;obtain ⟨o_13,h3,H4⟩:=bs H;refine W.loop (σ:=(List (List aD))×Bool×Int) (τ:=((List (List aD))×Er) ⊕ (List (List aD))) (fun s_13=>fun e w=>∃(c:Cx) (g:Nat→Value) (v5:Value) (u6:List Value) (v7:Value) (u8:List Value) (cu0:List aD) (hs0:List Value),w=c.w∧c0.le c∧Own c G (es true be v5 113 u6 cu0 :: es true R_V v7 64 u8 hs0 :: F)∧e=ups g [(0,v1),(4,v7),(5,.bool s_13.2.1),(11,v1),(12,.int .i64 (p0.length:Int)),(13,.int .i64 s_13.2.2)]∧NG be c v5 u6 cu0 v7 u8 hs0 s_13.1) (fun t=>match t with | .inl x_=>(fun rr_ ex e w=>ex= .ret∧(fun e w=>∃(c:Cx) (g:Nat→Value) (v11:Value) (u12:List Value) (v13:Value),w=c.w∧c0.le c∧Own c G (es true (RL be) v11 64 u12 rr_.1 :: F)∧e=ups g [(2,v11),(3,v13)]∧OA (RL be) c v11 u12 rr_.1∧RE 341 78 c v13 rr_.2) e w) x_ | .inr x_=>(fun o_13_ ex e w=>ex= .exit 0∧(fun e w=>∃(c:Cx) (g:Nat→Value) (vc:Value) (uc:List Value) (v9:Value) (u10:List Value) (cu6:List aD) (hs6:List Value),w=c.w∧c0.le c∧Own c G (es true be vc 113 uc cu6 :: es true R_V v9 64 u10 hs6 :: F)∧e=ups g [(4,v9)]∧NG be c vc uc cu6 v9 u10 hs6 o_13_) e w) x_) ?_ h3 ?_ ?_
 ·clear H4 h3;intro s_13 xx_ ee_ ww_ H;revert ee_ ww_;rintro e_ w_ ⟨c14,g15,v5,u6,v7,u8,cu0,hs0,rfl,l14,O16,rfl,N0⟩;refine sr ?_;refine va (.bool (decide (s_13.2.2 < (p0.length:Int)))) ?_;refine wln ?_;refine W.seq ?_;refine W.cond (t:=decide (s_13.2.2 < (p0.length:Int))) (by kernel_rfl) (fun h22=>?_) (fun h22=>?_)
  ·have H:=it h22 H;refine W.skip ?_;refine nrm ?_;refine W.seq ?_;refine W.block ?_;refine sr ?_;refine va (.int .i64 s_13.2.2) ?_;obtain ⟨x_17,h23,H⟩:=bs H;obtain ⟨l_24,h25,m26⟩:=Sl.at (h2.mono l14) (bi h23);obtain ⟨v27,rfl,h28⟩:=h25;refine WL.val0 (v:= .pointer (some ⟨sb v1,so v1+s_13.2.2.toNat * 2,none⟩)) rfl (rx (by kernel_rfl) (jL (k:= .i64) Tryz.underlying27 (by kernel_rfl) (h2.mono l14) h23 _)) ?_;refine WL.val0 (v:= .agg #[v27,.bool x_17.Wrap]) rfl (rx (by kernel_rfl) (wm (T:=39) (by kernel_rfl) (by kernel_rfl) m26)) ?_;refine WL.mem rfl (Own.al (T:=39) (vs:=[.slice none 0 0,.bool false]) O16 (by kernel_rfl)) ?_;rintro v32 c31 l31 ⟨b29,rfl,O30⟩;refine va (.int .i64 s_13.2.2) ?_;obtain ⟨a33,a34,a35,rfl⟩:=((h28.mono l31)).form;refine WL.memD rfl (Own.st (T:=39) (j:=0) (us:=[.slice a33 a34 a35,.bool x_17.Wrap]) (nw:=[.slice a33 a34 a35,.bool x_17.Wrap]) (v:= .agg #[.slice a33 a34 a35,.bool x_17.Wrap]) 0 O30 (by kernel_rfl) rfl rfl rfl rfl (by kernel_rfl) ⟨(h28.mono l31).one,rfl,trivial⟩ rfl rfl) ?_;rintro c37 l37 O36;refine wln ?_;refine sr ?_;refine va (.pointer (some ⟨b29,0,none⟩)) ?_;refine WL.val0 (v:= .slice a33 a34 a35) rfl (rx (by kernel_rfl) (my (j:=0) Tryz.underlying37 rfl (O36.on 0 rfl) rfl rfl)) ?_;obtain ⟨x_25,h38,H⟩:=bs H;refine WL.callP rfl (by kernel_rfl) (zV O36 ((hG.mono (l14.trans (l31.trans l37))).le (by decide)) x_17.Cells (h28.mono (l31.trans l37)) h38) ?_;rintro v49 c48 l48 ⟨v39,u40,v42,O45,rfl,h41,h43⟩;refine va (.tuple #[v39,v42]) ?_;refine va (v39) ?_;refine va (v42) ?_;refine va (v39) ?_;refine va (v42) ?_;refine wln ?_;refine W.seq ?_;refine sr ?_;refine va (v42) ?_;refine WL.val0 (v:= .bool (!x_25.2.isNil)) rfl (by rcases (h43).cs with ⟨h1_,h2_⟩ | ⟨b_,h1_,h2_⟩ | ⟨b_,h1_,h2_⟩ <;> (subst h1_; rw [h2_]; kernel_rfl)) ?_;refine wln ?_;refine W.cond (t:= !x_25.2.isNil) (by kernel_rfl) (fun h50=>?_) (fun h50=>?_)
   ·have H:=it h50 H;refine sr ?_;refine va (.int .i64 s_13.2.2) ?_;refine va (v42) ?_;obtain ⟨x_37,h51,H⟩:=bs H;refine WL.callP rfl (by kernel_rfl) (kH O45 s_13.2.2 x_25.2 h43 h51) ?_;rintro v52 c58 l58 ⟨_,O55,rfl,h53⟩;refine va (.slice none 0 0) ?_;refine va (v52) ?_;refine wln ?_;refine W.ret ?_;refine thr ?_;refine bkr ?_;refine thr ?_;obtain rfl:=aq H;refine ⟨_,rfl,?_⟩;refine ⟨rfl,?_⟩;have h61:OA (RL be) c58 (.slice none 0 0) [] []:=OA.nil (aK _);have O60:=O55.addHole (e:=es true (RL be) (.slice none 0 0) 64 [] ([]:List (List aD))) rfl;have O62:=O60.selD 5 [0] (by kernel_rfl) (by kernel_rfl);exact ⟨c58,_,(.slice none 0 0),[],v52,rfl,(l14.trans (l31.trans (l37.trans (l48.trans l58)))),O62,cm ⟨rfl,rfl,trivial⟩,h61,h53⟩
   ·have H:=ie h50 H;refine W.skip ?_;refine nrm ?_;obtain ⟨z_41,H63,H64⟩:=bs H;refine W.seqJ (fun e w=>∃(c:Cx) (g:Nat→Value) (v65:Value) (u66:List Value) (v67:Value) (u68:List Value) (cu1:List aD) (hs1:List Value),w=c.w∧c48.le c∧Own c G (es true be v65 113 u66 cu1 :: es true R_V v67 64 u68 hs1 :: es true be v39 113 u40 x_25.1 :: ⟨.pointer (some ⟨b29,0,none⟩),39,[.slice a33 a34 a35,.bool x_17.Wrap],0⟩ :: F)∧e=ups g [(0,v1),(4,v67),(6,.int .i64 s_13.2.2),(7,.pointer (some ⟨b29,0,none⟩)),(8,v39),(11,v1),(12,.int .i64 (p0.length:Int)),(13,.int .i64 s_13.2.2)]∧NG be c v65 u66 cu1 v67 u68 hs1 z_41) ?_ ?_
    ·skip;refine sr ?_;refine va (.bool s_13.2.1) ?_;refine va (.bool (!s_13.2.1)) ?_;refine wln ?_;refine W.cond (t:= !s_13.2.1) (by kernel_rfl) (fun h69=>?_) (fun h69=>?_)
     ·have H63:=it h69 H63;refine W.region ?_;refine va (v7) ?_;refine WL.mem rfl (Own.sl (R:=R_V) (E:=64) (ls:=[[.slice none 0 0]]) (vs:=[.slice none 0 0]) (xs:=([.slice none 0 0]:List Value)) true O45 (aK _) rfl ⟨⟨rfl,rfl⟩,trivial⟩ (by kernel_rfl) (by kernel_rfl)) ?_;rintro v74 c73 l73 ⟨u71,O70,h72⟩;obtain ⟨c77,h78,l77,O75,h76⟩:=O70.frz 0 rfl h72;refine WL.gh h78 ?_;obtain ⟨x_47,h79,H63⟩:=bs H63;refine WL.mem rfl (Own.app (R:=R_V) (z:= .slice none 0 0) (by_:=24) (ty:=61) 4 O75 rfl (N0.2.1.mono (l31.trans (l37.trans (l48.trans (l73.trans l77))))) h76 (Gk N0 h79 _) Tryz.underlying61 (by kernel_rfl) rfl (by kernel_rfl) (by kernel_rfl)) ?_;rintro v84 c83 l83 ⟨u81,O80,h82⟩;obtain ⟨c60,e60,l60,O60,h60⟩:=O80.frz 3 rfl (N0.1.mono (l31.trans (l37.trans (l48.trans (l73.trans (l77.trans l83))))));refine WL.gh e60 ?_;refine va (v84) ?_;refine wln ?_;obtain rfl:=aq H63;have O85:=O60.addHole (e:=es true be (.slice none 0 0) 113 [] ([]:List aD)) rfl;have O87:=O85.selD 6 [0,5,2,3] (by kernel_rfl) (by kernel_rfl);exact ⟨c60,_,(.slice none 0 0),[],v84,u81,[],_,rfl,(l73.trans (l77.trans (l83.trans l60))),O87,cm ⟨rfl,rfl,rfl,rfl,rfl,rfl,rfl,rfl,trivial⟩,N0.next (l31.trans (l37.trans (l48.trans (l73.trans (l77.trans (l83.trans l60)))))) h60 h79 (aK _) rfl (h82.mono l60)⟩
     ·have H63:=ie h69 H63;refine W.skip ?_;refine nrm ?_;obtain rfl:=aq H63;have O88:=O45.selD 4 [2,3,0,1] (by kernel_rfl) (by kernel_rfl);exact ⟨c48,_,v5,u6,v7,u8,cu0,hs0,rfl,(Cx.le.refl _),O88,cm ⟨rfl,rfl,rfl,rfl,rfl,rfl,rfl,rfl,trivial⟩,N0.mono (l31.trans (l37.trans l48))⟩
    ·skip;rintro e_ w_ ⟨c89,g90,v65,u66,v67,u68,cu1,hs1,rfl,l89,O91,rfl,N1⟩;refine W.seq ?_;obtain ⟨d_53,h97,H64⟩:=bs H64;refine W.join (fun e w=>∃(c:Cx) (g:Nat→Value),w=c.w∧c89.le c∧Own c G (es true be v65 113 u66 cu1 :: es true R_V v67 64 u68 hs1 :: es true be v39 113 u40 x_25.1 :: ⟨.pointer (some ⟨b29,0,none⟩),39,[.slice a33 a34 a35,.bool x_17.Wrap],0⟩ :: F)∧e=ups g [(0,v1),(4,v67),(5,.bool d_53),(8,v39),(11,v1),(12,.int .i64 (p0.length:Int)),(13,.int .i64 s_13.2.2)]) ?_ ?_
     ·clear H64;refine W.region ?_;refine va (.pointer (some ⟨b29,1,none⟩)) ?_;refine WL.val0 (v:= .bool x_17.Wrap) rfl (rx (by kernel_rfl) (my (j:=1) Tryz.underlying4 rfl (O91.on 3 rfl) rfl rfl)) ?_;rcases fR (x_17.Wrap) with h98 | h98
      ·skip;have H99:=anT h98 h97;refine vb h98 ?_;refine wn ?_;refine va (.int .i64 s_13.2.2) ?_;refine wn ?_;refine va (v1) ?_;refine wn ?_;refine WL.val0 (v:= .int .i64 (p0.length:Int)) rfl (rx (by kernel_rfl) (qd (ty:=3) Tryz.underlying27 (h2.mono (l14.trans (l31.trans (l37.trans (l48.trans l89))))) _)) ?_;refine wn ?_;refine va (.int .i64 (w64 ((p0.length:Int) - 1))) ?_;refine wn ?_;refine va (.bool (decide (s_13.2.2 < (w64 ((p0.length:Int) - 1))))) ?_;obtain rfl:=aq H99;refine va (.bool (decide (s_13.2.2 < (w64 ((p0.length:Int) - 1))))) ?_;refine va (.bool (decide (s_13.2.2 < (w64 ((p0.length:Int) - 1))))) ?_;refine wln ?_;exact ⟨c89,_,rfl,(Cx.le.refl _),O91,cm ⟨rfl,rfl,rfl,rfl,rfl,rfl,rfl,trivial⟩⟩
      ·skip;obtain rfl:=anF h98 h97;refine vb h98 ?_;refine ps ?_;refine ps ?_;refine ps ?_;refine ps ?_;refine ps ?_;refine va (.bool false) ?_;refine va (.bool false) ?_;refine wln ?_;exact ⟨c89,_,rfl,(Cx.le.refl _),O91,cm ⟨rfl,rfl,rfl,rfl,rfl,rfl,rfl,trivial⟩⟩
     ·skip;rintro e_ w_ ⟨c100,g101,rfl,l100,O102,rfl⟩;refine nrm ?_;refine sr ?_;refine va (v67) ?_;refine WL.val0 (v:= .int .i64 (z_41.length:Int)) rfl (rx (by kernel_rfl) (by rw [←N1.len]; exact rB (ty:=3) Tryz.underlying61 (N1.2.1.mono l100) _)) ?_;refine va (.int .i64 (w64 ((z_41.length:Int) - 1))) ?_;refine va (.int .i64 (w64 ((z_41.length:Int) - 1))) ?_;refine wln ?_;refine W.regionD [11] (Kp G0 [es true R_V v67 64 u68 hs1]) O102 (by kernel_rfl) ?_;intro c106 l106 O107;have p108:Kp G0 [es true R_V v67 64 u68 hs1] c106:=(Kp.cons (O107.on 1 rfl) Kp.nil0);refine ta 0 (v67) ?_;refine ta 1 (.int .i64 (w64 ((z_41.length:Int) - 1))) ?_;refine ta 2 (v67) ?_;refine ta 3 (.int .i64 (w64 ((z_41.length:Int) - 1))) ?_;obtain ⟨x_71,h109,H64⟩:=bs H64;obtain ⟨rfl,i1,i2⟩:=N1.last rfl h109;have M1:=N1.2.1.mono (l100.trans l106);refine AC.take 4 (.pointer (some ⟨sb v67,(w64 ((z_41.length:Int) - 1)).toNat * 1,none⟩)) rfl (by kernel_rfl) (by kernel_rfl) (fun c' hle=>(rx (by kernel_rfl) (kn (k:= .i64) Tryz.underlying61 (by kernel_rfl) M1 i1 _))) ?_;obtain ⟨l_110,h111,m112⟩:=OA.at M1 i1;obtain ⟨rfl,_⟩:=h111;refine AC.takeK 5 (v65) p108 rfl (by kernel_rfl) (by kernel_rfl) (by kernel_rfl) (fun c' hle hk=>(rx (by kernel_rfl) (my Tryz.underlying64 rfl (hk.on 0 rfl) (M1.blk i1) (at1 (j:=0) m112 rfl)))) ?_;refine ta 6 (v39) ?_;refine ta 7 (.bool d_53) ?_;obtain ⟨c116,h117,l116,O114,h115⟩:=O107.frz 2 rfl (h41.mono (l89.trans (l100.trans l106)));have p118:Kp G0 [es true R_V v67 64 u68 hs1] c116:=(Kp.cons (O114.on 1 rfl) Kp.nil0);refine AC.gh h117 l116 (fun _=>p118) ?_;obtain ⟨x_77,h119,H64⟩:=bs H64;refine AC.one 8 (by kernel_rfl) (Go1.callP 8 rfl (by kernel_rfl) (by kernel_rfl) (by kernel_rfl) (tf O114 x_25.1 d_53 h115 h119) ?_);rintro v120 c126 l126 ⟨_,O123,rfl,h121⟩;have p128:Kp G0 [es true R_V v67 64 u68 hs1] c126:=(Kp.cons (O123.on 1 rfl) Kp.nil0);refine ⟨.inr p128,?_⟩;obtain ⟨x_78,h129,H64⟩:=bs H64;refine AC.one 9 (by kernel_rfl) (Go1.mem 9 rfl (by kernel_rfl) (by kernel_rfl) (Own.app (R:=be) (z:= .agg #[.int .i64 0,.slice none 0 0]) (by_:=32) (ty:=64) 0 O123 rfl (N1.1.mono (l100.trans (l106.trans (l116.trans l126)))) h121 h129 Tryz.underlying64 (by kernel_rfl) rfl (by kernel_rfl) (by kernel_rfl)) ?_);rintro v134 c133 l133 ⟨u131,O130,h132⟩;have p135:Kp G0 [es true R_V v67 64 u68 hs1] c133:=(Kp.cons (O130.on 1 rfl) Kp.nil0);refine ⟨.inr p135,?_⟩;have M2:=M1.mono (l116.trans (l126.trans l133));refine AC.take 10 (.pointer (some ⟨sb v67,(w64 ((z_41.length:Int) - 1)).toNat * 1,none⟩)) rfl (by kernel_rfl) (by kernel_rfl) (fun c' hle=>(rx (by kernel_rfl) (kn (k:= .i64) Tryz.underlying61 (by kernel_rfl) M2 i1 _))) ?_;obtain ⟨w_79,h136,H64⟩:=bs H64;obtain ⟨hs',s1,s2⟩:=i2 v134;have q180:=h132.one;obtain ⟨y1,y2,y3,rfl⟩:=h132.form;refine AC.one 11 (by kernel_rfl) (Go1.memD 11 rfl (by kernel_rfl) (by kernel_rfl) (Own.stW (R:=R_V) (T:=64) (us:=[.slice y1 y2 y3]) (x':= .slice y1 y2 y3) (u:= .slice y1 y2 y3) 1 O130 (by kernel_rfl) rfl M2 s1 rfl (by kernel_rfl) ⟨q180,trivial⟩ rfl ⟨rfl,q180⟩) ?_);rintro c140 l140 ⟨u138,O137,h139⟩;refine ⟨.inl rfl,?_⟩;refine AC.done (by kernel_rfl) ?_;refine bkn ?_;refine nrm ?_;refine W.region ?_;refine va (.int .i64 (w64 (s_13.2.2+1))) ?_;refine va (.int .i64 (w64 (s_13.2.2+1))) ?_;refine WL.nil ?_;obtain rfl:=aq H64;refine ⟨_,rfl,?_⟩;have O141:=O137.selD 4 [0,1] (by kernel_rfl) (by kernel_rfl);exact ⟨c140,_,_,u131,v67,u138,_,_,rfl,(l14.trans (l31.trans (l37.trans (l48.trans (l89.trans (l100.trans (l106.trans (l116.trans (l126.trans (l133.trans l140)))))))))),O141,cm ⟨rfl,rfl,rfl,rfl,rfl,rfl,trivial⟩,(s2 _ _ _ _ _ _ h136 (l100.trans (l106.trans (l116.trans (l126.trans (l133.trans l140))))) (h132.mono l140) h139).1⟩
  ·have H:=ie h22 H;refine W.exit ?_;refine thx ?_;obtain rfl:=aq H;refine ⟨_,rfl,rfl,?_⟩;exact ⟨c14,_,v5,u6,v7,u8,cu0,hs0,rfl,l14,O16,cm ⟨rfl,trivial⟩,N0⟩
 ·skip;have O137:=O0.addHole (e:=es true R_V (.slice none 0 0) 64 [] ([]:List Value)) rfl;have O139:=O137.addHole (e:=es true be (.slice none 0 0) 113 [] ([]:List aD)) rfl;exact ⟨c0,_,(.slice none 0 0),[],(.slice none 0 0),[],[],[],rfl,(Cx.le.refl _),O139,cm ⟨rfl,rfl,rfl,rfl,rfl,rfl,trivial⟩,NG.none0 _ (aK _) _⟩
 ·skip;rcases o_13 with o_13 | o_13
  ·skip;intro ex_; revert ex_;rintro _ e_ w_ ⟨rfl,c148,g149,v11,u12,v13,rfl,l148,O150,rfl,h151,h152⟩;refine bkr ?_;refine thr ?_;obtain rfl:=aq H4;exact FB (v:=v11) (v':=v13) rfl (by kernel_rfl) (by kernel_rfl) ⟨_,c148,rfl,rfl,l148,v11,u12,v13,O150,rfl,h151,h152⟩
  ·skip;rintro _ e_ w_ ⟨rfl,c156,g151,vc,uc,v9,u10,cu6,hs6,rfl,l156,O158,rfl,N6⟩;refine bke ?_;refine nrm ?_;refine sr ?_;obtain ⟨c70,e70,l70,O70,h70⟩:=O158.frz 0 rfl N6.1;have O71:=O70.tail;refine WL.gh e70 ?_;refine va (v9) ?_;refine va (v9) ?_;refine va (.nilIface) ?_;refine wln ?_;refine W.ret ?_;obtain rfl:=aq H4;have hl:hs6.length=o_13.length:=N6.len;have O72:Own c70 G (es true (RL be) v9 64 u10 o_13 :: F):=O71;exact FB (v:=v9) (v':= .nilIface) rfl (by kernel_rfl) (by kernel_rfl) ⟨_,c70,rfl,rfl,(l156.trans l70),v9,u10,.nilIface,O72,rfl,N6.all l70 h70,rfl⟩
end Go.Proofs.YtidapncdmjppeaaGreatDoor
namespace Go.Proofs.YtidapncdmjppeaaGreatDoor
open Go Go.Lt
set_option maxRecDepth 10000
set_option linter.unusedVariables false
attribute [local irreducible] W WL AC
open Tryz
variable {c0:Cx} {G:Gm} {F:List En} {sg:Sto} {v1 v2 v3 v4 v5 v6 v7 v8 v9 v10 v11 v12 v13 v14 v15 v16 v17 v18 v19 v20 v21 v22 v23 v24 v25 v26 v27 v28 v29 v30 v31 v32 v33 v34 v35 v36 v37 v38 v39 v40 v41 v42 v43 v44 v45 v46 v47 v48 v49 v50 v51 v52 v53 v54 v55 v56 v57 v58 v59 v60:Value}
def jZ (p0:aD):Option (Bool):=
 if ((p0.Text.length:Int)==0)=true then
 some (p0.Wide==1)
 else
 (bL (p0.Wide != 1) (some (p0.Wide != 2))).bind fun a=>
 if a=true then
 some false
 else
 (gK (⟨1,p0.Text⟩:aa)).bind fun b=>
 some b
theorem vR (D:Own c0 G F) (a:aD) {r:Bool} (k:Sl (RI .i32) c0 v1 a.Text) (H:jZ a=some r): Calls prog 46 #[.agg #[I a.Wide,v1]] c0.w (aQ c0 fun c v=>Own c G (F)∧v=B r):=by
 unfold jZ at H;refine en func46 rfl rfl (sr ?_);obtain ⟨q,s,t,rfl⟩:=(k).form;refine me (bx 113 [I a.Wide,.slice q s t] D) ?_;rintro v10 f R ⟨d,rfl,i,e⟩;refine va (B false) (wln (W.seq (W.block (sr (va (Qo d (0+1)) (vx (l1 fv (e 1 _ rfl)) (vx (ln 3 fv k.m) (vv (B ((a.Text.length:Int)==0)) (wln (cn H (fun y H=>?_) (fun y H=>?_)))))))))))
 ·refine sr (va (Q d) (vx (l1 u_3 (e 0 _ rfl)) (vv (B (a.Wide==1)) (wln (W.ret (bkr (thr ?_)))))));obtain rfl:=si H;exact r1 (qq f ⟨i,rfl⟩)
 refine W.seq (bn H fun j h H=>W.join (Jn f fun c l=>Own c G (F)∧l= [(1,Q d),(11,B j)]) ?_ ?_)
 ·clear H;refine W.region (va (Q d) (vx (l1 u_3 (e 0 _ rfl)) (va (B (a.Wide != 1)) ?_)));rcases bo (a.Wide != 1) with b | b
  ·have o:=anT b h;refine vb b (wa (Q d) (wn (vx (l1 u_3 (e 0 _ rfl)) (wa (B (a.Wide != 2)) ?_))));obtain rfl:=si o;exact vv (B (a.Wide != 2)) (wln (jn f ⟨i,rfl⟩))
  obtain rfl:=anF b h;exact vb b (pz (ps (vv (B false) (wln (jn f ⟨i,rfl⟩)))))
 rintro P S ⟨u,E,_,rfl,M,rfl,g,rfl⟩;refine nrm (cn H (fun z H=>?_) (fun z H=>?_))
 ·refine sr (va (B false) (wln (W.ret (bkr (thr ?_)))));obtain rfl:=si H;exact r1 (qq u ⟨g,rfl⟩)
 refine W.skip (bkn (nrm (sr (va (Qo d (0+1)) (vx (l1 fv ((mm e) 1 _ rfl)) (va (.agg #[I 1,.slice q s t]) (bn H fun n A H=>cl (oI g (⟨1,a.Text⟩:aa) k.m A) ?_)))))));rintro v28 x N ⟨p,rfl⟩;refine va (B n) (wln (W.ret ?_));obtain rfl:=si H;exact r1 (qq x ⟨p,rfl⟩)
def fa (sg:Sto) (p0:Option Nat) (p1:aD):Option (Sto):=
 (kG p1.Wide p1.Text).bind fun g=>
 ((p0).bind fun h=>
 (sg.reflow_breaker[h]?).bind fun j=>
 if (decide ((g.length:Int) > j.w))=true then
 (kG 1 ([65533]:List Int)).bind fun k=>
 some (k)
 else
 some (g)).bind fun e=>
 ((p0).bind fun i=>
 (sg.reflow_breaker[i]?).bind fun d=>
 if (decide ((e.length:Int) > (w64 (d.w - (d.line.length:Int)))))=true then
 (ee sg p0 true).bind fun l=>
 some (l)
 else
 some (sg)).bind fun f=>
 (p0).bind fun c=>
 (f.reflow_breaker[c]?).bind fun a=>
 (app a.line e).bind fun m=>
 (f.set_reflow_breaker c (⟨a.w,a.out,m⟩:bV)).bind fun b=>
 some b
theorem pP (O0:Own c0 G F) (U:Rel c0 sg G) (p0:Option Nat) (y:aD) {r:Sto} (X:Pt 8 c0 v1 p0) (h4:Sl (RI .i32) c0 v3 y.Text) (H:fa sg p0 y=some r): Calls prog 47 #[v1,.agg #[I y.Wide,v3]] c0.w (aQ c0 fun c v=>∃G_:Gm,Own c G_ (F)∧Rel c r G_∧v= .tuple #[]):=by
 unfold fa at H;refine en func47 rfl rfl (sr ?_);obtain ⟨a5,a6,a7,rfl⟩:=(h4).form;refine me (bx 113 [I y.Wide,.slice a5 a6 a7] O0) ?_;rintro v12 b4 p ⟨b8,rfl,O9,l0⟩;refine wln (sr (va (Q b8) (vx (l1 u_3 (l0 0 _ rfl)) (va (Qo b8 (0+1)) (vx (l1 fv (l0 1 _ rfl)) (bn H fun e3 g2 H=>cl (tq O9 y.Wide y.Text h4.m g2) ?_))))));rintro v14 d0 q ⟨_,c3,z,rfl,f0⟩;refine va (v14) (wln (bn H fun o a s1=>W.seqJ (Jn d0 fun c l=>∃v25 x,Own c G (es true am v25 36 x o :: F)∧l= [(0,v1),(4,v25)]∧OA am c v25 x o) ?_ ?_))
 ·refine sr (va (v14) (vx (lnO 3 cC f0) (va (v1) (bn a fun p3 j2 a=>?_))));obtain ⟨b0,rfl,i2⟩:=((X.mono (p.trans q))).get j2;refine vv (Q b0) (bn a fun i1 k2 a=>?_);obtain ⟨v31,p4,v34,q4,l2,i4,j4⟩:=Rel.open_reflow_breaker (U.mono (p.trans q)) k2 i2;refine vx (le1 0 u_3 (z.gon l2 0 rfl)) (va (B (decide ((e3.length:Int) > i1.w))) (wln (cn a (fun m2 a=>?_) (fun m2 a=>?_))))
  ·refine W.region (me (sl (RI .i32) 21 [[J 65533]] ([65533]:List Int) z ⟨rfl,trivial⟩) ?_);rintro v43 c4 l4 ⟨r4,t1,o2⟩;obtain ⟨d4,q2,m4,u1,p2⟩:=t1.frz 0 rfl o2;refine WL.gh q2 (bn a fun y3 s2 a=>cl (tq u1 1 ([65533]:List Int) p2 s2) ?_);rintro v49 d2 n4 ⟨_,d3,w1,rfl,t2⟩;refine va (v49) (wln ?_);obtain rfl:=si a;have x1:=w1.sD 3 [0];exact jn d2 ⟨v49,d3,x1,rfl,t2⟩
  refine W.skip (nrm ?_);obtain rfl:=si a;exact jn d0 ⟨v14,c3,z,rfl,f0⟩
 rintro e_ w_ ⟨e2,f4,_,rfl,P,rfl,v25,x,y1,rfl,g0⟩;refine bn s1 fun m1 b d=>W.seqJ (Jn e2 fun c l=>∃G_,Own c G_ (es true am v25 36 x o :: F)∧l= [(0,v1),(4,v25)]∧Rel c m1 G_) ?_ ?_
 ·refine W.seq (rD [] (Kp G []) y1 ?_);intro e0 j0 A;have m0:Kp G [] e0:=(Kp.nil A);refine ta 0 (v25) (tx 1 (fun c' E=>lnO 3 cC g0.m) (ta 2 (v1) (bn b fun q3 v2 b=>?_)));obtain ⟨h,rfl,u2⟩:=((X.mono (p.trans (q.trans (P.trans j0))))).get v2;refine ta 3 (Q h) (ta 4 (Q h) (bn b fun k w2 b=>?_));obtain ⟨u4,s4,v4,t4,h0,k4,x2⟩:=Rel.open_reflow_breaker (U.mono (p.trans (q.trans (P.trans j0)))) w2 u2;refine tkx 5 m0 (fun c' E hk=>le1 0 u_3 (hk.gon h0 0 rfl)) (ta 6 (Q h) (ta 7 (Q h) (ta 8 (Qo h 2) (tkx 9 m0 (fun c' E hk=>le1 2 cC (hk.gon h0 0 rfl)) (tx 10 (fun c' E=>lnO 3 cC x2) (ta 11 (I (w64 (k.w - (k.line.length:Int)))) (ta 12 (B (decide ((o.length:Int) > (w64 (k.w - (k.line.length:Int)))))) (dn (nrm (cn b (fun y2 b=>?_) (fun y2 b=>?_)))))))))))
  ·refine W.region (va (Q h) (bn b fun z3 z2 b=>cl (mh A U.m p0 true X.m z2) ?_));rintro w4 f2 o4 ⟨q1,z1,b2,rfl⟩;refine wln ?_;obtain rfl:=si b;exact jn f2 ⟨q1,z1,rfl,b2⟩
  refine W.skip (nrm ?_);obtain rfl:=si b;exact jn e0 ⟨G,A,rfl,U.m⟩
 rintro e_ w_ ⟨e4,g4,_,rfl,k0,rfl,a4,Z,rfl,a0⟩;refine W.region (vv (v1) (bn d fun s3 a3 d=>?_));obtain ⟨i,rfl,i0⟩:=((X.mono (p.trans (q.trans (P.trans k0))))).get a3;refine va (Q i) (va (Qo i 2) (bn d fun u b3 d=>?_));obtain ⟨n,R,u3,t3,D,b1,c1⟩:=Rel.open_reflow_breaker a0 b3 i0;refine vx (le1 2 cC (Z.gon D 0 rfl)) (va (v25) ?_);obtain ⟨l3,e1,M,q0,d1⟩:=Z.frz 0 rfl (g0.mono k0);refine WL.gh e1 (bn d fun k1 f1 d=>?_);have s0:=q0.borrow 2 D rfl;refine me (ap am (.agg #[I 0,Y]) 32 37 0 s0 c1.m d1 f1 cC) ?_;rintro w3 m3 N ⟨S,t0,s⟩;have u0:=t0.giveB 2 rfl;refine va (Q i) (va (Qo i 2) ?_);obtain ⟨e,f,g,rfl⟩:=(s).form;refine md (Own.stGB (T:=37) (j:=2) (us:=[.slice e f g]) (nw:=[I u.w,n,.slice e f g]) (v:= .slice e f g) 0 u0 (by kernel_rfl) rfl rfl rfl rfl (by kernel_rfl) ⟨(s).one,trivial⟩ (by kernel_rfl) rfl) ?_;rintro a1 t v0;refine bn d fun n1 g1 d=>?_;obtain ⟨o0,w0,y0,o3,h3⟩:=Rel.put_reflow_breaker v0 (a0.mono (M.trans (N.trans t))) (E':=[(Eb i 111 [I u.w,n,.slice e f g]),es false ay n 39 R u.out,es false am (.slice e f g) 36 S k1]) g1 ⟨i,n,R,(.slice e f g),S,(tm i0),rfl,(b1.mono (M.trans (N.trans t))),(s.mono t)⟩;refine WL.nil ?_;obtain rfl:=si d;have x0:=w0.sD 1 [];exact n0 (qq a1 ⟨o0,x0,y0,rfl⟩)
def iu (sg:Sto) (p0:List aD) (p1:Int):Option (Sto×(List ah)×Er):=
 (some (sg.add_reflow_breaker (⟨(aW 1 (aO p1 1024)),([]:List ah),([]:List aa)⟩:bV))).bind fun c=>
 (cO (σ:=Int×Sto) (τ:=(Sto×(List ah)×Er) ⊕ Sto) (((p0.length:Int) - 0).toNat+1) (fun a=>
 if (decide (a.1 < (p0.length:Int)))=true then
 (idx p0 a.1).bind fun d=>
 (jZ d).bind fun g=>
 if (!g)=true then
 (jC a.1 (Er.sent 3)).bind fun h=>
 some (.inr (.inl (a.2,([]:List ah),h)))
 else
 (fa a.2 (some sg.reflow_breaker.length) d).bind fun i=>
 some (.inl ((w64 (a.1+1)),i))
 else
 some (.inr (.inr (a.2)))) (0,c)).bind fun b=>
 match b with
 | .inl b=>
 some b
 | .inr b=>
 (ee b (some sg.reflow_breaker.length) false).bind fun e=>
 (e.reflow_breaker[sg.reflow_breaker.length]?).bind fun f=>
 some (e,f.out,Er.nil)
theorem vn (O0:Own c0 G F) (R0:Rel c0 sg G) (hG:Gl [3] c0) (N:List aD) (h:Int) {r:Sto×(List ah)×Er} (h2:Sl be c0 v1 N) (H:iu sg N h=some r): Calls prog 19 #[v1,I h] c0.w (aQ c0 fun c v=>∃y1 y2,∃G_:Gm,Own c G_ (F)∧Rel c r.1 G_∧v= .tuple #[y1,y2]∧Sl ay c y1 r.2.1∧RE 341 78 c y2 r.2.2):=by
 unfold iu at H;refine en func19 rfl rfl (sr (va (Y) (va (.nilIface) (wln (sr (va (I h) (va (I (aO h 1024)) (va (I (aW 1 (aO h 1024))) (va (.agg #[I (aW 1 (aO h 1024)),Y,Y]) ?_)))))))));have h4:OA ay c0 (Y) [] []:=OA.nil (aK _);have O3:=O0.addHole (e:=es false ay (Y) 39 [] ([]:List ah)) rfl;have h6:OA am c0 (Y) [] []:=OA.nil (aK _);have O5:=O3.addHole (e:=es false am (Y) 36 [] ([]:List aa)) rfl;refine me (al 111 [I (aW 1 (aO h 1024)),(Y),(Y)] O5) ?_;rintro v10 c9 z ⟨d,rfl,O8⟩;have u0:=O8.sD 3 [0,2,1];refine bn H fun m2 s1 H=>?_;obtain ⟨i,o0,t1,e0,X,v0,T,u3,v3,k3⟩:=Rel.new_reflow_breaker (E:=[(Eb d 111 [I (aW 1 (aO h 1024)),(Y),(Y)]),es false ay (Y) 39 [] ([]:List ah),es false am (Y) 36 [] ([]:List aa)]) (F:=F) (x:=(⟨(aW 1 (aO h 1024)),([]:List ah),([]:List aa)⟩:bV)) (b:=d) u0 (R0.mono z) (fun c_ hle_=>⟨d,(Y),[],(Y),[],rfl,rfl,((h4.mono z).mono hle_),((h6.mono z).mono hle_)⟩);rw [aq s1] at T;refine WL.gh t1.1 ?_;have Z:Pt 8 i (Q d) (some sg.reflow_breaker.length):=⟨d,rfl,X⟩;refine va (Q d) (wln (W.seq (sr (va (v1) (vx (ln 3 rm h2.m) (va (I 0) (wln (W.block (bn H fun j a0 f=>lp a0 (fun a=>Jn i fun c l=>∃G_,Own c G_ (F)∧l= [(6,Q d),(14,v1),(15,I (N.length:Int)),(16,I a.1)]∧Rel c a.2 G_) (fun t=>match t with | .inl x_=>(fun A ex e w=>ex= .ret∧(Jn i fun c l=>∃v26 v27 G_,Own c G_ (F)∧l= [(4,v26),(5,v27)]∧Rel c A.1 G_∧Sl ay c v26 A.2.1∧RE 341 78 c v27 A.2.2) e w) x_ | .inr x_=>(fun M ex e w=>ex= .exit 0∧(Jn i fun c l=>∃G_,Own c G_ (F)∧l= [(6,Q d)]∧Rel c M G_) e w) x_) ?_ ?_ ?_)))))))))
 ·clear f a0;intro a d4 n1 o2 H;revert n1 o2;rintro e_ w_ ⟨g1,q3,_,rfl,f0,rfl,P,R,rfl,p⟩;refine sr (va (B (decide (a.1 < (N.length:Int)))) (wln (W.seq (cn H (fun u1 H=>?_) (fun u1 H=>?_)))))
  ·refine W.skip (nrm (W.seq (W.block (sr (va (I a.1) (bn H fun g b0 H=>?_))))));obtain ⟨b3,w1,l2⟩:=Sl.at (h2.mono (z.trans (e0.trans f0))) (bi b0);obtain ⟨v39,rfl,k⟩:=w1;refine vx (ix rm h2.m b0) (vx (lN 113 l2) (me (al 113 [I 0,Y] R) ?_));rintro v44 m3 g0 ⟨l3,rfl,w0⟩;refine va (I a.1) ?_;obtain ⟨q,s,u,rfl⟩:=((k.mono g0)).form;refine md (sA 113 [I g.Wide,.slice q s u] 0 w0 ⟨rfl,k.m.one,trivial⟩) ?_;rintro n3 j2 S;refine wln (W.seq (sr (vx (leN 113 0 [I g.Wide,.slice q s u] (S.on 0 rfl)) (bn H fun m0 x1 H=>cl (vR S g k.m x1) ?_))));rintro v56 o3 k2 ⟨n,rfl⟩;refine va (B (!m0)) (wln (cn H (fun z1 H=>?_) (fun z1 H=>?_)))
   ·refine sr (va (I a.1) ?_);obtain ⟨v58,d0⟩:=(hG.mono (z.trans (e0.trans (f0.trans (g0.trans (j2.trans k2)))))).get 3 (by decide);refine vx (l1 pg d0.im) (bn H fun g3 b2 H=>cl (kH n a.1 (Er.sent 3) d0 b2) ?_);rintro h0 h1 w3 ⟨_,x0,rfl,c2⟩;refine va (Y) (va (h0) (wln (W.ret (thr (bkr (thr ?_))))));obtain rfl:=si H;refine ⟨_,rfl,⟨rfl,?_⟩⟩;have y0:=x0.sD 1 [];exact jn h1 ⟨(Y),h0,P,y0,rfl,p.m,(Sl.nl _ _),c2⟩
   refine W.skip (nrm (W.region (va (Q d) (vx (leN 113 0 [I g.Wide,.slice q s u] (n.on 0 rfl)) (bn H fun h3 d2 H=>cl (pP n p.m (some sg.reflow_breaker.length) g Z.m k.m d2) ?_)))));rintro b4 i1 x3 ⟨q0,z0,d1,rfl⟩;refine WL.nil (bkn (nrm (W.region (vv (I (w64 (a.1+1))) (WL.nil ?_)))));obtain rfl:=si H;refine ⟨_,rfl,?_⟩;have a1:=z0.sD 1 [];exact jn i1 ⟨q0,a1,rfl,d1⟩
  refine W.exit (thx ?_);obtain rfl:=si H;exact ⟨_,rfl,rfl,jn g1 ⟨P,R,rfl,p⟩⟩
 ·exact jn i ⟨o0,v0,rfl,T⟩
 rcases j with j | j
 ·intro q1; revert q1;rintro _ e_ w_ ⟨rfl,j1,s3,_,rfl,y3,rfl,v26,v27,s0,b1,rfl,e1,e2,f2⟩;refine bkr (thr ?_);obtain rfl:=si f;exact r2 (qq j1 ⟨v26,v27,s0,b1,e1,rfl,e2,f2⟩)
 rintro _ e_ w_ ⟨rfl,p3,t3,_,rfl,z3,rfl,j3,c1,rfl,f1⟩;refine bke (nrm (sr (va (Q d) (bn f fun i3 g2 f=>cl (mh c1 f1 (some sg.reflow_breaker.length) false Z.m g2) ?_))));rintro c4 k1 a4 ⟨t0,o,U,rfl⟩;refine wln (sr (vv (Q d) (va (Qo d 1) (bn f fun c3 i2 f=>?_))));obtain ⟨D,d3,f3,e3,y,i0,x2⟩:=Rel.open_reflow_breaker U i2 (tm X);refine vx (le1 1 jS (o.gon y 0 rfl)) (va (D) (va (.nilIface) (wln (W.ret ?_))));obtain rfl:=si f;have j0:=i0.sl (o.gon y 1 rfl);exact r2 (qq k1 ⟨D,.nilIface,t0,o,U,rfl,j0,rfl⟩)
def ir (sg:Sto) (p0:List ah) (p1:Int):Option (Sto×(List ah)×Er):=
 (jc p0).bind fun d=>
 if (!d.2.isNil)=true then
 some (sg,([]:List ah),d.2)
 else
 (cO (σ:=(List ah)×Int×Sto) (τ:=(Sto×(List ah)×Er) ⊕ ((List ah)×Sto)) (((d.1.length:Int) - 0).toNat+1) (fun a=>
 if (decide (a.2.1 < (d.1.length:Int)))=true then
 (idx d.1 a.2.1).bind fun e=>
 (iu a.2.2 e p1).bind fun c=>
 if (!c.2.2.isNil)=true then
 some (.inr (.inl (c.1,([]:List ah),c.2.2)))
 else
 (app a.1 c.2.1).bind fun f=>
 some (.inl (f,(w64 (a.2.1+1)),c.1))
 else
 some (.inr (.inr (a.1,a.2.2)))) (([]:List ah),0,sg)).bind fun b=>
 match b with
 | .inl b=>
 some b
 | .inr b=>
 some (b.2,b.1,Er.nil)
theorem vm (O0:Own c0 G F) (R0:Rel c0 sg G) (hG:Gl [3] c0) (X:List ah) (x:Int) {r:Sto×(List ah)×Er} (h2:Sl ay c0 v1 X) (H:ir sg X x=some r): Calls prog 8 #[v1,I x] c0.w (aQ c0 fun c v=>∃y1 y2 y3,∃G_:Gm,Own c G_ (es true ay y1 39 y2 r.2.1 :: F)∧Rel c r.1 G_∧v= .tuple #[y1,y3]∧OA ay c y1 y2 r.2.1∧RE 341 78 c y3 r.2.2):=by
 unfold ir at H;refine en func8 rfl rfl (sr (va (Y) (va (.nilIface) (wln (sr (va (v1) (bn H fun h h3 H=>cl (vQ O0 (hG.le (by decide)) X h2 h3) ?_)))))));rintro v14 b s2 ⟨v4,u5,v7,A,rfl,y,h8⟩;refine va (.tuple #[v4,v7]) (va (v4) (va (v7) (va (v4) (va (v7) (wln (W.seq (sr (va (v7) (vr (B (!h.2.isNil)) (by rcases (h8).cs with ⟨d,f⟩ | ⟨U,d,f⟩ | ⟨U,d,f⟩ <;> (subst d; rw [f]; kernel_rfl)) (wln (cn H (fun d1 H=>?_) (fun d1 H=>?_))))))))))))
 ·refine sr (va (v7) (va (Y) (va (v7) (wln (W.ret (thr ?_))))));obtain rfl:=si H;have e1:OA ay b (Y) [] []:=OA.nil (aK _);have h0:=A.addHole (e:=es true ay (Y) 39 [] ([]:List ah)) rfl;have i0:=h0.sD 2 [0];exact r2 (qq b ⟨(Y),[],v7,G,i0,R0.m,rfl,e1,h8⟩)
 refine W.skip (nrm (sr (va (Y) (wln (W.seq (sr (va (v4) (vx (lnO 3 underlying61 y) (va (I 0) (wln (W.block (bn H fun i P q=>lp P (fun a=>Jn b fun c l=>∃v21 n G_,Own c G_ (es true ay v21 39 n a.1 :: es true (RL be) v4 64 u5 h.1 :: F)∧l= [(1,I x),(8,v21),(21,v4),(22,I (h.1.length:Int)),(23,I a.2.1)]∧Rel c a.2.2 G_∧OA ay c v21 n a.1) (fun t=>match t with | .inl Z=>(fun k ex e w=>ex= .ret∧(Jn b fun c l=>∃v25 p v27 G_,Own c G_ (es true ay v25 39 p k.2.1 :: F)∧l= [(4,v25),(5,v27)]∧Rel c k.1 G_∧OA ay c v25 p k.2.1∧RE 341 78 c v27 k.2.2) e w) Z | .inr Z=>(fun g ex e w=>ex= .exit 0∧(Jn b fun c l=>∃v23 o G_,Own c G_ (es true ay v23 39 o g.1 :: es true (RL be) v4 64 u5 h.1 :: F)∧l= [(8,v23)]∧Rel c g.2 G_∧OA ay c v23 o g.1) e w) Z) ?_ ?_ ?_))))))))))))
 ·clear q P;intro a x2 b1 f2 H;revert b1 f2;rintro e_ w_ ⟨w0,o2,_,rfl,z1,rfl,v21,n,e0,s,rfl,E,R⟩;refine sr (va (B (decide (a.2.1 < (h.1.length:Int)))) (wln (W.seq (cn H (fun f1 H=>?_) (fun f1 H=>?_)))))
  ·refine W.skip (nrm (W.seq (W.block (sr (bn H fun a0 u H=>vx (ixO underlying61 y.m u) ?_)))));obtain ⟨m2,g1,b2⟩:=OA.at (y.mono z1) u;obtain ⟨v40,rfl,h1⟩:=g1;refine vr v40 (rx (by kernel_rfl) (my rm rfl (s.on 1 rfl) (y.m.blk u) (at1 (j:=0) b2 rfl))) (va (v40) (wln (sr (va (v40) (va (I x) (bn H fun b0 i1 H=>cl (vn s E (hG.m.le (by decide)) a0 x h1 i1) ?_))))));rintro v52 N t2 ⟨v43,v45,z,D,M,rfl,j1,S⟩;refine va (.tuple #[v43,v45]) (va (v43) (va (v45) (va (v43) (va (v45) (wln (W.seq (sr (va (v45) (vr (B (!b0.2.2.isNil)) (by rcases (S).cs with ⟨d,f⟩ | ⟨U,d,f⟩ | ⟨U,d,f⟩ <;> (subst d; rw [f]; kernel_rfl)) (wln (cn H (fun k1 H=>?_) (fun k1 H=>?_))))))))))))
   ·refine sr (va (v45) (va (Y) (va (v45) (wln (W.ret (thr (bkr (thr ?_))))))));obtain rfl:=si H;refine ⟨_,rfl,⟨rfl,?_⟩⟩;have m1:OA ay N (Y) [] []:=OA.nil (aK _);have j0:=D.addHole (e:=es true ay (Y) 39 [] ([]:List ah)) rfl;have k0:=j0.sD 3 [0];exact jn N ⟨(Y),[],v45,z,k0,rfl,M,m1,S⟩
   refine W.skip (nrm (W.region (va (v21) (va (v43) (bn H fun n2 n1 H=>me (ap ay (.agg #[Y,B false]) 32 27 0 D R.m j1 n1 jS) ?_)))));rintro T x0 u2 ⟨d2,l0,q1⟩;refine va (T) (WL.nil (bkn (nrm (W.region (vv (I (w64 (a.2.1+1))) (WL.nil ?_))))));obtain rfl:=si H;exact ⟨_,rfl,jn x0 ⟨T,d2,z,l0,rfl,M.m,q1⟩⟩
  refine W.exit (thx ?_);obtain rfl:=si H;exact ⟨_,rfl,rfl,jn w0 ⟨v21,n,e0,s,rfl,E,R⟩⟩
 ·have s1:OA ay b (Y) [] []:=OA.nil (aK _);have m0:=A.addHole (e:=es true ay (Y) 39 [] ([]:List ah)) rfl;exact jn b ⟨(Y),[],G,m0,rfl,R0.m,s1⟩
 rcases i with i | i
 ·intro c1; revert c1;rintro _ e_ w_ ⟨rfl,y0,p2,_,rfl,v2,rfl,v25,p,v27,f0,o0,rfl,u0,t1,u1⟩;refine bkr (thr ?_);obtain rfl:=si q;exact r2 (qq y0 ⟨v25,p,v27,f0,o0,u0,rfl,t1,u1⟩)
 rintro _ e_ w_ ⟨rfl,z0,q2,_,rfl,w2,rfl,v23,o,g0,q0,rfl,v0,w1⟩;refine bke (nrm (sr (vv (v23) (va (.nilIface) (wln (W.ret ?_))))));obtain rfl:=si q;have s0:=q0.sD 2 [0];exact r2 (qq z0 ⟨v23,o,.nilIface,g0,s0,v0,rfl,w1,rfl⟩)
def gV (sg:Sto) (p0:dz) (p1:List bv):Option (Sto×bh):=
 (jN sg (w64 (1+(w64 ((IntKind.u64.wrap p0.W).tmod 10)))) (w64 (1+(w64 ((IntKind.u64.wrap p0.H).tmod 6))))).bind fun a=>
 (eD a.1 a.2 p1).bind fun b=>
 (dw b.1 a.2).bind fun c=>
 some (b.1,c)
theorem qu (P:Own c0 G F) (T:Rel c0 sg G) (hG:Gl [3,5,7] c0) (b:dz) (n:List bv) {r:Sto×bh} (U:Sl om c0 v1 n) (H:gV sg b n=some r): Calls prog 6 #[.agg #[I b.W,I b.H],v1] c0.w (aQ c0 fun c v=>∃o N,∃G_:Gm,Own c G_ (es true ay o 39 N r.2.Lines :: F)∧Rel c r.1 G_∧v= .agg #[I r.2.Wide,I r.2.High,o,I r.2.At.Row,I r.2.At.Col,B r.2.At.Pending,B r.2.Auto]∧OA ay c o N r.2.Lines):=by
 unfold gV at H;refine en func6 rfl rfl (sr (me (bx 23 [I b.W,I b.H] P) ?_));rintro v7 c6 l6 ⟨y,rfl,R,E⟩;refine me (al 31 [I 0,I 0,Y,I 0,I 0,B false,B false] R) ?_;rintro v11 b0 h0 ⟨b8,rfl,S⟩;refine wln (sr (va (Q y) (vx (l1 u_3 ((mm E) 0 _ rfl)) (va (.int .u64 (IntKind.u64.wrap b.W)) (va (.int .u64 ((IntKind.u64.wrap b.W).tmod 10)) (va (I (w64 ((IntKind.u64.wrap b.W).tmod 10))) (va (I (w64 (1+(w64 ((IntKind.u64.wrap b.W).tmod 10))))) (va (Qo y (0+1)) (vx (l1 u_3 ((mm E) 1 _ rfl)) (va (.int .u64 (IntKind.u64.wrap b.H)) (va (.int .u64 ((IntKind.u64.wrap b.H).tmod 6)) (va (I (w64 ((IntKind.u64.wrap b.H).tmod 6))) (va (I (w64 (1+(w64 ((IntKind.u64.wrap b.H).tmod 6))))) (bn H fun h z H=>cl (rY S T.m (w64 (1+(w64 ((IntKind.u64.wrap b.W).tmod 10)))) (w64 (1+(w64 ((IntKind.u64.wrap b.H).tmod 6)))) z) ?_))))))))))))));rintro v13 d0 i0 ⟨_,Z,q,x,a0,rfl,l⟩;refine va (v13) (wln (sr (va (v13) (va (v1) (bn H fun X A H=>cl (qr q x (hG.m.le (by decide)) h.2 n l U.m A) ?_)))));rintro v22 e0 j0 ⟨_,p,s,j,rfl,g0⟩;refine wln (sr (va (v13) (bn H fun a D H=>cl (jD s j h.2 l.m D) ?_)));rintro v39 f0 k0 ⟨v31,M,t,rfl,g⟩;obtain ⟨d,e,f,rfl⟩:=(g).form;refine md (sA 31 [I a.Wide,I a.High,.slice d e f,I a.At.Row,I a.At.Col,B a.At.Pending,B a.Auto] 1 t ⟨rfl,rfl,(g).one,rfl,rfl,rfl,rfl,trivial⟩) ?_;rintro k l0 i;refine wln (W.ret ?_);obtain rfl:=si H;have u:=i.sD 2 [0];exact sI (c:=k) (vs:=[I a.Wide,I a.High,.slice d e f,I a.At.Row,I a.At.Col,B a.At.Pending,B a.Auto]) rfl (by kernel_rfl) (by kernel_rfl) (by kernel_rfl) (i.on 1 rfl _ rfl).1 ⟨_,k,rfl,rfl,pt,(.slice d e f),M,p,u,j.m,rfl,g.m⟩
def gU (p0:bh):Option (Bool):=
 (bL (decide (p0.Wide≤60)) (some (decide (p0.High≤60)))).bind fun a=>
 some a
theorem qs (n:Own c0 G F) (a:bh) {r:Bool} (s:Sl ay c0 v1 a.Lines) (H:gU a=some r): Calls prog 7 #[.agg #[I a.Wide,I a.High,v1,I a.At.Row,I a.At.Col,B a.At.Pending,B a.Auto]] c0.w (aQ c0 fun c v=>Own c G (F)∧v=B r):=by
 unfold gU at H;refine en func7 rfl rfl (sr ?_);obtain ⟨o,p,q,rfl⟩:=(s).form;refine me (bx 31 [I a.Wide,I a.High,.slice o p q,I a.At.Row,I a.At.Col,B a.At.Pending,B a.Auto] n) ?_;rintro v10 e y ⟨i,rfl,h,m⟩;refine va (B false) (wln (W.seq (bn H fun k d H=>W.join (Jn e fun c l=>Own c G (F)∧l= [(2,B k)]) ?_ ?_)))
 ·clear H;refine W.region (va (Q i) (vx (l1 u_3 (m 0 _ rfl)) (va (B (decide (a.Wide≤60))) ?_)));rcases bo (decide (a.Wide≤60)) with b | b
  ·have f:=anT b d;refine vb b (wa (Qo i (0+1)) (wn (vx (l1 u_3 (m 1 _ rfl)) (wa (B (decide (a.High≤60))) ?_))));obtain rfl:=si f;exact vv (B (decide (a.High≤60))) (wln (jn e ⟨h,rfl⟩))
  obtain rfl:=anF b d;exact vb b (pz (ps (vv (B false) (wln (jn e ⟨h,rfl⟩)))))
 rintro x z ⟨j,t,_,rfl,u,rfl,g,rfl⟩;refine nrm (W.ret ?_);obtain rfl:=si H;exact r1 (qq j ⟨g,rfl⟩)
def dM (sg:Sto) (p0:dz) (p1:List bv) (p2:Int):Option (Sto×Bool):=
 (dV sg).bind fun l=>
 (orE (!l.2) ((eJ p1).bind fun y=>
 some y)).bind fun x=>
 if x=true then
 (dV l.1).bind fun k=>
 some (k.1,k.2)
 else
 (gV l.1 p0 p1).bind fun a=>
 (gU a.2).bind fun t=>
 (orE (!t) (some (decide (a.2.Wide < 2)))).bind fun q=>
 if q=true then
 some (a.1,true)
 else
 (cO (σ:=Int) (τ:=(Sto×Bool) ⊕ Unit) (((a.2.Lines.length:Int) - 0).toNat+1) (fun h=>
 if (decide (h < (a.2.Lines.length:Int)))=true then
 (cO (σ:=Int) (τ:=(Sto×Bool) ⊕ Unit) ((a.2.Wide - 0).toNat+1) (fun i=>
 if (decide (i < a.2.Wide))=true then
 (idx a.2.Lines h).bind fun u=>
 (idx u.Cells i).bind fun v=>
 (bL (v.Kind==0) ((idx a.2.Lines h).bind fun w=>
 some w.Wrap)).bind fun r=>
 (bL r (some (decide ((w64 (i+1)) < a.2.Wide)))).bind fun s=>
 if s=true then
 some (.inr (.inl (a.1,true)))
 else
 some (.inl ((w64 (i+1))))
 else
 some (.inr (.inr ()))) (0)).bind fun g=>
 match g with
 | .inl g=>
 some (.inr (.inl g))
 | .inr g=>
 some (.inl ((w64 (h+1))))
 else
 some (.inr (.inr ()))) (0)).bind fun f=>
 match f with
 | .inl f=>
 some f
 | .inr f=>
 (ir a.1 a.2.Lines (w64 (2+(w64 ((IntKind.u64.wrap p2).tmod 20))))).bind fun b=>
 if (!b.2.2.isNil)=true then
 some (b.1,false)
 else
 (iy a.2).bind fun e=>
 (eH (⟨0,0,b.2.1,(⟨0,0,false⟩:ai),false⟩:bh)).bind fun j=>
 if ((e.length:Int) != (j.length:Int))=true then
 some (b.1,false)
 else
 (cO (σ:=Int) (τ:=(Sto×Bool) ⊕ Unit) (((e.length:Int) - 0).toNat+1) (fun d=>
 if (decide (d < (e.length:Int)))=true then
 (idx e d).bind fun m=>
 (idx j d).bind fun n=>
 (eN m).bind fun o=>
 (eN n).bind fun p=>
 if (!(eqS (zC o) (zC p)))=true then
 some (.inr (.inl (b.1,false)))
 else
 some (.inl ((w64 (d+1))))
 else
 some (.inr (.inr ()))) (0)).bind fun c=>
 match c with
 | .inl c=>
 some c
 | .inr c=>
 some (b.1,true)
theorem nF (O0:Own c0 G F) (R0:Rel c0 sg G) (hG:Gl [0,1,2,3,5,7] c0) (hU:Eh c0) (hT:Et c0) (p0:dz) (p1:List bv) (x:Int) {r:Sto×Bool} (h2:Sl om c0 v1 p1) (H:dM sg p0 p1 x=some r): Calls prog 3 #[.agg #[I p0.W,I p0.H],v1,I x] c0.w (aQ c0 fun c v=>∃G_:Gm,Own c G_ (F)∧Rel c r.1 G_∧v=B r.2):=by
 unfold dM at H;refine en func3 rfl rfl (sr (me (bx 23 [I p0.W,I p0.H] O0) ?_));rintro v7 c6 l6 ⟨b3,rfl,O4,m5⟩;refine va (B false) (wln (W.seq (W.seq (bn H fun d3 h8 H=>bn H fun p7 h9 H=>W.join (Jn c6 fun c l=>∃G_,Own c G_ (F)∧l= [(1,v1),(2,I x),(3,Q b3),(20,B p7)]∧Rel c d3.1 G_) ?_ ?_))))
 ·clear H;refine W.region (cl (mT O4 R0.m (hG.m.le (by decide)) hU.m hT.m h8) ?_);rintro v15 l7 l14 ⟨i3,j3,n3,rfl⟩;refine va (B (!d3.2)) ?_;rcases bo (!d3.2) with t0 | t0
  ·obtain rfl:=orT t0 h9;exact vb t0 (pz (va (B true) (wln (jn l7 ⟨i3,j3,rfl,n3⟩))))
  have b2:=orF t0 h9;refine vb t0 (wa (v1) (wn (bn b2 fun e8 q7 b2=>cl (oY j3 p1 h2.m q7) ?_)));rintro v24 m7 l23 ⟨e7,rfl⟩;obtain rfl:=si b2;exact va (B e8) (wln (jn m7 ⟨i3,e7,rfl,n3.m⟩))
 rintro R X ⟨c25,g26,_,rfl,l25,rfl,G28,k3,rfl,o3⟩;refine nrm (cn H (fun s7 H=>?_) (fun s7 H=>?_))
 ·refine sr (bn H fun b7 t7 H=>cl (mT k3 o3 (hG.m.le (by decide)) hU.m hT.m t7) ?_);rintro v38 n7 l37 ⟨c7,f7,k7,rfl⟩;refine va (B b7.2) (wln (W.ret (thr ?_)));obtain rfl:=si H;exact r1 (qq n7 ⟨c7,f7,k7,rfl⟩)
 refine W.skip (nrm (sr (vx (lN 23 (mm m5)) (va (v1) (bn H fun a u7 H=>cl (qu k3 o3 (hG.m.le (by decide)) p0 p1 h2.m u7) ?_)))));rintro v48 c47 l47 ⟨v40,N,E,g7,j2,rfl,u⟩;refine me (al 31 [I 0,I 0,Y,I 0,I 0,B false,B false] g7) ?_;rintro v52 c51 b0 ⟨h,rfl,h7⟩;obtain ⟨d,f,g,rfl⟩:=((u.mono b0)).form;refine md (sA 31 [I a.2.Wide,I a.2.High,.slice d f g,I a.2.At.Row,I a.2.At.Col,B a.2.At.Pending,B a.2.Auto] 0 h7 ⟨rfl,rfl,u.m.one,rfl,rfl,rfl,rfl,trivial⟩) ?_;rintro o7 v0 l3;refine wln (W.seq (W.seq (bn H fun c3 w7 H=>bn H fun d5 q3 H=>W.join (Jn o7 fun c l=>Own c E ((Eb h 31 [I a.2.Wide,I a.2.High,.slice d f g,I a.2.At.Row,I a.2.At.Col,B a.2.At.Pending,B a.2.Auto]) :: es false ay (.slice d f g) 39 N a.2.Lines :: F)∧l= [(2,I x),(7,Q h),(32,B d5)]) ?_ ?_)))
 ·clear H;refine W.region (vx (leN 31 0 [I a.2.Wide,I a.2.High,.slice d f g,I a.2.At.Row,I a.2.At.Col,B a.2.At.Pending,B a.2.Auto] (l3.on 0 rfl)) ?_);obtain ⟨c62,y7,l62,i7,x7⟩:=l3.frz 1 rfl (u.mono (b0.trans v0));refine WL.gh y7 (cl (qs i7 a.2 x7 w7) ?_);rintro v69 p3 l68 ⟨g2,rfl⟩;refine va (B (!c3)) ?_;rcases bo (!c3) with u0 | u0
  ·obtain rfl:=orT u0 q3;exact vb u0 (pz (ps (va (B true) (wln (jn p3 ⟨g2,rfl⟩)))))
  have d7:=orF u0 q3;refine vb u0 (wa (Q h) (wn (vx (le1 0 u_3 (g2.on 0 rfl)) (wa (B (decide (a.2.Wide < 2))) ?_))));obtain rfl:=si d7;exact va (B (decide (a.2.Wide < 2))) (wln (jn p3 ⟨g2,rfl⟩))
 rintro R X ⟨l0,g73,_,rfl,u1,rfl,m3,rfl⟩;refine nrm (cn H (fun z7 H=>?_) (fun z7 H=>?_))
 ·refine sr (va (B true) (wln (W.ret (thr ?_))));obtain rfl:=si H;have j7:=m3.sD 2 [];exact r1 (qq l0 ⟨E,j7,j2.m,rfl⟩)
 refine W.skip (nrm (W.seq (sr (va (I 0) (wln (W.block (bn H fun n1 s3 b=>lp s3 (fun i=>Jn l0 fun c l=>Own c E ((Eb h 31 [I a.2.Wide,I a.2.High,.slice d f g,I a.2.At.Row,I a.2.At.Col,B a.2.At.Pending,B a.2.Auto]) :: es false ay (.slice d f g) 39 N a.2.Lines :: F)∧l= [(2,I x),(7,Q h),(8,I i)]) (fun t=>match t with | .inl Z=>(fun M ex e w=>ex= .ret∧(Jn l0 fun c l=>∃G_,Own c G_ (F)∧l= [(6,B M.2)]∧Rel c M.1 G_) e w) Z | .inr Z=>(fun l8 ex e w=>ex= .exit 0∧(Jn l0 fun c l=>Own c E ((Eb h 31 [I a.2.Wide,I a.2.High,.slice d f g,I a.2.At.Row,I a.2.At.Col,B a.2.At.Pending,B a.2.Auto]) :: es false ay (.slice d f g) 39 N a.2.Lines :: F)∧l= [(2,I x),(7,Q h)]) e w) Z) ?_ ?_ ?_)))))))
 ·clear b s3;intro i x3 q0 w0 H;revert q0 w0;rintro R X ⟨m0,g83,_,rfl,v3,rfl,i2,rfl⟩;refine W.seq (sr (va (I i) (va (Qo h 2) (vx (le1 2 jS (i2.on 0 rfl)) (vx (lnO 3 jS u.m) (va (B (decide (i < (a.2.Lines.length:Int)))) (wln (cn H (fun a8 H=>?_) (fun a8 H=>?_)))))))))
  ·refine W.skip (nrm (W.seq (W.block (sr (va (I 0) (wln (W.block (bn H fun q1 t3 c2=>lp t3 (fun k=>Jn m0 fun c l=>Own c E ((Eb h 31 [I a.2.Wide,I a.2.High,.slice d f g,I a.2.At.Row,I a.2.At.Col,B a.2.At.Pending,B a.2.Auto]) :: es false ay (.slice d f g) 39 N a.2.Lines :: F)∧l= [(2,I x),(7,Q h),(8,I i),(9,I k)]) (fun t=>match t with | .inl Z=>(fun M ex e w=>ex= .ret∧(Jn m0 fun c l=>∃G_,Own c G_ (F)∧l= [(6,B M.2)]∧Rel c M.1 G_) e w) Z | .inr Z=>(fun m8 ex e w=>ex= .exit 2∧(Jn m0 fun c l=>Own c E ((Eb h 31 [I a.2.Wide,I a.2.High,.slice d f g,I a.2.At.Row,I a.2.At.Col,B a.2.At.Pending,B a.2.Auto]) :: es false ay (.slice d f g) 39 N a.2.Lines :: F)∧l= [(2,I x),(7,Q h),(8,I i)]) e w) Z) ?_ ?_ ?_))))))))
   ·clear c2 t3;intro k x3 q0 w0 H;revert q0 w0;rintro R X ⟨o0,g92,_,rfl,w3,rfl,A,rfl⟩;refine W.seq (sr (va (I k) (va (Q h) (vx (le1 0 u_3 (A.on 0 rfl)) (va (B (decide (k < a.2.Wide))) (wln (cn H (fun c8 H=>?_) (fun c8 H=>?_))))))))
    ·refine W.skip (nrm (W.seq (W.block (W.seq (bn H fun z9 u2 H=>bn H fun e3 u3 H=>bn H fun w8 l2 H=>bn H fun e5 i1 H=>W.join (Jn o0 fun c l=>Own c E ((Eb h 31 [I a.2.Wide,I a.2.High,.slice d f g,I a.2.At.Row,I a.2.At.Col,B a.2.At.Pending,B a.2.Auto]) :: es false ay (.slice d f g) 39 N a.2.Lines :: F)∧l= [(2,I x),(7,Q h),(8,I i),(9,I k),(71,B e5)]) ?_ ?_)))))
     ·clear H;refine W.region (va (Qo h 2) (vx (le1 2 jS (A.on 0 rfl)) (va (I i) (vx (ixO jS u.m u2) (va (Qo (sb (.slice d f g)) (i.toNat * 2)) ?_)))));obtain ⟨f8,f5,q6⟩:=OA.at (u.mono (b0.trans (v0.trans (u1.trans (v3.trans w3))))) u2;obtain ⟨s1,rfl,m2⟩:=f5;refine vr s1 (rx (by kernel_rfl) (my cC rfl (A.on 1 rfl) (u.m.blk u2) (at1 (j:=0) q6 rfl))) (va (I k) ?_);obtain ⟨g8,g5,r6⟩:=Sl.at m2 (bi u3);obtain ⟨u9,rfl,f9⟩:=g5;refine vx (ix cC m2 u3) (va (Qo (sb s1) (so s1+k.toNat * 2)) (vx (l1 u_3 (r6 0 _ rfl)) (va (B (e3.Kind==0)) ?_)));rcases bo (e3.Kind==0) with S | S
      ·have x0:=anT S l2;refine vb S (wa (Qo h 2) (wn (vx (le1 2 jS (A.on 0 rfl)) (wa (I i) (wn (bn x0 fun t1 j1 x0=>vx (ixO jS u.m j1) (wa (Qo (sb (.slice d f g)) (i.toNat * 2+1)) (wn ?_))))))));obtain ⟨i8,h5,s6⟩:=OA.at (u.mono (b0.trans (v0.trans (u1.trans (v3.trans w3))))) j1;obtain ⟨v9,rfl,g9⟩:=h5;refine vr (B t1.Wrap) (rx (by kernel_rfl) (my u_4 rfl (A.on 1 rfl) (u.m.blk j1) (at1 (j:=1) s6 rfl))) ?_;obtain rfl:=si x0;refine va (B t1.Wrap) ?_;rcases bo (t1.Wrap) with T | T
       ·have b4:=anT T i1;refine vb T (wa (I k) (wa (I (w64 (k+1))) (wa (Q h) (wn (vx (le1 0 u_3 (A.on 0 rfl)) (wa (B (decide ((w64 (k+1)) < a.2.Wide))) ?_))))));obtain rfl:=si b4;exact va (B (decide ((w64 (k+1)) < a.2.Wide))) (wln (jn o0 ⟨A,rfl⟩))
       obtain rfl:=anF T i1;exact vb T (pz (pz (ps (va (B false) (wln (jn o0 ⟨A,rfl⟩))))))
      obtain rfl:=anF S l2;refine vb S (pz (pz (pz (va (B false) ?_))));have n2:false=false:=rfl;obtain rfl:=anF n2 i1;exact vb n2 (pz (pz (ps (va (B false) (wln (jn o0 ⟨A,rfl⟩))))))
     rintro R X ⟨k2,x8,_,rfl,j9,rfl,d2,rfl⟩;refine nrm (cn H (fun i5 H=>?_) (fun i5 H=>?_))
     ·refine sr (va (B true) (wln (W.ret (bkr (thr ?_)))));obtain rfl:=si H;refine ⟨_,rfl,⟨rfl,?_⟩⟩;have c4:=d2.sD 2 [];exact jn k2 ⟨E,c4,rfl,j2.m⟩
     refine W.skip (bkn (nrm (W.region (va (I k) (vv (I (w64 (k+1))) (WL.nil ?_))))));obtain rfl:=si H;exact ⟨_,rfl,jn k2 ⟨d2,rfl⟩⟩
    refine W.exit (thx ?_);obtain rfl:=si H;exact ⟨_,rfl,rfl,jn o0 ⟨A,rfl⟩⟩
   ·exact jn m0 ⟨i2,rfl⟩
   rcases q1 with q1 | q1
   ·intro s0; revert s0;rintro _ R X ⟨rfl,s4,y8,_,rfl,k9,rfl,y3,d4,rfl,p4⟩;refine bkr (bkr (thr ?_));obtain rfl:=si c2;exact ⟨_,rfl,⟨rfl,jn s4 ⟨y3,d4,rfl,p4⟩⟩⟩
   rintro _ R X ⟨rfl,t4,z8,_,rfl,l9,rfl,e4,rfl⟩;refine bke (bkn (nrm (W.region (va (I i) (vv (I (w64 (i+1))) (WL.nil ?_))))));obtain rfl:=si c2;exact ⟨_,rfl,jn t4 ⟨e4,rfl⟩⟩
  refine W.exit (thx ?_);obtain rfl:=si H;exact ⟨_,rfl,rfl,jn m0 ⟨i2,rfl⟩⟩
 ·exact jn l0 ⟨m3,rfl⟩
 rcases n1 with n1 | n1
 ·intro s0; revert s0;rintro _ R X ⟨rfl,u4,a9,_,rfl,m9,rfl,z3,f4,rfl,q4⟩;refine bkr (thr ?_);obtain rfl:=si b;exact r1 (qq u4 ⟨z3,f4,q4,rfl⟩)
 rintro _ R X ⟨rfl,s8,b9,_,rfl,v2,rfl,z0,rfl⟩;refine bke (nrm (sr (va (I x) (va (.int .u64 (IntKind.u64.wrap x)) (va (.int .u64 ((IntKind.u64.wrap x).tmod 20)) (va (I (w64 ((IntKind.u64.wrap x).tmod 20))) (vv (I (w64 (2+(w64 ((IntKind.u64.wrap x).tmod 20))))) (wln (sr (va (Qo h 2) (vx (le1 2 jS (z0.on 0 rfl)) (va (I (w64 (2+(w64 ((IntKind.u64.wrap x).tmod 20))))) ?_))))))))))));have j5:=z0.slf 1 rfl (u.mono (b0.trans (v0.trans (u1.trans v2))));refine bn b fun k0 k5 b=>cl (vm z0 j2.m (hG.m.le (by decide)) a.2.Lines (w64 (2+(w64 ((IntKind.u64.wrap x).tmod 20)))) j5 k5) ?_;rintro w9 v4 k6 ⟨i0,a3,j0,D,d0,f0,rfl,o2,l5⟩;refine va (.tuple #[i0,j0]) (va (i0) (va (j0) (va (i0) (va (j0) (wln (W.seq (sr (va (j0) (vr (B (!k0.2.2.isNil)) (by rcases (l5).cs with ⟨q2,t2⟩ | ⟨b_,q2,t2⟩ | ⟨b_,q2,t2⟩ <;> (subst q2; rw [t2]; kernel_rfl)) (wln (cn b (fun n5 b=>?_) (fun n5 b=>?_))))))))))))
 ·refine sr (va (B false) (wln (W.ret (thr ?_))));obtain rfl:=si b;have g4:=d0.sD 3 [];exact r1 (qq v4 ⟨D,g4,f0,rfl⟩)
 refine W.skip (nrm (sr (vx (leN 31 0 [I a.2.Wide,I a.2.High,.slice d f g,I a.2.At.Row,I a.2.At.Col,B a.2.At.Pending,B a.2.Auto] (d0.on 1 rfl)) ?_)));have o5:=d0.slf 2 rfl (u.mono (b0.trans (v0.trans (u1.trans (v2.trans k6)))));refine bn b fun o p5 b=>cl (tj d0 a.2 o5 p5) ?_;rintro n t8 w2 ⟨_,y,h4,rfl,U⟩;refine va (i0) ?_;obtain ⟨e1,f1,g1,rfl⟩:=((o2.mono w2)).form;refine va (.agg #[I 0,I 0,.slice e1 f1 g1,I 0,I 0,B false,B false]) ?_;obtain ⟨u8,r5,m6,i4,q5⟩:=h4.frz 1 rfl (o2.mono w2);refine WL.gh r5 (bn b fun s s5 b=>cl (oX i4 (⟨0,0,k0.2.1,(⟨0,0,false⟩:ai),false⟩:bh) q5 s5) ?_);rintro p P n6 ⟨_,z,e2,rfl,g0⟩;refine va (n) (va (p) (wln (W.seq (sr (va (n) (vx (lnO 3 AZ U.m) (va (p) (vx (lnO 3 AZ g0) (va (B ((o.length:Int) != (s.length:Int))) (wln (cn b (fun t5 b=>?_) (fun t5 b=>?_))))))))))))
 ·refine sr (va (B false) (wln (W.ret (thr ?_))));obtain rfl:=si b;have j4:=e2.sD 5 [];exact r1 (qq P ⟨D,j4,f0.m,rfl⟩)
 refine W.skip (nrm (W.seq (sr (va (I 0) (wln (W.block (bn b fun h0 s2 y0=>lp s2 (fun q=>Jn P fun c l=>Own c D (es true (RL (RI .i32)) p 34 z s :: es true (RL (RI .i32)) n 34 y o :: es false ay (.slice e1 f1 g1) 39 a3 k0.2.1 :: (Eb h 31 [I a.2.Wide,I a.2.High,.slice d f g,I a.2.At.Row,I a.2.At.Col,B a.2.At.Pending,B a.2.Auto]) :: es false ay (.slice d f g) 39 N a.2.Lines :: F)∧l= [(12,n),(13,p),(14,I q)]) (fun t=>match t with | .inl Z=>(fun M ex e w=>ex= .ret∧(Jn P fun c l=>∃G_,Own c G_ (F)∧l= [(6,B M.2)]∧Rel c M.1 G_) e w) Z | .inr Z=>(fun d8 ex e w=>ex= .exit 4∧(Jn P fun c l=>Own c D (es true (RL (RI .i32)) p 34 z s :: es true (RL (RI .i32)) n 34 y o :: es false ay (.slice e1 f1 g1) 39 a3 k0.2.1 :: (Eb h 31 [I a.2.Wide,I a.2.High,.slice d f g,I a.2.At.Row,I a.2.At.Col,B a.2.At.Pending,B a.2.Auto]) :: es false ay (.slice d f g) 39 N a.2.Lines :: F)∧l= []) e w) Z) ?_ ?_ ?_)))))))
 ·clear y0 s2;intro q x3 q0 w0 b;revert q0 w0;rintro R X ⟨w4,c9,_,rfl,x2,rfl,f2,rfl⟩;refine W.seq (sr (va (I q) (va (n) (vx (lnO 3 AZ U.m) (va (B (decide (q < (o.length:Int)))) (wln (cn b (fun u5 b=>?_) (fun u5 b=>?_))))))))
  ·refine W.skip (nrm (W.seq (W.block (W.seq (rD [] (Kp G0 [es true (RL (RI .i32)) n 34 y o,es true (RL (RI .i32)) p 34 z s]) f2 ?_)))));intro x4 y2 a1;have z2:Kp G0 [es true (RL (RI .i32)) n 34 y o,es true (RL (RI .i32)) p 34 z s] x4:=(Kp.cons (a1.on 1 rfl) (Kp.cons (a1.on 0 rfl) Kp.nil0));refine ta 0 (n) (ta 1 (I q) (bn b fun g3 k1 b=>tx 2 (fun c' a0=>ixO AZ U.m k1) ?_));obtain ⟨j8,v5,t6⟩:=OA.at (U.mono (m6.trans (n6.trans (x2.trans y2)))) k1;obtain ⟨z6,rfl,w5⟩:=v5;refine AC.takeK 3 (z6) z2 rfl (by kernel_rfl) (by kernel_rfl) (by kernel_rfl) (fun c' a0 hk=>(rx (by kernel_rfl) (my fv rfl (hk.on 0 rfl) (U.m.blk k1) (at1 (j:=0) t6 rfl)))) (ta 6 (p) (ta 7 (I q) (bn b fun h3 m1 b=>tx 8 (fun c' a0=>ixO AZ g0.m m1) ?_)));obtain ⟨k8,x5,u6⟩:=OA.at (g0.mono (x2.trans y2)) m1;obtain ⟨a7,rfl,y5⟩:=x5;refine AC.takeK 9 (a7) z2 rfl (by kernel_rfl) (by kernel_rfl) (by kernel_rfl) (fun c' a0 hk=>(rx (by kernel_rfl) (my fv rfl (hk.on 1 rfl) (g0.m.blk m1) (at1 (j:=0) u6 rfl)))) (bn b fun w1 z5 b=>o1 4 (gc 4 (mV a1 g3 w5 z5) ?_));rintro x9 y4 n9 ⟨_,s9,b1,rfl,a6⟩;have v6:Kp G0 [es true (RL (RI .i32)) n 34 y o,es true (RL (RI .i32)) p 34 z s] y4:=(Kp.cons (b1.on 2 rfl) (Kp.cons (b1.on 1 rfl) Kp.nil0));refine ⟨.inr v6,?_⟩;obtain ⟨z4,d6,o6,c1,b6⟩:=b1.frz 0 rfl a6;have w6:Kp G0 [es true (RL (RI .i32)) n 34 y o,es true (RL (RI .i32)) p 34 z s] z4:=(Kp.cons (c1.on 2 rfl) (Kp.cons (c1.on 1 rfl) Kp.nil0));refine AC.gh d6 o6 (fun _=>w6) (AC.take 5 (.string (zC w1)) rfl (by kernel_rfl) (by kernel_rfl) (fun c' a0=>(rx (by kernel_rfl) (yc fv oU u_9 b6.m))) (bn b fun x1 e6 b=>o1 10 (gc 10 (mV c1 h3 y5.m e6) ?_)));rintro y9 a5 o9 ⟨_,t9,d1,rfl,f6⟩;have x6:Kp G0 [es true (RL (RI .i32)) n 34 y o,es true (RL (RI .i32)) p 34 z s] a5:=(Kp.cons (d1.on 3 rfl) (Kp.cons (d1.on 2 rfl) Kp.nil0));refine ⟨.inr x6,?_⟩;obtain ⟨h1,h6,p6,e0,g6⟩:=d1.frz 0 rfl f6;have y6:Kp G0 [es true (RL (RI .i32)) n 34 y o,es true (RL (RI .i32)) p 34 z s] h1:=(Kp.cons (e0.on 3 rfl) (Kp.cons (e0.on 2 rfl) Kp.nil0));refine AC.gh h6 p6 (fun _=>y6) (AC.take 11 (.string (zC x1)) rfl (by kernel_rfl) (by kernel_rfl) (fun c' a0=>(rx (by kernel_rfl) (yc fv oU u_9 g6.m))) (AC.take 12 (B (!(eqS (zC w1) (zC x1)))) rfl (by kernel_rfl) (by kernel_rfl) (fun c' a0=>(uj (by kernel_rfl))) (dn (nrm (cn b (fun i6 b=>?_) (fun i6 b=>?_))))))
   ·refine sr (va (B false) (wln (W.ret (bkr (thr ?_)))));obtain rfl:=si b;refine ⟨_,rfl,⟨rfl,?_⟩⟩;have k4:=e0.sD 7 [];exact jn h1 ⟨D,k4,rfl,f0.m⟩
   refine W.skip (bkn (nrm (W.region (va (I q) (vv (I (w64 (q+1))) (WL.nil ?_))))));obtain rfl:=si b;refine ⟨_,rfl,?_⟩;have l4:=e0.sD 7 [2,3,4,5,6];exact jn h1 ⟨l4,rfl⟩
  refine W.exit (thx ?_);obtain rfl:=si b;exact ⟨_,rfl,rfl,jn w4 ⟨f2,rfl⟩⟩
 ·exact jn P ⟨e2,rfl⟩
 rcases h0 with h0 | h0
 ·intro s0; revert s0;rintro _ R X ⟨rfl,b5,d9,_,rfl,p9,rfl,a4,m4,rfl,r4⟩;refine bkr (thr ?_);obtain rfl:=si y0;exact r1 (qq b5 ⟨a4,m4,r4,rfl⟩)
 rintro _ R X ⟨rfl,c5,e9,_,rfl,q9,rfl,n4,rfl⟩;refine bke (nrm (sr (va (B true) (wln (W.ret ?_)))));obtain rfl:=si y0;have o4:=n4.sD 5 [];exact r1 (qq c5 ⟨D,o4,f0.m,rfl⟩)
end Go.Proofs.YtidapncdmjppeaaGreatDoor
namespace Go.Lt
open Go.ChangeShapes Go.WideShapes Go.RowKit
def C0 (w:World):Cx:=⟨w,fun _ _=>False,fun _ _=>none⟩
theorem HA (w:World):Own (C0 w) (fun _ _=>[]) []:=
 ⟨⟨fun i e h=>by cases i <;> simp [at_] at h,fun i j e e' h=>by cases i <;> simp [at_] at h⟩,fun _ _ _=>rfl⟩
theorem im0 {w:World} {b o:Nat} {v:Value} (h:w.cell? ⟨b,o,none⟩=some v):Im (C0 w) b o v:=by
 refine ⟨?_,id,h⟩;unfold World.cell? at h;split at h
 ·rename_i hh; exact (Array.getElem?_eq_some_iff.1 hh).1
 ·cases h
def Rd (P:Program) (t:TypeId) {α:Type} (R:Rp α) (K:α→Prop):Prop:=
 P.cellsOf t=R.size∧∀{H:Type} {enc:TypeId×Value→H} {w:World} {sp:Nat→Bool} {held:Bool} {fuel:Nat} {cs:List Value} {x:DataW H×List MemPlace},
  DataW.trod enc P w 0 sp held fuel t cs=some x→∃y,R.cells (C0 w) cs y∧K y
theorem Rd.int {P:Program} {t:TypeId} {k:IntKind} (ht:P.underlying t=some (.int k)) (hc:P.cellsOf t=1):Rd P t (RI k) (fun n=>(Lit.int k n).wf=true):=
 ⟨hc,fun h=>by obtain ⟨n,rfl,_,hw⟩:=DataW.trod_int ht h; exact ⟨n,rfl,hw⟩⟩
theorem GL {α:Type} {Q:Nat→α→Prop}:∀n,(∀i,i < n→∃x,Q i x)→∃xs:List α,xs.length=n∧∀i x,xs[i]? = some x→Q i x
 | 0,_=>⟨[],rfl,fun i x h=>by simp at h⟩
 | n+1,h=>by
  obtain ⟨xs,hl,hx⟩:=GL n fun i hi=>h i (HT hi);obtain ⟨y,hy⟩:=h n (HX n);refine ⟨xs++ [y],by simp [hl],fun i x hi=>?_⟩;rw [eL] at hi;split at hi
  ·exact hx i x hi
  ·rename_i hn
   have h1:=(List.getElem?_eq_some_iff.1 hi).1;simp only [az,aH] at h1;obtain rfl:i=n:=by omega
   rw [hl,dd] at hi;cases hi;exact hy
theorem yN {w:World} {a:Addr} {n:Nat} {cs:List Value} (h:w.cells? 0 a n=some cs):cs.length=n∧∀j u,cs[j]? = some u→w.cell? (a.add j)=some u:=by
 unfold World.cells? at h;rw [af (db _)] at h;have hl:cs.length=n:=by simpa using mapM_some_length h
 refine ⟨hl,fun j u hu=>?_⟩;have hjn:j < n:=by have:=(List.getElem?_eq_some_iff.1 hu).1; omega
 have hj:=mapM_some_get h j j (dh hjn);rw [hu] at hj;exact hj
theorem Rd.field {P:Program} {H:Type} {enc:TypeId×Value→H} {w:World} {sp:Nat→Bool} {held:Bool} {n:Nat} {cs:List Value} {fs:Array Field} {xs:List (DataW H×List MemPlace)}
  (hf:∀(i:Nat) (f:Field),fs[i]? = some f→DataW.trod enc P w 0 sp held n f.type ((cs.drop f.offset).take (P.cellsOf f.type))=xs[i]?) (hx:xs.length=fs.size)
  (i:Nat) {f:Field} (hi:fs[i]? = some f) {α:Type} {R:Rp α} {K:α→Prop} (h:Rd P f.type R K):∃y,R.cells (C0 w) ((cs.drop f.offset).take R.size) y∧K y:=by
 have hlt:=(Array.getElem?_eq_some_iff.1 hi).1;have:=hf i f hi;rw [ab (show i < xs.length by omega),h.1] at this;exact h.2 this
section
variable {P:Program} {H:Type} {enc:TypeId×Value→H} {w:World} {sp:Nat→Bool} {held:Bool} {t:TypeId} {v:Value} {d:DataW H} {p:List MemPlace}
theorem EU {α:Type} {R:Rp α} {K:α→Prop} {fs:Array Field} (ht:P.underlying t=some (.struct fs)) (h:Rd P t R K) (hok:Value.okWide P w .any 0 t v) (hd:DataW.Trod enc P w 0 sp held t v d p):
  ∃cs x,v= .agg cs∧R.cells (C0 w) cs.toList x∧K x:=by
 obtain ⟨fuel,hd⟩:=hd;obtain ⟨x,hx,hk⟩:=h.2 hd;unfold Value.okWide at hok;rw [ht] at hok;obtain ⟨cs,rfl,_⟩:=hok;exact ⟨cs,x,rfl,hx,hk⟩
end
theorem rn {H:Type} {enc:TypeId×Value→H} {P:Program} (hl:laidOutB P=true) {w w':World} (h:∀k,k < w.heap.size→w'.heap[k]? = w.heap[k]?) {sp:Nat→Bool}:
  ∀{ts:List TypeId} {vs:List Value} {ds:List (DataW H)} {ps:List MemPlace},(ts.all fun t=>P.readableRec t && decide (t < P.types.size))=true→(∀x∈ps,x.block < w.heap.size)→(∀x∈ps,sp x.block=true)→
  DataW.TrodAll enc P w 0 (fun _=>true) true ts vs ds ps→DataW.TrodAll enc P w' 0 sp true ts vs ds ps
 | [],[],[],_,_,_,_,hA=>hA
 | [],_ :: _,_,_,_,_,_,hA=>hA.elim
 | [],[],_ :: _,_,_,_,_,hA=>hA.elim
 | _ :: _,[],_,_,_,_,_,hA=>hA.elim
 | _ :: _,_ :: _,[],_,_,_,_,hA=>hA.elim
 | t :: ts,v :: vs,d :: ds,ps,hr,hlt,hsp,hA=>by
  obtain ⟨p,q,h1,h2,rfl⟩:=hA;simp only [List.all_cons,aw,an] at hr;refine ⟨p,q,WideElems.Trod_stays hl hr.1.1 hr.1.2 h1 (fun x hx=>?_) (fun x hx=>hsp x (de _ hx)),rn hl h hr.2 (fun x hx=>hlt x (nt _ hx)) (fun x hx=>hsp x (nt _ hx)) h2,rfl⟩;have hb:=hlt x (de _ hx)
  cases x with
  | cell b o=>exact dO (w:=w) (h b hb)
  | map b=>exact h b hb
theorem Bl {H:Type} {enc:TypeId×Value→H} {P:Program} {f:Func} {s:ChangeSpec} {apart fresh handsOn again:Bool} {w w':World} {args:Array Value} {v:Value} {ds gs:List (DataW H)} {ps before:List MemPlace}
  (hW:DataW.Whole enc P f.params.toList s.vars apart w args.toList ds gs before) (he:before=ps++ [])
  (hr:∀(b:Nat) (sp:Nat→Bool) (hd:Bool),DataW.TrodAll enc P w' b sp hd f.resultTypes.toList (v.resultList f.resultTypes.size) (s.fn H (ds++gs)).results [])
  (ha:∀sp:Nat→Bool,(∀x∈ps,sp x.block=true)→DataW.TrodAll enc P w' 0 sp true f.params.toList args.toList (s.fn H (ds++gs)).args ps)
  (hv:∀sp:Nat→Bool,DataW.TrodVars enc P w' sp s.vars (s.fn H (ds++gs)).vars [])
  (hg:Gr w w') (ho:∀(j:Nat) (t:TypeId) (r:Value),f.resultTypes[j]? = some t→(v.resultList f.resultTypes.size)[j]? = some r→Value.okWide P w' .any 0 t r):s.post enc P f apart fresh handsOn again w args v w':=by
 rw [dy] at he;subst he;have hlt:∀x∈before,x.block < w.heap.size:=fun x hx=>hW.lt x hx;refine ⟨ds,gs,before,[],before,[],hW,hr _ _ _,ha _ (fun x hx=>Dd (hlt x hx)),hv _,HH (fun x hx=>⟨hx,.inr (.inl hx)⟩) (hg.frame (· ∈before)),fun _=>?_⟩;obtain ⟨_,_,_,_,_,hz,hn⟩:=hW;refine ⟨ho,_,_,([]++before)++ [],⟨[]++before,[],trodAll_append (ha _ fun _ _=>rfl) (hr _ _ _),hv _,rfl,fun b off hb=>?_,fun e=>?_⟩,fun x hx _=>by simpa using hx⟩
 ·have hb':MemPlace.cell b off∈before:=by simpa using hb
  have:=hlt _ hb';rw [hg.2.1 ⟨b,off,none⟩ this];exact hz b off (by simpa using hb')
 ·simpa using hn e
theorem FM {P:Program} {laid:List (String×DataW Unit)} {w:World} (h:(laid.filter fun x=>x.2.handleName?.isSome)= []):laidMetH P laid w=laidMet P laid w:=by
 unfold laidMetH;rw [h]
theorem ww {P:Program} {W:World} {ti tp te ts:TypeId} {ms:Array (String×TypeId)} {f:Field} (hi:P.underlying ti=some (.interface ms)) (hrow:∀u,P.typeName? 3 u=some "*errors.errorString"→u=tp)
  (hp:P.underlying tp=some (.pointer te)) (he:P.underlying te=some (.struct #[f])) (hft:f.type=ts) (hfo:f.offset=0) (hs:P.underlying ts=some .string) (hc:P.cellsOf te=1) (hcs:P.cellsOf ts=1):
  ∀{laid:List (String×DataW Unit)} {ps:List MemPlace},DataW.LaidVars P W laid ps→(∀b off,MemPlace.cell b off∈ps→(∃c t,W.heap[b]? = some (.cells c t (0,0)))∧∀u v,W.cell? ⟨b,off,none⟩=some (.iface u v)→Value.okWide P W .any 0 u v)→
  ∀n text g,(n,DataW.iface "*errors.errorString" (.ptr (.agg [.lit (.string text)])))∈laid→P.globalNamed n=some g→(P.globals[g]?).map (·.type)=some ti→∃a s,W.cell? ⟨g,0,none⟩=some (.iface tp (.pointer (some a)))∧W.cell? a=some (.string s)∧s.data.toList=text∧∃c t,W.heap[a.block]? = some (.cells c t (0,0))
 | [],_,_,_,_,_,_,hm,_,_=>by cases hm
 | (n',d) :: r,ps,⟨g',t,cs,fuel,p,q,hg',ht',hv,hd,hr,e⟩,hrows,n,text,g,hm,hg,ht=>by
  subst e;rcases List.mem_cons.1 hm with hh | hm
  ·cases hh;obtain rfl:=aq (hg.symm.trans hg');obtain rfl:=aq (ht.symm.trans ht');obtain ⟨l⟩:=cs;have ok:∀u v,l= [.iface u v]→Value.okWide P W .any 0 u v:=fun u v e=>by
    subst e;exact (hrows g 0 (by simp [MemPlace.row])).2 u v (by simpa using BX hg hv 0)
   obtain ⟨a,s,rfl,h1,h2,_,rfl⟩:=errorString_of_trod hi hrow hp he hft hfo hs hc hcs hd ok;exact ⟨a,s,by simpa using BX hg hv 0,h1,h2,(hrows a.block a.off (by simp [MemPlace.row])).1⟩
  ·exact ww hi hrow hp he hft hfo hs hc hcs hr (fun b off hb=>hrows b off (nt _ hb)) n text g hm hg ht
theorem FV {P:Program} {f:FuncId} {fn:Func} {s:ChangeSpec} {c:OpenClaim} (l1:laidOutB P=true) (l2:mapsRowed P=true) (l3:(P.stops== [])=true) (l4:(P.stopKnobs== [])=true) (l5:P.stopsHeard=true) (l6:P.mayEnter=true)
  (l7:(c.lifted==P.liftsFinal)=true) (l8:(P.make==some c.make)=true) (l9:(c.plainKeys==P.plainKeys)=true)
  (a0:c.wf (OpenSpec.ofChange s)=true) (a1:(fn.params.all (P.readableRec ·) && namedTie P c.named s.vars && (c.stops== []) && (c.knobs== []))=true)
  (a2:(c.inPlace==P.inPlace f)=true) (a3:(c.unfollowed==P.unfollowed f)=true) (a4:(c.recurses==P.recurses f)=true) (a5:(c.named==P.varsNamed f)=true)
  (a6:((c.maps==(fn.params.toList++s.plain.varTypes P).any (P.mapsRec ·)) && (c.ifaces==(fn.params.toList++s.plain.varTypes P).any (P.ifacesRec ·)) && (c.mapsOut==P.mapsAmong fn.resultTypes.toList) &&
   (c.loops==(fn.params.toList++s.plain.varTypes P).any (P.loopsFrom ·)) && (c.wideKeys==(fn.params.toList++s.plain.varTypes P++fn.resultTypes.toList).any (P.wideKeysFrom ·)) &&
   s.vars.all (P.varReadable ·) && fn.resultTypes.all (fun t=>P.readableRec t && decide (t < P.types.size)) && (c.ifacesOut==fn.resultTypes.toList.any (P.ifacesRec ·)) && (c.loopsOut==fn.resultTypes.toList.any (P.loopsFrom ·)))=true)
  (a7:(c.shortTexts.isNone && (c.kinds==(if c.domain.isEmpty then [] else fn.params.toList.map fun t=>match P.underlying t with | some (.int k)=>some k | _=>none)) && (c.pinned==c.pinnedBy) &&
   (c.veiled==(fn.params.toList++s.plain.varTypes P++fn.resultTypes.toList).any (P.veiledRec ·)) && c.veiledFits P fn.params.toList (fn.params.toList++s.plain.varTypes P++fn.resultTypes.toList))=true):joinedFacts P f fn s c=true:=by
 simp only [aw] at a1 a6 a7;obtain ⟨⟨⟨b1,b2⟩,b3⟩,b4⟩:=a1;obtain ⟨⟨⟨⟨⟨⟨⟨⟨c1,c2⟩,c3⟩,c4⟩,c5⟩,c6⟩,c7⟩,c8⟩,c9⟩:=a6;obtain ⟨⟨⟨⟨d1,d2⟩,d3⟩,d4⟩,d5⟩:=a7;unfold joinedFacts;simp only [aw];exact ⟨⟨⟨⟨⟨⟨⟨⟨⟨⟨⟨⟨⟨⟨⟨⟨⟨⟨⟨⟨⟨⟨⟨⟨⟨⟨⟨⟨⟨⟨⟨a0,l1⟩,l2⟩,b1⟩,b2⟩,b3⟩,l3⟩,b4⟩,l4⟩,a2⟩,a3⟩,a4⟩,a5⟩,c1⟩,c2⟩,c3⟩,c4⟩,c5⟩,c6⟩,c7⟩,c8⟩,c9⟩,l9⟩,d1⟩,l5⟩,l6⟩,l7⟩,l8⟩,d2⟩,d3⟩,d4⟩,d5⟩
end Go.Lt
namespace Go.Proofs.YtidapncdmjppeaaGreatDoor
open Go Go.Lt
set_option linter.unusedVariables false
theorem HD {α:Type} {cs:List α} (h:cs.length=4):∃a0 a1 a2 a3,cs= [a0,a1,a2,a3]:=by
 match cs,h with
 | [a0,a1,a2,a3],_=>exact ⟨_,_,_,_,rfl⟩
theorem HE {α:Type} {cs:List α} (h:cs.length=2):∃a0 a1,cs= [a0,a1]:=by
 match cs,h with
 | [a0,a1],_=>exact ⟨_,_,rfl⟩
def K_3 (n:Int):Prop:=(Lit.int .i64 n).wf=true
theorem D_3:Rd Tryz.prog 3 (RI .i64) K_3:=Rd.int Tryz.underlying3 (by kernel_rfl)
def HL (x:dz):Prop:=K_3 x.W∧K_3 x.H
theorem HN:Rd Tryz.prog 23 pX HL:=by
 refine ⟨by kernel_rfl,fun {H enc w sp held fuel cs x} h=>?_⟩;obtain ⟨xs,n,rfl,rfl,hl,hn,hf⟩:=HV Tryz.underlying23 h;replace hl:=hl.trans (show Tryz.prog.cellsOf 23=2 by kernel_rfl);obtain ⟨a0,a1,rfl⟩:=HE hl;obtain ⟨y0,e0,k0⟩:=Rd.field hf hn 0 rfl D_3;have e0: [a0]= [.int .i64 y0]:=e0;cases e0;obtain ⟨y1,e1,k1⟩:=Rd.field hf hn 1 rfl D_3;have e1: [a1]= [.int .i64 y1]:=e1;cases e1;exact ⟨⟨y0,y1⟩,rfl,k0,k1⟩
def K_5 (n:Int):Prop:=(Lit.int .u8 n).wf=true
theorem D_5:Rd Tryz.prog 5 (RI .u8) K_5:=Rd.int Tryz.underlying5 (by kernel_rfl)
theorem Hy (w:World):Rel (C0 w) ⟨[],[],[],[],[],[],[],[],[]⟩ (fun _ _=>[]):=
 ⟨⟨fun k x h=>by simp at h,fun _ _=>rfl⟩,⟨fun k x h=>by simp at h,fun _ _=>rfl⟩,⟨fun k x h=>by simp at h,fun _ _=>rfl⟩,⟨fun k x h=>by simp at h,fun _ _=>rfl⟩,⟨fun k x h=>by simp at h,fun _ _=>rfl⟩,⟨fun k x h=>by simp at h,fun _ _=>rfl⟩,⟨fun k x h=>by simp at h,fun _ _=>rfl⟩,⟨fun k x h=>by simp at h,fun _ _=>rfl⟩,⟨fun k x h=>by simp at h,fun _ _=>rfl⟩⟩
theorem GF: "*" ++ "errors.errorString" = "*errors.errorString" :=by decide
set_option maxRecDepth 100000 in
theorem Cf (u:TypeId) (h:Tryz.prog.typeName? 3 u=some "*errors.errorString"):u=341:=
 typeName_ptr_named (nm:= "errors.errorString") (by rw [GF]; kernel_rfl) (by kernel_rfl) (by decide) u (by rw [GF]; exact h)
set_option maxRecDepth 100000 in
theorem nh {W:World} {laid:List (String×DataW Unit)} (h:laidMetH Tryz.prog laid W) (hf:(laid.filter fun x=>x.2.handleName?.isSome)= []) (n:String) (text:List UInt8) (g:Nat)
  (hm:(n,DataW.iface "*errors.errorString" (.ptr (.agg [.lit (.string text)])))∈laid) (hg:Tryz.prog.globalNamed n=some g) (ht:(Tryz.prog.globals[g]?).map (·.type)=some 42):
  ∃a s,Im (C0 W) g 0 (.iface 341 (.pointer (some a)))∧W.cell? a=some (.string s)∧s.data.toList=text∧RE 341 78 (C0 W) (.iface 341 (.pointer (some a))) (.sent g):=by
 rw [FM hf] at h;obtain ⟨ps,hl,_,hr⟩:=h;obtain ⟨a,s,h1,h2,h3,cs,t,h4⟩:=ww Tryz.underlying42 Cf Tryz.underlying341 Tryz.underlying343 rfl rfl Tryz.underlying9 (by kernel_rfl) (by kernel_rfl) hl hr n text g hm hg ht;exact ⟨a,s,im0 h1,h2,h3,a,rfl,im0 h1,(Array.getElem?_eq_some_iff.1 h4).1,fun _=>id,cs,t,h4⟩
theorem FX {W:World} {n:List Nat} (tx:Nat→List UInt8) (h:∀g,g∈n→∃a s,Im (C0 W) g 0 (.iface 341 (.pointer (some a)))∧W.cell? a=some (.string s)∧s.data.toList=tx g∧RE 341 78 (C0 W) (.iface 341 (.pointer (some a))) (.sent g))
  (hd:∀g,g∈n→∀g',g'∈n→tx g=tx g'→g=g'):Gl n (C0 W):=by
 refine ⟨fun g hg=>?_,fun g g' hg hg' hne a h1 h2=>?_⟩
 ·obtain ⟨a,_,_,_,_,h4⟩:=h g hg;exact ⟨_,h4⟩
 ·obtain ⟨a1,s1,e1,e2,e3,_⟩:=h g hg;obtain ⟨a2,s2,f1,f2,f3,_⟩:=h g' hg';have q1:=e1.cell.symm.trans h1.cell;have q2:=f1.cell.symm.trans h2.cell;cases q1;cases q2;have q3:=e2.symm.trans f2;cases q3;exact hne (hd g hg g' hg' (e3.symm.trans f3))
end Go.Proofs.YtidapncdmjppeaaGreatDoor
namespace Go.Lt
open Go.ChangeShapes Go.WideShapes Go.RowKit
def RdM (P:Program) (t:TypeId) {α:Type} (R:Rp α) (K:α→Prop):Prop:=
 P.cellsOf t=R.size∧∀{H:Type} {enc:TypeId×Value→H} {w:World} {sp:Nat→Bool} {held:Bool} {fuel:Nat} {cs:List Value} {x:DataW H×List MemPlace},
  DataW.trod enc P w 0 sp held fuel t cs=some x→(∀n∈x.1.weights P t,n≤reachBytes)→∃y,R.cells (C0 w) cs y∧K y
theorem Rd.m {P:Program} {t:TypeId} {α:Type} {R:Rp α} {K:α→Prop} (h:Rd P t R K):RdM P t R K:=⟨h.1,fun hd _=>h.2 hd⟩
theorem tB {H:Type} {P:Program} {e:TypeId}:∀{l:List (DataW H)} {i:Nat} {d:DataW H},l[i]? = some d→∀n∈d.weights P e,n∈DataW.weightsAll P e l
 | d0 :: l,0,d,h,n,hn=>by
  simp only [jH,aM] at h;subst h;simp only [DataW.weightsAll,tQ];exact Or.inl hn
 | d0 :: l,i+1,d,h,n,hn=>by
  simp only [Fa] at h;simp only [DataW.weightsAll,tQ];exact Or.inr (tB h n hn)
 | [],_,_,h,_,_=>by simp at h
theorem RdM.slice {P:Program} {t e:TypeId} {α:Type} {R:Rp α} {K:α→Prop} (ht:P.underlying t=some (.slice e)) (hc:P.cellsOf t=1) (h0:0 < R.size) (hb:0 < P.bytesOf e) (h:RdM P e R K):RdM P t (RL R) (fun xs=>xs.length≤reachBytes∧∀x∈xs,K x):=by
 refine ⟨hc,fun {H enc w sp held fuel cs x} hd hw=>?_⟩;rcases DataW.trod_slice ht hd with ⟨rfl,_⟩ | ⟨a,len,cap,elems,rest,n,_,rfl,hx,_,hl,hm,hlen,hel,_,_⟩
 ·exact ⟨[],⟨_,rfl,Sl.nl R _⟩,db _,fun x hx=>by cases hx⟩
 ·subst hx;simp only [DataW.weights,ht] at hw;have hlr:len≤reachBytes:=by
   have h1:=hw _ (mj ..);have h2:len≤((elems.map (·.1)).length+(rest.map (·.1)).length) * P.bytesOf e:=by
    rw [eF,hlen];exact dI (Nat.le_add_right _ _) (Nat.le_mul_of_pos_right _ hb)
   omega
  obtain ⟨b,o,s⟩:=a;have key:∀i,i < len→∃x,K x∧∃b' off l,(some ⟨b,o,s⟩:Option Addr)=some ⟨b',off,none⟩∧R.cells (C0 w) l x∧∀j u,l[j]? = some u→Im (C0 w) b' (off+i * R.size+j) u:=by
   intro i hi;have hs:s=none:=by
    have hE:=hel 0 (by omega);rw [ab (show 0 < elems.length by omega),E9] at hE;obtain ⟨cs,hcs,_⟩:=hE;obtain ⟨c1,c2⟩:=yN hcs;have hp:0 < cs.length:=by rw [c1,h.1]; exact h0
    have:=World.cell?_spot (c2 0 _ (ab hp));simpa [Addr.add] using this
   subst hs;have hE:=hel i hi;rw [ab (show i < elems.length by omega),E9] at hE;obtain ⟨cs,hcs,hr⟩:=hE;obtain ⟨c1,c2⟩:=yN hcs;have hget:(elems.map (·.1))[i]? = some elems[i].1:=by
    rw [bm,ab (show i < elems.length by omega)];rfl
   obtain ⟨x,hx,hk⟩:=h.2 hr fun n hn=>hw n (iW _ (de _ (tB hget n hn)));refine ⟨x,hk,b,o,cs,rfl,hx,fun j u hu=>im0 ?_⟩;have:=c2 j u hu;rw [Ff,Ff,h.1] at this;exact this
  obtain ⟨xs,hxl,hxs⟩:=GL len key;subst hxl;refine ⟨xs,⟨_,rfl,some ⟨b,o,s⟩,cap,rfl,hl,hm,fun i x hx=>(hxs i x hx).2⟩,hlr,fun x hx=>?_⟩;obtain ⟨i,hi⟩:=List.mem_iff_getElem?.1 hx;exact (hxs i x hi).1
theorem RdM.field {P:Program} {H:Type} {enc:TypeId×Value→H} {w:World} {sp:Nat→Bool} {held:Bool} {n:Nat} {cs:List Value} {t:TypeId} {fs:Array Field} {xs:List (DataW H×List MemPlace)}
  (ht:P.underlying t=some (.struct fs)) (hw:∀m∈(DataW.agg (xs.map (·.1)):DataW H).weights P t,m≤reachBytes)
  (hf:∀(i:Nat) (f:Field),fs[i]? = some f→DataW.trod enc P w 0 sp held n f.type ((cs.drop f.offset).take (P.cellsOf f.type))=xs[i]?) (hx:xs.length=fs.size)
  (i:Nat) {f:Field} (hi:fs[i]? = some f) {α:Type} {R:Rp α} {K:α→Prop} (h:RdM P f.type R K):∃y,R.cells (C0 w) ((cs.drop f.offset).take R.size) y∧K y:=by
 have hlt:=(Array.getElem?_eq_some_iff.1 hi).1;have:=hf i f hi;have hxi:=ab (show i < xs.length by omega);rw [hxi,h.1] at this;refine h.2 this fun m hm=>hw m ?_;simp only [DataW.weights,ht];refine DataW.weights_mem_each (j:=i) (t:=f.type) (d:=xs[i].1) ?_ ?_ m hm
 ·rw [bm,GC,hi];rfl
 ·rw [bm,hxi];rfl
theorem Ae {P:Program} {H:Type} {enc:TypeId×Value→H} {w:World} {sp:Nat→Bool} {held:Bool} {t:TypeId} {v:Value} {d:DataW H} {p:List MemPlace} {e:TypeId} {α:Type} {R:Rp α} {K:List α→Prop}
  (ht:P.underlying t=some (.slice e)) (h:RdM P t (RL R) K) (hok:Value.okWide P w .any 0 t v) (hd:DataW.Trod enc P w 0 sp held t v d p) (hw:∀n∈d.weights P t,n≤reachBytes):∃xs,Sl R (C0 w) v xs∧K xs:=by
 obtain ⟨fuel,hd⟩:=hd;obtain ⟨xs,⟨u,hu,hs⟩,hk⟩:=h.2 hd hw;have:v.cells= #[v]:=by
  unfold Value.okWide at hok;simp only [ht] at hok;unfold Cell.okWide at hok
  cases v <;> simp [ht,Cell.ok] at hok⊢
  all_goals rfl
 rw [this] at hu;cases hu;exact ⟨xs,hs,hk⟩
end Go.Lt
namespace Go.Proofs.YtidapncdmjppeaaGreatDoor
open Go Go.Lt Go.ChangeShapes Go.WideShapes Go.RowKit
set_option maxRecDepth 100000
def Fc (xs:List Int):Prop:=xs.length≤reachBytes∧∀x∈xs,K_5 x
theorem Hn:RdM Tryz.prog 55 (RL (RI .u8)) Fc:=RdM.slice Tryz.underlying55 (by kernel_rfl) (by decide) (by rw [show Tryz.prog.bytesOf 5=1 by kernel_rfl]; decide) D_5.m
def Fb (x:bv):Prop:=K_3 x.Kind∧K_3 x.A∧K_3 x.B∧Fc x.Bytes
theorem Hm:RdM Tryz.prog 59 om Fb:=by
 refine ⟨by kernel_rfl,fun {H enc w sp held fuel cs x} h hw=>?_⟩;obtain ⟨xs,n,rfl,rfl,hl,hn,hf⟩:=HV Tryz.underlying59 h;replace hl:=hl.trans (show Tryz.prog.cellsOf 59=4 by kernel_rfl);obtain ⟨a0,a1,a2,a3,rfl⟩:=HD hl;obtain ⟨y0,e0,k0⟩:=RdM.field Tryz.underlying59 hw hf hn 0 rfl D_3.m;have e0: [a0]= [.int .i64 y0]:=e0;cases e0;obtain ⟨y1,e1,k1⟩:=RdM.field Tryz.underlying59 hw hf hn 1 rfl D_3.m;have e1: [a1]= [.int .i64 y1]:=e1;cases e1;obtain ⟨y2,e2,k2⟩:=RdM.field Tryz.underlying59 hw hf hn 2 rfl D_3.m;have e2: [a2]= [.int .i64 y2]:=e2;cases e2;obtain ⟨y3,e3,k3⟩:=RdM.field Tryz.underlying59 hw hf hn 3 rfl Hn;obtain ⟨v3,e3,s3⟩:=e3;have e3: [a3]= [v3]:=e3;cases e3;exact ⟨⟨y0,y1,y2,y3⟩,⟨_,rfl,s3⟩,k0,k1,k2,k3⟩
def Hl (xs:List bv):Prop:=xs.length≤reachBytes∧∀x∈xs,Fb x
theorem Ho:RdM Tryz.prog 24 (RL om) Hl:=RdM.slice Tryz.underlying24 (by kernel_rfl) (by decide) (by rw [show Tryz.prog.bytesOf 59=48 by kernel_rfl]; decide) Hm
end Go.Proofs.YtidapncdmjppeaaGreatDoor
namespace Go.Proofs.YtidapncdmjppeaaGreatDoor
open Go Go.Lt Go.RowKit
theorem rP {H:Type} {enc:TypeId×Value→H} {a:Assume} {C:Checked} {os:Os} {f:FuncId} {fn:Func} {s:ChangeSpec} {conds:List PathCond} {apart fresh handsOn again:Bool} {X:World→Array Value→Prop}
  (hX:∀(w w':World) (args:Array Value),w.heap=w'.heap→X w args→X w' args)
  (own:ownKnob C.prog.godebug=none) (started:os.Started) (noInit:C.prog.inits.idxOf? f=none) (hfn:C.prog.funcs[f]? = some fn)
  (witness:∃(w:World) (tape:Tape) (i:Input),w.os=os∧(w.forCall tape i).Shaped C.prog∧i.vars= []∧Input.okWide C.prog (w.forCall tape i) .any w.heap.size f i∧
   ((s.pre enc C.prog fn conds apart (w.forCall tape i).memory i.args∧X (w.forCall tape i).memory i.args)∧sizedMet enc C.prog fn (OpenSpec.ofChange s) apart (w.forCall tape i).memory i.args)∧a.holds C.prog (lone (Frame.enter C.prog f i.args .normal) [] (w.forCall tape i)))
  (contract:∀(W:World) (base:Nat) (args:Array Value) (ds gs:List (DataW H)) (before:List MemPlace),
   (∀(j:Nat) t v,fn.params[j]? = some t→args[j]? = some v→Value.okWide C.prog W .any base t v)→
   DataW.Whole enc C.prog fn.params.toList s.vars apart W args.toList ds gs before→
   conds.all (PathCond.test C.prog ⟨fn.params.toList,ds,s.plain.varTypes C.prog,gs⟩)=true→
   (DataW.weightsEach C.prog (fn.params.toList++s.plain.varTypes C.prog) (ds++gs)).all (· ≤reachBytes)=true→X W args→
   W.ShapedOpen C.prog→
   a.holds C.prog (lone (Frame.enter C.prog f args .normal) [] W)→
   Calls C.prog f args W fun e W'=>∃v,e= .returned v∧s.post enc C.prog fn apart fresh handsOn again W args v W'):
  ReturnsInHanded a C os f .any (fun w args=>(s.pre enc C.prog fn conds apart w args∧X w args)∧sizedMet enc C.prog fn (OpenSpec.ofChange s) apart w args) (s.post enc C.prog fn apart fresh handsOn again):=by
 refine returnsInHanded_of_calls own started noInit witness ?_;intro w tape i _ hsh _ hok hpre hholds;obtain ⟨_,_,_,fn',hfn',_,_,_,_,hval⟩:=hok;have e:fn'=fn:=aq (hfn'.symm.trans hfn);subst e;obtain ⟨⟨⟨ds,gs,before,hw,hc⟩,hx⟩,hz⟩:=hpre;have hw':=DataW.Whole.of_heap (w':=w.forCall tape i) (by rfl) hw;refine (contract (w.forCall tape i) w.heap.size i.args ds gs before hval hw' hc (hz.weights hw) (hX _ _ _ (by rfl) hx) hsh hholds).mono fun e W' ⟨v,he,hp⟩=>?_;subst he;exact ChangeSpec.post_blind hp
theorem yu {P:Program} {W:World} {name:String} {k:IntKind} {zs:List Int} {g:Nat} {t e:TypeId} {n:Nat}
  (hg:P.globalNamed name=some g) (hty:(P.globals[g]?).map (·.type)=some t) (ht:P.underlying t=some (.array n e)) (he:P.underlying e=some (.int k)) (hce:P.cellsOf e=1) (hct:P.cellsOf t=n) (hn:0 < zs.length):
  ∀{laid:List (String×DataW Unit)} {ps:List MemPlace},DataW.LaidVars P W laid ps→(∀b off,MemPlace.cell b off∈ps→(∃c t,W.heap[b]? = some (.cells c t (0,0)))∧∀u v,W.cell? ⟨b,off,none⟩=some (.iface u v)→Value.okWide P W .any 0 u v)→
  (name,Lib.tabData k zs)∈laid→Lib.TabIs P W name k zs∧∃c t,W.heap[g]? = some (.cells c t (0,0))
 | [],_,_,_,hm=>by cases hm
 | (n',d) :: r,ps,⟨g',t',cs,fuel,p,q,hg',ht',hv,hd,hr,e2⟩,hrows,hm=>by
  subst e2;rcases List.mem_cons.1 hm with hh | hm
  ·cases hh;obtain rfl:=aq (hg.symm.trans hg');obtain rfl:=aq (hty.symm.trans ht');have hcs:=Lib.cells_of_tab ht he hce hct hd;have hsz:cs.size=zs.length:=by
    have:=kW List.length hcs;simpa using this
   refine ⟨by unfold Lib.TabIs; rw [hv,←hcs],(hrows g 0 ?_).1⟩;refine de _ (de _ ?_);unfold MemPlace.row;rw [hsz];exact List.mem_map.2 ⟨0,List.mem_range.2 hn,by simp⟩
  ·exact yu hg hty ht he hce hct hn hr (fun b off hb=>hrows b off (nt _ hb)) hm
theorem yn {W:World} (h:W.ShapedOpen Tryz.prog):∃m,W.cell? ⟨10,0,none⟩=some (.int .i64 m):=
 cell_of_shapedOpen_int (t:=3) (zero:= #[.int .i64 0]) h (ky (by kernel_rfl)) (by kernel_rfl) rfl (by kernel_rfl) (by kernel_rfl) (by kernel_rfl)
theorem et0 {W:World} {laid:List (String×DataW Unit)} (hs:W.ShapedOpen Tryz.prog) (hf:(laid.filter fun x=>x.2.handleName?.isSome)= []) (h:laidMetH Tryz.prog laid W) (hm:("internal/strconv.uint64pow10",Lib.tabData .u64 Lib.pow10Tab)∈laid):Et (C0 W):=by
 rw [FM hf] at h;obtain ⟨ps,hl,_,hr⟩:=h;obtain ⟨h1,c,t,h2⟩:=yu (t:=242) (e:=40) (n:=20) tF (by kernel_rfl) (by kernel_rfl) (by kernel_rfl) (by kernel_rfl) (by kernel_rfl) (by decide) hl hr hm;obtain ⟨m,h3⟩:=yn hs;exact ⟨⟨m,im0 h3⟩,⟨(Array.getElem?_eq_some_iff.1 h2).1,fun _=>id,c,t,h2⟩,h1⟩
end Go.Proofs.YtidapncdmjppeaaGreatDoor
namespace Go.Proofs.YtidapncdmjppeaaGreatDoor
open Go Go.Lt
def txt (c:aa):List Int:=if c.Kind=0 then [32] else if c.Kind=1∨c.Kind=2 then c.Text else []
def flat (l:List aa):List Int:=l.flatMap txt
def oZ (l:List aa):Nat:=(l.map fun c=>c.Text.length+1).sum
theorem Fm (c:aa):(txt c).length≤c.Text.length+1:=by
 unfold txt;split
 ·simp
 ·split
  ·omega
  ·simp
theorem xk (l:List aa):(flat l).length≤oZ l:=by
 unfold flat oZ
 induction l with
 | nil=>simp
 | cons c l ih=>
  rw [kK,aj,eB,kk];have:=Fm c;omega
theorem qj {l:List aa} {i:Nat} (h:i < l.length):flat (l.take (i+1))=flat (l.take i)++txt l[i]:=by
 unfold flat;rw [ax h,lM];simp
theorem ol (l:List aa) (i:Nat):oZ (l.take i)≤oZ l:=by
 unfold oZ
 conv=>rhs; rw [←iE i l]
 rw [bA,oL];omega
theorem Aw (l:List aa) (hb:oZ l≤1000000000):gy l=some (flat l):=by
 have hl:l.length≤oZ l:=by
  unfold oZ
  induction l with
  | nil=>simp
  | cons c l ih=>
   simp only [eB,kk,az];have:oZ l≤1000000000:=by
    unfold oZ at hb⊢;simp only [eB,kk] at hb;omega
   have:=ih this;omega
 unfold gy;refine qh (n:=l.length) (fun i (a:List Int×Int)=>a=(flat (l.take i),(i:Int))) (fun u=>u=flat l) (fun i a hi e=>?_) (fun a e=>?_) rfl (by omega) (fun u e=>by rw [e])
 ·left
  subst e;simp only;rw [af (dlt hi),bp hi,bsm,dL hi (by omega)];have h1:=xk (l.take (i+1));have h2:=ol l (i+1);rw [qj hi] at h1;rw [aj] at h1;refine ⟨_,?_,rfl⟩;rw [qj hi];have ht:txt l[i]=if l[i].Kind=0 then [32] else if l[i].Kind=1∨l[i].Kind=2 then l[i].Text else []:=rfl;by_cases k0:l[i].Kind=0
  ·rw [af k0] at ht;rw [ht] at h1⊢;rw [af (by rw [k0]; rfl),cY (by simp only [az,aH] at h1⊢; omega)];rfl
  ·rw [ag k0] at ht;rw [ag (by rw [aX]; exact k0)];by_cases k1:l[i].Kind=1∨l[i].Kind=2
   ·rw [af k1] at ht;rw [ht] at h1⊢;have:(if (l[i].Kind==1)=true then some (l[i].Kind==1) else some (l[i].Kind==2))=some true:=by
     rcases k1 with h | h <;> rw [h] <;> rfl
    rw [this,bsm,af rfl,cY (by omega)];rfl
   ·rw [ag k1] at ht;rw [ht];have:(if (l[i].Kind==1)=true then some (l[i].Kind==1) else some (l[i].Kind==2))=some false:=by
     have a:¬l[i].Kind=1:=fun h=>k1 (.inl h);have b:¬l[i].Kind=2:=fun h=>k1 (.inr h);rw [ag (by rw [aX]; exact a),beq_eq_false_iff_ne.2 b]
    rw [this,bsm,ag (by simp),bsm,dy]
 ·subst e;exact ⟨_,by simp only; rw [ag (by simp)],by rw [dW]⟩
end Go.Proofs.YtidapncdmjppeaaGreatDoor
namespace Go.Proofs.YtidapncdmjppeaaGreatDoor
open Go Go.Lt
def jV (d:Bool) (l:List aa):Nat→Nat
  | 0=>0
  | n+1=>match l[n]? with
    | some c=>if c.Kind≠0∨(d=true∧n+1 < l.length) then n+1 else jV d l n
    | none=>jV d l n
variable {d:Bool} {l:List aa} {i n:Nat}
theorem mH (hi:i < l.length):jV d l (i+1)=if l[i].Kind≠0∨(d=true∧i+1 < l.length) then i+1 else jV d l i:=by
  show (match l[i]? with | some c=>if c.Kind≠0∨(d=true∧i+1 < l.length) then i+1 else jV d l i | none=>jV d l i)=_;rw [ab hi]
theorem uO:∀n,jV d l n≤n
  | 0=>ao 0
  | n+1=>by
    have:=uO n;show (match l[n]? with | some c=>if c.Kind≠0∨(d=true∧n+1 < l.length) then n+1 else jV d l n | none=>jV d l n)≤_;split
    · split
      · exact ao _
      · exact zp this
    · exact zp this
theorem CT (h:n < l.length):jV true l n=n:=by
  cases n with
  | zero=>rfl
  | succ i=>rw [mH (by omega),af (.inr ⟨rfl,h⟩)]
def oE (d:Bool) (l:List aa):List aa:=l.take (jV d l l.length)
theorem xV {α:Type} {xs:List α} {k:Nat} (h:k≤xs.length):slc xs 0 (k:Int)=some (xs.take k):=by
  unfold slc;rw [af (by omega)];simp
theorem C4 (hl:l.length≤1000000000):iw l=some (oE true l):=by
  unfold iw oE
  cases hn:l.length with
  | zero=>
    rw [show decide (w64 (((0:Nat):Int) - 1)≥0)=false by rw [aN (by omega)]; rfl,fW,bsm,ag (by simp)];rw [bW hn];rfl
  | succ n=>
    have hi:n < l.length:=by omega
    have hw:w64 (((n+1:Nat):Int) - 1)=(n:Int):=by rw [aN (by omega)]; omega
    rw [hw,show decide ((n:Int)≥0)=true by rw [an]; omega,je,bp hi,bsm,bsm,mH hi,CT hi];by_cases k0:l[n].Kind=0
    · rw [af (by rw [k0]; rfl),xV (by omega),bsm,ag (by rw [hn]; rintro (h | h); exact h k0; omega)]
    · rw [ag (by rw [aX]; exact k0),af (.inl k0),aT (by omega)]
theorem CB (hl:l.length≤1000000000):iv l=some (oE false l):=by
  unfold iv oE
  suffices h:∃t,cO (σ:=Int) (τ:=Int) (((l.length:Int) - 0).toNat+1) (fun a=>
 (bL (decide (a > 0)) ((idx l (w64 (a - 1))).bind fun c=>
 some (c.Kind==0))).bind fun b=>
 if b=true then
 some (.inl ((w64 (a - 1))))
 else
 some (.inr (a))) ((l.length:Int))=some t∧t=(jV false l l.length:Int) by
    obtain ⟨t,h1,h2⟩:=h;rw [h1,bsm,h2,xV (uO _),bsm]
  refine nO (fun a=>∃k:Nat,a=(k:Int)∧k≤l.length∧jV false l k=jV false l l.length) (fun a=>a.toNat) (fun t=>t=(jV false l l.length:Int)) (fun a hI=>?_) _ _ ⟨l.length,rfl,ao _,rfl⟩ (by omega);obtain ⟨k,rfl,hk,he⟩:=hI
  cases k with
  | zero=>
    right
    rw [show decide (((0:Nat):Int) > 0)=false by simp,fW,bsm,ag (by simp)];exact ⟨_,rfl,by rw [←he]; rfl⟩
  | succ n=>
    have hi:n < l.length:=by omega
    have hw:w64 (((n+1:Nat):Int) - 1)=(n:Int):=by rw [aN (by omega)]; omega
    rw [show decide (((n+1:Nat):Int) > 0)=true by rw [an]; omega,je,hw,bp hi,bsm,bsm];rw [mH hi] at he;by_cases k0:l[n].Kind=0
    · left
      rw [af (by rw [k0]; rfl)];rw [ag (by rintro (h | h); exact h k0; simp at h)] at he;exact ⟨_,rfl,⟨n,rfl,by omega,he⟩,by omega⟩
    · right
      rw [ag (by rw [aX]; exact k0)];rw [af (.inl k0)] at he;exact ⟨_,rfl,by rw [←he]⟩
end Go.Proofs.YtidapncdmjppeaaGreatDoor
namespace Go.Proofs.YtidapncdmjppeaaGreatDoor
open Go Go.Lt
def wr (L:List ah) (i:Nat):Bool:=match L[i]? with
 | some l=>l.Wrap && decide (i+1 < L.length)
 | none=>false
def stL (L:List ah):Nat→List (List Int)×List Int
 | 0=>([],[])
 | i+1=>match L[i]? with
  | some l=>if wr L i=true then ((stL L i).1,(stL L i).2++flat (oE true l.Cells)) else ((stL L i).1++ [(stL L i).2++flat (oE false l.Cells)],[])
  | none=>stL L i
def pW (L:List ah):Nat:=(L.map fun l=>oZ l.Cells).sum
variable {L:List ah} {i:Nat}
theorem wd (hi:i < L.length):wr L i=(L[i].Wrap && decide (i+1 < L.length)):=by
 unfold wr;rw [ab hi]
theorem wL (hi:i < L.length) (h:wr L i=true):stL L (i+1)=((stL L i).1,(stL L i).2++flat (oE true L[i].Cells)):=by
 show (match L[i]? with | some l=>if wr L i=true then ((stL L i).1,(stL L i).2++flat (oE true l.Cells)) else ((stL L i).1++ [(stL L i).2++flat (oE false l.Cells)],[]) | none=>stL L i)=_;rw [ab hi];simp only [h,bF]
theorem rt (hi:i < L.length) (h:wr L i=false):stL L (i+1)=((stL L i).1++ [(stL L i).2++flat (oE false L[i].Cells)],[]):=by
 show (match L[i]? with | some l=>if wr L i=true then ((stL L i).1,(stL L i).2++flat (oE true l.Cells)) else ((stL L i).1++ [(stL L i).2++flat (oE false l.Cells)],[]) | none=>stL L i)=_;rw [ab hi];simp only [h,ak,aY]
theorem rb (hi:i < L.length):pW (L.take (i+1))=pW (L.take i)+oZ L[i].Cells:=by
 unfold pW;rw [ax hi,bA,oL];simp
theorem vz (L:List ah) (i:Nat):pW (L.take i)≤pW L:=by
 unfold pW
 conv=>rhs; rw [←iE i L]
 rw [bA,oL];omega
theorem uI (l:List aa):l.length≤oZ l:=by
 unfold oZ
 induction l with
 | nil=>simp
 | cons c l ih=>
  simp only [eB,kk,az];omega
theorem xl (d:Bool) (l:List aa):(flat (oE d l)).length≤oZ l:=dI (xk _) (ol l _)
theorem uw:∀i,i≤L.length→(stL L i).1.length≤i∧(stL L i).2.length+((stL L i).1.map List.length).sum≤pW (L.take i)
 | 0,_=>⟨ao 0,ao 0⟩
 | i+1,h=>by
  obtain ⟨h1,h2⟩:=uw i (by omega);have hi:i < L.length:=by omega
  rw [rb hi];have c1:=xl true L[i].Cells;have c2:=xl false L[i].Cells
  cases hw:wr L i with
  | true=>
   rw [wL hi hw];refine ⟨zp h1,?_⟩;simp only [aj];omega
  | false=>
   rw [rt hi hw];refine ⟨by simp only [aj,az,aH]; omega,?_⟩;simp only [aH,bA,oL,eB,tz,kk,List.sum_nil,aj];omega
theorem CN (v:bh) (hn:v.Lines.length≤1000000) (hb:pW v.Lines≤100000000):iy v=some (stL v.Lines v.Lines.length).1:=by
 unfold iy;refine qh (n:=v.Lines.length) (fun i (a:List (List Int)×List Int×Int)=>a=((stL v.Lines i).1,(stL v.Lines i).2,(i:Int))) (fun u=>u=(stL v.Lines v.Lines.length).1) (fun i a hi e=>?_) (fun a e=>?_) rfl (by omega) (fun u e=>by rw [e])
 ·left
  subst e;simp only;have hB:=vz v.Lines (i+1);rw [rb hi] at hB;obtain ⟨g1,g2⟩:=uw (L:=v.Lines) i (by omega);have c1:=xl true v.Lines[i].Cells;have c2:=xl false v.Lines[i].Cells;have b1:=ol v.Lines[i].Cells (jV true v.Lines[i].Cells v.Lines[i].Cells.length);have b2:=ol v.Lines[i].Cells (jV false v.Lines[i].Cells v.Lines[i].Cells.length);have lb:=uI v.Lines[i].Cells;have hw:w64 ((v.Lines.length:Int) - 1)=((v.Lines.length - 1:Nat):Int):=by rw [aN (by omega)]; omega
  rw [af (dlt hi),bp hi,bsm,hw,aV,bsm,dL hi (by omega)];have hd:(v.Lines[i].Wrap && decide ((i:Int) < ((v.Lines.length - 1:Nat):Int)))=wr v.Lines i:=by
   rw [wd hi]
   congr 1
   rw [ny];omega
  rw [hd];refine ⟨_,?_,rfl⟩
  cases h:wr v.Lines i with
  | true=>
   rw [af rfl,C4 (by omega),bsm,Aw _ (by unfold oE; omega),bsm,cY (by omega),bsm,bsm,wL hi h]
  | false=>
   rw [ag (by simp),CB (by omega),bsm,Aw _ (by unfold oE; omega),bsm,cY (by omega),bsm,cY (by simp only [az,aH]; omega),bsm,bsm,rt hi h]
 ·subst e;exact ⟨_,by simp only; rw [ag (by simp)],rfl⟩
end Go.Proofs.YtidapncdmjppeaaGreatDoor
namespace Go.Proofs.YtidapncdmjppeaaGreatDoor
open Go Go.Lt
def bgL (L:List ah):Nat→Bool
 | 0=>false
 | i+1=>wr L i
def rl (L:List ah) (i:Nat):List (List Int):=if bgL L i=true then (stL L i).1++ [(stL L i).2] else (stL L i).1
variable {L:List ah} {i:Nat}
theorem DZ (hi:i < L.length):rl L (i+1)=(stL L i).1++ [(stL L i).2++flat (oE (wr L i) L[i].Cells)]:=by
 have hb:bgL L (i+1)=wr L i:=rfl;unfold rl;rw [hb]
 cases h:wr L i with
 | true=>
  rw [af rfl,wL hi h]
 | false=>
  rw [ag (by simp),rt hi h]
theorem ER:∀i,i≤L.length→bgL L i=false→(stL L i).2= []
 | 0,_,_=>rfl
 | i+1,h,hb=>by rw [rt (by omega) hb]
theorem An {α:Type} {x:Option α} {X:α} (h:∃t,x=some t∧t=X):x=some X:=by
 obtain ⟨t,h1,h2⟩:=h;rw [h1,h2]
theorem El (d:Bool) (l:List aa) (hl:l.length≤1000000000):cO (σ:=Int×Int) (τ:=Int) (((l.length:Int) - 0).toNat+1) (fun s_57=>
 if (decide (s_57.2 < (l.length:Int)))=true then
 ((idx l s_57.2).bind fun x_66=>
 (orE (x_66.Kind != 0) ((bL d (some (decide ((w64 (s_57.2+1)) < (l.length:Int))))).bind fun d_73=>
 some d_73)).bind fun d_70=>
 if d_70=true then
 (some (s_57.2):Option (Int))
 else
 (some (s_57.1):Option (Int))).bind fun z_63=>
 some (.inl (z_63,(w64 (s_57.2+1))))
 else
 some (.inr (s_57.1))) ((-1),0)=some ((jV d l l.length:Int) - 1):=by
 refine An (dY (n:=l.length) (fun i (s:Int×Int)=>s=((jV d l i:Int) - 1,(i:Int))) (fun t=>t=(jV d l l.length:Int) - 1) (fun i s hi e=>?_) (fun s e=>?_) rfl (by omega))
 ·left
  subst e;simp only;rw [af (dlt hi),bp hi,bsm,dL hi (by omega),aV,bsm,bQ,bsm];refine ⟨_,?_,rfl⟩;rw [mH hi];have hc:((l[i].Kind != 0) || (d && decide (((i+1:Nat):Int) < (l.length:Int))))=decide (l[i].Kind≠0∨(d=true∧i+1 < l.length)):=by
   have e1:decide (((i+1:Nat):Int) < (l.length:Int))=decide (i+1 < l.length):=by
    rw [ny];omega
   rw [e1,cG];simp only [aF,nH,aw,an]
  rw [hc];by_cases h:l[i].Kind≠0∨(d=true∧i+1 < l.length)
  ·rw [af (by rw [an]; exact h),af h,bsm]
   congr 2
   simp
  ·rw [ag (by rw [an]; exact h),ag h,bsm]
 ·subst e;exact ⟨_,by simp only; rw [ag (by simp)],rfl⟩
theorem AE (gs:List (List Int)) (c:List Int):idx (gs++ [c]) (gs.length:Int)=some c:=by
 rw [un,aG (ao _),dd];rfl
theorem xW (gs:List (List Int)) (c c':List Int):jp (gs++ [c]) (gs.length:Int) c'=some (gs++ [c']):=by
 rw [ib (by simp),dH _ _ (ao _),dd];rfl
theorem BH (gs:List (List Int)) (cur:List Int) (l:List aa) (n:Nat) (hn:n≤l.length) (hg:gs.length≤1000000) (hb:cur.length+oZ l≤1000000000):cO (σ:=(List (List Int))×Int) (τ:=List (List Int)) ((((n:Int) - 1) - 0).toNat+2) (fun s_95=>
 if (decide (s_95.2≤((n:Int) - 1)))=true then
 (((idx l s_95.2).bind fun x_104=>
 if (x_104.Kind==0)=true then
 (idx s_95.1 (w64 (((gs++ [cur]).length:Int) - 1))).bind fun x_113=>
 (app x_113 ([32]:List Int)).bind fun x_117=>
 (jp s_95.1 (w64 (((gs++ [cur]).length:Int) - 1)) x_117).bind fun w_119=>
 some w_119
 else
 some s_95.1).bind fun z_101=>
 (idx l s_95.2).bind fun x_124=>
 (orE (x_124.Kind==1) ((idx l s_95.2).bind fun x_132=>
 some (x_132.Kind==2))).bind fun d_128=>
 if d_128=true then
 (idx z_101 (w64 (((gs++ [cur]).length:Int) - 1))).bind fun x_141=>
 (idx l s_95.2).bind fun x_146=>
 (app x_141 x_146.Text).bind fun x_149=>
 (jp z_101 (w64 (((gs++ [cur]).length:Int) - 1)) x_149).bind fun w_151=>
 some w_151
 else
 some z_101).bind fun z_100=>
 some (.inl (z_100,(w64 (s_95.2+1))))
 else
 some (.inr (s_95.1))) (gs++ [cur],0)=some (gs++ [cur++flat (l.take n)]):=by
 have hw:w64 (((gs++ [cur]).length:Int) - 1)=(gs.length:Int):=by
  rw [aj,az,aH,aN (by omega)];omega
 rw [hw];have lb:=uI l;refine An (dY (n:=n) (fun i (s:List (List Int)×Int)=>s=(gs++ [cur++flat (l.take i)],(i:Int))) (fun t=>t=gs++ [cur++flat (l.take n)]) (fun i s hi e=>?_) (fun s e=>?_) (by simp [flat]) (by omega))
 ·left
  subst e;have hil:i < l.length:=by omega
  have f1:=xk (l.take (i+1));have f2:=ol l (i+1);rw [qj hil,aj] at f1;simp only;rw [af (by rw [an]; omega),bp hil,bsm,dL hil (by omega)];refine ⟨_,?_,rfl⟩;rw [qj hil];have ht:txt l[i]=if l[i].Kind=0 then [32] else if l[i].Kind=1∨l[i].Kind=2 then l[i].Text else []:=rfl;by_cases k0:l[i].Kind=0
  ·rw [af k0] at ht;rw [ht] at f1⊢;rw [af (by rw [k0]; rfl),AE,bsm,cY (by simp only [az,aH,aj] at f1⊢; omega),bsm,xW,bsm,bsm];simp only [bsm,bQ,k0];rw [ag (by simp),bsm,aI]
  ·rw [ag k0] at ht;rw [ag (by rw [aX]; exact k0),bsm];simp only [bsm,bQ];by_cases k1:l[i].Kind=1∨l[i].Kind=2
   ·rw [af k1] at ht;rw [ht] at f1⊢;rw [af (by rw [aF,aX,aX]; exact k1),AE,bsm,cY (by rw [aj]; omega),bsm,xW,bsm,bsm,aI]
   ·rw [ag k1] at ht;rw [ht,ag (by rw [aF,aX,aX]; exact k1),bsm,dy]
 ·subst e;exact ⟨_,by simp only; rw [ag (by rw [an]; omega)],rfl⟩
end Go.Proofs.YtidapncdmjppeaaGreatDoor
namespace Go.Proofs.YtidapncdmjppeaaGreatDoor
open Go Go.Lt
theorem Bh (v:bh) (hn:v.Lines.length≤1000000) (hb:pW v.Lines≤100000000):eH v=some (stL v.Lines v.Lines.length).1:=by
 unfold eH;refine qh (n:=v.Lines.length) (fun i (a:List (List Int)×Bool×Int)=>a=(rl v.Lines i,bgL v.Lines i,(i:Int))) (fun u=>u=(stL v.Lines v.Lines.length).1) (fun i a hi e=>?_) (fun a e=>?_) rfl (by omega) (fun u e=>by rw [e])
 ·left
  subst e;simp only;have hB:=vz v.Lines (i+1);rw [rb hi] at hB;obtain ⟨g1,g2⟩:=uw (L:=v.Lines) i (by omega);have lb:=uI v.Lines[i].Cells;have hz:(if (!bgL v.Lines i)=true then (app (rl v.Lines i) ([[]]:List (List Int))).bind fun x_27=>some x_27 else some (rl v.Lines i))=some ((stL v.Lines i).1++ [(stL v.Lines i).2]):=by
   cases h:bgL v.Lines i with
   | true=>
    rw [ag (by simp)];unfold rl;rw [af h]
   | false=>
    have hr:rl v.Lines i=(stL v.Lines i).1:=by
     unfold rl;rw [ag (by rw [h]; simp)]
    rw [af (by simp),hr,cY (by simp only [az,aH]; omega),bsm,ER i (by omega) h]
  rw [af (dlt hi),hz,bsm,bp hi,bsm,bsm,dL hi (by omega),aV,bsm,El _ _ (by omega),bsm];have hd:(v.Lines[i].Wrap && decide (((i+1:Nat):Int) < (v.Lines.length:Int)))=wr v.Lines i:=by
   rw [wd hi]
   congr 1
   rw [ny];omega
  rw [hd,BH _ _ _ _ (uO _) (by omega) (by omega),bsm];refine ⟨_,rfl,?_⟩;rw [DZ hi];rfl
 ·subst e;refine ⟨_,by simp only; rw [ag (by simp)],?_⟩;unfold rl
  cases hL:v.Lines.length with
  | zero=>rfl
  | succ n=>
   have:bgL v.Lines (n+1)=false:=by
    show wr v.Lines n=false;rw [wd (by omega)];simp [hL]
   rw [this];rfl
end Go.Proofs.YtidapncdmjppeaaGreatDoor
namespace Go.Proofs.YtidapncdmjppeaaGreatDoor
open Go Go.Lt
set_option linter.unusedVariables false
structure ae where
  L:List ah
  At:ai
  Auto:Bool
def eI (p0:Int):Option (Bool):=
 (bL (decide (p0≥0)) (some (decide (p0≤1114111)))).bind fun b=>
 (bL b ((orE (decide (p0 < 55296)) (some (decide (p0 > 57343)))).bind fun a=>
 some a)).bind fun c=>
 some c
def ge (p0:aa):Option (Bool):=
 (orE (p0.Kind==0) (some (p0.Kind==3))).bind fun h=>
 if h=true then
 some ((p0.Text.length:Int)==0)
 else
 (bL (p0.Kind != 1) (some (p0.Kind != 2))).bind fun c=>
 (orE c (some (decide ((p0.Text.length:Int) < 1)))).bind fun d=>
 (orE d (some (decide ((p0.Text.length:Int) > 16)))).bind fun e=>
 if e=true then
 some false
 else
 (cO (σ:=Int) (τ:=Bool ⊕ Unit) (((p0.Text.length:Int) - 0).toNat+1) (fun b=>
 if (decide (b < (p0.Text.length:Int)))=true then
 (idx p0.Text b).bind fun f=>
 (eI f).bind fun g=>
 if (!g)=true then
 some (.inr (.inl false))
 else
 some (.inl ((w64 (b+1))))
 else
 some (.inr (.inr ()))) (0)).bind fun a=>
 match a with
 | .inl a=>
 some a
 | .inr a=>
 some true
def eg (p0:List aa) (p1:Int):Option (Int):=
 (orE (decide (p1 < 0)) (some (decide (p1≥(p0.length:Int))))).bind fun b=>
 if b=true then
 some 0
 else
 (idx p0 p1).bind fun a=>
 some a.Kind
def lC (p0:List aa):Option (Bool):=
 (cO (σ:=Int) (τ:=Bool ⊕ Unit) (((p0.length:Int) - 0).toNat+1) (fun a=>
 if (decide (a < (p0.length:Int)))=true then
 (idx p0 a).bind fun g=>
 (ge g).bind fun h=>
 (orE (!h) ((idx p0 a).bind fun i=>
 (bL (i.Kind==2) ((eg p0 (w64 (a+1))).bind fun j=>
 some (j != 3))).bind fun d=>
 some d)).bind fun c=>
 (orE c ((idx p0 a).bind fun k=>
 (bL (k.Kind==3) ((eg p0 (w64 (a - 1))).bind fun l=>
 some (l != 2))).bind fun f=>
 some f)).bind fun e=>
 if e=true then
 some (.inr (.inl false))
 else
 some (.inl ((w64 (a+1))))
 else
 some (.inr (.inr ()))) (0)).bind fun b=>
 match b with
 | .inl b=>
 some b
 | .inr b=>
 some true
def kw (p0:Int) (p1:List Int):Option (List aa):=
 (cO (σ:=(List Int)×Int) (τ:=(List Int)) (((p1.length:Int) - 0).toNat+1) (fun a=>
 (bL (decide (a.2 < (p1.length:Int))) (some (decide (a.2 < 16)))).bind fun c=>
 if c=true then
 ((idx p1 a.2).bind fun e=>
 (eI e).bind fun f=>
 if f=true then
 (idx p1 a.2).bind fun g=>
 (app a.1 ([g]:List Int)).bind fun h=>
 some (h)
 else
 (app a.1 ([65533]:List Int)).bind fun i=>
 some (i)).bind fun j=>
 some (.inl (j,(w64 (a.2+1))))
 else
 some (.inr (a.1))) (([]:List Int),0)).bind fun b=>
 (bL ((b.length:Int)==0) (some (decide (p0 > 1)))).bind fun d=>
 if d=true then
 some ([(⟨0,([]:List Int)⟩:aa),(⟨0,([]:List Int)⟩:aa)]:List aa)
 else
 if ((b.length:Int)==0)=true then
 some ([(⟨0,([]:List Int)⟩:aa)]:List aa)
 else
 if (decide (p0 > 1))=true then
 some ([(⟨2,b⟩:aa),(⟨3,([]:List Int)⟩:aa)]:List aa)
 else
 some ([(⟨1,b⟩:aa)]:List aa)
def gb (p0:List aa) (p1:Bool) (p2:Int) (p3:List aa):Option ((List aa)×Bool):=
 (cO (σ:=Bool×(List aa)×Int) (τ:=(Bool×(List aa))) (((p0.length:Int) - 0).toNat+1) (fun a=>
 if (decide (a.2.2 < (p0.length:Int)))=true then
 (bL (decide (a.2.2≥p2)) (some (decide (a.2.2 < (w64 (p2+(p3.length:Int))))))).bind fun c=>
 (idx p0 a.2.2).bind fun e=>
 (if c=true then
 (idx p3 (w64 (a.2.2 - p2))).bind fun f=>
 some (f.Kind,f.Text)
 else
 some (e.Kind,e.Text)).bind fun b=>
 (bL (!c) ((bL (b.1==2) (some (decide ((w64 (a.2.2+1))≥p2)))).bind fun l=>
 (bL l (some (decide ((w64 (a.2.2+1)) < (w64 (p2+(p3.length:Int))))))).bind fun m=>
 (orE m ((bL (b.1==3) (some (decide ((w64 (a.2.2 - 1))≥p2)))).bind fun o=>
 (bL o (some (decide ((w64 (a.2.2 - 1)) < (w64 (p2+(p3.length:Int))))))).bind fun p=>
 some p)).bind fun n=>
 some n)).bind fun d=>
 (if d=true then
 some (0,([]:List Int))
 else
 some (b.1,b.2)).bind fun g=>
 ((bL ((w64 (a.2.2+1))==(p0.length:Int)) ((orE c (some d)).bind fun i=>
 some i)).bind fun h=>
 if h=true then
 some (false)
 else
 some (a.1)).bind fun q=>
 (app a.2.1 ([(⟨g.1,g.2⟩:aa)]:List aa)).bind fun j=>
 some (.inl (q,j,(w64 (a.2.2+1))))
 else
 some (.inr (a.1,a.2.1))) (p1,([]:List aa),0)).bind fun k=>
 some (k.2,k.1)
def dq (p0:List aa) (p1:Bool) (p2:Int) (p3:Int):Option ((List aa)×Bool):=
 if (decide ((aW 0 (aO p2 (p0.length:Int)))≥(aW 0 (aO p3 (p0.length:Int)))))=true then
 some (p0,p1)
 else
 (rep (w64 ((aW 0 (aO p3 (p0.length:Int))) - (aW 0 (aO p2 (p0.length:Int))))) (⟨0,([]:List Int)⟩:aa)).bind fun b=>
 (gb p0 p1 (aW 0 (aO p2 (p0.length:Int))) b).bind fun a=>
 some (a.1,a.2)
def jT (p0:List aa) (p1:Bool) (p2:Int) (p3:Int) (p4:Int):Option ((List aa)×Bool):=
 if (p2==0)=true then
 (dq p0 p1 p3 p4).bind fun b=>
 some (b.1,b.2)
 else
 if (p2==1)=true then
 if (decide (p3 < 0))=true then
 some (p0,p1)
 else
 (dq p0 p1 0 (w64 ((aO p3 (p0.length:Int))+1))).bind fun c=>
 some (c.1,c.2)
 else
 if (p2==2)=true then
 (dq p0 p1 p3 (p0.length:Int)).bind fun d=>
 some (d.1,d.2)
 else
 if (p2==3)=true then
 (dq p0 p1 0 (p0.length:Int)).bind fun g=>
 some (g.1,false)
 else
 (orE (decide (p3 < 0)) (some (decide (p4 < 1)))).bind fun e=>
 (orE e (some (decide (p3≥(p0.length:Int))))).bind fun f=>
 if f=true then
 some (p0,p1)
 else
 (dq p0 p1 p3 (w64 (p3+(aO p4 (p0.length:Int))))).bind fun a=>
 some (a.1,a.2)
def fc (p0:List ah) (p1:Int) (p2:Int) (p3:Int) (p4:Bool):Option (List ah):=
 (orE (decide ((aW 0 (aO p1 (p0.length:Int)))≥(aW 0 (aO p2 (p0.length:Int))))) (some (decide (p3 < 1)))).bind fun j=>
 if j=true then
 some p0
 else
 (cO (σ:=(List ah)×Int) (τ:=(List ah)) (((p0.length:Int) - 0).toNat+1) (fun a=>
 if (decide (a.2 < (p0.length:Int)))=true then
 (idx p0 a.2).bind fun c=>
 ((bL (decide (a.2≥(aW 0 (aO p1 (p0.length:Int))))) (some (decide (a.2 < (aW 0 (aO p2 (p0.length:Int))))))).bind fun k=>
 if k=true then
 (if (!p4)=true then
 some ((w64 (a.2 - (aO p3 (w64 ((aW 0 (aO p2 (p0.length:Int))) - (aW 0 (aO p1 (p0.length:Int)))))))))
 else
 some ((w64 (a.2+(aO p3 (w64 ((aW 0 (aO p2 (p0.length:Int))) - (aW 0 (aO p1 (p0.length:Int)))))))))).bind fun b=>
 (idx p0 a.2).bind fun n=>
 (rep (n.Cells.length:Int) (⟨0,([]:List Int)⟩:aa)).bind fun o=>
 (bL (decide (b≥(aW 0 (aO p1 (p0.length:Int))))) (some (decide (b < (aW 0 (aO p2 (p0.length:Int))))))).bind fun l=>
 if l=true then
 (idx p0 b).bind fun d=>
 some (d.Cells,d.Wrap)
 else
 some (o,false)
 else
 some (c.Cells,c.Wrap)).bind fun e=>
 ((orE ((w64 (a.2+1))==(aW 0 (aO p1 (p0.length:Int)))) ((bL (!p4) (some ((w64 (a.2+1))==(aW 0 (aO p2 (p0.length:Int)))))).bind fun g=>
 some g)).bind fun f=>
 if f=true then
 some (false)
 else
 some (e.2)).bind fun i=>
 (app a.1 ([(⟨e.1,i⟩:ah)]:List ah)).bind fun h=>
 some (.inl (h,(w64 (a.2+1))))
 else
 some (.inr (a.1))) (([]:List ah),0)).bind fun m=>
 some m
def fA (p0:Int) (p1:Int):Option (Int):=
 if (decide (p0 < 0))=true then
 some 0
 else
 if (decide (p0≥p1))=true then
 some (w64 (p1 - 1))
 else
 some p0
def ci (p0:Int):Option (Int):=
 if (decide (p0 < 1))=true then
 some 1
 else
 if (decide (p0 > 1024))=true then
 some 1024
 else
 some p0
def gH (p0:ai) (p1:Int) (p2:Int):Option (ai):=
 (ci p2).bind fun b=>
 (fA p0.Row b).bind fun c=>
 (ci p1).bind fun d=>
 (fA p0.Col d).bind fun e=>
 (bL p0.Pending ((ci p1).bind fun f=>
 some (p0.Col==(w64 (f - 1))))).bind fun a=>
 some (⟨c,e,a⟩:ai)
def dN (p0:ae):Option (Int):=
 (idx p0.L 0).bind fun a=>
 some (a.Cells.length:Int)
def cA (p0:ae):Option (ae):=
 (dN p0).bind fun a=>
 (gH p0.At a (p0.L.length:Int)).bind fun b=>
 some (⟨p0.L,b,p0.Auto⟩:ae)
def eh (p0:ae):Option (ae):=
 (cA p0).bind fun a=>
 if (decide ((w64 (a.At.Row+1)) < (a.L.length:Int)))=true then
 some (⟨a.L,(⟨(w64 (a.At.Row+1)),a.At.Col,false⟩:ai),a.Auto⟩:ae)
 else
 (fc a.L 0 (a.L.length:Int) 1 true).bind fun b=>
 some (⟨b,(⟨a.At.Row,a.At.Col,false⟩:ai),a.Auto⟩:ae)
def cz (p0:ae) (p1:Int) (p2:ah):Option (ae):=
 (app ([]:List ah) p0.L).bind fun a=>
 (idx a p1).bind fun c=>
 (jp a p1 p2).bind fun b=>
 some (⟨b,p0.At,p0.Auto⟩:ae)
def cV (p0:ae):Option (ae):=
 (idx p0.L p0.At.Row).bind fun b=>
 (cz p0 p0.At.Row (⟨b.Cells,true⟩:ah)).bind fun a=>
 (eh (⟨a.L,(⟨a.At.Row,0,false⟩:ai),a.Auto⟩:ae)).bind fun c=>
 some c
def cq (p0:ae) (p1:Int) (p2:Int) (p3:List aa):Option (ae):=
 (idx p0.L p1).bind fun d=>
 (idx p0.L p1).bind fun b=>
 (gb d.Cells b.Wrap p2 p3).bind fun a=>
 (cz p0 p1 (⟨a.1,a.2⟩:ah)).bind fun c=>
 some c
def jk (p0:ai) (p1:Int) (p2:Int) (p3:Bool):Option (ai):=
 (if (decide (p1 > 1))=true then
 some (2)
 else
 some (1)).bind fun a=>
 (ci p2).bind fun b=>
 if (decide (p0.Col≥(w64 (b - a))))=true then
 (ci p2).bind fun c=>
 some (⟨p0.Row,(w64 (c - 1)),p3⟩:ai)
 else
 some (⟨p0.Row,(w64 (p0.Col+a)),false⟩:ai)
def bb (p0:ae) (p1:Int) (p2:List Int):Option (ae×ai):=
 (cA p0).bind fun c=>
 (dN c).bind fun d=>
 (if (decide ((aW 1 (aO p1 2)) > d))=true then
 some (1,([65533]:List Int))
 else
 some ((aW 1 (aO p1 2)),p2)).bind fun g=>
 (if c.At.Pending=true then
 (cV c).bind fun e=>
 some (e.L,e.At.Row,e.At.Col,e.At.Pending,e.Auto)
 else
 some (c.L,c.At.Row,c.At.Col,c.At.Pending,c.Auto)).bind fun a=>
 ((bL (g.1==2) (some (a.2.2.1==(w64 (d - 1))))).bind fun i=>
 if i=true then
 if a.2.2.2.2=true then
 (rep 1 (⟨0,([]:List Int)⟩:aa)).bind fun j=>
 (cq (⟨a.1,(⟨a.2.1,a.2.2.1,a.2.2.2.1⟩:ai),a.2.2.2.2⟩:ae) a.2.1 (w64 (d - 1)) j).bind fun k=>
 (cV k).bind fun f=>
 some (f.L,f.At.Row,f.At.Col,f.At.Pending,f.Auto)
 else
 some (a.1,a.2.1,(w64 (d - 2)),a.2.2.2.1,a.2.2.2.2)
 else
 some (a.1,a.2.1,a.2.2.1,a.2.2.2.1,a.2.2.2.2)).bind fun b=>
 (kw g.1 g.2).bind fun l=>
 (cq (⟨b.1,(⟨b.2.1,b.2.2.1,b.2.2.2.1⟩:ai),b.2.2.2.2⟩:ae) b.2.1 b.2.2.1 l).bind fun h=>
 (jk (⟨b.2.1,b.2.2.1,false⟩:ai) g.1 d h.Auto).bind fun m=>
 some ((⟨h.L,m,h.Auto⟩:ae),(⟨b.2.1,b.2.2.1,false⟩:ai))
def fe (p0:List aa) (p1:Int):Option (List aa):=
 (cO (σ:=(List aa)×Int) (τ:=(List aa)) (((p0.length:Int) - 0).toNat+1) (fun a=>
 if (decide (a.2 < (p0.length:Int)))=true then
 (idx p0 a.2).bind fun b=>
 ((bL (decide (p1 < (p0.length:Int))) ((idx p0 p1).bind fun g=>
 some (g.Kind==3))).bind fun d=>
 (bL d ((orE (a.2==p1) (some ((w64 (a.2+1))==p1))).bind fun f=>
 some f)).bind fun e=>
 if e=true then
 some (0,([]:List Int))
 else
 some (b.Kind,b.Text)).bind fun c=>
 (app a.1 ([(⟨c.1,c.2⟩:aa)]:List aa)).bind fun h=>
 some (.inl (h,(w64 (a.2+1))))
 else
 some (.inr (a.1))) (([]:List aa),0)).bind fun i=>
 some i
def iJ (p0:List aa) (p1:Int) (p2:Int):Option ((List aa)×Bool):=
 (orE (decide (p1 < 0)) (some (decide (p1≥(p0.length:Int))))).bind fun l=>
 (orE l (some (decide (p2 < 1)))).bind fun h=>
 if h=true then
 some (p0,false)
 else
 (fe p0 p1).bind fun c=>
 (cO (σ:=(List aa)×Int) (τ:=(List aa)) (((p0.length:Int) - 0).toNat+1) (fun a=>
 if (decide (a.2 < (p0.length:Int)))=true then
 (if (decide (a.2 < p1))=true then
 (idx c a.2).bind fun d=>
 some (d.Kind,d.Text)
 else
 some (0,([]:List Int))).bind fun f=>
 (if (decide (a.2≥(w64 (p1+(aO p2 (w64 ((p0.length:Int) - p1)))))))=true then
 (idx c (w64 (a.2 - (aO p2 (w64 ((p0.length:Int) - p1)))))).bind fun e=>
 some (e.Kind,e.Text)
 else
 some (f.1,f.2)).bind fun b=>
 ((bL ((w64 (a.2+1))==(p0.length:Int)) (some (b.1==2))).bind fun i=>
 if i=true then
 some (0,([]:List Int))
 else
 some (b.1,b.2)).bind fun g=>
 (app a.1 ([(⟨g.1,g.2⟩:aa)]:List aa)).bind fun k=>
 some (.inl (k,(w64 (a.2+1))))
 else
 some (.inr (a.1))) (([]:List aa),0)).bind fun j=>
 some (j,true)
def iK (p0:List aa) (p1:Int) (p2:Int):Option ((List aa)×Bool):=
 (orE (decide (p1 < 0)) (some (decide (p1≥(p0.length:Int))))).bind fun j=>
 (orE j (some (decide (p2 < 1)))).bind fun f=>
 if f=true then
 some (p0,false)
 else
 (fe p0 p1).bind fun h=>
 (fe h (w64 (p1+(aO p2 (w64 ((p0.length:Int) - p1)))))).bind fun b=>
 (cO (σ:=(List aa)×Int) (τ:=(List aa)) (((p0.length:Int) - 0).toNat+1) (fun a=>
 if (decide (a.2 < (p0.length:Int)))=true then
 (if (decide (a.2 < p1))=true then
 (idx b a.2).bind fun c=>
 some (c.Kind,c.Text)
 else
 if (decide ((w64 (a.2+(aO p2 (w64 ((p0.length:Int) - p1))))) < (p0.length:Int)))=true then
 (idx b (w64 (a.2+(aO p2 (w64 ((p0.length:Int) - p1)))))).bind fun d=>
 some (d.Kind,d.Text)
 else
 some (0,([]:List Int))).bind fun e=>
 (app a.1 ([(⟨e.1,e.2⟩:aa)]:List aa)).bind fun i=>
 some (.inl (i,(w64 (a.2+1))))
 else
 some (.inr (a.1))) (([]:List aa),0)).bind fun g=>
 some (g,true)
def fB (p0:List aa) (p1:Int):Option (List aa):=
 (rep (aW 1 (aO p1 1024)) (⟨0,([]:List Int)⟩:aa)).bind fun i=>
 (cO (σ:=(List aa)×Int) (τ:=(List aa)) (((aW 1 (aO p1 1024)) - 0).toNat+1) (fun a=>
 (bL (decide (a.2 < (aW 1 (aO p1 1024)))) (some (decide (a.2 < (p0.length:Int))))).bind fun b=>
 if b=true then
 ((orE (decide ((w64 (a.2+1)) < (aW 1 (aO p1 1024)))) ((idx p0 a.2).bind fun f=>
 some (f.Kind != 2))).bind fun c=>
 if c=true then
 (idx p0 a.2).bind fun g=>
 (idx a.1 a.2).bind fun j=>
 (jp a.1 a.2 g).bind fun e=>
 some (e)
 else
 some (a.1)).bind fun h=>
 some (.inl (h,(w64 (a.2+1))))
 else
 some (.inr (a.1))) (i,0)).bind fun d=>
 some d
def fy (p0:ae) (p1:Int) (p2:Int):Option (ae):=
 (cA p0).bind fun d=>
 (ci p1).bind fun f=>
 (ci p2).bind fun c=>
 (cO (σ:=(List ah)×Int) (τ:=((List ah)×Int)) ((d.At.Row - c).toNat+2) (fun a=>
 if (decide (a.2≥c))=true then
 (slc a.1 1 a.1.length).bind fun h=>
 some (.inl (h,(w64 (a.2 - 1))))
 else
 some (.inr (a.1,a.2))) (d.L,d.At.Row)).bind fun e=>
 (cO (σ:=(List ah)×Int) (τ:=(List ah)) ((c - 0).toNat+1) (fun b=>
 if (decide (b.2 < c))=true then
 (if (decide (b.2 < (e.1.length:Int)))=true then
 (idx e.1 b.2).bind fun i=>
 some (i.Cells)
 else
 some (([]:List aa))).bind fun l=>
 (fB l f).bind fun j=>
 (app b.1 ([(⟨j,false⟩:ah)]:List ah)).bind fun k=>
 some (.inl (k,(w64 (b.2+1))))
 else
 some (.inr (b.1))) (([]:List ah),0)).bind fun g=>
 some (⟨g,(⟨e.2,(aO d.At.Col (w64 (f - 1))),false⟩:ai),d.Auto⟩:ae)
def iL (p0:Int):Option (Bool):=
 (bL (decide (p0≥0)) (some (decide (p0≤31)))).bind fun b=>
 (orE b ((bL (decide (p0≥127)) (some (decide (p0≤159)))).bind fun a=>
 some a)).bind fun c=>
 some c
def dx (p0:ae) (p1:Int):Option (ae×Bool):=
 (if (p1==13)=true then
 (cA p0).bind fun f=>
 some (f.L,f.At.Row,0,false,f.Auto)
 else
 some (p0.L,p0.At.Row,p0.At.Col,p0.At.Pending,p0.Auto)).bind fun b=>
 (if (p1==10)=true then
 (eh (⟨b.1,(⟨b.2.1,b.2.2.1,b.2.2.2.1⟩:ai),b.2.2.2.2⟩:ae)).bind fun c=>
 some (c.L,c.At.Row,c.At.Col,c.At.Pending,c.Auto)
 else
 some (b.1,b.2.1,b.2.2.1,b.2.2.2.1,b.2.2.2.2)).bind fun a=>
 (if (p1==8)=true then
 (cA (⟨a.1,(⟨a.2.1,a.2.2.1,a.2.2.2.1⟩:ai),a.2.2.2.2⟩:ae)).bind fun e=>
 some (e.L,e.At.Row,(aW 0 (w64 (e.At.Col - 1))),false,e.Auto)
 else
 some (a.1,a.2.1,a.2.2.1,a.2.2.2.1,a.2.2.2.2)).bind fun d=>
 (iL p1).bind fun g=>
 some ((⟨d.1,(⟨d.2.1,d.2.2.1,d.2.2.2.1⟩:ai),d.2.2.2.2⟩:ae),g)
def pG:Option (List ByteArray):=
 some ([(⟨#[48,48,48,48,49,49,48,48,49,48,48,48,48,48]⟩:ByteArray),(⟨#[48,48,49,48,48,48,48,48,48,48,48,48,48,48]⟩:ByteArray),(⟨#[48,48,48,48,48,48,48,48,48,48,48,48,48,48]⟩:ByteArray),(⟨#[48,48,48,48,48,48,48,48,48,48,48,48,48,48]⟩:ByteArray),(⟨#[50,48,48,48,49,49,48,48,49,48,48,48,48,48]⟩:ByteArray),(⟨#[50,48,48,48,49,49,48,48,49,48,48,48,48,48]⟩:ByteArray),(⟨#[48,48,48,48,49,49,50,48,49,48,48,48,48,48]⟩:ByteArray),(⟨#[49,48,48,48,49,49,49,49,49,49,49,49,49,49]⟩:ByteArray),(⟨#[48,48,48,48,49,49,48,48,49,48,48,48,48,48]⟩:ByteArray),(⟨#[48,48,48,48,49,49,48,48,49,49,49,48,49,49]⟩:ByteArray),(⟨#[48,48,48,48,49,49,48,48,49,48,49,49,48,48]⟩:ByteArray),(⟨#[48,48,48,48,49,49,48,48,49,48,48,49,48,48]⟩:ByteArray),(⟨#[48,48,48,48,49,49,48,48,49,48,49,49,48,48]⟩:ByteArray),(⟨#[48,48,48,48,49,49,48,48,49,48,48,49,48,48]⟩:ByteArray)]:List ByteArray)
def fg (p0:Int) (p1:Int):Option (Int):=
 ((orE (decide (p0 < 0)) (some (decide (p0 > 13)))).bind fun f=>
 if f=true then
 some (0)
 else
 some (p0)).bind fun g=>
 ((orE (decide (p1 < 0)) (some (decide (p1 > 13)))).bind fun a=>
 if a=true then
 some (0)
 else
 some (p1)).bind fun e=>
 (pG).bind fun b=>
 (idx b g).bind fun c=>
 (DU c e).bind fun d=>
 some (w64 ((w64 d) - 48))
def dp (p0:ae) (p1:Int) (p2:Int) (p3:Int) (p4:Int):Option (ae):=
 (idx p0.L p1).bind fun d=>
 (idx p0.L p1).bind fun b=>
 (jT d.Cells b.Wrap p2 p3 p4).bind fun a=>
 (cz p0 p1 (⟨a.1,a.2⟩:ah)).bind fun c=>
 some c
def jj (p0:ae) (p1:Int) (p2:Int):Option (ae):=
 (idx ([2,1,3]:List Int) p2).bind fun k=>
 (dp p0 p0.At.Row k p0.At.Col 0).bind fun b=>
 (cO (σ:=Int×(List ah)×Int×Int×Bool×Bool) (τ:=((List ah)×Int×Int×Bool×Bool)) (((b.L.length:Int) - 0).toNat+1) (fun a=>
 (bL (decide (a.1 < (a.2.1.length:Int))) (some (p1==4))).bind fun f=>
 if f=true then
 ((orE (p2==2) ((bL (p2==0) (some (decide (a.1 > a.2.2.1)))).bind fun h=>
 some h)).bind fun g=>
 (orE g ((bL (p2==1) (some (decide (a.1 < a.2.2.1)))).bind fun j=>
 some j)).bind fun i=>
 if i=true then
 (dp (⟨a.2.1,(⟨a.2.2.1,a.2.2.2.1,a.2.2.2.2.1⟩:ai),a.2.2.2.2.2⟩:ae) a.1 3 0 0).bind fun d=>
 some (d.L,d.At.Row,d.At.Col,d.At.Pending,d.Auto)
 else
 some (a.2.1,a.2.2.1,a.2.2.2.1,a.2.2.2.2.1,a.2.2.2.2.2)).bind fun e=>
 some (.inl ((w64 (a.1+1)),e.1,e.2.1,e.2.2.1,e.2.2.2.1,e.2.2.2.2))
 else
 some (.inr (a.2.1,a.2.2.1,a.2.2.2.1,a.2.2.2.2.1,a.2.2.2.2.2))) (0,b.L,b.At.Row,b.At.Col,b.At.Pending,b.Auto)).bind fun c=>
 some (⟨c.1,(⟨c.2.1,c.2.2.1,c.2.2.2.1⟩:ai),c.2.2.2.2⟩:ae)
def kv (p0:ae) (p1:bv):Option (ae):=
 (cA p0).bind fun a=>
 (idx a.L a.At.Row).bind fun c=>
 (if (p1.Kind==2)=true then
 (dN (⟨a.L,(⟨a.At.Row,a.At.Col,false⟩:ai),a.Auto⟩:ae)).bind fun o=>
 (gH (⟨p1.A,p1.B,false⟩:ai) o (a.L.length:Int)).bind fun h=>
 some (c.Cells,false,a.L,h.Row,h.Col,h.Pending,a.Auto)
 else
 (if (p1.Kind==3)=true then
 some (p1.Kind==3)
 else
 some (p1.Kind==4)).bind fun p=>
 if p=true then
 (jj (⟨a.L,(⟨a.At.Row,a.At.Col,false⟩:ai),a.Auto⟩:ae) p1.Kind p1.A).bind fun f=>
 some (c.Cells,false,f.L,f.At.Row,f.At.Col,f.At.Pending,f.Auto)
 else
 if (p1.Kind==5)=true then
 (dp (⟨a.L,(⟨a.At.Row,a.At.Col,false⟩:ai),a.Auto⟩:ae) a.At.Row 4 a.At.Col p1.A).bind fun g=>
 some (c.Cells,false,g.L,g.At.Row,g.At.Col,g.At.Pending,g.Auto)
 else
 if (p1.Kind==6)=true then
 (iJ c.Cells a.At.Col p1.A).bind fun j=>
 some (j.1,j.2,a.L,a.At.Row,a.At.Col,false,a.Auto)
 else
 if (p1.Kind==7)=true then
 (iK c.Cells a.At.Col p1.A).bind fun i=>
 some (i.1,i.2,a.L,a.At.Row,a.At.Col,false,a.Auto)
 else
 (if (p1.Kind==8)=true then
 some (p1.Kind==8)
 else
 some (p1.Kind==9)).bind fun m=>
 if m=true then
 (fc a.L a.At.Row (a.L.length:Int) p1.A (p1.Kind==9)).bind fun k=>
 some (c.Cells,false,k,a.At.Row,0,false,a.Auto)
 else
 (if (p1.Kind==10)=true then
 some (p1.Kind==10)
 else
 some (p1.Kind==11)).bind fun n=>
 if n=true then
 (fc a.L 0 (a.L.length:Int) p1.A (p1.Kind==10)).bind fun l=>
 some (c.Cells,false,l,a.At.Row,a.At.Col,false,a.Auto)
 else
 if (p1.Kind==12)=true then
 some (c.Cells,false,a.L,a.At.Row,a.At.Col,false,p1.A != 0)
 else
 some (c.Cells,false,a.L,a.At.Row,a.At.Col,false,a.Auto)).bind fun b=>
 (if b.2.1=true then
 (cz (⟨b.2.2.1,(⟨b.2.2.2.1,b.2.2.2.2.1,b.2.2.2.2.2.1⟩:ai),b.2.2.2.2.2.2⟩:ae) a.At.Row (⟨b.1,false⟩:ah)).bind fun d=>
 some (d.L,d.At.Row,d.At.Col,d.At.Pending,d.Auto)
 else
 some (b.2.2.1,b.2.2.2.1,b.2.2.2.2.1,b.2.2.2.2.2.1,b.2.2.2.2.2.2)).bind fun e=>
 some (⟨e.1,(⟨e.2.1,e.2.2.1,e.2.2.2.1⟩:ai),e.2.2.2.2⟩:ae)
end Go.Proofs.YtidapncdmjppeaaGreatDoor
