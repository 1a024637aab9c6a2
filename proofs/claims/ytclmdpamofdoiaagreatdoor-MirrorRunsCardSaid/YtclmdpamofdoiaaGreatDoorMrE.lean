/- Parts of the proofs of MirrorRuns: the walk through the code, and plain Lean. No condition. -/
import Derived.Test.YtclmdpamofdoiaaGreatDoorMrA
import Derived.Test.YtclmdpamofdoiaaGreatDoorProg
import Derived.Test.YtclmdpamofdoiaaGreatDoorMrB
import Derived.Test.YtclmdpamofdoiaaGreatDoorMrC
import Derived.Test.YtclmdpamofdoiaaGreatDoorMrD
import Derived.OpenShut
import Derived.LaidLaws
import Derived.Handed
import Derived.Lay
import Derived.JoinedOf
import Derived.KernelRfl
import Derived.SizedLaws
set_option linter.unusedVariables false
set_option linter.unusedSimpArgs false
namespace Go.Proofs.YtclmdpamofdoiaaGreatDoor
open Go Go.Lt
set_option maxRecDepth 10000
set_option linter.unusedVariables false
attribute [local irreducible] W WL AC
open Tryz
variable {c0:Cx}{G:Gm}{F:List En}{sg:Sto}{v1 v2 v3 v4 v5 v6 v7 v8 v9 v10 v11 v12 v13 v14 v15 v16 v17 v18 v19 v20 v21 v22 v23 v24 v25 v26 v27 v28 v29 v30 v31 v32 v33 v34 v35 v36 v37 v38 v39 v40 v41 v42 v43 v44 v45 v46 v47 v48 v49 v50 v51 v52 v53 v54 v55 v56 v57 v58 v59 v60:Value}
def eE (p0:ba) (p1:Int) (p2:ax):Option Bool:=
 (nW p2).bind fun d=>
 if (d==2)=true then
 some true
 else
 if (!p0.some)=true then
 some false
 else
 (bL (p1==65039) (some p0.pict)).bind fun a=>
 (orE a (some p2.Pict)).bind fun b=>
 (orE b (some (p2.Break==6))).bind fun c=>
 some c
theorem lT {b:Nat}(d:ba) (o:Int) (a:ax) (S:Own c0 G ((Eb b 265 [B d.some,B d.pict,B d.wide])::F)){r:Bool}(H:eE d o a=some r): KP 265 #[Q b,J o,.agg #[I a.Break,B a.Pict,I a.Conj,I a.East]] c0 fun c v=>Own c G ((Eb b 265 [B d.some,B d.pict,B d.wide])::F)/\v=B r:=by
 unfold eE at H;refine en func265 rfl rfl<|sr<|me (bx 238 [I a.Break,B a.Pict,I a.Conj,I a.East] S) ?_;rintro v5 c4 l4 ⟨p,rfl,T,n⟩;refine Kq false<|KA<|W.block<|sr<|vx (lN 238 n)<|bn H fun u Z H=>cl (xC T a Z) ?_;rintro v12 e b0 ⟨f,rfl⟩;refine vv (B (u==2))<|KH H (fun P H=>?_) (fun P H=>?_)
 ·refine Ky true<|KG<|KL ?_;cases H;exact KC e ⟨f,rfl⟩
 refine sr<|vv (Q b)<|va (Q b)<|vx (le1 0 u_4 (f.on 0 rfl))<|vv (B (!d.some))<|KH H (fun R H=>?_) (fun R H=>?_)
 ·refine Ky false<|KG<|KL ?_;cases H;exact KC e ⟨f,rfl⟩
 refine W.skip<|KJ<|W.seq<|bn H fun U q H=>bn H fun X m H=>bn H fun x g H=>W.join (Jn e fun c l=>Own c G ((Eb b 265 [B d.some,B d.pict,B d.wide])::F)/\l= [(6,B x)]) ?_ ?_
 ·clear H;refine Kz (J o)<|Kq (o==65039) ?_;rcases bo (o==65039) with h|h
  ·have y:=anT h q;refine vb h<|wa (Q b)<|wa (Q b)<|wa (Qo b 1)<|wn<|vx (le1 1 u_4 (f.on 0 rfl)) ?_;cases y;refine Kq d.pict ?_;rcases bo d.pict with i|i
   ·obtain rfl:=orT i m;refine vb i<|pz<|Kq true ?_;have s:true=true:=rfl;obtain rfl:=orT s g;exact vb s<|pz<|ps<|vv (B true)<|KB e ⟨f,rfl⟩
   have z:=orF i m;refine vb i<|wa (Qo p (0+1))<|wn<|vx (l1 u_4 ((mm n) 1 _ rfl)) ?_;cases z;refine Kq a.Pict ?_;rcases bo a.Pict with j|j
   ·obtain rfl:=orT j g;exact vb j<|pz<|ps<|vv (B true)<|KB e ⟨f,rfl⟩
   have A:=orF j g;refine vb j<|wa (Q p)<|wn<|vx (l1 u_3 ((mm n) 0 _ rfl))<|Kt (a.Break==6) ?_;cases A;exact vv (B (a.Break==6))<|KB e ⟨f,rfl⟩
  obtain rfl:=anF h q;refine vb h<|pz<|pz<|Kq false ?_;have t:false=false:=rfl;have D:=orF t m;refine vb t<|wa (Qo p (0+1))<|wn<|vx (l1 u_4 ((mm n) 1 _ rfl)) ?_;cases D;refine Kq a.Pict ?_;rcases bo a.Pict with k|k
  ·obtain rfl:=orT k g;exact vb k<|pz<|ps<|vv (B true)<|KB e ⟨f,rfl⟩
  have E:=orF k g;refine vb k<|wa (Q p)<|wn<|vx (l1 u_3 ((mm n) 0 _ rfl))<|Kt (a.Break==6) ?_;cases E;exact vv (B (a.Break==6))<|KB e ⟨f,rfl⟩
 rintro e_ w_ ⟨N,a0,_,rfl,d0,rfl,M,rfl⟩;refine nrm<|W.ret ?_;cases H;exact KC N ⟨M,rfl⟩
def dz (p0:ba) (p1:Int) (p2:ax):Option (ba×Int):=
 if false then
 some (p0,1)
 else
 (orE p0.wide ((eE p0 p1 p2).bind fun b=>
 some b)).bind fun a=>
 if a then
 some ((⟨true,p2.Pict,a⟩:ba),2)
 else
 some ((⟨true,p2.Pict,a⟩:ba),1)
theorem mB {a:Nat}(b:ba) (k:Int) (d:ax) (T:Own c0 G ((Eb a 265 [B b.some,B b.pict,B b.wide])::F)){r:ba×Int}(H:dz b k d=some r): KP 215 #[Q a,J k,.agg #[I d.Break,B d.Pict,I d.Conj,I d.East]] c0 fun c v=>Own c G ((Eb a 265 [B r.1.some,B r.1.pict,B r.1.wide])::F)/\v=I r.2:=by
 unfold dz at H;refine en func215 rfl rfl<|sr<|me (bx 238 [I d.Break,B d.Pict,I d.Conj,I d.East] T) ?_;rintro v5 X l4 ⟨x,rfl,m,P⟩;refine Ku 0<|KA<|KE (Q a)<|Kq false<|wln<|W.cond (t:=false) (by kernel_rfl) (fun n=>?_) (fun n=>?_)
 ·cases n
 have H:=ie n H;refine KI<|W.seq<|bn H fun e N H=>W.join (Jn X fun c l=>Own c G ((Eb a 265 [B b.some,B b.pict,B e])::F)/\l= [(0,Q a),(5,Q x)]) ?_ ?_
 ·clear H;refine W.region<|vv (Q a)<|va (Q a)<|Kw a 2<|vx (le1 2 u_4 (m.on 0 rfl)) ?_;rcases bo b.wide with j|j
  ·obtain rfl:=orT j N;refine vb j<|pz<|pz<|Kq true<|va (Q a)<|Kw a 2<|md (sC 4 2 (B true) [B b.some,B b.pict,B true] 0 m ⟨rfl,trivial⟩) ?_;rintro y e0 U;exact KB y ⟨U,rfl⟩
  have g:=orF j N;refine vb j<|wa (Q a)<|wa (J k)<|wn<|vx (lN 238 P)<|wn<|bn g fun f E g=>cl (lT b k d m E) ?_;rintro v19 Z f0 ⟨o,rfl⟩;obtain rfl:=si g;refine Kq f<|va (Q a)<|Kw a 2<|md (sC 4 2 (B f) [B b.some,B b.pict,B f] 0 o ⟨rfl,trivial⟩) ?_;rintro z g0 p;exact KB z ⟨p,rfl⟩
 rintro e_ w_ ⟨a0,b0,_,rfl,h0,rfl,q,rfl⟩;refine nrm<|W.seq<|rD [] (Kp G0 []) q ?_;intro A i0 s;have l0:Kp G0 [] A:=Kp.nil0;refine ta 0 (Q a)<|ta 1 (Q a)<|ta 2 (Qo x (0+1))<|tx 3 (fun c' d0=>l1 u_4 ((mm P) 1 _ rfl))<|ta 4 (Q a)<|ta 5 (Q a)<|o1 6 (gD 6 (sC 4 0 (B true) [B true,B b.pict,B e] 0 s ⟨rfl,trivial⟩) ?_);rintro D j0 u;have R:Kp G0 [] D:=Kp.nil0;refine ⟨.inr R,ta 7 (Q a) (ta 8 (Qo a 1)<|o1 9 (gD 9 (sC 4 1 (B d.Pict) [B true,B d.Pict,B e] 0 u ⟨rfl,trivial⟩) ?_))⟩;rintro i k0 h;have S:Kp G0 [] i:=Kp.nil0;refine ⟨.inr S,dn (nrm<|W.seq<|sr<|vv (Q a)<|Kw a 2<|vx (le1 2 u_4 (h.on 0 rfl))<|KH H (fun M H=>?_) (fun M H=>?_))⟩
 ·refine KD 2<|KG<|thr ?_;obtain rfl:=si H;exact KC i ⟨h,rfl⟩
 refine KI<|KD 1<|KG ?_;obtain rfl:=si H;exact KC i ⟨h,rfl⟩
def ox (p0:List Int):Option Int:=
 (cH (σ:=Int×Int×Bool×Bool×Bool) (τ:=(Int×Bool×Bool×Bool)) (((p0.length:Int)-0).toNat+1) (fun a=>
 if decide (a.2.1<(p0.length:Int)) then
 (idx p0 a.2.1).bind fun c=>
 (pa c).bind fun e=>
 (dz (⟨a.2.2.1,a.2.2.2.1,a.2.2.2.2⟩:ba) c e).bind fun b=>
 some (.inl (b.2,(w64 (a.2.1+1)),b.1.some,b.1.pict,b.1.wide))
 else
 some (.inr (a.1,a.2.2.1,a.2.2.2.1,a.2.2.2.2))) (1,0,false,false,false)).bind fun d=>
 some d.1
theorem AX (T:Own c0 G F) (g:List Int){r:Int}(n:Sl (RI .i32) c0 v1 g) (H:ox g=some r): KP 153 #[v1] c0 fun c v=>Own c G F/\v=I r:=by
 unfold ox at H;refine en func153 rfl rfl<|KD 0<|KN<|me (al 265 [B false,B false,B false] T) ?_;rintro v6 k l5 ⟨j,rfl,U⟩;refine wln<|KD 1<|KA<|KE v1<|vx (ln 3 cI n.m)<|Ku 0<|wln<|W.block<|bn H fun f P q=>lp P (fun a=>Jn k fun c l=>Own c G ((Eb j 265 [B a.2.2.1,B a.2.2.2.1,B a.2.2.2.2])::F)/\l= [(3,Q j),(4,I a.1),(7,v1),(8,I (g.length:Int)),(9,I a.2.1)]) (fun b ex e w=>ex= .exit 0/\(Jn k fun c l=>Own c G ((Eb j 265 [B b.2.1,B b.2.2.1,B b.2.2.2])::F)/\l= [(4,I b.1)]) e w) ?_ ?_ ?_
 ·clear q P;intro a l0 A S H;revert A S;rintro Z w_ ⟨X,g0,_,rfl,l9,rfl,h,rfl⟩;refine sr<|Kr (a.2.1<(g.length:Int))<|KA<|cn H (fun D H=>?_) (fun D H=>?_)
  ·refine KI<|KM<|sr<|bn H fun d i H=>?_;obtain ⟨d0,E,R⟩:=Sl.at (n.mono (l5.trans l9)) (aS i);obtain rfl:=E;refine vx (ix cI n.m i)<|vx (l1 mj (R 0 _ rfl))<|va (J d)<|wln<|W.region<|vv (J d)<|bn H fun o M H=>cl (xr h d M) ?_;rintro v26 f0 i0 ⟨s,rfl⟩;refine bn H fun p N H=>cl (mB (⟨a.2.2.1,a.2.2.2.1,a.2.2.2.2⟩:ba) d o s N) ?_;rintro v34 y j0 ⟨t,rfl⟩;refine Ku p.2<|WL.nil<|KJ<|W.region<|Kv (a.2.1+1)<|WL.nil ?_;cases H;exact ⟨_,rfl,jn y ⟨t,rfl⟩⟩
  refine W.exit<|thx ?_;cases H;exact ⟨_,rfl,rfl,jn X ⟨h,rfl⟩⟩
 ·exact jn k ⟨U,rfl⟩
 rintro _ Z w_ ⟨rfl,z,h0,_,rfl,k0,rfl,u,rfl⟩;refine KK<|sr<|vv (I f.1)<|KG ?_;cases q;have x:=u.sD 1 [];exact KC z ⟨x,rfl⟩
def dS (p0:aP):Option Int:=
 if false then
 some 0
 else
 some p0.n
theorem kZ {b:Nat}(a:aP) (e:Own c0 G ((Eb b 291 (KO a.text [I a.n]))::F)){r:Int}(H:dS a=some r): KP 318 #[Q b] c0 fun c v=>Own c G ((Eb b 291 (KO a.text [I a.n]))::F)/\v=I r:=by
 unfold dS at H;refine en func318 rfl rfl<|KD 0<|KA<|KE (Q b)<|Kq false<|wln<|W.cond (t:=false) (by kernel_rfl) (fun d=>?_) (fun d=>?_)
 ·cases d
 have H:=ie d H;refine KI<|sr<|vv (Q b)<|Kw b 16<|vx (le1 16 u_3 (e.on 0 rfl))<|Ku a.n<|KG ?_;cases H;exact KC c0 ⟨e,rfl⟩
def dK (p0:aP):Option Bool:=
 (dS p0).bind fun a=>
 some (a==16)
theorem kQ {b:Nat}(a:aP) (e:Own c0 G ((Eb b 291 (KO a.text [I a.n]))::F)){r:Bool}(H:dK a=some r): KP 306 #[Q b] c0 fun c v=>Own c G ((Eb b 291 (KO a.text [I a.n]))::F)/\v=B r:=by
 unfold dK at H;refine en func306 rfl rfl<|Ky false<|wln<|KE (Q b)<|bn H fun d h H=>cl (kZ a e h) ?_;rintro v8 g i ⟨f,rfl⟩;refine vv (B (d==16))<|KG ?_;cases H;exact KC g ⟨f,rfl⟩
def dh (p0:aP) (p1:Int):Option (aP×Bool):=
 (orE false ((dK p0).bind fun c=>
 some c)).bind fun b=>
 if b then
 some (p0,false)
 else
 (idx (a16 p0.text) p0.n).bind fun d=>
 (some (zz p0.text p0.n p1)).bind fun a=>
 some ((⟨a,(w64 (p0.n+1))⟩:aP),true)
theorem la {d:Nat}(a:aP) (f:Int) (M:Own c0 G ((Eb d 291 (KO a.text [I a.n]))::F)){r:aP×Bool}(H:dh a f=some r): KP 280 #[Q d,J f] c0 fun c v=>Own c G ((Eb d 291 (KO r.1.text [I r.1.n]))::F)/\v=B r.2:=by
 unfold dh at H;refine en func280 rfl rfl<|Ky false<|KA<|W.seq<|bn H fun u R H=>W.join (Jn c0 fun c l=>Own c G ((Eb d 291 (KO a.text [I a.n]))::F)/\l= [(0,Q d),(1,J f),(10,B u)]) ?_ ?_
 ·clear H;refine Kz (Q d)<|Kq false ?_;have y:false=false:=rfl;have m:=orF y R;refine vb y<|wa (Q d)<|wn<|bn m fun E S m=>cl (kQ a M S) ?_;rintro v11 p b0 ⟨N,rfl⟩;obtain rfl:=si m;exact Kq E<|KB p ⟨N,rfl⟩
 rintro e_ w_ ⟨q,a0,_,rfl,d0,rfl,g,rfl⟩;refine nrm<|cn H (fun x H=>?_) (fun x H=>?_)
 ·refine Ky false<|KG<|thr ?_;obtain rfl:=si H;exact KC q ⟨g,rfl⟩
 refine KI<|W.seq<|rD [9] (Kp G0 [(Eb d 291 (KO a.text [I a.n]))]) g ?_;intro s e0 h;have D:=(Kp.cons (h.on 0 rfl) Kp.nil0);refine ta 0 (Q d)<|ta 1 (Q d)<|ta 2 (Q d)<|ta 3 (Qo d 16)<|tkx 4 D (fun P A U=>le1 16 u_3 (U.on 0 rfl)) (ta 5 (J f)<|ta 6 (Q d)<|ta 7 (Q d)<|bn H fun X e H=>AC.take 8 (.pointer (some ⟨d,0+a.n.toNat*1,none⟩)) rfl (by kernel_rfl) (by kernel_rfl) (fun P A=>(rx (by kernel_rfl) (wQ (k:= .i64) BS (by kernel_rfl) (sq e).1 (sq e).2 _))) (bn H fun b z H=>o1 9 (gD 9 (Own.st (T:=21) (j:=0+a.n.toNat*1) (us:=[J f]) (nw:=(KO b [I a.n])) (v:=J f) 0 h (by kernel_rfl) rfl rfl rfl rfl (by kernel_rfl) ⟨rfl,trivial⟩ (GY e (bM rfl)) (GP (k:= .i32) e z [] [I a.n])) ?_)));rintro Z f0 i;refine ⟨.inl rfl,dn (nrm<|sr<|vv (Q d)<|Kw d 16<|vx (le1 16 u_3 (i.on 0 rfl))<|Kx (a.n+1)<|va (Q d)<|Kw d 16<|md (sC 3 16 (I (w64 (a.n+1))) (KO b [I (w64 (a.n+1))]) 0 i ⟨rfl,trivial⟩) ?_)⟩;rintro t g0 o;refine wln<|Ky true<|KG ?_;obtain rfl:=si H;exact KC t ⟨o,rfl⟩
def nc (p0:List Int):Option aP:=
 (cH (σ:=Int×Int×Int×Int×Int×Int×Int×Int×Int×Int×Int×Int×Int×Int×Int×Int×Int×Int) (τ:=(Int×Int×Int×Int×Int×Int×Int×Int×Int×Int×Int×Int×Int×Int×Int×Int×Int)) (((p0.length:Int)-0).toNat+1) (fun b=>
 if decide (b.1<(p0.length:Int)) then
 (idx p0 b.1).bind fun d=>
 (dh (⟨(b.2.1,b.2.2.1,b.2.2.2.1,b.2.2.2.2.1,b.2.2.2.2.2.1,b.2.2.2.2.2.2.1,b.2.2.2.2.2.2.2.1,b.2.2.2.2.2.2.2.2.1,b.2.2.2.2.2.2.2.2.2.1,b.2.2.2.2.2.2.2.2.2.2.1,b.2.2.2.2.2.2.2.2.2.2.2.1,b.2.2.2.2.2.2.2.2.2.2.2.2.1,b.2.2.2.2.2.2.2.2.2.2.2.2.2.1,b.2.2.2.2.2.2.2.2.2.2.2.2.2.2.1,b.2.2.2.2.2.2.2.2.2.2.2.2.2.2.2.1,b.2.2.2.2.2.2.2.2.2.2.2.2.2.2.2.2.1),b.2.2.2.2.2.2.2.2.2.2.2.2.2.2.2.2.2⟩:aP) d).bind fun a=>
 if (!a.2)=true then
 some (.inr (a.1.text.1,a.1.text.2.1,a.1.text.2.2.1,a.1.text.2.2.2.1,a.1.text.2.2.2.2.1,a.1.text.2.2.2.2.2.1,a.1.text.2.2.2.2.2.2.1,a.1.text.2.2.2.2.2.2.2.1,a.1.text.2.2.2.2.2.2.2.2.1,a.1.text.2.2.2.2.2.2.2.2.2.1,a.1.text.2.2.2.2.2.2.2.2.2.2.1,a.1.text.2.2.2.2.2.2.2.2.2.2.2.1,a.1.text.2.2.2.2.2.2.2.2.2.2.2.2.1,a.1.text.2.2.2.2.2.2.2.2.2.2.2.2.2.1,a.1.text.2.2.2.2.2.2.2.2.2.2.2.2.2.2.1,a.1.text.2.2.2.2.2.2.2.2.2.2.2.2.2.2.2,a.1.n))
 else
 some (.inl ((w64 (b.1+1)),a.1.text.1,a.1.text.2.1,a.1.text.2.2.1,a.1.text.2.2.2.1,a.1.text.2.2.2.2.1,a.1.text.2.2.2.2.2.1,a.1.text.2.2.2.2.2.2.1,a.1.text.2.2.2.2.2.2.2.1,a.1.text.2.2.2.2.2.2.2.2.1,a.1.text.2.2.2.2.2.2.2.2.2.1,a.1.text.2.2.2.2.2.2.2.2.2.2.1,a.1.text.2.2.2.2.2.2.2.2.2.2.2.1,a.1.text.2.2.2.2.2.2.2.2.2.2.2.2.1,a.1.text.2.2.2.2.2.2.2.2.2.2.2.2.2.1,a.1.text.2.2.2.2.2.2.2.2.2.2.2.2.2.2.1,a.1.text.2.2.2.2.2.2.2.2.2.2.2.2.2.2.2,a.1.n))
 else
 some (.inr (b.2.1,b.2.2.1,b.2.2.2.1,b.2.2.2.2.1,b.2.2.2.2.2.1,b.2.2.2.2.2.2.1,b.2.2.2.2.2.2.2.1,b.2.2.2.2.2.2.2.2.1,b.2.2.2.2.2.2.2.2.2.1,b.2.2.2.2.2.2.2.2.2.2.1,b.2.2.2.2.2.2.2.2.2.2.2.1,b.2.2.2.2.2.2.2.2.2.2.2.2.1,b.2.2.2.2.2.2.2.2.2.2.2.2.2.1,b.2.2.2.2.2.2.2.2.2.2.2.2.2.2.1,b.2.2.2.2.2.2.2.2.2.2.2.2.2.2.2.1,b.2.2.2.2.2.2.2.2.2.2.2.2.2.2.2.2.1,b.2.2.2.2.2.2.2.2.2.2.2.2.2.2.2.2.2))) (0,0,0,0,0,0,0,0,0,0,0,0,0,0,0,0,0,0)).bind fun c=>
 some (⟨(c.1,c.2.1,c.2.2.1,c.2.2.2.1,c.2.2.2.2.1,c.2.2.2.2.2.1,c.2.2.2.2.2.2.1,c.2.2.2.2.2.2.2.1,c.2.2.2.2.2.2.2.2.1,c.2.2.2.2.2.2.2.2.2.1,c.2.2.2.2.2.2.2.2.2.2.1,c.2.2.2.2.2.2.2.2.2.2.2.1,c.2.2.2.2.2.2.2.2.2.2.2.2.1,c.2.2.2.2.2.2.2.2.2.2.2.2.2.1,c.2.2.2.2.2.2.2.2.2.2.2.2.2.2.1,c.2.2.2.2.2.2.2.2.2.2.2.2.2.2.2.1),c.2.2.2.2.2.2.2.2.2.2.2.2.2.2.2.2⟩:aP)
theorem zv (Z:Own c0 G F) (i:List Int){r:aP}(z:Sl (RI .i32) c0 v1 i) (H:nc i=some r): KP 231 #[v1] c0 fun c v=>Own c G F/\v= .agg #[J r.text.1,J r.text.2.1,J r.text.2.2.1,J r.text.2.2.2.1,J r.text.2.2.2.2.1,J r.text.2.2.2.2.2.1,J r.text.2.2.2.2.2.2.1,J r.text.2.2.2.2.2.2.2.1,J r.text.2.2.2.2.2.2.2.2.1,J r.text.2.2.2.2.2.2.2.2.2.1,J r.text.2.2.2.2.2.2.2.2.2.2.1,J r.text.2.2.2.2.2.2.2.2.2.2.2.1,J r.text.2.2.2.2.2.2.2.2.2.2.2.2.1,J r.text.2.2.2.2.2.2.2.2.2.2.2.2.2.1,J r.text.2.2.2.2.2.2.2.2.2.2.2.2.2.2.1,J r.text.2.2.2.2.2.2.2.2.2.2.2.2.2.2.2,I r.n]:=by
 unfold nc at H;refine en func231 rfl rfl<|sr<|me (al 291 [J 0,J 0,J 0,J 0,J 0,J 0,J 0,J 0,J 0,J 0,J 0,J 0,J 0,J 0,J 0,J 0,I 0] Z) ?_;rintro v6 c5 l5 ⟨g,rfl,O4⟩;refine KN<|me (al 291 [J 0,J 0,J 0,J 0,J 0,J 0,J 0,J 0,J 0,J 0,J 0,J 0,J 0,J 0,J 0,J 0,I 0] O4) ?_;rintro v10 y l9 ⟨h,rfl,O8⟩;refine KA<|KE v1<|vx (ln 3 cI z.m)<|Ku 0<|wln<|W.block<|bn H fun a u j=>lp u (fun b=>Jn y fun c l=>Own c G ((Eb h 291 [J b.2.1,J b.2.2.1,J b.2.2.2.1,J b.2.2.2.2.1,J b.2.2.2.2.2.1,J b.2.2.2.2.2.2.1,J b.2.2.2.2.2.2.2.1,J b.2.2.2.2.2.2.2.2.1,J b.2.2.2.2.2.2.2.2.2.1,J b.2.2.2.2.2.2.2.2.2.2.1,J b.2.2.2.2.2.2.2.2.2.2.2.1,J b.2.2.2.2.2.2.2.2.2.2.2.2.1,J b.2.2.2.2.2.2.2.2.2.2.2.2.2.1,J b.2.2.2.2.2.2.2.2.2.2.2.2.2.2.1,J b.2.2.2.2.2.2.2.2.2.2.2.2.2.2.2.1,J b.2.2.2.2.2.2.2.2.2.2.2.2.2.2.2.2.1,I b.2.2.2.2.2.2.2.2.2.2.2.2.2.2.2.2.2])::(Eb g 291 [J 0,J 0,J 0,J 0,J 0,J 0,J 0,J 0,J 0,J 0,J 0,J 0,J 0,J 0,J 0,J 0,I 0])::F)/\l= [(2,Q g),(3,Q h),(6,v1),(7,I (i.length:Int)),(8,I b.1)]) (fun d ex e w=>ex= .exit 0/\(Jn y fun c l=>Own c G ((Eb h 291 [J d.1,J d.2.1,J d.2.2.1,J d.2.2.2.1,J d.2.2.2.2.1,J d.2.2.2.2.2.1,J d.2.2.2.2.2.2.1,J d.2.2.2.2.2.2.2.1,J d.2.2.2.2.2.2.2.2.1,J d.2.2.2.2.2.2.2.2.2.1,J d.2.2.2.2.2.2.2.2.2.2.1,J d.2.2.2.2.2.2.2.2.2.2.2.1,J d.2.2.2.2.2.2.2.2.2.2.2.2.1,J d.2.2.2.2.2.2.2.2.2.2.2.2.2.1,J d.2.2.2.2.2.2.2.2.2.2.2.2.2.2.1,J d.2.2.2.2.2.2.2.2.2.2.2.2.2.2.2.1,I d.2.2.2.2.2.2.2.2.2.2.2.2.2.2.2.2])::(Eb g 291 [J 0,J 0,J 0,J 0,J 0,J 0,J 0,J 0,J 0,J 0,J 0,J 0,J 0,J 0,J 0,J 0,I 0])::F)/\l= [(2,Q g),(3,Q h)]) e w) ?_ ?_ ?_
 ·clear j u;intro b q0 M X H;revert M X;rintro e_ w_ ⟨E,j0,_,rfl,T,rfl,k,rfl⟩;refine sr<|Kr (b.1<(i.length:Int))<|KA<|cn H (fun N H=>?_) (fun N H=>?_)
  ·refine KI<|KM<|sr<|bn H fun f x H=>?_;obtain ⟨g0,P,U⟩:=Sl.at (z.mono (l5.trans (l9.trans T))) (aS x);obtain rfl:=P;refine vx (ix cI z.m x)<|vx (l1 mj (U 0 _ rfl))<|va (J f)<|wln<|KE (J f)<|bn H fun A R H=>cl (la (⟨(b.2.1,b.2.2.1,b.2.2.2.1,b.2.2.2.2.1,b.2.2.2.2.2.1,b.2.2.2.2.2.2.1,b.2.2.2.2.2.2.2.1,b.2.2.2.2.2.2.2.2.1,b.2.2.2.2.2.2.2.2.2.1,b.2.2.2.2.2.2.2.2.2.2.1,b.2.2.2.2.2.2.2.2.2.2.2.1,b.2.2.2.2.2.2.2.2.2.2.2.2.1,b.2.2.2.2.2.2.2.2.2.2.2.2.2.1,b.2.2.2.2.2.2.2.2.2.2.2.2.2.2.1,b.2.2.2.2.2.2.2.2.2.2.2.2.2.2.2.1,b.2.2.2.2.2.2.2.2.2.2.2.2.2.2.2.2.1),b.2.2.2.2.2.2.2.2.2.2.2.2.2.2.2.2.2⟩:aP) f k R) ?_;rintro v31 s l0 ⟨o,rfl⟩;refine Kq (!A.2)<|KH H (fun S H=>?_) (fun S H=>?_)
   ·refine W.exit<|bko rfl (thx ?_);obtain rfl:=si H;exact ⟨_,rfl,rfl,jn s ⟨o,rfl⟩⟩
   refine W.skip<|KJ<|W.region<|Kv (b.1+1)<|WL.nil ?_;obtain rfl:=si H;exact ⟨_,rfl,jn s ⟨o,rfl⟩⟩
  refine W.exit<|thx ?_;obtain rfl:=si H;exact ⟨_,rfl,rfl,jn E ⟨k,rfl⟩⟩
 ·exact jn y ⟨O8,rfl⟩
 rintro _ e_ w_ ⟨rfl,i0,k0,_,rfl,m0,rfl,p,rfl⟩;refine KK<|sr<|vx (leN 291 0 [J a.1,J a.2.1,J a.2.2.1,J a.2.2.2.1,J a.2.2.2.2.1,J a.2.2.2.2.2.1,J a.2.2.2.2.2.2.1,J a.2.2.2.2.2.2.2.1,J a.2.2.2.2.2.2.2.2.1,J a.2.2.2.2.2.2.2.2.2.1,J a.2.2.2.2.2.2.2.2.2.2.1,J a.2.2.2.2.2.2.2.2.2.2.2.1,J a.2.2.2.2.2.2.2.2.2.2.2.2.1,J a.2.2.2.2.2.2.2.2.2.2.2.2.2.1,J a.2.2.2.2.2.2.2.2.2.2.2.2.2.2.1,J a.2.2.2.2.2.2.2.2.2.2.2.2.2.2.2.1,I a.2.2.2.2.2.2.2.2.2.2.2.2.2.2.2.2] (p.on 0 rfl))<|md (sA 291 [J a.1,J a.2.1,J a.2.2.1,J a.2.2.2.1,J a.2.2.2.2.1,J a.2.2.2.2.2.1,J a.2.2.2.2.2.2.1,J a.2.2.2.2.2.2.2.1,J a.2.2.2.2.2.2.2.2.1,J a.2.2.2.2.2.2.2.2.2.1,J a.2.2.2.2.2.2.2.2.2.2.1,J a.2.2.2.2.2.2.2.2.2.2.2.1,J a.2.2.2.2.2.2.2.2.2.2.2.2.1,J a.2.2.2.2.2.2.2.2.2.2.2.2.2.1,J a.2.2.2.2.2.2.2.2.2.2.2.2.2.2.1,J a.2.2.2.2.2.2.2.2.2.2.2.2.2.2.2.1,I a.2.2.2.2.2.2.2.2.2.2.2.2.2.2.2.2] 1 p ⟨rfl,rfl,rfl,rfl,rfl,rfl,rfl,rfl,rfl,rfl,rfl,rfl,rfl,rfl,rfl,rfl,rfl,trivial⟩) ?_;rintro t o0 q;refine KG ?_;obtain rfl:=si j;have D:=q.sD 2 [];exact km (c:=t) (vs:=[J a.1,J a.2.1,J a.2.2.1,J a.2.2.2.1,J a.2.2.2.2.1,J a.2.2.2.2.2.1,J a.2.2.2.2.2.2.1,J a.2.2.2.2.2.2.2.1,J a.2.2.2.2.2.2.2.2.1,J a.2.2.2.2.2.2.2.2.2.1,J a.2.2.2.2.2.2.2.2.2.2.1,J a.2.2.2.2.2.2.2.2.2.2.2.1,J a.2.2.2.2.2.2.2.2.2.2.2.2.1,J a.2.2.2.2.2.2.2.2.2.2.2.2.2.1,J a.2.2.2.2.2.2.2.2.2.2.2.2.2.2.1,J a.2.2.2.2.2.2.2.2.2.2.2.2.2.2.2.1,I a.2.2.2.2.2.2.2.2.2.2.2.2.2.2.2.2]) rfl (by kernel_rfl) (by kernel_rfl) (by kernel_rfl) (q.on 1 rfl _ rfl).1 ⟨_,t,rfl,rfl,pt,D,rfl⟩
def cZ (p0:aP):Option (List Int):=
 if false then
 some ([]:List Int)
 else
 (slc (a16 p0.text) 0 p0.n).bind fun a=>
 (fM a).bind fun b=>
 some b
theorem kP {b:Nat}(a:aP) (p:Own c0 G ((Eb b 291 (KO a.text [I a.n]))::F)){r:List Int}(H:cZ a=some r): KP 232 #[Q b] c0 fun c v=>∃h o,Own c G (es true (RI .i32) h 21 o r::(Eb b 291 (KO a.text [I a.n]))::F)/\v=h/\OA (RI .i32) c h o r:=by
 unfold cZ at H;refine en func232 rfl rfl<|KE Y<|KA<|KE (Q b)<|Kq false<|wln<|W.cond (t:=false) (by kernel_rfl) (fun g=>?_) (fun g=>?_)
 ·cases g
 have H:=ie g H;refine KI<|W.seq<|rD [] (Kp G0 [(Eb b 291 (KO a.text [I a.n]))]) p ?_;intro s M i;have y:=(Kp.cons (i.on 0 rfl) Kp.nil0);refine ta 0 (Q b)<|ta 1 (Q b)<|ta 2 (Q b)<|ta 3 (Q b)<|ta 4 (Q b)<|ta 5 (Qo b 16)<|tkx 6 y (fun q l x=>le1 16 u_3 (x.on 0 rfl)) (bn H fun A d H=>AC.take 7 (.slice (some ⟨b,0,none⟩) a.n.toNat 16) rfl (by kernel_rfl) (by kernel_rfl) (fun q l=>(rx (by kernel_rfl) (zZ (k:= .i64) BS (by kernel_rfl) (oJ d).2.1 (oJ d).2.2.1 _))) (bn H fun D u H=>o1 8 (gc 8 (qT i rfl (zR d) (Dz (k:= .i32) d [] [I a.n]) u) ?_)));rintro v8 f E ⟨_,z,e,rfl,j⟩;have m:=(Kp.cons (e.on 1 rfl) Kp.nil0);refine ⟨.inr m,ta 9 v8 (dn (nrm<|W.ret ?_))⟩;cases H;exact KC f ⟨v8,z,e,rfl,j⟩
def ir (p0:List Int):Option (dU×Bool):=
 (idx p0 0).bind fun d=>
 (jc d).bind fun e=>
 if e then
 some ((⟨0,([]:List Int)⟩:dU),false)
 else
 (nc p0).bind fun b=>
 (cZ b).bind fun a=>
 (ox a).bind fun c=>
 some ((⟨c,a⟩:dU),true)
theorem wo (O0:Own c0 G F) (s:List Int){r:dU×Bool}(q:Sl (RI .i32) c0 v1 s) (H:ir s=some r): KP 175 #[v1] c0 fun c v=>∃y1,Own c G F/\v= .tuple #[.agg #[I r.1.Wide,y1],B r.2]/\Sl (RI .i32) c y1 r.1.Text:=by
 unfold ir at H;refine en func175 rfl rfl<|sr<|me (al 165 [I 0,Y] O0) ?_;rintro v6 c5 l5 ⟨b3,rfl,O4⟩;refine Kq false<|KA<|KE v1<|bn H fun e0 h7 H=>?_;obtain ⟨a1,h9,d0⟩:=Sl.at (q.mono l5) (aS h7);obtain rfl:=h9;refine vx (ix cI q.m h7)<|vx (l1 mj (d0 0 _ rfl))<|bn H fun c1 N H=>cl (pv O4 e0 N) ?_;rintro v17 l0 l16 ⟨i,rfl⟩;refine KH H (fun P H=>?_) (fun P H=>?_)
 ·refine KE (.agg #[I 0,Y])<|md (sA 165 [I 0,Y] 0 i ⟨rfl,rfl,trivial⟩) ?_;rintro k v0 j;refine Kq false<|KG<|thr ?_;obtain rfl:=si H;have u:=j.sD 1 [];exact qR (c:=k) (vs:=[I 0,Y]) (v:=B false) rfl (by kernel_rfl) (by kernel_rfl) (by kernel_rfl) (by kernel_rfl) (j.on 0 rfl _ rfl).1 ⟨_,k,rfl,rfl,pt,(Y),u,rfl,(Sl.nl _ _)⟩
 refine KI<|KE v1<|bn H fun a R H=>cl (zv i s q.m R) ?_;rintro v28 m0 w0 ⟨x,rfl⟩;refine me (al 291 [J 0,J 0,J 0,J 0,J 0,J 0,J 0,J 0,J 0,J 0,J 0,J 0,J 0,J 0,J 0,J 0,I 0] x) ?_;rintro v32 o0 x0 ⟨k0,rfl,y⟩;refine md (sA 291 [J a.text.1,J a.text.2.1,J a.text.2.2.1,J a.text.2.2.2.1,J a.text.2.2.2.2.1,J a.text.2.2.2.2.2.1,J a.text.2.2.2.2.2.2.1,J a.text.2.2.2.2.2.2.2.1,J a.text.2.2.2.2.2.2.2.2.1,J a.text.2.2.2.2.2.2.2.2.2.1,J a.text.2.2.2.2.2.2.2.2.2.2.1,J a.text.2.2.2.2.2.2.2.2.2.2.2.1,J a.text.2.2.2.2.2.2.2.2.2.2.2.2.1,J a.text.2.2.2.2.2.2.2.2.2.2.2.2.2.1,J a.text.2.2.2.2.2.2.2.2.2.2.2.2.2.2.1,J a.text.2.2.2.2.2.2.2.2.2.2.2.2.2.2.2,I a.n] 0 y ⟨rfl,rfl,rfl,rfl,rfl,rfl,rfl,rfl,rfl,rfl,rfl,rfl,rfl,rfl,rfl,rfl,rfl,trivial⟩) ?_;rintro q0 y0 z;refine KN<|bn H fun t S H=>cl (kP a z S) ?_;rintro v37 s0 z0 ⟨_,b1,A,rfl,g⟩;refine va v37<|wln<|KE v37 ?_;obtain ⟨t0,U,o,D,T⟩:=A.frz 0 rfl g;refine WL.gh U (bn H fun b X H=>cl (AX D t T X) ?_);rintro v56 u0 p ⟨E,rfl⟩;refine va v37 ?_;obtain ⟨d,e,f,rfl⟩:=((g.mono (o.trans p))).form;refine va (.agg #[I b,.slice d e f])<|md (sA 165 [I b,.slice d e f] 2 E ⟨rfl,g.m.one,trivial⟩) ?_;rintro l b0 h;refine Kq true<|KG ?_;obtain rfl:=si H;have Z:=h.slf 0 rfl (g.mono (o.trans (p.trans b0)));have M:=h.sD 3 [];exact qR (c:=l) (vs:=[I b,.slice d e f]) (v:=B true) rfl (by kernel_rfl) (by kernel_rfl) (by kernel_rfl) (by kernel_rfl) (h.on 2 rfl _ rfl).1 ⟨_,l,rfl,rfl,pt,(.slice d e f),M,rfl,Z⟩
def gx (p0:bD) (p1:ax):Option Bool:=
 if (!p0.some)=true then
 some false
 else
 ((bL (p1.Conj==1) (some (p0.conj==2))).bind fun a=>
 if a then
 some a
 else
 (bL p1.Pict (some (p0.pict==2))).bind fun c=>
 some c).bind fun e=>
 if e then
 some true
 else
 (dW p0.last p1.Break).bind fun b=>
 if (b==1)=true then
 some true
 else
 if (b==2)=true then
 (bL (p0.last==6) (some p0.odd)).bind fun d=>
 some d
 else
 some false
theorem nX {b:Nat}(a:bD) (e:ax) (O0:Own c0 G ((Eb b 181 [B a.some,I a.last,I a.pict,I a.conj,B a.odd])::F)){r:Bool}(H:gx a e=some r): KP 224 #[Q b,.agg #[I e.Break,B e.Pict,I e.Conj,I e.East]] c0 fun c v=>Own c G ((Eb b 181 [B a.some,I a.last,I a.pict,I a.conj,B a.odd])::F)/\v=B r:=by
 unfold gx at H;refine en func224 rfl rfl<|sr<|me (bx 238 [I e.Break,B e.Pict,I e.Conj,I e.East] O0) ?_;rintro v5 s l4 ⟨p,rfl,q,M⟩;refine Kq false<|KA<|sr<|vv (Q b)<|va (Q b)<|vx (le1 0 u_4 (q.on 0 rfl))<|Kq (!a.some)<|KH H (fun h6 H=>?_) (fun h6 H=>?_)
 ·refine Ky false<|KG<|thr ?_;cases H;exact KC s ⟨q,rfl⟩
 refine KI<|KM<|bn H fun P f d=>W.seqJ (Jn s fun c l=>Own c G ((Eb b 181 [B a.some,I a.last,I a.pict,I a.conj,B a.odd])::F)/\l= [(0,Q b),(3,Q p),(10,B P)]) ?_ ?_
 ·refine W.seq<|bn f fun z h9 f=>W.join (Jn s fun c l=>Own c G ((Eb b 181 [B a.some,I a.last,I a.pict,I a.conj,B a.odd])::F)/\l= [(0,Q b),(3,Q p),(10,B z)]) ?_ ?_
  ·clear f;refine W.region<|Kw p (0+2)<|vx (l1 u_3 (M 2 _ rfl))<|Kq (e.Conj==1) ?_;rcases bo (e.Conj==1) with j|j
   ·have R:=anT j h9;refine vb j<|wa (Q b)<|wa (Q b)<|wa (Qo b 3)<|wn<|vx (le1 3 u_3 (q.on 0 rfl))<|Kt (a.conj==2) ?_;cases R;exact vv (B (a.conj==2))<|KB s ⟨q,rfl⟩
   obtain rfl:=anF j h9;exact vb j<|pz<|pz<|ps<|vv (B false)<|KB s ⟨q,rfl⟩
  rintro E N ⟨o,u0,_,rfl,y0,rfl,n,rfl⟩;refine nrm<|cn f (fun e0 f=>?_) (fun e0 f=>?_)
  ·refine KI ?_;cases f;exact jn o ⟨n,rfl⟩
  refine bn f fun A x f=>W.join (Jn o fun c l=>Own c G ((Eb b 181 [B a.some,I a.last,I a.pict,I a.conj,B a.odd])::F)/\l= [(0,Q b),(3,Q p),(10,B A)]) ?_ ?_
  ·clear f;refine W.region<|Kw p (0+1)<|vx (l1 u_4 ((mm M) 1 _ rfl)) ?_;rcases bo e.Pict with k|k
   ·have S:=anT k x;refine vb k<|wa (Q b)<|wa (Q b)<|wa (Qo b 2)<|wn<|vx (le1 2 u_3 (n.on 0 rfl))<|Kt (a.pict==2) ?_;cases S;exact vv (B (a.pict==2))<|KB o ⟨n,rfl⟩
   obtain rfl:=anF k x;exact vb k<|pz<|pz<|ps<|vv (B false)<|KB o ⟨n,rfl⟩
  rintro E N ⟨Z,v0,_,rfl,z0,rfl,U,rfl⟩;refine nrm ?_;cases f;exact jn Z ⟨U,rfl⟩
 rintro E N ⟨a0,w0,_,rfl,a1,rfl,t,rfl⟩;refine cn d (fun f0 d=>?_) (fun f0 d=>?_)
 ·refine Ky true<|KG<|KL ?_;cases d;exact KC a0 ⟨t,rfl⟩
 refine W.skip<|KJ<|W.seq<|W.seq<|rD [] (Kp G0 [(Eb b 181 [B a.some,I a.last,I a.pict,I a.conj,B a.odd])]) t ?_;intro b0 c1 u;have l0:=(Kp.cons (u.on 0 rfl) Kp.nil0);refine ta 0 (Q b)<|ta 1 (Q b)<|ta 2 (Qo b 1)<|tkx 3 l0 (fun c' k0 hk=>le1 1 u_3 (hk.on 0 rfl)) (ta 4 (Q p)<|tx 5 (fun c' k0=>l1 u_3 ((mm M) 0 _ rfl))<|bn d fun i g0 d=>o1 6 (gc 6 (uS u a.last e.Break g0) ?_));rintro v44 h d1 ⟨g,rfl⟩;have m0:=(Kp.cons (g.on 0 rfl) Kp.nil0);refine ⟨.inr m0,dn (nrm<|W.block<|sr<|vv (B (i==1))<|KH d (fun h0 d=>?_) (fun h0 d=>?_))⟩
 ·refine Ky true<|KG<|KL ?_;cases d;exact KC h ⟨g,rfl⟩
 refine sr<|vv (B (i==2))<|KH d (fun i0 d=>?_) (fun i0 d=>?_)
 ·refine W.seq<|bn d fun D y d=>W.join (Jn h fun c l=>Own c G ((Eb b 181 [B a.some,I a.last,I a.pict,I a.conj,B a.odd])::F)/\l= [(4,B D)]) ?_ ?_
  ·clear d;refine W.region<|vv (Q b)<|Kw b 1<|vx (le1 1 u_3 (g.on 0 rfl))<|Kq (a.last==6) ?_;rcases bo (a.last==6) with m|m
   ·have T:=anT m y;refine vb m<|wa (Q b)<|wa (Q b)<|wa (Qo b 4)<|wn<|vx (le1 4 u_4 (g.on 0 rfl)) ?_;cases T;exact vv (B a.odd)<|KB h ⟨g,rfl⟩
   obtain rfl:=anF m y;exact vb m<|pz<|pz<|vv (B false)<|KB h ⟨g,rfl⟩
  rintro E N ⟨d0,x0,_,rfl,e1,rfl,X,rfl⟩;refine nrm<|W.ret<|KL ?_;cases d;exact KC d0 ⟨X,rfl⟩
 refine W.skip<|KJ<|Ky false<|KG ?_;cases d;exact KC h ⟨g,rfl⟩
def fN (p0:bD) (p1:ax):Option Int:=
 if p1.Pict then
 some 1
 else
 (bL (p0.pict==1) (some (p1.Break==4))).bind fun a=>
 if a then
 some 1
 else
 (bL (p0.pict==1) (some (p1.Break==5))).bind fun b=>
 if b then
 some 2
 else
 some 0
theorem nk {b:Nat}(a:bD) (d:ax) (A:Own c0 G ((Eb b 181 [B a.some,I a.last,I a.pict,I a.conj,B a.odd])::F)){r:Int}(H:fN a d=some r): KP 225 #[Q b,.agg #[I d.Break,B d.Pict,I d.Conj,I d.East]] c0 fun c v=>Own c G ((Eb b 181 [B a.some,I a.last,I a.pict,I a.conj,B a.odd])::F)/\v=I r:=by
 unfold fN at H;refine en func225 rfl rfl<|sr<|me (bx 238 [I d.Break,B d.Pict,I d.Conj,I d.East] A) ?_;rintro v5 k T ⟨j,rfl,i,s⟩;refine Ku 0<|KA<|W.block<|sr<|Kw j (0+1)<|vx (l1 u_4 (s 1 _ rfl))<|Kq d.Pict<|KH H (fun E H=>?_) (fun E H=>?_)
 ·refine KD 1<|KG<|KL ?_;cases H;exact KC k ⟨i,rfl⟩
 refine W.seq<|bn H fun p y H=>W.join (Jn k fun c l=>Own c G ((Eb b 181 [B a.some,I a.last,I a.pict,I a.conj,B a.odd])::F)/\l= [(0,Q b),(3,Q j),(8,B p)]) ?_ ?_
 ·clear H;refine W.region<|vv (Q b)<|Kw b 2<|vx (le1 2 u_3 (i.on 0 rfl))<|Kq (a.pict==1) ?_;rcases bo (a.pict==1) with h|h
  ·have z:=anT h y;refine vb h<|wa (Q j)<|wn<|vx (l1 u_3 (s 0 _ rfl))<|Kt (d.Break==4) ?_;cases z;exact vv (B (d.Break==4))<|KB k ⟨i,rfl⟩
  obtain rfl:=anF h y;exact vb h<|pz<|ps<|vv (B false)<|KB k ⟨i,rfl⟩
 rintro D M ⟨g,N,_,rfl,R,rfl,f,rfl⟩;refine nrm<|cn H (fun u H=>?_) (fun u H=>?_)
 ·refine KD 1<|KG<|KL ?_;cases H;exact KC g ⟨f,rfl⟩
 refine W.seq<|bn H fun q o H=>W.join (Jn g fun c l=>Own c G ((Eb b 181 [B a.some,I a.last,I a.pict,I a.conj,B a.odd])::F)/\l= [(19,B q)]) ?_ ?_
 ·clear H;refine W.region<|vv (Q b)<|Kw b 2<|vx (le1 2 u_3 (f.on 0 rfl))<|Kq (a.pict==1) ?_;rcases bo (a.pict==1) with e|e
  ·have t:=anT e o;refine vb e<|wa (Q j)<|wn<|vx (l1 u_3 ((mm s) 0 _ rfl))<|Kt (d.Break==5) ?_;cases t;exact vv (B (d.Break==5))<|KB g ⟨f,rfl⟩
  obtain rfl:=anF e o;exact vb e<|pz<|ps<|vv (B false)<|KB g ⟨f,rfl⟩
 rintro D M ⟨n,P,_,rfl,S,rfl,m,rfl⟩;refine nrm<|cn H (fun x H=>?_) (fun x H=>?_)
 ·refine KD 2<|KG<|KL ?_;cases H;exact KC n ⟨m,rfl⟩
 refine W.skip<|KJ<|KD 0<|KG ?_;cases H;exact KC n ⟨m,rfl⟩
def fF (p0:bD) (p1:ax):Option Int:=
 if (p1.Conj==1)=true then
 some 1
 else
 if (p0.conj==0)=true then
 some 0
 else
 if (p1.Conj==2)=true then
 some 2
 else
 if (p1.Conj==3)=true then
 some p0.conj
 else
 some 0
theorem mU {b:Nat}(d:bD) (a:ax) (i:Own c0 G ((Eb b 181 [B d.some,I d.last,I d.pict,I d.conj,B d.odd])::F)){r:Int}(H:fF d a=some r): KP 226 #[Q b,.agg #[I a.Break,B a.Pict,I a.Conj,I a.East]] c0 fun c v=>Own c G ((Eb b 181 [B d.some,I d.last,I d.pict,I d.conj,B d.odd])::F)/\v=I r:=by
 unfold fF at H;refine en func226 rfl rfl<|sr<|me (bx 238 [I a.Break,B a.Pict,I a.Conj,I a.East] i) ?_;rintro v5 f n ⟨g,rfl,e,h⟩;refine Ku 0<|KA<|W.block<|sr<|Kw g (0+2)<|vx (l1 u_3 (h 2 _ rfl))<|vv (B (a.Conj==1))<|KH H (fun j H=>?_) (fun j H=>?_)
 ·refine KD 1<|KG<|KL ?_;cases H;exact KC f ⟨e,rfl⟩
 refine sr<|vv (Q b)<|Kw b 3<|vx (le1 3 u_3 (e.on 0 rfl))<|vv (B (d.conj==0))<|KH H (fun k H=>?_) (fun k H=>?_)
 ·refine KD 0<|KG<|KL ?_;cases H;exact KC f ⟨e,rfl⟩
 refine sr<|Kw g (0+2)<|vx (l1 u_3 (h 2 _ rfl))<|vv (B (a.Conj==2))<|KH H (fun l H=>?_) (fun l H=>?_)
 ·refine KD 2<|KG<|KL ?_;cases H;exact KC f ⟨e,rfl⟩
 refine sr<|Kw g (0+2)<|vx (l1 u_3 (h 2 _ rfl))<|vv (B (a.Conj==3))<|KH H (fun m H=>?_) (fun m H=>?_)
 ·refine sr<|vv (Q b)<|Kw b 3<|vx (le1 3 u_3 (e.on 0 rfl))<|Ku d.conj<|KG<|KL ?_;cases H;exact KC f ⟨e,rfl⟩
 refine W.skip<|KJ<|KD 0<|KG ?_;cases H;exact KC f ⟨e,rfl⟩
def dB (p0:bD) (p1:ax):Option (bD×Bool):=
 if false then
 some (p0,false)
 else
 (gx p0 p1).bind fun d=>
 (fN p0 p1).bind fun e=>
 (fF p0 p1).bind fun f=>
 (bL (p1.Break==6) ((bL p0.some (some (p0.last==6))).bind fun b=>
 (bL b (some p0.odd)).bind fun c=>
 some (!c))).bind fun a=>
 some ((⟨true,p1.Break,e,f,a⟩:bD),d)
theorem oB {a:Nat}(b:bD) (f:ax) (O0:Own c0 G ((Eb a 181 [B b.some,I b.last,I b.pict,I b.conj,B b.odd])::F)){r:bD×Bool}(H:dB b f=some r): KP 173 #[Q a,.agg #[I f.Break,B f.Pict,I f.Conj,I f.East]] c0 fun c v=>Own c G ((Eb a 181 [B r.1.some,I r.1.last,I r.1.pict,I r.1.conj,B r.1.odd])::F)/\v=B r.2:=by
 unfold dB at H;refine en func173 rfl rfl<|sr<|me (bx 238 [I f.Break,B f.Pict,I f.Conj,I f.East] O0) ?_;rintro v5 c4 l4 ⟨A,rfl,O2,o⟩;refine Kq false<|KA<|KE (Q a)<|Kq false<|wln<|W.cond (t:=false) (by kernel_rfl) (fun E=>?_) (fun E=>?_)
 ·cases E
 have H:=ie E H;refine KI<|KE (Q a)<|vx (lN 238 o)<|bn H fun i h8 H=>cl (nX b f O2 h8) ?_;rintro v14 j1 n1 ⟨P,rfl⟩;refine Kq i<|KA<|rD [] (Kp G0 []) P ?_;intro i0 q1 R;have f2:Kp G0 [] i0:=Kp.nil0;refine ta 0 (Q a)<|ta 1 (Q a)<|ta 2 (Q a)<|tx 3 (fun c' z=>lN 238 (mm o))<|ta 5 (Q a)<|tx 6 (fun c' z=>lN 238 (mm o))<|bn H fun d v0 H=>o1 4 (gc 4 (nk b f R v0) ?_);rintro v25 j0 s1 ⟨S,rfl⟩;have y0:Kp G0 [] j0:=Kp.nil0;refine ⟨.inr y0,bn H fun e w0 H=>o1 7 (gc 7 (mU b f S w0) ?_)⟩;rintro v34 k0 t1 ⟨T,rfl⟩;have z0:Kp G0 [] k0:=Kp.nil0;refine ⟨.inr z0,ta 8 (Q a) (ta 9 (Qo a 2)<|o1 10 (gD 10 (sC 3 2 (I d) [B b.some,I b.last,I d,I b.conj,B b.odd] 0 T ⟨rfl,trivial⟩) ?_))⟩;rintro l0 u1 U;have a1:Kp G0 [] l0:=Kp.nil0;refine ⟨.inr a1,ta 11 (Q a) (ta 12 (Qo a 3)<|o1 13 (gD 13 (sC 3 3 (I e) [B b.some,I b.last,I d,I e,B b.odd] 0 U ⟨rfl,trivial⟩) ?_))⟩;rintro p v1 h;have c1:Kp G0 [] p:=Kp.nil0;refine ⟨.inr c1,dn (nrm<|W.seq<|bn H fun n s H=>W.join (Jn p fun c l=>Own c G ((Eb a 181 [B b.some,I b.last,I d,I e,B n])::F)/\l= [(0,Q a),(3,Q A),(5,B i)]) ?_ ?_)⟩
 ·clear H;refine Kz (Q a)<|va (Q A)<|vx (l1 u_3 ((mm o) 0 _ rfl))<|Kq (f.Break==6) ?_;rcases bo (f.Break==6) with j|j
  ·have g:=anT j s;refine vb j<|wa (Q a)<|wa (Q a)<|wa (Q a)<|wn<|vx (le1 0 u_4 (h.on 0 rfl))<|wn<|bn g fun h1 u g=>?_;rcases bo b.some with k|k
   ·have M:=anT k u;refine vb k<|wa (Q a)<|wa (Q a)<|wa (Qo a 1)<|wn<|vx (le1 1 u_3 (h.on 0 rfl))<|Kt (b.last==6)<|wn ?_;cases M;refine Kq (b.last==6)<|wn<|bn g fun D x g=>?_;rcases bo (b.last==6) with m|m
    ·have N:=anT m x;refine vb m<|wa (Q a)<|wa (Q a)<|wa (Qo a 4)<|wn<|vx (le1 4 u_4 (h.on 0 rfl))<|wn ?_;cases N;refine Kq b.odd<|Kt (!b.odd) ?_;cases g;refine Kq (!b.odd)<|va (Q a)<|Kw a 4<|md (sC 4 4 (B (!b.odd)) [B b.some,I b.last,I d,I e,B (!b.odd)] 0 h ⟨rfl,trivial⟩) ?_;rintro m0 w1 X;exact KB m0 ⟨X,rfl⟩
    obtain rfl:=anF m x;refine vb m<|pz<|pz<|Kt false<|Kt (!false) ?_;cases g;refine Kq (!false)<|va (Q a)<|Kw a 4<|md (sC 4 4 (B (!false)) [B b.some,I b.last,I d,I e,B (!false)] 0 h ⟨rfl,trivial⟩) ?_;rintro o0 x1 Z;exact KB o0 ⟨Z,rfl⟩
   obtain rfl:=anF k u;refine vb k<|pz<|pz<|ps<|Kt false<|wn<|bn g fun D x0 g=>?_;have y:false=false:=rfl;obtain rfl:=anF y x0;refine vb y<|pz<|pz<|Kt false<|Kt (!false) ?_;cases g;refine Kq (!false)<|va (Q a)<|Kw a 4<|md (sC 4 4 (B (!false)) [B b.some,I b.last,I d,I e,B (!false)] 0 h ⟨rfl,trivial⟩) ?_;rintro q0 y1 a0;exact KB q0 ⟨a0,rfl⟩
  obtain rfl:=anF j s;refine vb j<|pz<|pz<|pz<|pz<|pz<|pz<|pz<|pz<|pz<|Kq false<|va (Q a)<|Kw a 4<|md (sC 4 4 (B false) [B b.some,I b.last,I d,I e,B false] 0 h ⟨rfl,trivial⟩) ?_;rintro s0 z1 b0;exact KB s0 ⟨b0,rfl⟩
 rintro e_ w_ ⟨k1,m1,_,rfl,b2,rfl,d0,rfl⟩;refine nrm<|W.seq<|rD [] (Kp G0 []) d0 ?_;intro t0 c2 e0;have g2:Kp G0 [] t0:=Kp.nil0;refine ta 0 (Q a)<|ta 1 (Q a)<|ta 2 (Q A)<|tx 3 (fun c' z=>l1 u_3 ((mm o) 0 _ rfl))<|ta 4 (Q a)<|ta 5 (Q a)<|o1 6 (gD 6 (sC 4 0 (B true) [B true,I b.last,I d,I e,B n] 0 e0 ⟨rfl,trivial⟩) ?_);rintro u0 d2 f0;have d1:Kp G0 [] u0:=Kp.nil0;refine ⟨.inr d1,ta 7 (Q a) (ta 8 (Qo a 1)<|o1 9 (gD 9 (sC 3 1 (I f.Break) [B true,I f.Break,I d,I e,B n] 0 f0 ⟨rfl,trivial⟩) ?_))⟩;rintro q e2 g0;have e1:Kp G0 [] q:=Kp.nil0;refine ⟨.inr e1,dn (nrm<|sr<|vv (B i)<|KG ?_)⟩;cases H;exact KC q ⟨g0,rfl⟩
end Go.Proofs.YtclmdpamofdoiaaGreatDoor
namespace Go.Proofs.YtclmdpamofdoiaaGreatDoor
open Go Go.Lt
set_option maxRecDepth 10000
set_option linter.unusedVariables false
attribute [local irreducible] W WL AC
def kh {σ:Type}(y:σ->Int->List Int->Option (σ×Bool)) (l:List Int) (s:σ):Option σ:=
 (cH (σ:=bD×Int×Int×σ) (τ:=σ ⊕ (Int×σ)) (((l.length:Int)-0).toNat+1) (fun a=>
 if decide (a.2.2.1<(l.length:Int)) then
 (idx l a.2.2.1).bind fun r=>
 (pa r).bind fun p=>
 (dB a.1 p).bind fun b=>
 (orE b.2 (some (a.2.2.1==0))).bind fun t=>
 if t then
 some (.inl (b.1,a.2.1,(w64 (a.2.2.1+1)),a.2.2.2))
 else
 (slc l a.2.1 a.2.2.1).bind fun x=>
 (y a.2.2.2 a.2.1 x).bind fun z=>
 if (!z.2)=true then
 some (.inr (.inl z.1))
 else
 some (.inl (b.1,a.2.2.1,(w64 (a.2.2.1+1)),z.1))
 else
 some (.inr (.inr (a.2.1,a.2.2.2)))) ((⟨false,0,0,0,false⟩:bD),0,0,s)).bind fun u=>match u with
 | .inl s'=>some s'
 | .inr v=>if decide ((l.length:Int)>0) then (slc l v.1 (l.length:Int)).bind fun x=>(y v.2 v.1 x).bind fun z=>some z.1 else some v.2
open Tryz
variable {c0:Cx}{G:Gm}{F:List En}{v1:Value}
set_option maxHeartbeats 1000000 in
theorem sU {σ:Type}{Bd:σ->Cx->List En->Prop}(hJ:Bod Bd){y:σ->Int->List Int->Option (σ×Bool)}(lr:Nat)
  (hY:∀s i x z c F v,y s i x=some z->Bd s c F->Sl (RI .i32) c v x->JL Tryz.prog lr Bd #[.int .i64 i,v] c F z.1 z.2){l:List Int}{s0 s1:σ}{bc:Nat}
  (hb:Im c0 bc 0 v1) (hl:Sl (RI .i32) c0 v1 l) (h0:Bd s0 c0 F) (H:kh y l s0=some s1):
  Calls Tryz.prog 172 #[.func (.yield lr) #[] #[],.pointer (some ⟨bc,0,none⟩)] c0.w fun x w'=>∃c',w'=c'.w/\c0.lw c'/\x= .returned (.tuple #[])/\Bd s1 c' F:=by
 unfold kh at H
 obtain ⟨u,H1,H2⟩:=bs H
 obtain ⟨G,Fx,O,shut⟩:=hJ.new h0
 refine en func172 rfl rfl (sr (me (al 181 [B false,I 0,I 0,I 0,B false] O) ?_))
 rintro v3 c1 k1 ⟨j,rfl,O1⟩
 have h1:Bd s0 c1 (Eb j 181 [B false,I 0,I 0,I 0,B false]::F):=shut c1 _ k1 O1
 refine wln (KD 0 (KA (sr (vx (l1 cI (hb.mono k1)) (vx (ln 3 cI (hl.mono k1)) (Ku 0 (wln (W.block (lp H1 (fun a=>JnW c1 fun c sl=>Bd a.2.2.2 c (Eb j 181 [B a.1.some,I a.1.last,I a.1.pict,I a.1.conj,B a.1.odd]::F)/\sl= [(0,.func (.yield lr) #[] #[]),(1,Q bc),(3,Q j),(4,I a.2.1),(7,v1),(8,I (l.length:Int)),(9,I a.2.2.1)])
  (fun b ex e w=>match b with|.inl s'=>ex= .ret/\JnW c1 (fun c sl=>Bd s' c F/\sl= []) e w|.inr v=>ex= .exit 0/\(JnW c1 fun c sl=>Bd v.2 c F/\sl= [(0,.func (.yield lr) #[] #[]),(1,Q bc),(4,I v.1)]) e w) ?_ ?_ ?_)))))))))
 ·clear H H1 H2
  intro a x e w H
  rintro ⟨c,e0,_,rfl,kc,rfl,hJc,rfl⟩
  obtain ⟨G2,Fx2,O2,sh2⟩:=hJ.op hJc
  have kq:=k1.lw.trans kc
  refine sr (Kr (a.2.2.1<(l.length:Int)) (KA (cn H (fun D H=>?_) (fun D H=>?_))))
  ·refine KI (KM (sr (bn H fun r hi H=>?_)))
   obtain ⟨d0,E,Rr⟩:=Sl.at (hl.lw kq) (aS hi)
   obtain rfl:=E
   refine Ku a.2.2.1 (vx (ix cI (hl.lw kq) hi) (vx (l1 mj (Rr 0 _ rfl)) (Ku a.2.2.1 (va (J r) (wln ?_)))))
   refine W.seq (KE (J r) (bn H fun p hp H=>cl (xr O2 r hp) ?_))
   rintro v15 c2 k2 ⟨O3,rfl⟩
   refine bn H fun b hb2 H=>cl (oB a.1 p O3 hb2) ?_
   rintro v16 c3 k3 ⟨O4,rfl⟩
   have hJ3:=sh2 c3 _ (k2.trans k3) O4
   have kc3:c1.lw c3:=kc.trans (k2.trans k3).lw
   refine bn H fun t ht H=>?_
   rcases bo b.2 with hb3|hb3
   ·obtain rfl:=orT hb3 ht
    refine vb hb3 (pz (Kq true (KH H (fun _ H=>?_) (fun h H=>by cases h))))
    refine W.exit (thx (KK (W.region (Kv (a.2.2.1+1) (WL.nil ?_)))))
    cases H
    exact ⟨_,rfl,jnW c3 ⟨hJ3,rfl⟩ kc3⟩
   ·have ht2:=orF hb3 ht
    cases ht2
    refine vb hb3 (wa (I a.2.2.1) (Kt (a.2.2.1==0) (Kq (a.2.2.1==0) (KH H (fun h H=>?_) (fun h H=>?_)))))
    ·refine W.exit (thx (KK (W.region (Kv (a.2.2.1+1) (WL.nil ?_)))))
     cases H
     exact ⟨_,rfl,jnW c3 ⟨hJ3,rfl⟩ kc3⟩
    ·refine KI (W.seq (sr (bn H fun x hx H=>bn H fun z hz H=>?_)))
     have kq3:=k1.lw.trans kc3
     obtain ⟨v27,hv,hs⟩:=Aa (P:=Tryz.prog) (k:= .i64) (k':= .i64) (k2:= .i64) cI (by kernel_rfl) (hl.lw kq3) hx
     refine va (.func (.yield lr) #[] #[]) (Ku a.2.1 (vx (l1 cI (hb.lw kq3)) (Ku a.2.1 (vv (I a.2.2.1) (vx (hv _) (WL.round (l:=lr) (args:= #[.int .i64 a.2.1,v27]) rfl (by kernel_rfl) (ym (hY _ _ _ _ _ _ _ hz hJ3 hs) ?_)))))))
     rintro ex w' ⟨c4,rfl,k4,rfl,hJ4⟩
     refine ⟨_,rfl,Kq (!z.2) (KH H (fun h H=>?_) (fun h H=>?_))⟩
     ·refine W.ret (thr (KL ?_))
      cases H
      exact ⟨_,rfl,rfl,jnW c4 ⟨hJ.drop hJ4,rfl⟩ (kc3.trans k4)⟩
     ·refine KI (W.region (vv (I a.2.2.1) (WL.nil (KJ (W.region (Kv (a.2.2.1+1) (WL.nil ?_)))))))
      cases H
      exact ⟨_,rfl,jnW c4 ⟨hJ4,rfl⟩ (kc3.trans k4)⟩
  ·refine W.exit (thx ?_)
   cases H
   exact ⟨_,rfl,rfl,jnW c ⟨hJ.drop hJc,rfl⟩ kc⟩
 ·exact jnW c1 ⟨h1,rfl⟩ (Cx.le.refl c1).lw
 ·rintro ex e w hx
  cases u with
  | inl s'=>
   obtain ⟨rfl,c,e0,_,rfl,kc,rfl,hJc,rfl⟩:=hx
   cases H2
   refine KL ?_
   exact r0 ⟨c,rfl,k1.lw.trans kc,rfl,hJc⟩
  | inr v=>
   obtain ⟨rfl,c,e0,_,rfl,kc,rfl,hJc,rfl⟩:=hx
   have kq:=k1.lw.trans kc
   refine KK (sr (vx (l1 cI (hb.lw kq)) (vx (ln 3 cI (hl.lw kq)) (Kr ((l.length:Int)>0) (KH H2 (fun D H=>?_) (fun D H=>?_))))))
   ·obtain ⟨x,hx,H⟩:=bs H
    obtain ⟨z,hz,H⟩:=bs H
    cases H
    obtain ⟨v27,hv,hs⟩:=Aa (P:=Tryz.prog) (k:= .i64) (k':= .i64) (k2:= .i64) cI (by kernel_rfl) (hl.lw kq) hx
    refine Kz (.func (.yield lr) #[] #[]) (Ku v.1 (vx (l1 cI (hb.lw kq)) (Ku v.1 (vx (l1 cI (hb.lw kq)) (vx (ln 3 cI (hl.lw kq)) (vx (l1 cI (hb.lw kq)) (vx (ln 3 cI (hl.lw kq)) (vx (hv _) (WL.round (l:=lr) (args:= #[.int .i64 v.1,v27]) rfl (by kernel_rfl) (ym (hY _ _ _ _ _ _ _ hz hJc hs) ?_))))))))))
    rintro ex w' ⟨c4,rfl,k4,rfl,hJ4⟩
    exact ⟨_,rfl,WL.nil (n0 ⟨c4,rfl,kq.trans k4,rfl,hJ4⟩)⟩
   ·cases H
    exact W.skip (n0 ⟨c,rfl,kq,rfl,hJc⟩)
end Go.Proofs.YtclmdpamofdoiaaGreatDoor
namespace Go.Proofs.YtclmdpamofdoiaaGreatDoor
open Go Go.Lt
set_option maxRecDepth 10000
set_option linter.unusedVariables false
attribute [local irreducible] W WL AC
open Tryz
variable {c0:Cx}{G:Gm}{F:List En}{v1:Value}
theorem qY (O:Own c0 G F){l:List Int}(hl:Sl (RI .i32) c0 v1 l): Calls Tryz.prog 113 #[v1] c0.w (aR c0 fun c v=>∃b,Own c G F/\v= .func (.func 172) #[] #[.pointer (some ⟨b,0,none⟩)]/\Im c b 0 v1):=by
 obtain ⟨a,cap,rfl,_⟩:=hl;refine en func113 rfl rfl (sr (me (bx 32 [.slice a l.length cap] O) ?_));rintro v c1 k1 ⟨b,rfl,O1,hb⟩;refine va (.nilFunc) (KN (vv (.func (.func 172) #[] #[.pointer (some ⟨b,0,none⟩)]) (KG ?_)));exact KC c1 ⟨b,O1,rfl,hb 0 _ rfl⟩
def kK (l:List Int):Option (List dU):=
 kh (fun (out:List dU) _ x=>(ir x).bind fun z=>if z.2 then (app out [z.1]).bind fun o=>some (o,true) else some (out,true)) l []
def zD (cb:Cx) (G:Gm) (bo lr D:Nat) (r:Loop) (out:List dU) (c:Cx) (F:List En):Prop:=
 ∃vo vs,Own c G (Eb bo 161 [vo]::es true fp vo 165 vs out::F)/\OA fp c vo vs out/\Rec c lr D r/\cb.le c
theorem zD.bod (cb:Cx) (G:Gm) (bo lr D:Nat) (r:Loop):Bod (zD cb G bo lr D r):=by
 rintro out c F ⟨vo,vs,O,ho,hr,hc⟩;exact ⟨G,[Eb bo 161 [vo],es true fp vo 165 vs out],O,fun c' F' k O'=>⟨vo,vs,O',ho.mono k,hr.mono k,hc.trans k⟩⟩
set_option maxHeartbeats 1000000 in
theorem wq (O0:Own c0 G F) (l:List Int){r:List dU}(hl:Sl (RI .i32) c0 v1 l) (H:kK l=some r): Calls Tryz.prog 114 #[v1] c0.w (aR c0 fun c v=>∃y1 us1,Own c G (es true fp y1 165 us1 r::F)/\v=y1/\OA fp c y1 us1 r):=by
 refine enR func114 rfl rfl (WR.sr (va (.slice none 0 0) (wln (WR.sr (me (al 161 [.slice none 0 0] O0) ?_)))));rintro v3 c1 k1 ⟨bo,rfl,O1⟩;refine wln (WR.seq (WR.sr (va v1 (cl (qY O1 (hl.mono k1)) ?_))));rintro v9 c2 k2 ⟨bc,O2,rfl,hbc⟩;have O3:Own c2 G (es true fp (.slice none 0 0) 165 [] []::Eb bo 161 [.slice none 0 0]::F):=Own.addHole O2 rfl;have O4:=O3.sD 2 [1,0];refine wln (WR.block (WR.range rfl (fun args w=>by kernel_rfl) fun fn rc hrc=>?_));obtain ⟨c3,e3,b3,r3⟩:=Cx.loop c2 (rc .ready none);rw [<-e3];have k3:=b3.le;have hJ:=zD.bod c2 G bo (c2.w.heap.size+1) c2.w.heap.size (rc .ready none);unfold kK at H;refine (sU hJ (c2.w.heap.size+1) ?_ (hbc.mono k3) (hl.mono ((k1.trans k2).trans k3)) ⟨.slice none 0 0,[],O4.keep b3,OA.nil (by decide),r3,k3⟩ H).mono ?_
 ·rintro s i x z c F v hz ⟨vo,vs,O,ho,hr,hc⟩ hs
  obtain ⟨q,hq,hz⟩:=bs hz;refine zG hrc hr.rc rfl (GX _ _ _ _ _ 10 11 _ _) ?_;refine Kz v (WL.nil (nrm ⟨hr.rc,?_⟩));have k4:=Cx.turn_lw (o':= .loop (rc .busy none)) hr.rc rfl rfl;have Ob:=Own.turn (o':= .loop (rc .busy none)) O hr.rc rfl;have rb:=hr.turn (rc .busy none);have hcb:=hc.turn (o':= .loop (rc .busy none)) (tV _) hr.rc rfl rfl;have hob:=ho.lw k4;have hsb:=hs.lw k4;show W _ _ _ _ _ (c.turn (c2.w.heap.size+1) (.loop (rc .busy none))).w;generalize c.turn (c2.w.heap.size+1) (.loop (rc .busy none))=cb at k4 Ob rb hcb hob hsb;have fin:∀(cE:Cx) (vo vs) (out:List dU) (e:Nat->Value),cb.le cE->Own cE G (Eb bo 161 [vo]::es true fp vo 165 vs out::F)->OA fp cE vo vs out->
    rdQ (c2.w.heap.size+1) rc (fun x w'=>∃c',w'=c'.w/\c.lw c'/\x= .returned (.bool true)/\zD c2 G bo (c2.w.heap.size+1) c2.w.heap.size (rc .ready none) out c' F) .normal e cE.w:=fun cE vo vs out e kE OE hoE=>by
   have rE:=rb.mono kE;have kt:=Cx.turn_lw (o':= .loop (rc .ready none)) rE.rc rfl rfl;exact ⟨rE.rc,cE.turn _ (.loop (rc .ready none)),rfl,k4.trans (kE.lw.trans kt),rfl,vo,vs,Own.turn OE rE.rc rfl,hoE.lw kt,rE.turn _,(hcb.trans kE).turn (tV _) rE.rc rfl rfl⟩
  refine W.block (KE v (cl (wo Ob x hsb hq) ?_));rintro v14 c5 k5 ⟨y1,O5,rfl,hy1⟩;obtain ⟨ya,yn,yc,rfl⟩:=hy1.form;refine va (.tuple #[.agg #[I q.1.Wide,.slice ya yn yc],B q.2]) (va (.agg #[I q.1.Wide,.slice ya yn yc]) (Kq q.2 (me (al 165 [I 0,.slice none 0 0] O5) ?_)));rintro v6 c6 k6 ⟨bx,rfl,O6⟩;refine md (sA 165 [I q.1.Wide,.slice ya yn yc] 0 O6 ⟨rfl,rfl,trivial⟩) ?_;intro c7 k7 O7;have ho7:=((hob.mono k5).mono k6).mono k7;refine Kq q.2 (wln (Ky q.2 (KH hz (fun h hz=>?_) (fun h hz=>?_))))
  ·obtain ⟨o,ho2,hz⟩:=bs hz
   cases hz;refine W.region (vx (le1 0 xW (O7.on 1 rfl)) (vx (leN 165 0 [I q.1.Wide,.slice ya yn yc] (O7.on 0 rfl)) (me (sl fp 165 [[I q.1.Wide,.slice ya yn yc]] ([q.1]:List dU) O7 ⟨⟨_,rfl,(hy1.mono k6).mono k7⟩,trivial⟩) ?_)));rintro v20 c8 k8 ⟨vs8,O8,ho8⟩;obtain ⟨c9,w9,k9,O9,hs9⟩:=O8.frz 0 rfl ho8;refine WL.gh w9 ?_;refine me (ap fp (.agg #[I 0,.slice none 0 0]) 32 161 3 O9 ((ho7.mono k8).mono k9) hs9 ho2 xW) ?_;rintro v21 cA kA ⟨vsA,OA_,hoA⟩;obtain ⟨oa,on_,oc,rfl⟩:=hoA.form;refine md (sC 161 0 (.slice oa on_ oc) [.slice oa on_ oc] 2 OA_ ⟨rfl,trivial⟩) ?_;intro cB kB OB;have OC:=OB.sD 4 [2,3];refine WL.nil (bkn ?_);rw [show (true:Bool)=true from rfl];exact fin cB _ _ _ _ (k5.trans (k6.trans (k7.trans (k8.trans (k9.trans (kA.trans kB)))))) OC (hoA.mono kB)
  ·cases hz
   have OC:=O7.sD 3 [1,2];exact W.skip (bkn (fin c7 _ _ _ _ (k5.trans (k6.trans k7)) OC ho7))
 ·rintro ex w' ⟨c4,rfl,k4,rfl,vo,vs,O,ho,hr,hc⟩
  have kt:=Cx.turn_lw (o':= .loop (rc .exhausted none)) hr.rc rfl rfl;have Ot:=Own.turn (o':= .loop (rc .exhausted none)) O hr.rc rfl;have rt:=hr.turn (rc .exhausted none);have hct:=hc.turn (o':= .loop (rc .exhausted none)) (tV _) hr.rc rfl rfl;have hot:=ho.lw kt;refine ⟨_,rfl,.inl ⟨hr.rc,?_⟩⟩;show nx _ _ _ _ (c4.turn (c2.w.heap.size+1) (.loop (rc .exhausted none))).w;generalize c4.turn (c2.w.heap.size+1) (.loop (rc .exhausted none))=ct at kt Ot rt hct hot;obtain ⟨oa,on_,oc,rfl⟩:=hot.form;refine KJ (WR.sr (vx (le1 0 xW (Ot.on 0 rfl)) (va (.slice oa on_ oc) (wln (WR.of (W.ret ?_))))));have kd:=Cx.turn_lw (o':= .deferred none) rt.def_ rfl rfl;exact IH rt.def_ ⟨_,ct.turn c2.w.heap.size (.deferred none),rfl,rfl,(k1.trans k2).trans (hct.turn (aq _) rt.def_ rfl rfl),_,_,(Own.turn Ot rt.def_ rfl).tail,rfl,hot.lw kd⟩
end Go.Proofs.YtclmdpamofdoiaaGreatDoor
namespace Go.Proofs.YtclmdpamofdoiaaGreatDoor
open Go Go.Lt
set_option maxRecDepth 10000
set_option linter.unusedVariables false
attribute [local irreducible] W WL AC
open Tryz
variable {c0:Cx}{G:Gm}{F:List En}{v1 v3:Value}{sg:Sto}
theorem Ja {P:Program}{fn:Func}{n:Nat}{R:Ending->World->Prop}{c:Cx}{e:Nat->Value}{D:Nat}(hD:c.w.heap[D]? = some (.deferred (some []))) (h:R (.returned (.tuple #[])) (c.turn D (.deferred none)).w)
 (hr:fn.results= #[]:=by rfl):ES P fn n R [Go.Lt.mark D] .normal e c.w:=Ek hD (Hq hr _ _ _) h
def iH (sg:Sto) (p0:Option Nat) (p1:List Int):Option Sto:=
 (kK p1).bind fun x_6=>
 if decide ((x_6.length:Int)>0) then
 (idx x_6 0).bind fun x_15=>
 (idx x_6 0).bind fun x_19=>
 (iq sg p0 x_15.Wide x_19.Text).bind fun x_22=>
 some x_22.1
 else
 (cH (σ:=Int×Sto) (τ:=Sto) (((p1.length:Int)-0).toNat+1) (fun s_28=>
 if decide (s_28.1<(p1.length:Int)) then
 (idx p1 s_28.1).bind fun x_31=>
 (oV s_28.2 p0 x_31).bind fun x_37=>
 some (.inl ((w64 (s_28.1+1)),x_37.1))
 else
 some (.inr s_28.2)) (0,sg)).bind fun o_28=>
 some o_28
def kv (sg:Sto) (p0:Option Nat) (p1:List Int):Option Sto:=
 kh (fun (s:Sto) _ x=>(iH s p0 x).bind fun s'=>some (s',true)) p1 sg
def GM (cb:Cx) (lr D:Nat) (r:Loop) (s:Sto) (c:Cx) (F:List En):Prop:=∃G,Own c G F/\Rel c s G/\Rec c lr D r/\cb.le c
theorem GM.bod (cb:Cx) (lr D:Nat) (r:Loop):Bod (GM cb lr D r):=by
 rintro s c F ⟨G,O,R,hr,hc⟩;exact ⟨G,[],O,fun c' F' k O'=>⟨G,O',R.mono k,hr.mono k,hc.trans k⟩⟩
set_option maxHeartbeats 1000000 in
theorem uU (O0:Own c0 G F) (R0:Rel c0 sg G) (hG:Gl [2,4] c0) (S:Option Nat) (l:List Int){r:Sto}(h2:Pt 2 c0 v1 S) (hl:Sl (RI .i32) c0 v3 l) (H:kv sg S l=some r): KP 74 #[v1,v3] c0 fun c v=>∃G_:Gm,Own c G_ F/\Rel c r G_/\v= .tuple #[]:=by
 obtain ⟨a5,rfl⟩:=h2.form;refine enR func74 rfl rfl (WR.sr (me (bx 119 [.pointer a5] O0) ?_));rintro v10 c1 y ⟨b6,rfl,O1,m8⟩;refine wln<|WR.sr (va v3<|cl (qY O1 (hl.mono y)) ?_);rintro v9 a A ⟨bc,O2,rfl,hbc⟩;refine wln<|WR.block (WR.range rfl (fun args w=>by kernel_rfl) fun fn rc hrc=>?_);obtain ⟨c3,e3,b3,r3⟩:=Cx.loop a (rc .ready none);rw [<-e3];have k3:=b3.le;have hJ:=GM.bod a (a.w.heap.size+1) a.w.heap.size (rc .ready none);have y1:=h2.mono (y.trans A);have x1:=hG.mono (y.trans A);unfold kv at H;refine (sU hJ (a.w.heap.size+1) ?_ (hbc.mono k3) hl.m ⟨G,O2.keep b3,R0.mono ((y.trans A).trans k3),r3,k3⟩ H).mono ?_
 ·rintro s i x z c F v hz ⟨G1,O,R,hr,hc⟩ hs;refine bn hz fun q hq hz=>?_;cases hz;refine zG hrc hr.rc rfl (GX _ _ _ _ _ 11 12 _ _) (Kz v<|WL.nil<|nrm ⟨hr.rc,?_⟩);have D:=Cx.turn_lw (o':= .loop (rc .busy none)) hr.rc rfl rfl;have Ob:=Own.turn (o':= .loop (rc .busy none)) O hr.rc rfl;have Rb:=R.lw D;have rb:=hr.turn (rc .busy none);have hcb:=hc.turn (o':= .loop (rc .busy none)) (tV _) hr.rc rfl rfl;have hsb:=hs.lw D;show W _ _ _ _ _ (c.turn (a.w.heap.size+1) (.loop (rc .busy none))).w;generalize c.turn (a.w.heap.size+1) (.loop (rc .busy none))=cb at D Ob Rb rb hcb hsb;have hpb:=y1.mono hcb;have hGb:=x1.mono hcb;have mb:∀j u,([.pointer a5]:List Value)[j]? = some u->Im cb b6 (0+j) u:=fun j u hu=>((m8 j u hu).mono A).mono hcb;have fin:∀(cE:Cx) (GE:Gm) (s':Sto) (e:Nat->Value),cb.le cE->Own cE GE F->Rel cE s' GE->rdQ (a.w.heap.size+1) rc (fun x w'=>∃g,w'=g.w/\c.lw g/\x= .returned (B true)/\GM a (a.w.heap.size+1) a.w.heap.size (rc .ready none) s' g F) .normal e cE.w:=fun cE GE s' e kE OE RE=>by have rE:=rb.mono kE; have kt:=Cx.turn_lw (o':= .loop (rc .ready none)) rE.rc rfl rfl; exact ⟨rE.rc,cE.turn _ (.loop (rc .ready none)),rfl,D.trans (kE.lw.trans kt),rfl,GE,Own.turn OE rE.rc rfl,RE.lw kt,rE.turn _,(hcb.trans kE).turn (tV _) rE.rc rfl rfl⟩
  unfold iH at hq;refine W.block<|W.seq<|KE v<|bn hq fun f i1 hq=>cl (wq Ob x hsb i1) ?_;rintro v12 o E ⟨_,h,U,rfl,d⟩;refine va v12<|wln<|KE v12<|vx (lnO 3 xW d)<|Kr ((f.length:Int)>0)<|KH hq (fun m1 hq=>?_) (fun m1 hq=>?_)
  ·refine W.seq<|rD [] (Kp G0 [es true fp v12 165 h f]) U ?_;intro b1 M X;have g0:=(Kp.cons (X.on 0 rfl) Kp.nil0);refine tx 0 (fun g n=>l1 tK ((mm mb) 0 _ rfl))<|ta 1 v12<|bn hq fun N p hq=>tx 2 (fun g n=>ixO xW d.m p)<|ta 3 (Qo (sb v12) ((0:Int).toNat*2)) ?_;obtain ⟨u2,n1,e2⟩:=OA.at (d.mono M) p;obtain ⟨v29,rfl,h3⟩:=n1;refine AC.takeK 4 (I N.Wide) g0 rfl (by kernel_rfl) (by kernel_rfl) (by kernel_rfl) (fun g n hk=>(rx (by kernel_rfl) (lM u_3 rfl (hk.on 0 rfl) (d.m.blk p) (at1 (j:=0) e2 rfl)))) (ta 5 v12<|bn hq fun j0 t hq=>tx 6 (fun g n=>ixO xW d.m t)<|ta 7 (Qo (sb v12) ((0:Int).toNat*2+1)) ?_);obtain ⟨v2,p1,f2⟩:=OA.at (d.mono M) t;obtain ⟨v35,rfl,q1⟩:=p1;refine AC.takeK 8 v35 g0 rfl (by kernel_rfl) (by kernel_rfl) (by kernel_rfl) (fun g n hk=>(rx (by kernel_rfl) (lM cI rfl (hk.on 0 rfl) (d.m.blk t) (at1 (j:=1) f2 rfl)))) (bn hq fun a3 s1 hq=>o1 9 (gc 9 (oM X Rb.m (hGb.m.le (by decide)) S N.Wide j0.Text hpb.m q1 s1) ?_));rintro v43 d0 z1 ⟨k0,Z,v0,rfl⟩;have i2:=(Kp.cons (Z.on 0 rfl) Kp.nil0);refine ⟨.inr i2,dn (nrm<|W.exit<|thx<|bke ?_)⟩;cases hq;have q0:=Z.sD 1 [];exact fin d0 k0 _ _ (E.trans (M.trans z1)) q0 v0
  refine KI<|KE v<|vx (ln 3 cI hsb.m)<|Ku 0<|wln<|W.block<|bn hq fun y2 e0 T=>lp e0 (fun b=>Jn o fun c l=>∃G_,Own c G_ (es true fp v12 165 h f::F)/\l= [(2,Q b6),(28,v),(29,I (x.length:Int)),(30,I b.1)]/\Rel c b.2 G_) (fun P ex e w=>ex= .exit 2/\(Jn o fun c l=>∃G_,Own c G_ (es true fp v12 165 h f::F)/\l= []/\Rel c P G_) e w) ?_ ?_ ?_
  ·clear T e0;intro b l3 h1 j2 hq;revert h1 j2;rintro e_ w_ ⟨e1,f3,_,rfl,b2,rfl,l0,a0,rfl,b0⟩;refine sr<|Kr (b.1<(x.length:Int))<|KA<|cn hq (fun t1 hq=>?_) (fun t1 hq=>?_)
   ·refine KI<|KM<|sr<|bn hq fun k f0 hq=>?_;obtain ⟨w2,u1,g2⟩:=Sl.at (hsb.mono (E.trans b2)) (aS f0);obtain rfl:=u1;refine vx (ix cI hsb.m f0)<|vx (l1 mj (g2 0 _ rfl))<|va (J k)<|wln<|W.region<|vx (l1 tK ((mm mb) 0 _ rfl))<|va (J k)<|bn hq fun d3 w1 hq=>cl (yE a0 b0 S k hpb.m w1) ?_;rintro j3 f1 i3 ⟨m0,s0,w0,rfl⟩;refine WL.nil<|KJ<|W.region<|Kv (b.1+1)<|WL.nil ?_;cases hq;exact ⟨_,rfl,jn f1 ⟨m0,s0,rfl,w0⟩⟩
   refine W.exit<|thx ?_;cases hq;exact ⟨_,rfl,rfl,jn e1 ⟨l0,a0,rfl,b0⟩⟩
  ·exact jn o ⟨G1,U,rfl,Rb.m⟩
  rintro _ e_ w_ ⟨rfl,g1,g3,_,rfl,d2,rfl,o0,t0,rfl,x0⟩;refine bke<|bkn ?_;cases T;have u0:=t0.sD 1 [];exact fin g1 o0 _ _ (E.trans d2) u0 x0
 rintro ex w' ⟨c4,rfl,D,rfl,G4,O,R,hr,hc⟩;have kt:=Cx.turn_lw (o':= .loop (rc .exhausted none)) hr.rc rfl rfl;have Ot:=Own.turn (o':= .loop (rc .exhausted none)) O hr.rc rfl;have Rt:=R.lw kt;have rt:=hr.turn (rc .exhausted none);have hct:=hc.turn (o':= .loop (rc .exhausted none)) (tV _) hr.rc rfl rfl;refine ⟨_,rfl,.inl ⟨hr.rc,?_⟩⟩;show nx _ _ _ _ (c4.turn (a.w.heap.size+1) (.loop (rc .exhausted none))).w;generalize c4.turn (a.w.heap.size+1) (.loop (rc .exhausted none))=ct at kt Ot Rt rt hct;refine bkn ?_;have kd:=Cx.turn_lw (o':= .deferred none) rt.def_ rfl rfl;exact Ja rt.def_ ⟨_,ct.turn a.w.heap.size (.deferred none),rfl,rfl,(y.trans A).trans (hct.turn (aq _) rt.def_ rfl rfl),G4,Own.turn Ot rt.def_ rfl,Rt.lw kd,rfl⟩
end Go.Proofs.YtclmdpamofdoiaaGreatDoor
namespace Go.Proofs.YtclmdpamofdoiaaGreatDoor
open Go Go.Lt
set_option maxRecDepth 10000
set_option linter.unusedVariables false
attribute [local irreducible] W WL AC
open Tryz
variable {c0:Cx}{G:Gm}{F:List En}{sg:Sto}{v1 v2 v3 v4 v5 v6 v7 v8 v9 v10 v11 v12 v13 v14 v15 v16 v17 v18 v19 v20 v21 v22 v23 v24 v25 v26 v27 v28 v29 v30 v31 v32 v33 v34 v35 v36 v37 v38 v39 v40 v41 v42 v43 v44 v45 v46 v47 v48 v49 v50 v51 v52 v53 v54 v55 v56 v57 v58 v59 v60:Value}
def lQ (sg:Sto) (p0:Int) (p1:Int) (p2:List aH):Option (Sto×eG):=
 (mR sg p0 p1).bind fun e=>
 (jH p2).bind fun g=>
 (idx g 0).bind fun i=>
 (kv e.1 e.2 i).bind fun j=>
 (cH (σ:=Int×Int×Sto) (τ:=Sto) (((p2.length:Int)-0).toNat+1) (fun a=>
 if decide (a.2.1<(p2.length:Int)) then
 ((idx p2 a.2.1).bind fun b=>
 (jG b).bind fun k=>
 if (!k)=true then
 some (a.1,a.2.2)
 else
 (if (b.Kind==1)=true then
 some a.2.2
 else
 if (b.Kind==13)=true then
 (jO a.2.2 e.2 b.A b.B).bind fun l=>
 some l
 else
 (nV a.2.2 e.2 b).bind fun m=>
 some m.1).bind fun s=>
 (idx g a.1).bind fun n=>
 (kv s e.2 n).bind fun o=>
 some ((w64 (a.1+1)),o)).bind fun f=>
 some (.inl (f.1,(w64 (a.2.1+1)),f.2))
 else
 some (.inr a.2.2)) (1,0,j)).bind fun c=>
 (e.2).bind fun h=>
 (c.place_Pen[h]?).bind fun d=>
 (ci c d.G).bind fun p=>
 (bQ c d.G).bind fun q=>
 (il c d.G).bind fun r=>
 some (c,(⟨p,q,r,d.At,d.Auto⟩:eG))
theorem uV (O0:Own c0 G F) (R0:Rel c0 sg G) (hG:Gl [2,4] c0) (p0:Int) (p1:Int) (T:List aH){r:Sto×eG}(h2:Sl mC c0 v1 T) (H:lQ sg p0 p1 T=some r): KP 30 #[I p0,I p1,v1] c0 fun c v=>∃y1 y2,∃G_:Gm,Own c G_ (es true av y1 48 y2 r.2.Lines::F)/\Rel c r.1 G_/\v= .agg #[I r.2.Wide,I r.2.High,y1,I r.2.At.Row,I r.2.At.Col,B r.2.At.Pending,B r.2.Auto]/\OA av c y1 y2 r.2.Lines:=by
 unfold lQ at H;refine en func30 rfl rfl<|sr<|me (al 45 [I 0,I 0,Y,I 0,I 0,B false,B false] O0) ?_;rintro v6 c5 l5 ⟨E,rfl,O4⟩;refine wln<|KD p0<|Ku p1<|bn H fun h0 h7 H=>cl (wb O4 R0.m p0 p1 h7) ?_;rintro v8 h6 r4 ⟨_,e6,q3,x3,g6,rfl,h9⟩;refine va v8<|wln<|KE v1<|bn H fun i0 f4 H=>cl (qW q3 (hG.m.le (by decide)) T h2.m f4) ?_;rintro v17 i6 k1 ⟨_,g0,d1,rfl,s⟩;refine va v17<|wln<|KE v8<|va v17<|bn H fun h3 t0 H=>vx (ixO py s t0) ?_;obtain ⟨r5,g4,v4⟩:=OA.at s t0;obtain ⟨v30,rfl,h4⟩:=g4;refine vr v30 (rx (by kernel_rfl) (lM cI rfl (d1.on 0 rfl) (s.blk t0) (at1 (j:=0) v4 rfl)))<|bn H fun z5 i4 H=>cl (uU d1 x3.m (hG.m.le (by decide)) h0.2 h3 h9.m h4 i4) ?_;rintro v38 q0 w0 ⟨m3,s3,y3,rfl⟩;refine wln<|KD 1<|KA<|KE v1<|vx (ln 3 uv h2.m)<|Ku 0<|wln<|W.block<|bn H fun t5 i1 h=>lp i1 (fun f=>Jn q0 fun c l=>∃G_,Own c G_ (es true (RL (RI .i32)) v17 32 g0 i0::(Eb E 45 [I 0,I 0,Y,I 0,I 0,B false,B false])::F)/\l= [(6,Q E),(7,v8),(8,v17),(9,I f.1),(22,v1),(23,I (T.length:Int)),(24,I f.2.1)]/\Rel c f.2.2 G_) (fun a1 ex e w=>ex= .exit 0/\(Jn q0 fun c l=>∃G_,Own c G_ (es true (RL (RI .i32)) v17 32 g0 i0::(Eb E 45 [I 0,I 0,Y,I 0,I 0,B false,B false])::F)/\l= [(6,Q E),(7,v8)]/\Rel c a1 G_) e w) ?_ ?_ ?_
 ·clear h i1;intro f u6 e4 x4 H;revert e4 x4;rintro e_ w_ ⟨h1,m6,_,rfl,m1,rfl,j0,e1,rfl,D⟩;refine sr<|Kr (f.2.1<(T.length:Int))<|KA<|cn H (fun j4 H=>?_) (fun j4 H=>?_)
  ·refine KI<|bn H fun x0 k p3=>W.seqJ (Jn h1 fun c l=>∃G_,Own c G_ (es true (RL (RI .i32)) v17 32 g0 i0::(Eb E 45 [I 0,I 0,Y,I 0,I 0,B false,B false])::F)/\l= [(6,Q E),(7,v8),(8,v17),(9,I x0.1),(22,v1),(23,I (T.length:Int)),(24,I f.2.1)]/\Rel c x0.2 G_) ?_ ?_
   ·refine W.block<|sr<|bn k fun a j1 k=>?_;obtain ⟨s5,k4,w4⟩:=Sl.at (h2.mono (l5.trans (r4.trans (k1.trans (w0.trans m1))))) (aS j1);obtain ⟨v54,rfl,e0⟩:=k4;refine vx (ix uv h2.m j1)<|vx (lN 38 w4)<|me (al 38 [I 0,I 0,I 0,Y] e1) ?_;rintro v59 j6 n1 ⟨d0,rfl,t3⟩;obtain ⟨Z,a0,b0,rfl⟩:=((e0.mono n1)).form;refine md (sA 38 [I a.Kind,I a.A,I a.B,.slice Z a0 b0] 0 t3 ⟨rfl,rfl,rfl,e0.m.one,trivial⟩) ?_;rintro k6 s4 f1;refine KA<|sr<|vx (leN 38 0 [I a.Kind,I a.A,I a.B,.slice Z a0 b0] (f1.on 0 rfl))<|bn k fun i3 l4 k=>cl (qV f1 (hG.m.le (by decide)) a e0.m l4) ?_;rintro r6 s0 t4 ⟨n,rfl⟩;refine Kq (!i3)<|KH k (fun m4 k=>?_) (fun m4 k=>?_)
    ·refine W.exit<|thx<|KK ?_;cases k;have u3:=n.sD 3 [1,2];exact jn s0 ⟨j0,u3,rfl,D.m⟩
    refine KI<|bn k fun l3 g z=>W.seqJ (Jn s0 fun c l=>∃G_,Own c G_ ((Eb d0 38 [I a.Kind,I a.A,I a.B,.slice Z a0 b0])::es true (RL (RI .i32)) v17 32 g0 i0::(Eb E 45 [I 0,I 0,Y,I 0,I 0,B false,B false])::F)/\l= [(6,Q E),(7,v8),(8,v17),(9,I f.1),(22,v1),(23,I (T.length:Int)),(24,I f.2.1)]/\Rel c l3 G_) ?_ ?_
    ·refine KE (Q d0)<|vx (le1 0 u_3 (n.on 0 rfl))<|wln<|W.block<|sr<|vv (B (a.Kind==1))<|KH g (fun n4 g=>?_) (fun n4 g=>?_)
     ·refine W.skip<|KJ ?_;cases g;exact jn s0 ⟨j0,n,rfl,D.m⟩
     refine sr<|vv (B (a.Kind==13))<|KH g (fun o4 g=>?_) (fun o4 g=>?_)
     ·refine Kz v8<|Kw d0 1<|vx (le1 1 u_3 (n.on 0 rfl))<|Kw d0 2<|vx (le1 2 u_3 (n.on 0 rfl))<|bn g fun a6 p4 g=>cl (tO n D.m (hG.m.le (by decide)) h0.2 a.A a.B h9.m p4) ?_;rintro s6 c4 p6 ⟨n3,v3,z3,rfl⟩;refine WL.nil<|KJ ?_;cases g;exact jn c4 ⟨n3,v3,rfl,z3⟩
     refine Kz v8<|vx (leN 38 0 [I a.Kind,I a.A,I a.B,.slice Z a0 b0] (n.on 0 rfl))<|bn g fun b6 q4 g=>cl (yD n D.m (hG.m.le (by decide)) h0.2 a h9.m e0.m q4) ?_;rintro t6 d4 q6 ⟨_,o3,w3,a4,rfl,o6⟩;refine WL.nil<|KJ ?_;cases g;exact jn d4 ⟨o3,w3,rfl,a4⟩
    rintro e_ w_ ⟨l6,n6,_,rfl,u4,rfl,f6,g1,rfl,b4⟩;refine KE v8<|va v17<|Ku f.1<|bn z fun j3 P z=>vx (ixO py s.m P) ?_;obtain ⟨z4,l2,x2⟩:=OA.at (s.mono (w0.trans (m1.trans (n1.trans (s4.trans (t4.trans u4)))))) P;obtain ⟨f3,rfl,m2⟩:=l2;refine vr f3 (rx (by kernel_rfl) (lM cI rfl (g1.on 1 rfl) (s.m.blk P) (at1 (j:=0) x2 rfl)))<|bn z fun c6 n2 z=>cl (uU g1 b4 (hG.m.le (by decide)) h0.2 j3 h9.m m2 n2) ?_;rintro u5 d2 j5 ⟨q1,t1,b2,rfl⟩;refine wln<|KF f.1<|Kv (f.1+1)<|WL.nil<|KJ ?_;cases z;have u1:=t1.sD 3 [1,2];exact jn d2 ⟨q1,u1,rfl,b2⟩
   rintro e_ w_ ⟨e2,f5,_,rfl,k5,rfl,s1,w1,rfl,c2⟩;refine W.region<|Kv (f.2.1+1)<|WL.nil ?_;cases p3;exact ⟨_,rfl,jn e2 ⟨s1,w1,rfl,c2⟩⟩
  refine W.exit<|thx ?_;cases H;exact ⟨_,rfl,rfl,jn h1 ⟨j0,e1,rfl,D⟩⟩
 ·exact jn q0 ⟨m3,s3,rfl,y3⟩
 rintro _ e_ w_ ⟨rfl,e5,g5,_,rfl,w2,rfl,i,x1,rfl,o⟩;refine KK<|W.seq<|rD [] (Kp i []) x1 ?_;intro f2 v0 k0;have q:=(Kp.nil k0);refine ta 0 v8<|bn h fun i5 q2 h=>?_;obtain ⟨d,rfl,o2⟩:=((h9.mono (k1.trans (w0.trans (w2.trans v0))))).get q2;refine ta 1 (Q d)<|ta 2 (Q d)<|bn h fun b s2 h=>?_;obtain ⟨v5,p,R⟩:=Rel.open_place_Pen (o.mono v0) s2 o2;refine tkx 3 q (fun c' f0 y=>le1 0 fm (y.gon p 0 rfl)) (ta 5 (Q d)<|ta 6 (Q d)<|ta 7 (Q d)<|tkx 8 q (fun c' f0 y=>le1 0 fm (y.gon p 0 rfl)) (ta 10 (Q d)<|ta 11 (Q d)<|ta 12 (Q d)<|tkx 13 q (fun c' f0 y=>le1 0 fm (y.gon p 0 rfl)) (ta 15 (Q d)<|ta 16 (Q d)<|ta 17 (Qo d 1)<|tkx 18 q (fun c' f0 y=>leN 29 1 [I b.At.Row,I b.At.Col,B b.At.Pending] (y.gon p 0 rfl)) (ta 19 (Q d)<|ta 20 (Q d)<|ta 21 (Qo d 4)<|tkx 22 q (fun c' f0 y=>le1 4 u_4 (y.gon p 0 rfl)) (bn h fun U t2 h=>o1 4 (gc 4 (cK k0 o.m b.G R t2) ?_))))));rintro w5 g2 m5 ⟨l0,rfl⟩;have z2:=(Kp.nil l0);refine ⟨.inr z2,bn h fun X u2 h=>o1 9 (gc 9 (bK l0 o.m b.G R.m u2) ?_)⟩;rintro x5 i2 n5 ⟨m0,rfl⟩;have a3:=(Kp.nil m0);refine ⟨.inr a3,bn h fun d6 v2 h=>o1 14 (gc 14 (pE m0 o.m b.G R.m v2) ?_)⟩;rintro y5 j2 o5 ⟨_,e3,o0,rfl,S⟩;have c3:=(Kp.nil o0);refine ⟨.inr c3,?_⟩;obtain ⟨t,u,x,rfl⟩:=(S).form;refine ta 23 (.agg #[I U,I X,.slice t u x,I b.At.Row,I b.At.Col,B b.At.Pending,B b.Auto])<|o1 24 (gD 24 (sA 45 [I U,I X,.slice t u x,I b.At.Row,I b.At.Col,B b.At.Pending,B b.Auto] 2 o0 ⟨rfl,rfl,(S).one,rfl,rfl,rfl,rfl,trivial⟩) ?_);rintro N p5 M;have d3:=(Kp.nil M);refine ⟨.inr d3,dn (nrm<|W.ret ?_)⟩;cases h;have z1:=M.sD 3 [0];exact km (c:=N) (vs:=[I U,I X,.slice t u x,I b.At.Row,I b.At.Col,B b.At.Pending,B b.Auto]) rfl (by kernel_rfl) (by kernel_rfl) (by kernel_rfl) (M.on 2 rfl _ rfl).1 ⟨_,N,rfl,rfl,pt,(.slice t u x),e3,i,z1,o.m,rfl,S.m⟩
def dR (sg:Sto):Option (Sto×Bool):=
 (jH ([(⟨0,0,0,([97,226]:List Int)⟩:aH),(⟨2,0,0,([]:List Int)⟩:aH),(⟨0,0,0,([130,172]:List Int)⟩:aH)]:List aH)).bind fun c=>
 (bL ((c.length:Int)==2) ((idx c 0).bind fun f=>
 (dC f ([97]:List Int)).bind fun g=>
 some g)).bind fun d=>
 (bL d ((idx c 1).bind fun h=>
 (dC h ([8364]:List Int)).bind fun i=>
 some i)).bind fun e=>
 (if e then (lQ sg 2 2 ([]:List aH)).bind fun b=>
 some (b.2.Wide==2,b.1) else some (false,sg)).bind fun a=>
 some (a.2,a.1)
theorem nP (O0:Own c0 G F) (N:Rel c0 sg G) (hG:Gl [2,4] c0){r:Sto×Bool}(H:dR sg=some r): KP 11 #[] c0 fun c v=>∃G_:Gm,Own c G_ F/\Rel c r.1 G_/\v=B r.2:=by
 unfold dR at H;refine en func11 rfl rfl<|Ky false<|KN<|me (sl (RI .u8) 5 [[.int .u8 97],[.int .u8 226]] ([97,226]:List Int) O0 ⟨rfl,rfl,trivial⟩) ?_;rintro v5 c4 l4 ⟨u2,O1,h3⟩;obtain ⟨P,R,S,rfl⟩:=(h3).form;refine va (.agg #[I 0,I 0,I 0,.slice P R S])<|va (.agg #[I 2,I 0,I 0,Y])<|me (sl (RI .u8) 5 [[.int .u8 130],[.int .u8 172]] ([130,172]:List Int) O1 ⟨rfl,rfl,trivial⟩) ?_;rintro v13 b3 b2 ⟨i2,O9,X⟩;obtain ⟨i,k,a16,rfl⟩:=(X).form;refine va (.agg #[I 0,I 0,I 0,.slice i k a16]) ?_;obtain ⟨c3,c1,c2,q0,b1⟩:=O9.frz 1 rfl (h3.mono b2);refine WL.gh c1 ?_;obtain ⟨d3,e1,l3,s0,d1⟩:=q0.frz 0 rfl (X.mono c2);refine WL.gh e1 (me (sl mC 38 [[I 0,I 0,I 0,.slice P R S],[I 2,I 0,I 0,Y],[I 0,I 0,I 0,.slice i k a16]] ([(⟨0,0,0,([97,226]:List Int)⟩:aH),(⟨2,0,0,([]:List Int)⟩:aH),(⟨0,0,0,([130,172]:List Int)⟩:aH)]:List aH) s0 ⟨⟨(.slice P R S),rfl,b1.m⟩,⟨(Y),rfl,(Sl.nl _ _)⟩,⟨(.slice i k a16),rfl,d1⟩,trivial⟩) ?_);rintro v29 e3 m3 ⟨j2,t0,f1⟩;obtain ⟨f3,i1,n3,u0,h1⟩:=t0.frz 0 rfl f1;refine WL.gh i1 (bn H fun M j1 H=>cl (qW u0 (hG.m.le (by decide)) ([(⟨0,0,0,([97,226]:List Int)⟩:aH),(⟨2,0,0,([]:List Int)⟩:aH),(⟨0,0,0,([130,172]:List Int)⟩:aH)]:List aH) h1 j1) ?_);rintro v35 U o3 ⟨_,k2,p,rfl,a⟩;refine va v35<|KA<|bn H fun p2 Z H=>bn H fun q2 y H=>bn H fun s n H=>W.join (Jn U fun c l=>∃G_,Own c G_ (es true (RL (RI .i32)) v35 32 k2 M::es false mC v29 38 j2 ([(⟨0,0,0,([97,226]:List Int)⟩:aH),(⟨2,0,0,([]:List Int)⟩:aH),(⟨0,0,0,([130,172]:List Int)⟩:aH)]:List aH)::es false (RI .u8) (.slice i k a16) 5 i2 ([130,172]:List Int)::es false (RI .u8) (.slice P R S) 5 u2 ([97,226]:List Int)::F)/\l= [(0,B s.1)]/\Rel c s.2 G_) ?_ ?_
 ·clear H;refine Kz v35<|vx (lnO 3 py a)<|Kq ((M.length:Int)==2) ?_;rcases bo ((M.length:Int)==2) with f|f
  ·have d:=anT f Z;refine vb f<|wa v35<|wn<|bn d fun o0 z d=>vx (ixO py a z)<|wn ?_;obtain ⟨x2,k1,g2⟩:=OA.at a z;obtain ⟨v53,rfl,m1⟩:=k1;refine vr v53 (rx (by kernel_rfl) (lM cI rfl (p.on 0 rfl) (a.blk z) (at1 (j:=0) g2 rfl)))<|wn<|me (sl (RI .i32) 21 [[J 97]] ([97]:List Int) p ⟨rfl,trivial⟩) ?_;rintro v59 g3 d2 ⟨t3,v0,n1⟩;refine wn ?_;obtain ⟨i3,q1,e2,w0,p1⟩:=v0.frz 0 rfl n1;refine WL.gh q1 (bn d fun D s1 d=>cl (lF w0 o0 ([97]:List Int) m1.m p1 s1) ?_);rintro w3 z0 f2 ⟨q,rfl⟩;obtain rfl:=si d;refine Kq D ?_;rcases bo D with g|g
   ·have e:=anT g y;refine vb g<|wa v35<|wn<|bn e fun p0 A e=>vx (ixO py a.m A)<|wn ?_;obtain ⟨y2,t1,h2⟩:=OA.at (a.mono (d2.trans (e2.trans f2))) A;obtain ⟨l2,rfl,u1⟩:=t1;refine vr l2 (rx (by kernel_rfl) (lM cI rfl (q.on 1 rfl) (a.m.blk A) (at1 (j:=0) h2 rfl)))<|wn<|me (sl (RI .i32) 21 [[J 8364]] ([8364]:List Int) q ⟨rfl,trivial⟩) ?_;rintro x3 j3 p3 ⟨u3,x0,v1⟩;refine wn ?_;obtain ⟨k3,x1,q3,y0,w1⟩:=x0.frz 0 rfl v1;refine WL.gh x1 (bn e fun E y1 e=>cl (lF y0 p0 ([8364]:List Int) u1.m w1 y1) ?_);rintro y3 a1 s3 ⟨T,rfl⟩;obtain rfl:=si e;refine Kq E ?_;rcases bo E with h|h
    ·have o:=it h n;refine vb h<|wn<|bn o fun b z1 o=>cl (uV T N.m (hG.m.le (by decide)) 2 2 ([]:List aH) (Sl.nl _ _) z1) ?_;rintro a3 l0 v2 ⟨z3,v3,a0,d0,j0,rfl,t2⟩;refine wa (I b.2.Wide)<|Kt (b.2.Wide==2) ?_;obtain rfl:=si o;refine vv (B (b.2.Wide==2))<|wln ?_;have e0:=d0.sD 7 [3,4,5,6];exact jn l0 ⟨a0,e0,rfl,j0⟩
    obtain rfl:=bi (ie h n);refine vb h<|pz<|ps<|vv (B false)<|wln ?_;have f0:=T.sD 6 [2,3,4,5];exact jn a1 ⟨G,f0,rfl,N.m⟩
   obtain rfl:=anF g y;refine vb g<|pz<|pz<|ps<|Kq false ?_;have t:false=false:=rfl;obtain rfl:=bi (ie t n);refine vb t<|pz<|ps<|vv (B false)<|wln ?_;have g0:=q.sD 5 [1,2,3,4];exact jn z0 ⟨G,g0,rfl,N.m⟩
  obtain rfl:=anF f Z;refine vb f<|pz<|pz<|ps<|Kq false ?_;have u:false=false:=rfl;obtain rfl:=anF u y;refine vb u<|pz<|pz<|ps<|Kq false ?_;have x:false=false:=rfl;obtain rfl:=bi (ie x n);exact vb x<|pz<|ps<|vv (B false)<|KB U ⟨G,p,rfl,N.m⟩
 rintro e_ w_ ⟨m0,s2,_,rfl,w2,rfl,b0,h0,rfl,k0⟩;refine nrm<|W.ret ?_;obtain rfl:=si H;have i0:=h0.sD 4 [];exact KC m0 ⟨b0,i0,k0,rfl⟩
def ew (sg:Sto) (p0:ib) (p1:List aH):Option (Sto×Bool):=
 (dR sg).bind fun d=>
 (orE (!d.2) ((go p1).bind fun n=>
 some n)).bind fun m=>
 if m then
 (dR d.1).bind fun c=>
 some (c.1,c.2)
 else
 (lQ d.1 (w64 (1+(w64 ((IntKind.u64.wrap p0.W).tmod 10)))) (w64 (1+(w64 ((IntKind.u64.wrap p0.H).tmod 6)))) p1).bind fun a=>
 (fY (w64 (1+(w64 ((IntKind.u64.wrap p0.W).tmod 10)))) (w64 (1+(w64 ((IntKind.u64.wrap p0.H).tmod 6)))) p1).bind fun g=>
 (mW a.1 (w64 (1+(w64 ((IntKind.u64.wrap p0.W).tmod 10)))) (w64 (1+(w64 ((IntKind.u64.wrap p0.H).tmod 6))))).bind fun b=>
 (fW b.1 b.2 p1).bind fun e=>
 (dM g.1).bind fun h=>
 (gY h).bind fun i=>
 (fw a.2 i).bind fun j=>
 (bL j ((gW e.1 b.2).bind fun k=>
 (fw a.2 k).bind fun l=>
 some l)).bind fun f=>
 some (e.1,f)
theorem pu (O0:Own c0 G F) (R0:Rel c0 sg G) (hG:Gl [2,4,7] c0) (d:ib) (p1:List aH){r:Sto×Bool}(h2:Sl mC c0 v1 p1) (H:ew sg d p1=some r): KP 5 #[.agg #[I d.W,I d.H],v1] c0 fun c v=>∃G_:Gm,Own c G_ F/\Rel c r.1 G_/\v=B r.2:=by
 unfold ew at H;refine en func5 rfl rfl<|sr<|me (bx 58 [I d.W,I d.H] O0) ?_;rintro v7 c6 l6 ⟨b3,rfl,O4,m5⟩;refine Kq false<|KA<|W.seq<|bn H fun z0 h8 H=>bn H fun h4 h9 H=>W.join (Jn c6 fun c l=>∃G_,Own c G_ F/\l= [(1,v1),(2,Q b3),(17,B h4)]/\Rel c z0.1 G_) ?_ ?_
 ·clear H;refine W.region<|cl (nP O4 R0.m (hG.m.le (by decide)) h8) ?_;rintro v15 d4 d6 ⟨d1,e1,g1,rfl⟩;refine Kq (!z0.2) ?_;rcases bo (!z0.2) with E|E
  ·obtain rfl:=orT E h9;exact vb E<|pz<|Kq true<|KB d4 ⟨d1,e1,rfl,g1⟩
  have e0:=orF E h9;refine vb E<|wa v1<|wn<|bn e0 fun s4 i4 e0=>cl (rP e1 p1 h2.m i4) ?_;rintro v24 e4 e6 ⟨p3,rfl⟩;obtain rfl:=si e0;exact Kq s4<|KB e4 ⟨d1,p3,rfl,g1.m⟩
 rintro e_ w_ ⟨t5,b6,_,rfl,f6,rfl,p5,f1,rfl,h1⟩;refine nrm<|cn H (fun j4 H=>?_) (fun j4 H=>?_)
 ·refine sr<|bn H fun j3 k4 H=>cl (nP f1 h1 (hG.m.le (by decide)) k4) ?_;rintro v38 f4 g6 ⟨o3,q3,a4,rfl⟩;refine Kq j3.2<|KG<|thr ?_;obtain rfl:=si H;exact KC f4 ⟨o3,q3,a4,rfl⟩
 refine KI<|W.seq<|rD [] (Kp G0 []) f1 ?_;intro g4 h6 s3;have j6:Kp G0 [] g4:=Kp.nil0;refine ta 0 (Q b3)<|tx 1 (fun c' z=>l1 u_3 ((mm m5) 0 _ rfl))<|ta 2 (.int .u64 (IntKind.u64.wrap d.W))<|ta 3 (.int .u64 ((IntKind.u64.wrap d.W).tmod 10))<|ta 4 (I (w64 ((IntKind.u64.wrap d.W).tmod 10)))<|ta 5 (I (w64 (1+(w64 ((IntKind.u64.wrap d.W).tmod 10)))))<|ta 6 (Qo b3 (0+1))<|tx 7 (fun c' z=>l1 u_3 ((mm m5) 1 _ rfl))<|ta 8 (.int .u64 (IntKind.u64.wrap d.H))<|ta 9 (.int .u64 ((IntKind.u64.wrap d.H).tmod 6))<|ta 10 (I (w64 ((IntKind.u64.wrap d.H).tmod 6)))<|ta 11 (I (w64 (1+(w64 ((IntKind.u64.wrap d.H).tmod 6)))))<|ta 12 (I (w64 (1+(w64 ((IntKind.u64.wrap d.W).tmod 10)))))<|ta 13 (I (w64 (1+(w64 ((IntKind.u64.wrap d.H).tmod 6)))))<|dn (nrm<|sr<|Kx (1+(w64 ((IntKind.u64.wrap d.W).tmod 10)))<|Kx (1+(w64 ((IntKind.u64.wrap d.H).tmod 6)))<|va v1<|bn H fun a l4 H=>cl (uV s3 h1.m (hG.m.le (by decide)) (w64 (1+(w64 ((IntKind.u64.wrap d.W).tmod 10)))) (w64 (1+(w64 ((IntKind.u64.wrap d.H).tmod 6)))) p1 h2.m l4) ?_);rintro v51 u5 i6 ⟨v43,r4,q5,t3,b4,rfl,Z⟩;refine me (al 45 [I 0,I 0,Y,I 0,I 0,B false,B false] t3) ?_;rintro v55 v5 v0 ⟨t,rfl,u3⟩;obtain ⟨e,f,g,rfl⟩:=((Z.mono v0)).form;refine md (sA 45 [I a.2.Wide,I a.2.High,.slice e f g,I a.2.At.Row,I a.2.At.Col,B a.2.At.Pending,B a.2.Auto] 0 u3 ⟨rfl,rfl,Z.m.one,rfl,rfl,rfl,rfl,trivial⟩) ?_;rintro w5 j1 v3;refine KN<|Kx (1+(w64 ((IntKind.u64.wrap d.W).tmod 10)))<|Kx (1+(w64 ((IntKind.u64.wrap d.H).tmod 6)))<|va v1<|bn H fun b m4 H=>cl (tz v3 (w64 (1+(w64 ((IntKind.u64.wrap d.W).tmod 10)))) (w64 (1+(w64 ((IntKind.u64.wrap d.H).tmod 6)))) p1 h2.m m4) ?_;rintro k6 x5 k1 ⟨q1,s1,t1,w3,rfl,j0,k0,l0⟩;refine va (.tuple #[.agg #[q1,I b.1.P.At.Row,I b.1.P.At.Col,B b.1.P.At.Pending,B b.1.P.Auto,s1,t1,I b.1.Parts],I b.2.1,I b.2.2])<|va (.agg #[q1,I b.1.P.At.Row,I b.1.P.At.Col,B b.1.P.At.Pending,B b.1.P.Auto,s1,t1,I b.1.Parts])<|Ku b.2.1<|Ku b.2.2<|me (al 35 [Y,I 0,I 0,B false,B false,Y,Y,I 0] w3) ?_;rintro m6 y5 M ⟨u,rfl,x3⟩;obtain ⟨h,i,j,rfl⟩:=((j0.mono M)).form;obtain ⟨k,n,o,rfl⟩:=((k0.mono M)).form;obtain ⟨p,q,s,rfl⟩:=((l0.mono M)).form;refine md (sA 35 [.slice h i j,I b.1.P.At.Row,I b.1.P.At.Col,B b.1.P.At.Pending,B b.1.P.Auto,.slice k n o,.slice p q s,I b.1.Parts] 0 x3 ⟨j0.m.one,rfl,rfl,rfl,rfl,k0.m.one,l0.m.one,rfl,trivial⟩) ?_;rintro z5 m1 y3;refine Ku b.2.1<|Ku b.2.2<|KN<|Kx (1+(w64 ((IntKind.u64.wrap d.W).tmod 10)))<|Kx (1+(w64 ((IntKind.u64.wrap d.H).tmod 6)))<|bn H fun a1 n4 H=>cl (zn y3 b4.m (w64 (1+(w64 ((IntKind.u64.wrap d.W).tmod 10)))) (w64 (1+(w64 ((IntKind.u64.wrap d.H).tmod 6)))) n4) ?_;rintro y0 a6 n1 ⟨_,r5,z3,c4,s5,rfl,i1⟩;refine va y0<|wln<|KE y0<|va v1<|bn H fun o5 p4 H=>cl (tw z3 c4 (hG.m.le (by decide)) a1.2 p1 i1 h2.m p4) ?_;rintro n6 b2 o0 ⟨_,d0,u1,f0,rfl,z4⟩;refine KA<|bn H fun k3 l2 H=>bn H fun l3 m2 H=>bn H fun m3 n2 H=>bn H fun k2 i0 H=>W.join (Jn b2 fun c l=>Own c d0 ((Eb u 35 [.slice h i j,I b.1.P.At.Row,I b.1.P.At.Col,B b.1.P.At.Pending,B b.1.P.Auto,.slice k n o,.slice p q s,I b.1.Parts])::(Eb t 45 [I a.2.Wide,I a.2.High,.slice e f g,I a.2.At.Row,I a.2.At.Col,B a.2.At.Pending,B a.2.Auto])::es false av (.slice e f g) 48 r4 a.2.Lines::F)/\l= [(4,B k2)]) ?_ ?_
 ·clear H;refine rD [] (Kp G0 [(Eb t 45 [I a.2.Wide,I a.2.High,.slice e f g,I a.2.At.Row,I a.2.At.Col,B a.2.At.Pending,B a.2.Auto]),(Eb u 35 [.slice h i j,I b.1.P.At.Row,I b.1.P.At.Col,B b.1.P.At.Pending,B b.1.P.Auto,.slice k n o,.slice p q s,I b.1.Parts])]) u1 ?_;intro c2 q0 N;have w0:=(Kp.cons (N.on 1 rfl) (Kp.cons (N.on 0 rfl) Kp.nil0));refine tkx 0 w0 (fun c' z hk=>leN 45 0 [I a.2.Wide,I a.2.High,.slice e f g,I a.2.At.Row,I a.2.At.Col,B a.2.At.Pending,B a.2.Auto] (hk.on 0 rfl)) (tkx 1 w0 (fun c' z hk=>leN 35 0 [.slice h i j,I b.1.P.At.Row,I b.1.P.At.Col,B b.1.P.At.Pending,B b.1.P.Auto,.slice k n o,.slice p q s,I b.1.Parts] (hk.on 1 rfl)) (o1 2 (gc 2 (mz N b.1 j0.m k0.m l0.m l2) ?_)));rintro f5 d2 s0 ⟨e5,R,rfl,o2⟩;have d3:=(Kp.cons (R.on 1 rfl) (Kp.cons (R.on 0 rfl) Kp.nil0));refine ⟨.inr d3,o1 3 (gc 3 (sK R k3 o2 m2) ?_)⟩;rintro h5 e2 t0 ⟨g5,S,rfl,p2⟩;have e3:=(Kp.cons (S.on 1 rfl) (Kp.cons (S.on 0 rfl) Kp.nil0));refine ⟨.inr e3,?_⟩;obtain ⟨f2,s2,u0,T,q2⟩:=S.frz 2 rfl (Z.mono (v0.trans (j1.trans (k1.trans (M.trans (m1.trans (n1.trans (o0.trans (q0.trans (s0.trans t0))))))))));have f3:=(Kp.cons (T.on 1 rfl) (Kp.cons (T.on 0 rfl) Kp.nil0));refine AC.gh s2 u0 (fun _=>f3) (o1 4 (gc 4 (oE T a.2 l3 q2 p2.m n2) ?_));rintro i5 g0 z2 ⟨A,rfl⟩;have x0:=(Kp.cons (A.on 1 rfl) (Kp.cons (A.on 0 rfl) Kp.nil0));refine ⟨.inr x0,?_⟩;rcases bo m3 with y|y
  ·have x:=anT y i0;refine bn x fun n3 t2 x=>bn x fun b1 u2 x=>AC.takeb 5 y rfl (by kernel_rfl) (by kernel_rfl) (fun c' z=>(by kernel_rfl)) (tkx 6 x0 (fun c' z hk=>leN 45 0 [I a.2.Wide,I a.2.High,.slice e f g,I a.2.At.Row,I a.2.At.Col,B a.2.At.Pending,B a.2.Auto] (hk.on 0 rfl)) (ta 7 y0<|o1 8 (gc 8 (sE A f0.m a1.2 i1.m t2) ?_)));rintro k5 g2 a3 ⟨j5,d5,D,rfl,v2⟩;have g3:=(Kp.cons (D.on 2 rfl) (Kp.cons (D.on 1 rfl) Kp.nil0));refine ⟨.inr g3,?_⟩;have w2:=D.slf 3 rfl (Z.mono (v0.trans (j1.trans (k1.trans (M.trans (m1.trans (n1.trans (o0.trans (q0.trans (s0.trans (t0.trans (u0.trans (z2.trans a3)))))))))))));obtain ⟨i2,y2,c3,U,x2⟩:=D.frz 0 rfl v2;have h3:=(Kp.cons (U.on 2 rfl) (Kp.cons (U.on 1 rfl) Kp.nil0));refine AC.gh y2 c3 (fun _=>h3) (o1 9 (gc 9 (oE U a.2 n3 w2.m x2 u2) ?_));rintro l5 h0 b5 ⟨X,rfl⟩;have i3:=(Kp.cons (X.on 2 rfl) (Kp.cons (X.on 1 rfl) Kp.nil0));refine ⟨.inr i3,?_⟩;obtain rfl:=si x;refine ta 10 (B b1)<|ta 11 (B b1)<|dn (nrm ?_);have w1:=X.sD 4 [1,2,3];exact jn h0 ⟨w1,rfl⟩
  obtain rfl:=anF y i0;exact AC.takeb 5 y rfl (by kernel_rfl) (by kernel_rfl) (fun c' z=>(by kernel_rfl)) (tp 6<|tp 7<|tp 8<|tp 9<|ta 10 (B false)<|ta 11 (B false)<|dn (nrm<|jn g0 ⟨A,rfl⟩))
 rintro e_ w_ ⟨j2,y4,_,rfl,c5,rfl,x1,rfl⟩;refine nrm<|W.ret ?_;obtain rfl:=si H;have y1:=x1.sD 3 [];exact KC j2 ⟨d0,y1,f0.m,rfl⟩
end Go.Proofs.YtclmdpamofdoiaaGreatDoor
namespace Go.Lt
open Go.ChangeShapes Go.WideShapes Go.RowKit
def C0 (w:World):Cx:=⟨w,fun _ _=>False,fun _ _=>none⟩
theorem JB (w:World):Own (C0 w) (fun _ _=>[]) []:=
 ⟨⟨fun i e h=>by cases i <;> simp [at_] at h,fun i j e e' h=>by cases i <;> simp [at_] at h⟩,fun _ _ _=>rfl⟩
theorem im0 {w:World}{b o:Nat}{v:Value}(h:w.cell? ⟨b,o,none⟩=some v):Im (C0 w) b o v:=by
 refine ⟨?_,id,h⟩;unfold World.cell? at h;split at h
 ·rename_i hh; exact (Array.getElem?_eq_some_iff.1 hh).1
 ·cases h
def Rd (P:Program) (t:TypeId){α:Type}(R:Rp α) (K:α->Prop):Prop:=
 P.cellsOf t=R.size/\∀{H:Type}{enc:TypeId×Value->H}{w:World}{sp:Nat->Bool}{held:Bool}{fuel:Nat}{cs:List Value}{x:DataW H×List MemPlace},
  DataW.trod enc P w 0 sp held fuel t cs=some x->∃y,R.cells (C0 w) cs y/\K y
theorem Rd.int {P:Program}{t:TypeId}{k:IntKind}(ht:P.underlying t=some (.int k)) (hc:P.cellsOf t=1):Rd P t (RI k) (fun n=>(Lit.int k n).wf=true):=
 ⟨hc,fun h=>by obtain ⟨n,rfl,_,hw⟩:=DataW.trod_int ht h; exact ⟨n,rfl,hw⟩⟩
theorem IR {α:Type}{Q:Nat->α->Prop}:∀n,(∀i,i<n->∃x,Q i x)->∃xs:List α,xs.length=n/\∀i x,xs[i]? = some x->Q i x
 | 0,_=>⟨[],rfl,fun i x h=>by simp at h⟩
 | n+1,h=>by
  obtain ⟨xs,hl,hx⟩:=IR n fun i hi=>h i (JY hi);obtain ⟨y,hy⟩:=h n (J7 n);refine ⟨xs++ [y],by simp [hl],fun i x hi=>?_⟩;rw [gu] at hi;split at hi
  ·exact hx i x hi
  ·rename_i hn
   have h1:=(List.getElem?_eq_some_iff.1 hi).1;simp only [aD,aI] at h1;obtain rfl:i=n:=by omega
   rw [hl,dG] at hi;cases hi;exact hy
theorem AO {w:World}{a:Addr}{n:Nat}{cs:List Value}(h:w.cells? 0 a n=some cs):cs.length=n/\∀j u,cs[j]? = some u->w.cell? (a.add j)=some u:=by
 unfold World.cells? at h;rw [af (bT _)] at h;have hl:cs.length=n:=by simpa using mapM_some_length h
 refine ⟨hl,fun j u hu=>?_⟩;have hjn:j<n:=by have:=(List.getElem?_eq_some_iff.1 hu).1; omega
 have hj:=mapM_some_get h j j (dI hjn);rw [hu] at hj;exact hj
theorem Rd.field {P:Program}{H:Type}{enc:TypeId×Value->H}{w:World}{sp:Nat->Bool}{held:Bool}{n:Nat}{cs:List Value}{fs:Array Field}{xs:List (DataW H×List MemPlace)}
  (hf:∀(i:Nat) (f:Field),fs[i]? = some f->DataW.trod enc P w 0 sp held n f.type ((cs.drop f.offset).take (P.cellsOf f.type))=xs[i]?) (hx:xs.length=fs.size)
  (i:Nat){f:Field}(hi:fs[i]? = some f){α:Type}{R:Rp α}{K:α->Prop}(h:Rd P f.type R K):∃y,R.cells (C0 w) ((cs.drop f.offset).take R.size) y/\K y:=by
 have hlt:=(Array.getElem?_eq_some_iff.1 hi).1;have:=hf i f hi;rw [ag (show i<xs.length by omega),h.1] at this;exact h.2 this
section
variable {P:Program}{H:Type}{enc:TypeId×Value->H}{w:World}{sp:Nat->Bool}{held:Bool}{t:TypeId}{v:Value}{d:DataW H}{p:List MemPlace}
theorem GC {α:Type}{R:Rp α}{K:α->Prop}{fs:Array Field}(ht:P.underlying t=some (.struct fs)) (h:Rd P t R K) (hok:Value.okWide P w .any 0 t v) (hd:DataW.Trod enc P w 0 sp held t v d p):
  ∃cs x,v= .agg cs/\R.cells (C0 w) cs.toList x/\K x:=by
 obtain ⟨fuel,hd⟩:=hd;obtain ⟨x,hx,hk⟩:=h.2 hd;unfold Value.okWide at hok;rw [ht] at hok;obtain ⟨cs,rfl,_⟩:=hok;exact ⟨cs,x,rfl,hx,hk⟩
end
theorem uw {H:Type}{enc:TypeId×Value->H}{P:Program}(hl:laidOutB P=true){w w':World}(h:∀k,k<w.heap.size->w'.heap[k]? = w.heap[k]?){sp:Nat->Bool}:
  ∀{ts:List TypeId}{vs:List Value}{ds:List (DataW H)}{ps:List MemPlace},(ts.all fun t=>P.readableRec t && decide (t<P.types.size))=true->(∀x∈ps,x.block<w.heap.size)->(∀x∈ps,sp x.block=true)->
  DataW.TrodAll enc P w 0 (fun _=>true) true ts vs ds ps->DataW.TrodAll enc P w' 0 sp true ts vs ds ps
 | [],[],[],_,_,_,_,hA=>hA
 | [],_::_,_,_,_,_,_,hA=>hA.elim
 | [],[],_::_,_,_,_,_,hA=>hA.elim
 | _::_,[],_,_,_,_,_,hA=>hA.elim
 | _::_,_::_,[],_,_,_,_,hA=>hA.elim
 | t::ts,v::vs,d::ds,ps,hr,hlt,hsp,hA=>by
  obtain ⟨p,q,h1,h2,rfl⟩:=hA;simp only [List.all_cons,aA,am] at hr;refine ⟨p,q,WideElems.Trod_stays hl hr.1.1 hr.1.2 h1 (fun x hx=>?_) (fun x hx=>hsp x (fc _ hx)),uw hl h hr.2 (fun x hx=>hlt x (ws _ hx)) (fun x hx=>hsp x (ws _ hx)) h2,rfl⟩;have hb:=hlt x (fc _ hx)
  cases x with
  | cell b o=>exact nB (w:=w) (h b hb)
  | map b=>exact h b hb
theorem CZ {H:Type}{enc:TypeId×Value->H}{P:Program}{f:Func}{s:ChangeSpec}{apart fresh handsOn again:Bool}{w w':World}{args:Array Value}{v:Value}{ds gs:List (DataW H)}{ps before:List MemPlace}
  (hW:DataW.Whole enc P f.params.toList s.vars apart w args.toList ds gs before) (he:before=ps++ [])
  (hr:∀(b:Nat) (sp:Nat->Bool) (hd:Bool),DataW.TrodAll enc P w' b sp hd f.resultTypes.toList (v.resultList f.resultTypes.size) (s.fn H (ds++gs)).results [])
  (ha:∀sp:Nat->Bool,(∀x∈ps,sp x.block=true)->DataW.TrodAll enc P w' 0 sp true f.params.toList args.toList (s.fn H (ds++gs)).args ps)
  (hv:∀sp:Nat->Bool,DataW.TrodVars enc P w' sp s.vars (s.fn H (ds++gs)).vars [])
  (hg:Gr w w') (ho:∀(j:Nat) (t:TypeId) (r:Value),f.resultTypes[j]? = some t->(v.resultList f.resultTypes.size)[j]? = some r->Value.okWide P w' .any 0 t r):s.post enc P f apart fresh handsOn again w args v w':=by
 rw [cM] at he;subst he;have hlt:∀x∈before,x.block<w.heap.size:=fun x hx=>hW.lt x hx;refine ⟨ds,gs,before,[],before,[],hW,hr _ _ _,ha _ (fun x hx=>xo (hlt x hx)),hv _,JM (fun x hx=>⟨hx,.inr (.inl hx)⟩) (hg.frame (· ∈before)),fun _=>?_⟩;obtain ⟨_,_,_,_,_,hz,hn⟩:=hW;refine ⟨ho,_,_,([]++before)++ [],⟨[]++before,[],trodAll_append (ha _ fun _ _=>rfl) (hr _ _ _),hv _,rfl,fun b off hb=>?_,fun e=>?_⟩,fun x hx _=>by simpa using hx⟩
 ·have hb':MemPlace.cell b off∈before:=by simpa using hb
  have:=hlt _ hb';rw [hg.2.1 ⟨b,off,none⟩ this];exact hz b off (by simpa using hb')
 ·simpa using hn e
theorem I0 {P:Program}{laid:List (String×DataW Unit)}{w:World}(h:(laid.filter fun x=>x.2.handleName?.isSome)= []):laidMetH P laid w=laidMet P laid w:=by
 unfold laidMetH;rw [h]
theorem yw {P:Program}{W:World}{ti tp te ts:TypeId}{ms:Array (String×TypeId)}{f:Field}(hi:P.underlying ti=some (.interface ms)) (hrow:∀u,P.typeName? 3 u=some "*errors.errorString"->u=tp)
  (hp:P.underlying tp=some (.pointer te)) (he:P.underlying te=some (.struct #[f])) (hft:f.type=ts) (hfo:f.offset=0) (hs:P.underlying ts=some .string) (hc:P.cellsOf te=1) (hcs:P.cellsOf ts=1):
  ∀{laid:List (String×DataW Unit)}{ps:List MemPlace},DataW.LaidVars P W laid ps->(∀b off,MemPlace.cell b off∈ps->(∃c t,W.heap[b]? = some (.cells c t (0,0)))/\∀u v,W.cell? ⟨b,off,none⟩=some (.iface u v)->Value.okWide P W .any 0 u v)->
  ∀n text g,(n,DataW.iface "*errors.errorString" (.ptr (.agg [.lit (.string text)])))∈laid->P.globalNamed n=some g->(P.globals[g]?).map (·.type)=some ti->∃a s,W.cell? ⟨g,0,none⟩=some (.iface tp (.pointer (some a)))/\W.cell? a=some (.string s)/\s.data.toList=text/\∃c t,W.heap[a.block]? = some (.cells c t (0,0))
 | [],_,_,_,_,_,_,hm,_,_=>by cases hm
 | (n',d)::r,ps,⟨g',t,cs,fuel,p,q,hg',ht',hv,hd,hr,e⟩,hrows,n,text,g,hm,hg,ht=>by
  subst e;rcases List.mem_cons.1 hm with hh|hm
  ·cases hh;obtain rfl:=bi (hg.symm.trans hg');obtain rfl:=bi (ht.symm.trans ht');obtain ⟨l⟩:=cs;have ok:∀u v,l= [.iface u v]->Value.okWide P W .any 0 u v:=fun u v e=>by
    subst e;exact (hrows g 0 (by simp [MemPlace.row])).2 u v (by simpa using Kf hg hv 0)
   obtain ⟨a,s,rfl,h1,h2,_,rfl⟩:=errorString_of_trod hi hrow hp he hft hfo hs hc hcs hd ok;exact ⟨a,s,by simpa using Kf hg hv 0,h1,h2,(hrows a.block a.off (by simp [MemPlace.row])).1⟩
  ·exact yw hi hrow hp he hft hfo hs hc hcs hr (fun b off hb=>hrows b off (ws _ hb)) n text g hm hg ht
theorem HL {P:Program}{f:FuncId}{fn:Func}{s:ChangeSpec}{c:OpenClaim}(l1:laidOutB P=true) (l2:mapsRowed P=true) (l3:(P.stops== [])=true) (l4:(P.stopKnobs== [])=true) (l5:P.stopsHeard=true) (l6:P.mayEnter=true)
  (l7:(c.lifted==P.liftsFinal)=true) (l8:(P.make==some c.make)=true) (l9:(c.plainKeys==P.plainKeys)=true)
  (a0:c.wf (OpenSpec.ofChange s)=true) (a1:(fn.params.all (P.readableRec ·) && namedTie P c.named s.vars && (c.stops== []) && (c.knobs== []))=true)
  (a2:(c.inPlace==P.inPlace f)=true) (a3:(c.unfollowed==P.unfollowed f)=true) (a4:(c.recurses==P.recurses f)=true) (a5:(c.named==P.varsNamed f)=true)
  (a6:((c.maps==(fn.params.toList++s.plain.varTypes P).any (P.mapsRec ·)) && (c.ifaces==(fn.params.toList++s.plain.varTypes P).any (P.ifacesRec ·)) && (c.mapsOut==P.mapsAmong fn.resultTypes.toList) &&
   (c.loops==(fn.params.toList++s.plain.varTypes P).any (P.loopsFrom ·)) && (c.wideKeys==(fn.params.toList++s.plain.varTypes P++fn.resultTypes.toList).any (P.wideKeysFrom ·)) &&
   s.vars.all (P.varReadable ·) && fn.resultTypes.all (fun t=>P.readableRec t && decide (t<P.types.size)) && (c.ifacesOut==fn.resultTypes.toList.any (P.ifacesRec ·)) && (c.loopsOut==fn.resultTypes.toList.any (P.loopsFrom ·)))=true)
  (a7:(c.shortTexts.isNone && (c.kinds==(if c.domain.isEmpty then [] else fn.params.toList.map fun t=>match P.underlying t with|some (.int k)=>some k|_=>none)) && (c.pinned==c.pinnedBy) &&
   (c.veiled==(fn.params.toList++s.plain.varTypes P++fn.resultTypes.toList).any (P.veiledRec ·)) && c.veiledFits P fn.params.toList (fn.params.toList++s.plain.varTypes P++fn.resultTypes.toList))=true):joinedFacts P f fn s c=true:=by
 simp only [aA] at a1 a6 a7;obtain ⟨⟨⟨b1,b2⟩,b3⟩,b4⟩:=a1;obtain ⟨⟨⟨⟨⟨⟨⟨⟨c1,c2⟩,c3⟩,c4⟩,c5⟩,c6⟩,c7⟩,c8⟩,c9⟩:=a6;obtain ⟨⟨⟨⟨d1,d2⟩,d3⟩,d4⟩,d5⟩:=a7;unfold joinedFacts;simp only [aA];exact ⟨⟨⟨⟨⟨⟨⟨⟨⟨⟨⟨⟨⟨⟨⟨⟨⟨⟨⟨⟨⟨⟨⟨⟨⟨⟨⟨⟨⟨⟨⟨a0,l1⟩,l2⟩,b1⟩,b2⟩,b3⟩,l3⟩,b4⟩,l4⟩,a2⟩,a3⟩,a4⟩,a5⟩,c1⟩,c2⟩,c3⟩,c4⟩,c5⟩,c6⟩,c7⟩,c8⟩,c9⟩,l9⟩,d1⟩,l5⟩,l6⟩,l7⟩,l8⟩,d2⟩,d3⟩,d4⟩,d5⟩
end Go.Lt
namespace Go.Proofs.YtclmdpamofdoiaaGreatDoor
open Go Go.Lt
set_option linter.unusedVariables false
theorem JD {α:Type}{cs:List α}(h:cs.length=4):∃a0 a1 a2 a3,cs= [a0,a1,a2,a3]:=by
 match cs,h with
 | [a0,a1,a2,a3],_=>exact ⟨_,_,_,_,rfl⟩
theorem JE {α:Type}{cs:List α}(h:cs.length=2):∃a0 a1,cs= [a0,a1]:=by
 match cs,h with
 | [a0,a1],_=>exact ⟨_,_,rfl⟩
def K_3 (n:Int):Prop:=(Lit.int .i64 n).wf=true
theorem D_3:Rd Tryz.prog 3 (RI .i64) K_3:=Rd.int Tryz.underlying3 (by kernel_rfl)
def K_5 (n:Int):Prop:=(Lit.int .u8 n).wf=true
theorem D_5:Rd Tryz.prog 5 (RI .u8) K_5:=Rd.int Tryz.underlying5 (by kernel_rfl)
def JQ (x:ib):Prop:=K_3 x.W/\K_3 x.H
theorem JT:Rd Tryz.prog 58 sW JQ:=by
 refine ⟨by kernel_rfl,fun {H enc w sp held fuel cs x} h=>?_⟩;obtain ⟨xs,n,rfl,rfl,hl,hn,hf⟩:=J5 Tryz.underlying58 h;replace hl:=hl.trans (show Tryz.prog.cellsOf 58=2 by kernel_rfl);obtain ⟨a0,a1,rfl⟩:=JE hl;obtain ⟨y0,e0,k0⟩:=Rd.field hf hn 0 rfl D_3;have e0: [a0]= [.int .i64 y0]:=e0;cases e0;obtain ⟨y1,e1,k1⟩:=Rd.field hf hn 1 rfl D_3;have e1: [a1]= [.int .i64 y1]:=e1;cases e1;exact ⟨⟨y0,y1⟩,rfl,k0,k1⟩
theorem Jz (w:World):Rel (C0 w) ⟨[],[],[],[],[],[]⟩ (fun _ _=>[]):=
 ⟨⟨fun k x h=>by simp at h,fun _ _=>rfl⟩,⟨fun k x h=>by simp at h,fun _ _=>rfl⟩,⟨fun k x h=>by simp at h,fun _ _=>rfl⟩,⟨fun k x h=>by simp at h,fun _ _=>rfl⟩,⟨fun k x h=>by simp at h,fun _ _=>rfl⟩,⟨fun k x h=>by simp at h,fun _ _=>rfl⟩⟩
theorem IA: "*" ++ "errors.errorString" = "*errors.errorString" :=by decide
set_option maxRecDepth 100000 in
theorem DL (u:TypeId) (h:Tryz.prog.typeName? 3 u=some "*errors.errorString"):u=350:=
 typeName_ptr_named (nm:= "errors.errorString") (by rw [IA]; kernel_rfl) (by kernel_rfl) (by decide) u (by rw [IA]; exact h)
set_option maxRecDepth 100000 in
theorem zg {W:World}{laid:List (String×DataW Unit)}(h:laidMetH Tryz.prog laid W) (hf:(laid.filter fun x=>x.2.handleName?.isSome)= []) (n:String) (text:List UInt8) (g:Nat)
  (hm:(n,DataW.iface "*errors.errorString" (.ptr (.agg [.lit (.string text)])))∈laid) (hg:Tryz.prog.globalNamed n=some g) (ht:(Tryz.prog.globals[g]?).map (·.type)=some 66):
  ∃a s,Im (C0 W) g 0 (.iface 350 (.pointer (some a)))/\W.cell? a=some (.string s)/\s.data.toList=text/\RE 350 144 (C0 W) (.iface 350 (.pointer (some a))) (.sent g):=by
 rw [I0 hf] at h;obtain ⟨ps,hl,_,hr⟩:=h;obtain ⟨a,s,h1,h2,h3,cs,t,h4⟩:=yw Tryz.underlying66 DL Tryz.underlying350 Tryz.underlying371 rfl rfl Tryz.underlying9 (by kernel_rfl) (by kernel_rfl) hl hr n text g hm hg ht;exact ⟨a,s,im0 h1,h2,h3,a,rfl,im0 h1,(Array.getElem?_eq_some_iff.1 h4).1,fun _=>id,cs,t,h4⟩
theorem HN {W:World}{n:List Nat}(tx:Nat->List UInt8) (h:∀g,g∈n->∃a s,Im (C0 W) g 0 (.iface 350 (.pointer (some a)))/\W.cell? a=some (.string s)/\s.data.toList=tx g/\RE 350 144 (C0 W) (.iface 350 (.pointer (some a))) (.sent g))
  (hd:∀g,g∈n->∀g',g'∈n->tx g=tx g'->g=g'):Gl n (C0 W):=by
 refine ⟨fun g hg=>?_,fun g g' hg hg' hne a h1 h2=>?_⟩
 ·obtain ⟨a,_,_,_,_,h4⟩:=h g hg;exact ⟨_,h4⟩
 ·obtain ⟨a1,s1,e1,e2,e3,_⟩:=h g hg;obtain ⟨a2,s2,f1,f2,f3,_⟩:=h g' hg';have q1:=e1.cell.symm.trans h1.cell;have q2:=f1.cell.symm.trans h2.cell;cases q1;cases q2;have q3:=e2.symm.trans f2;cases q3;exact hne (hd g hg g' hg' (e3.symm.trans f3))
end Go.Proofs.YtclmdpamofdoiaaGreatDoor
namespace Go.Lt
open Go.ChangeShapes Go.WideShapes Go.RowKit
def RdM (P:Program) (t:TypeId){α:Type}(R:Rp α) (K:α->Prop):Prop:=
 P.cellsOf t=R.size/\∀{H:Type}{enc:TypeId×Value->H}{w:World}{sp:Nat->Bool}{held:Bool}{fuel:Nat}{cs:List Value}{x:DataW H×List MemPlace},
  DataW.trod enc P w 0 sp held fuel t cs=some x->(∀n∈x.1.weights P t,n<=reachBytes)->∃y,R.cells (C0 w) cs y/\K y
theorem Rd.m {P:Program}{t:TypeId}{α:Type}{R:Rp α}{K:α->Prop}(h:Rd P t R K):RdM P t R K:=⟨h.1,fun hd _=>h.2 hd⟩
theorem vQ {H:Type}{P:Program}{e:TypeId}:∀{l:List (DataW H)}{i:Nat}{d:DataW H},l[i]? = some d->∀n∈d.weights P e,n∈DataW.weightsAll P e l
 | d0::l,0,d,h,n,hn=>by
  simp only [ve,aV] at h;subst h;simp only [DataW.weightsAll,wg];exact Or.inl hn
 | d0::l,i+1,d,h,n,hn=>by
  simp only [gt] at h;simp only [DataW.weightsAll,wg];exact Or.inr (vQ h n hn)
 | [],_,_,h,_,_=>by simp at h
theorem RdM.slice {P:Program}{t e:TypeId}{α:Type}{R:Rp α}{K:α->Prop}(ht:P.underlying t=some (.slice e)) (hc:P.cellsOf t=1) (h0:0<R.size) (hb:0<P.bytesOf e) (h:RdM P e R K):RdM P t (RL R) (fun xs=>xs.length<=reachBytes/\∀x∈xs,K x):=by
 refine ⟨hc,fun {H enc w sp held fuel cs x} hd hw=>?_⟩;rcases DataW.trod_slice ht hd with ⟨rfl,_⟩|⟨a,len,cap,elems,rest,n,_,rfl,hx,_,hl,hm,hlen,hel,_,_⟩
 ·exact ⟨[],⟨_,rfl,Sl.nl R _⟩,bT _,fun x hx=>by cases hx⟩
 ·subst hx;simp only [DataW.weights,ht] at hw;have hlr:len<=reachBytes:=by
   have h1:=hw _ (List.mem_cons_self ..);have h2:len<=((elems.map (·.1)).length+(rest.map (·.1)).length)*P.bytesOf e:=by
    rw [cC,hlen];exact dY (Nat.le_add_right _ _) (Nat.le_mul_of_pos_right _ hb)
   omega
  obtain ⟨b,o,s⟩:=a;have key:∀i,i<len->∃x,K x/\∃b' off l,(some ⟨b,o,s⟩:Option Addr)=some ⟨b',off,none⟩/\R.cells (C0 w) l x/\∀j u,l[j]? = some u->Im (C0 w) b' (off+i*R.size+j) u:=by
   intro i hi;have hs:s=none:=by
    have hE:=hel 0 (by omega);rw [ag (show 0<elems.length by omega),GZ] at hE;obtain ⟨cs,hcs,_⟩:=hE;obtain ⟨c1,c2⟩:=AO hcs;have hp:0<cs.length:=by rw [c1,h.1]; exact h0
    have:=World.cell?_spot (c2 0 _ (ag hp));simpa [Addr.add] using this
   subst hs;have hE:=hel i hi;rw [ag (show i<elems.length by omega),GZ] at hE;obtain ⟨cs,hcs,hr⟩:=hE;obtain ⟨c1,c2⟩:=AO hcs;have hget:(elems.map (·.1))[i]? = some elems[i].1:=by
    rw [bO,ag (show i<elems.length by omega)];rfl
   obtain ⟨x,hx,hk⟩:=h.2 hr fun n hn=>hw n (jf _ (fc _ (vQ hget n hn)));refine ⟨x,hk,b,o,cs,rfl,hx,fun j u hu=>im0 ?_⟩;have:=c2 j u hu;rw [G6,G6,h.1] at this;exact this
  obtain ⟨xs,hxl,hxs⟩:=IR len key;subst hxl;refine ⟨xs,⟨_,rfl,some ⟨b,o,s⟩,cap,rfl,hl,hm,fun i x hx=>(hxs i x hx).2⟩,hlr,fun x hx=>?_⟩;obtain ⟨i,hi⟩:=List.mem_iff_getElem?.1 hx;exact (hxs i x hi).1
theorem RdM.field {P:Program}{H:Type}{enc:TypeId×Value->H}{w:World}{sp:Nat->Bool}{held:Bool}{n:Nat}{cs:List Value}{t:TypeId}{fs:Array Field}{xs:List (DataW H×List MemPlace)}
  (ht:P.underlying t=some (.struct fs)) (hw:∀m∈(DataW.agg (xs.map (·.1)):DataW H).weights P t,m<=reachBytes)
  (hf:∀(i:Nat) (f:Field),fs[i]? = some f->DataW.trod enc P w 0 sp held n f.type ((cs.drop f.offset).take (P.cellsOf f.type))=xs[i]?) (hx:xs.length=fs.size)
  (i:Nat){f:Field}(hi:fs[i]? = some f){α:Type}{R:Rp α}{K:α->Prop}(h:RdM P f.type R K):∃y,R.cells (C0 w) ((cs.drop f.offset).take R.size) y/\K y:=by
 have hlt:=(Array.getElem?_eq_some_iff.1 hi).1;have:=hf i f hi;have hxi:=ag (show i<xs.length by omega);rw [hxi,h.1] at this;refine h.2 this fun m hm=>hw m ?_;simp only [DataW.weights,ht];refine DataW.weights_mem_each (j:=i) (t:=f.type) (d:=xs[i].1) ?_ ?_ m hm
 ·rw [bO,Iv,hi];rfl
 ·rw [bO,hxi];rfl
theorem BN {P:Program}{H:Type}{enc:TypeId×Value->H}{w:World}{sp:Nat->Bool}{held:Bool}{t:TypeId}{v:Value}{d:DataW H}{p:List MemPlace}{e:TypeId}{α:Type}{R:Rp α}{K:List α->Prop}
  (ht:P.underlying t=some (.slice e)) (h:RdM P t (RL R) K) (hok:Value.okWide P w .any 0 t v) (hd:DataW.Trod enc P w 0 sp held t v d p) (hw:∀n∈d.weights P t,n<=reachBytes):∃xs,Sl R (C0 w) v xs/\K xs:=by
 obtain ⟨fuel,hd⟩:=hd;obtain ⟨xs,⟨u,hu,hs⟩,hk⟩:=h.2 hd hw;have:v.cells= #[v]:=by
  unfold Value.okWide at hok;simp only [ht] at hok;unfold Cell.okWide at hok
  cases v <;> simp [ht,Cell.ok] at hok|-
  all_goals rfl
 rw [this] at hu;cases hu;exact ⟨xs,hs,hk⟩
end Go.Lt
namespace Go.Lt
end Go.Lt
namespace Go.Proofs.YtclmdpamofdoiaaGreatDoor
open Go Go.Lt Go.ChangeShapes Go.WideShapes Go.RowKit
set_option maxRecDepth 100000
def G5 (xs:List Int):Prop:=xs.length<=reachBytes/\∀x∈xs,K_5 x
theorem Jq:RdM Tryz.prog 33 (RL (RI .u8)) G5:=RdM.slice Tryz.underlying33 (by kernel_rfl) (by decide) (by rw [show Tryz.prog.bytesOf 5=1 by kernel_rfl]; decide) D_5.m
def G3 (x:aH):Prop:=K_3 x.Kind/\K_3 x.A/\K_3 x.B/\G5 x.Bytes
theorem Jp:RdM Tryz.prog 38 mC G3:=by
 refine ⟨by kernel_rfl,fun {H enc w sp held fuel cs x} h hw=>?_⟩;obtain ⟨xs,n,rfl,rfl,hl,hn,hf⟩:=J5 Tryz.underlying38 h;replace hl:=hl.trans (show Tryz.prog.cellsOf 38=4 by kernel_rfl);obtain ⟨a0,a1,a2,a3,rfl⟩:=JD hl;obtain ⟨y0,e0,k0⟩:=RdM.field Tryz.underlying38 hw hf hn 0 rfl D_3.m;have e0: [a0]= [.int .i64 y0]:=e0;cases e0;obtain ⟨y1,e1,k1⟩:=RdM.field Tryz.underlying38 hw hf hn 1 rfl D_3.m;have e1: [a1]= [.int .i64 y1]:=e1;cases e1;obtain ⟨y2,e2,k2⟩:=RdM.field Tryz.underlying38 hw hf hn 2 rfl D_3.m;have e2: [a2]= [.int .i64 y2]:=e2;cases e2;obtain ⟨y3,e3,k3⟩:=RdM.field Tryz.underlying38 hw hf hn 3 rfl Jq;obtain ⟨v3,e3,s3⟩:=e3;have e3: [a3]= [v3]:=e3;cases e3;exact ⟨⟨y0,y1,y2,y3⟩,⟨_,rfl,s3⟩,k0,k1,k2,k3⟩
def Jo (xs:List aH):Prop:=xs.length<=reachBytes/\∀x∈xs,G3 x
theorem Jr:RdM Tryz.prog 22 (RL mC) Jo:=RdM.slice Tryz.underlying22 (by kernel_rfl) (by decide) (by rw [show Tryz.prog.bytesOf 38=48 by kernel_rfl]; decide) Jp
end Go.Proofs.YtclmdpamofdoiaaGreatDoor
namespace Go.Proofs.YtclmdpamofdoiaaGreatDoor
structure Sg where
 some:Bool
 last:Int
 pict:Int
 conj:Int
 odd:Bool
def sg0:Sg:=⟨false,0,0,0,false⟩
def nxP (s:Int) (p:ax):Int:=if p.Pict then 1 else if s=1/\p.Break=4 then 1 else if s=1/\p.Break=5 then 2 else 0
def nxC (s:Int) (p:ax):Int:=if p.Conj=1 then 1 else if s=0 then 0 else if p.Conj=2 then 2 else if p.Conj=3 then s else 0
def sgN (s:Sg) (p:ax):Sg:=⟨true,p.Break,nxP s.pict p,nxC s.conj p,p.Break==6 && !(s.some && s.last==6 && s.odd)⟩
def sgF (l:List ax):Sg:=l.foldl sgN sg0
def sgJ (pj:Int->Int->Int) (s:Sg) (p:ax):Bool:=
 s.some && ((p.Conj==1 && s.conj==2) || (p.Pict && s.pict==2) || pj s.last p.Break==1 || (pj s.last p.Break==2 && s.last==6 && s.odd))
def cj:List ax->Nat->Bool
 | [],_=>false
 | x::l,n=>if x.Conj=1 then decide (0<n) else if x.Conj=2 then cj l (n+1) else if x.Conj=3 then cj l n else false
def pk:List ax->Bool
 | []=>false
 | x::l=>if x.Pict then true else if x.Break=4 then pk l else false
def ri:List ax->Nat
 | []=>0
 | x::l=>if x.Break=6 then ri l+1 else 0
def rj (pj:Int->Int->Int) (l:List ax) (p:ax):Bool:=
 match l with
 | []=>false
 | a::l'=>pj a.Break p.Break==1 || (p.Conj==1 && cj (a::l') 0) || (p.Pict && (!a.Pict && a.Break==5 && pk l')) || (pj a.Break p.Break==2 && p.Break==6 && ri (a::l') % 2==1)
def pst:List ax->Int
 | []=>0
 | x::l=>nxP (pst l) x
def cst:List ax->Int
 | []=>0
 | x::l=>nxC (cst l) x
def hb:List ax->Int
 | []=>0
 | x::_=>x.Break
def od:List ax->Bool
 | []=>false
 | x::l=>x.Break==6 && !(!l.isEmpty && hb l==6 && od l)
theorem Hk (l:List ax):sgF l=⟨!l.reverse.isEmpty,hb l.reverse,pst l.reverse,cst l.reverse,od l.reverse⟩:=by
 have key:∀r:List ax,sgF r.reverse=⟨!r.isEmpty,hb r,pst r,cst r,od r⟩:=by
  intro r
  induction r with
  | nil=>rfl
  | cons x r ih=>
   unfold sgF at ih|-;rw [JZ,kS,ih];rfl
 have:=key l.reverse
 rwa [Jl] at this
theorem Hs (l:List ax):pk l=decide (pst l=1):=by
 induction l with
 | nil=>rfl
 | cons x l ih=>
  unfold pk pst nxP;by_cases h1:x.Pict=true
  ·rw [af h1,af h1]; rfl
  ·rw [ae h1,ae h1];by_cases h2:x.Break=4
   ·rw [af h2,ih];by_cases h3:pst l=1
    ·rw [af ⟨h3,h2⟩]; simp [h3]
    ·rw [ae (fun q=>h3 q.1),ae (fun q=>h3 q.1)]; simp [h3]
   ·rw [ae h2,ae (fun q=>h2 q.2)];split <;> rfl
theorem HZ (l:List ax) (n:Nat):cj l n=decide (cst l=2\/(cst l≠0/\0<n)):=by
 induction l generalizing n with
 | nil=>rfl
 | cons x l ih=>
  unfold cj cst nxC;by_cases h1:x.Conj=1
  ·rw [af h1,af h1];simp
  ·rw [ae h1,ae h1];by_cases h2:x.Conj=2
   ·rw [af h2,ih];by_cases h0:cst l=0
    ·rw [af h0]; simp [h0]
    ·rw [ae h0,af h2]; simp [h0]
   ·rw [ae h2];by_cases h3:x.Conj=3
    ·rw [af h3,ih];by_cases h0:cst l=0
     ·rw [af h0,h0]
     ·rw [ae h0,ae h2,af h3]
    ·rw [ae h3];by_cases h0:cst l=0
     ·rw [af h0]; rfl
     ·rw [ae h0,ae h2,ae h3]; rfl
theorem IF (l:List ax):od l=(ri l % 2==1):=by
 induction l with
 | nil=>rfl
 | cons x l ih=>
  unfold od ri;by_cases h:x.Break=6
  ·rw [af h,ih];have hb':(x.Break==6)=true:=by simp [h]
   rw [hb',dO]
   cases l with
   | nil=>rfl
   | cons y l=>
    by_cases h2:y.Break=6
    ·have e:(hb (y::l)==6)=true:=by simp [hb,h2]
     rw [e];simp only [J1,fe,dO];rw [cu];simp only [dP,fG,aQ];omega
    ·have e:(hb (y::l)==6)=false:=by simp [hb,h2]
     rw [e];simp only [Ff,nE,fe];have:ri (y::l)=0:=by unfold ri; rw [ae h2]
     rw [this];rfl
  ·rw [ae h];simp [h]
theorem Hj (pj:Int->Int->Int) (hp:∀a b,pj a b=2->(a=6↔b=6)) (l:List ax) (p:ax):sgJ pj (sgF l) p=rj pj l.reverse p:=by
 rw [Hk];generalize l.reverse=r
 cases r with
 | nil=>rfl
 | cons a r=>
  unfold sgJ rj;simp only [J1,fe,dO,hb];rw [HZ,Hs,<-IF];have e1:(cst (a::r)==2)=decide (cst (a::r)=2\/(cst (a::r)≠0/\0<0)):=by
   rw [cu]; simp
  have e2:(pst (a::r)==2)=(!a.Pict && a.Break==5 && decide (pst r=1)):=by
   rw [cu];simp only [aQ,aA,dP,am];show nxP (pst r) a=2↔_;unfold nxP;by_cases h1:a.Pict=true
   ·rw [af h1,h1]; simp
   ·rw [ae h1];simp only [vg] at h1;by_cases h2:pst r=1/\a.Break=4
    ·rw [af h2]; simp [h1,h2]
    ·rw [ae h2];by_cases h3:pst r=1/\a.Break=5
     ·rw [af h3]; simp [h1,h3]
     ·rw [ae h3];simp only [h1];constructor
      ·intro e; exact absurd e (by decide)
      ·rintro ⟨⟨_,q1⟩,q2⟩; exact absurd ⟨q2,q1⟩ h3
  have e3:(pj a.Break p.Break==2 && a.Break==6 && od (a::r))=(pj a.Break p.Break==2 && p.Break==6 && od (a::r)):=by
   by_cases h:pj a.Break p.Break=2
   ·have e6:(a.Break==6)=(p.Break==6):=by
     rw [cu,aQ,aQ];exact hp _ _ h
    rw [e6]
   ·have e7:(pj a.Break p.Break==2)=false:=by rw [fG]; exact h
    rw [e7];rfl
  rw [e1,e2,e3]
  cases (p.Conj==1 && decide (cst (a::r)=2\/(cst (a::r)≠0/\0<0))) <;> cases (p.Pict && (!a.Pict && a.Break==5 && decide (pst r=1))) <;> cases (pj a.Break p.Break==1) <;> rfl
structure Sq (s t:Sg):Prop where
 pict:s.pict=t.pict
 conj:s.conj=t.conj
 odd:s.odd=t.odd
theorem Hi {s t:Sg}(h:Sq s t) (h1:s.odd=true->s.some=true/\s.last=6) (h2:t.odd=true->t.some=true/\t.last=6) (p:ax):sgN s p=sgN t p:=by
 unfold sgN;rw [h.pict,h.conj]
 congr 2
 have:(s.some && s.last==6 && s.odd)=(t.some && t.last==6 && t.odd):=by
  have ho:=h.odd;rw [cu];simp only [aA,aQ];constructor
  ·rintro ⟨_,q⟩;have:=h2 (ho▸ q);exact ⟨this,ho▸ q⟩
  ·rintro ⟨_,q⟩;have:=h1 (ho▸ q);exact ⟨this,ho▸ q⟩
 rw [this]
end Go.Proofs.YtclmdpamofdoiaaGreatDoor
namespace Go.Proofs.YtclmdpamofdoiaaGreatDoor
def E4 (c:List (List Int)) (r:Int):List (List Int):=c.dropLast++ [c.getLast?.getD []++ [r]]
theorem lV (c:List (List Int)) (x:List Int) (r:Int):E4 (c++ [x]) r=c++ [x++ [r]]:=by
 unfold E4;simp
section
variable (pj:Int->Int->Int) (pr:Int->ax)
def clS (l:List Int):List (List Int)×Sg:=l.foldl (fun a r=>(if sgJ pj a.2 (pr r)=true then E4 a.1 r else a.1++ [[r]],sgN a.2 (pr r))) ([],sg0)
def cls (l:List Int):List (List Int):=(clS pj pr l).1
def jn (l:List Int) (r:Int):Bool:=sgJ pj (sgF (l.map pr)) (pr r)
theorem pX (l:List ax) (x:ax):sgF (l++ [x])=sgN (sgF l) x:=by
 unfold sgF;rw [kS];rfl
theorem Jf (l:List Int):(clS pj pr l).2=sgF (l.map pr):=by
 have key:∀(l:List Int) (a:List (List Int)×Sg),(l.foldl (fun a r=>(if sgJ pj a.2 (pr r)=true then E4 a.1 r else a.1++ [[r]],sgN a.2 (pr r))) a).2=(l.map pr).foldl sgN a.2:=by
  intro l
  induction l with
  | nil=>intro a; rfl
  | cons r l ih=>intro a; rw [Dt,ih,pU,Dt]
 exact key l _
theorem wD:cls pj pr []= []:=rfl
theorem nh (l:List Int) (r:Int):cls pj pr (l++ [r])=if jn pj pr l r=true then E4 (cls pj pr l) r else cls pj pr l++ [[r]]:=by
 unfold cls jn;rw [<-Jf pj];unfold clS;rw [kS];rfl
theorem vV {l:List Int}{r:Int}(h:jn pj pr l r=true):l≠ []:=by
 rintro rfl;simp [jn,sgJ,sgF,sg0] at h
end
theorem pW {P:List Int->Prop}(h0:P []) (h1:∀l r,P l->P (l++ [r])) (l:List Int):P l:=by
 have key:∀l:List Int,P l.reverse:=by
  intro l
  induction l with
  | nil=>exact h0
  | cons r l ih=>rw [JZ]; exact h1 _ _ ih
 have:=key l.reverse
 rwa [Jl] at this
theorem gw {α:Type}{l:List α}(h:l≠ []):∃l0 x,l=l0++ [x]:=⟨l.dropLast,l.getLast h,(List.dropLast_concat_getLast h).symm⟩
variable {pj:Int->Int->Int}{pr:Int->ax}
theorem lC (l:List Int):(cls pj pr l).flatten=l/\(∀c∈cls pj pr l,c≠ [])/\(l≠ []->cls pj pr l≠ []):=by
 refine pW (P:=fun l=>(cls pj pr l).flatten=l/\(∀c∈cls pj pr l,c≠ [])/\(l≠ []->cls pj pr l≠ [])) ⟨rfl,fun c hc=>by simp [wD] at hc,fun h=>absurd rfl h⟩ (fun l r ih=>?_) l;obtain ⟨h1,h2,h3⟩:=ih;rw [nh];split
 ·rename_i hj
  obtain ⟨c0,x,e⟩:=gw (h3 (vV pj pr hj));rw [e] at h1 h2|-;rw [lV];refine ⟨?_,fun c hc=>?_,fun _=>by simp⟩
  ·rw [<-h1]; simp
  ·rcases List.mem_append.1 hc with hc|hc
   ·exact h2 c (fc _ hc)
   ·rw [List.mem_singleton.1 hc]; simp
 ·refine ⟨by rw [qZ,h1]; simp,fun c hc=>?_,fun _=>by simp⟩;rcases List.mem_append.1 hc with hc|hc
  ·exact h2 c hc
  ·rw [List.mem_singleton.1 hc]; simp
theorem AN {l:List Int}{x:Int}{c0:List (List Int)}{c:List Int}(h:cls pj pr (l++ [x])=c0++ [c]):∃c',c=c'++ [x]:=by
 obtain ⟨h1,h2,_⟩:=lC (pj:=pj) (pr:=pr) (l++ [x]);rw [h] at h1 h2;obtain ⟨c',y,rfl⟩:=gw (h2 c (by simp));refine ⟨c',?_⟩;rw [qZ] at h1;simp only [kT,List.flatten_nil,cM] at h1;rw [<-aL] at h1;have:=Ip h1 rfl;rw [List.singleton_inj.1 this]
section
variable (pj:Int->Int->Int) (pr:Int->ax)
def sts (l:List Int):List Nat:=(List.range l.length).filter fun i=> !jn pj pr (l.take i) (l.getD i 0)
theorem wM (l:List Int) (r:Int):sts pj pr (l++ [r])=sts pj pr l++(if jn pj pr l r=true then [] else [l.length]):=by
 unfold sts;rw [ao,It,qP,List.filter_append]
 congr 1
 ·refine List.filter_congr fun i hi=>?_;have hi:=List.mem_range.1 hi;rw [cR (by omega)]
  congr 2
  rw [aw,aw,aG hi]
 ·rw [List.filter_cons,List.filter_nil];have e1:(l++ [r]).take l.length=l:=by simp
  have e2:(l++ [r]).getD l.length 0=r:=by simp
  rw [e1,e2]
  cases jn pj pr l r <;> rfl
end
theorem Be {l:List Int}{i:Nat}(h:i∈sts pj pr l):i<l.length:=by
 unfold sts at h;exact List.mem_range.1 (List.mem_filter.1 h).1
theorem Ha {l:List Int}(h:l≠ []):sts pj pr l≠ []:=by
 refine pW (P:=fun l=>l≠ []->sts pj pr l≠ []) (fun h=>absurd rfl h) (fun l r ih _=>?_) l h;rw [wM];split
 ·rename_i hj
  intro e;exact ih (vV pj pr hj) (by simpa using e)
 ·simp
def slx (l:List Int) (a b:Nat):List Int:=(l.drop a).take (b-a)
def pcs (l:List Int) (a:List Nat):List (List Int):=(List.range (a.length-1)).map fun i=>slx l (a.getD i 0) (a.getD (i+1) 0)
theorem wY (l:List Int) (B:List Nat) (a b:Nat):pcs l (B++ [a]++ [b])=pcs l (B++ [a])++ [slx l a b]:=by
 unfold pcs;have e1:(B++ [a]++ [b]).length-1=B.length+1:=by simp
 have e2:(B++ [a]).length-1=B.length:=by simp
 rw [e1,e2,qP,bC]
 congr 1
 ·refine dH fun i hi=>?_;have hi:=List.mem_range.1 hi;have g:∀j,j<B.length+1->(B++ [a]++ [b]).getD j 0=(B++ [a]).getD j 0:=fun j hj=>by
   rw [aw,aw,aG (by simp; omega)]
  rw [g i (by omega),g (i+1) (by omega)]
 ·simp
theorem Fp {l:List Int}{a b:Nat}(h:b<=l.length) (r:List Int):slx (l++r) a b=slx l a b:=by
 unfold slx;rcases aU a l.length with ha|ha
 ·rw [ji (by omega),cR (by simp; omega)]
 ·rw [show b-a=0 by omega,bN,bN]
theorem B6 {l:List Int}{A:List Nat}(h:∀a∈A,a<=l.length) (r:List Int):pcs (l++r) A=pcs l A:=by
 unfold pcs;refine dH fun i hi=>?_;have hi:=List.mem_range.1 hi;refine Fp ?_ r;rw [aw,ag (by omega)];exact h _ (aF _)
theorem zQ {l:List Int}{a:Nat}(h:a<=l.length) (r:Int):slx (l++ [r]) a (l.length+1)=slx l a l.length++ [r]:=by
 unfold slx;rw [ji h,aB (by simp; omega),aB (by simp)]
theorem FL (l:List Int):pcs l (sts pj pr l++ [l.length])=cls pj pr l:=by
 refine pW (P:=fun l=>pcs l (sts pj pr l++ [l.length])=cls pj pr l) rfl (fun l r ih=>?_) l;have hle:∀a∈sts pj pr l++ [l.length],a<=l.length:=fun a ha=>by
  rcases List.mem_append.1 ha with ha|ha
  ·exact vP (Be ha)
  ·rw [List.mem_singleton.1 ha]; exact aq _
 rw [nh,wM,ao,It];split
 ·rename_i hj
  obtain ⟨B,a,e⟩:=gw (Ha (pj:=pj) (pr:=pr) (vV pj pr hj));rw [e] at ih hle|-;rw [cM,wY,<-ih,wY,lV,zQ (hle a (by simp)),B6 (fun x hx=>hle x (fc _ hx))]
 ·rw [wY,B6 hle,ih,zQ (aq _)];simp [slx]
structure Sil (pj:Int->Int->Int) (pr:Int->ax) (sil:Int->Bool):Prop where
 s:∀r,sil r=true->((pr r).Break=1\/(pr r).Break=2\/(pr r).Break=3)/\(pr r).Pict=false/\(pr r).Conj=0
 ja:∀a b,(a=1\/a=2\/a=3)->pj a b≠0->a=1/\b=2
 jb:∀a b,(b=1\/b=2\/b=3)->pj a b≠0->a=1/\b=2
 b:∀r,(pr r).Break=1\/(pr r).Break=2->sil r=true
variable {sil:Int->Bool}
theorem Sil.state (h:Sil pj pr sil) (l:List Int){x:Int}(hx:sil x=true):sgF ((l++ [x]).map pr)=⟨true,(pr x).Break,0,0,false⟩:=by
 obtain ⟨h1,h2,h3⟩:=h.s x hx;rw [bC,mg,pX];unfold sgN nxP nxC;rw [h2,h3,ae (by simp),ae (by omega),ae (by omega),ae (by omega)]
 congr 1
 ·split <;> rfl
 ·have e:((pr x).Break==6)=false:=by rw [fG]; omega
  rw [e,nE]
theorem Sil.no (h:Sil pj pr sil) (l:List Int){x r:Int}(hx:sil x=true) (hr:sil r=false):jn pj pr (l++ [x]) r=false:=by
 obtain ⟨h1,_,_⟩:=h.s x hx;unfold jn;rw [h.state l hx];have hz:pj (pr x).Break (pr r).Break=0:=Classical.byContradiction fun hne=>by
  have:=h.b r (.inr (h.ja _ _ h1 hne).2);rw [hr] at this;cases this
 simp [sgJ,hz]
theorem Sil.new (h:Sil pj pr sil) (l:List Int){x:Int}(hx:sil x=true) (p:ax):sgN (sgF ((l++ [x]).map pr)) p=sgN sg0 p:=by
 rw [h.state l hx];exact Hi (s:=⟨true,(pr x).Break,0,0,false⟩) (t:=sg0) ⟨rfl,rfl,rfl⟩ (fun e=>by simp at e) (fun e=>by simp [sg0] at e) p
theorem Sil.yes (h:Sil pj pr sil){l:List Int}{r:Int}(hr:sil r=true) (hj:jn pj pr l r=true):∃l0 x,l=l0++ [x]/\sil x=true:=by
 obtain ⟨l0,x,rfl⟩:=gw (vV pj pr hj);refine ⟨l0,x,rfl,?_⟩;obtain ⟨h1,h2,h3⟩:=h.s r hr;unfold jn at hj;rw [bC,mg,pX] at hj;have hl:(sgN (sgF (l0.map pr)) (pr x)).last=(pr x).Break:=rfl;unfold sgJ at hj;rw [h2,h3,hl] at hj;have hz:pj (pr x).Break (pr r).Break≠0:=fun e=>by
  rw [e] at hj;simp at hj
 exact h.b x (.inl (h.jb _ _ h1 hz).1)
theorem Sil.all (h:Sil pj pr sil) (l:List Int):∀c∈cls pj pr l,(∀x∈c,sil x=true)\/∀x∈c,sil x=false:=by
 refine pW (P:=fun l=>∀c∈cls pj pr l,(∀x∈c,sil x=true)\/∀x∈c,sil x=false) (fun c hc=>by simp [wD] at hc) (fun l r ih=>?_) l;rw [nh];split
 ·rename_i hj
  obtain ⟨l0,x,rfl⟩:=gw (vV pj pr hj);obtain ⟨c0,c,e⟩:=gw ((lC (pj:=pj) (pr:=pr) (l0++ [x])).2.2 (by simp));obtain ⟨c',rfl⟩:=AN e;rw [e] at ih|-;rw [lV];intro d hd;rcases List.mem_append.1 hd with hd|hd
  ·exact ih d (fc _ hd)
  ·rw [List.mem_singleton.1 hd];have hc:=ih (c'++ [x]) (by simp)
   cases hr:sil r with
   | true=>
    obtain ⟨l1,y,e1,hy⟩:=h.yes hr hj;have:x=y:=List.singleton_inj.1 (Ip e1 rfl);subst this
    left
    rcases hc with hc|hc
    ·intro z hz;rcases List.mem_append.1 hz with hz|hz
     ·exact hc z hz
     ·rw [List.mem_singleton.1 hz]; exact hr
    ·have:=hc x (by simp);rw [hy] at this;cases this
   | false=>
    right
    rcases hc with hc|hc
    ·have:=h.no l0 (hc x (by simp)) hr;rw [this] at hj;cases hj
    ·intro z hz;rcases List.mem_append.1 hz with hz|hz
     ·exact hc z hz
     ·rw [List.mem_singleton.1 hz]; exact hr
 ·intro d hd;rcases List.mem_append.1 hd with hd|hd
  ·exact ih d hd
  ·rw [List.mem_singleton.1 hd]
   cases hr:sil r with
   | true=>left; intro z hz; rw [List.mem_singleton.1 hz]; exact hr
   | false=>right; intro z hz; rw [List.mem_singleton.1 hz]; exact hr
end Go.Proofs.YtclmdpamofdoiaaGreatDoor
namespace Go.Lt
theorem yx {σ τ β:Type}{step:σ->Option (σ ⊕ τ)}{fuel:Nat}{s:σ}{k:τ->Option β}{r:Option β}(Inv:σ->Prop) (μ:σ->Nat) (post:τ->Prop)
  (h:∀s,Inv s->(∃s',step s=some (.inl s')/\Inv s'/\μ s' < μ s)\/∃t,step s=some (.inr t)/\post t) (h0:Inv s) (hf:μ s<fuel) (hk:∀t,post t->k t=r):(cH fuel step s).bind k=r:=by
 obtain ⟨t,e1,e2⟩:=mo Inv μ post h fuel s h0 hf;rw [e1];exact hk t e2
theorem vD {σ τ β:Type}{step:σ->Option (σ ⊕ τ)}{fuel:Nat}{s:σ}{k:τ->Option β}{p:β->Prop}(Inv:σ->Prop) (μ:σ->Nat) (post:τ->Prop)
  (h:∀s,Inv s->(∃s',step s=some (.inl s')/\Inv s'/\μ s' < μ s)\/∃t,step s=some (.inr t)/\post t) (h0:Inv s) (hf:μ s<fuel) (hk:∀t,post t->∃r,k t=some r/\p r):∃r,(cH fuel step s).bind k=some r/\p r:=by
 obtain ⟨t,e1,e2⟩:=mo Inv μ post h fuel s h0 hf;rw [e1];exact hk t e2
theorem Gz {α σ τ:Type}{x:Option α}{k:α->Option (σ ⊕ τ)}{A:σ->Prop}{B:τ->Prop}(post:α->Prop) (hx:∃t,x=some t/\post t)
  (hk:∀t,post t->(∃s',k t=some (.inl s')/\A s')\/∃u,k t=some (.inr u)/\B u):(∃s',x.bind k=some (.inl s')/\A s')\/∃t,x.bind k=some (.inr t)/\B t:=by
 obtain ⟨t,e1,e2⟩:=hx;rw [e1];exact hk t e2
variable {α:Type}{lo hi:α->Int}
def uz (lo hi:α->Int):List α->Bool
 | []=>true
 | x::l=>decide (lo x<=hi x) && (match l with|[]=>true|y::_=>decide (hi x<lo y)) && uz lo hi l
theorem yM:∀{T:List α},uz lo hi T=true->∀i (h:i<T.length),lo T[i]<=hi T[i]
 | [],_,i,h=>by simp at h
 | x::l,hs,i,h=>by
  simp only [uz,aA,am] at hs
  cases i with
  | zero=>exact hs.1.1
  | succ i=>exact yM hs.2 i (by simpa using h)
theorem sZ:∀{T:List α},uz lo hi T=true->∀i j (h:j<T.length),(hij:i<j)->hi (T[i]'(by omega))<lo T[j]
 | [],_,i,j,h,_=>by simp at h
 | x::l,hs,i,j,h,hij=>by
  have hs0:=hs;simp only [uz,aA,am] at hs
  cases j with
  | zero=>omega
  | succ j=>
   have hj:j<l.length:=by simpa using h
   cases i with
   | succ i=>exact sZ hs.2 i j hj (by omega)
   | zero=>
    cases l with
    | nil=>simp at hj
    | cons y l'=>
     have h1:hi x<lo y:=by simpa using hs.1.2
     cases j with
     | zero=>exact h1
     | succ j=>
      have h2:=sZ hs.2 0 (j+1) hj (by omega);have h3:=yM hs.2 0 (by simp);simp only [mh] at h2 h3;simp only [mh,mi] at h2|-;omega
def onn (lo hi:α->Int) (r:Int) (x:α):Bool:=decide (lo x<=r) && decide (r<=hi x)
theorem nY {r:Int}{x:α}:onn lo hi r x=true↔lo x<=r/\r<=hi x:=by simp [onn]
theorem Ea {T:List α}(hs:uz lo hi T=true){r:Int}{i j:Nat}(hi':i<T.length) (hj:j<T.length) (h1:onn lo hi r T[i]=true) (h2:onn lo hi r T[j]=true):i=j:=by
 rw [nY] at h1 h2;rcases Nat.lt_trichotomy i j with h|h|h
 ·have:=sZ hs i j hj h;omega
 ·exact h
 ·have:=sZ hs j i hi' h;omega
def fnd (lo hi:α->Int) (T:List α) (r:Int):Option α:=T.find? (onn lo hi r)
theorem BB {T:List α}(hs:uz lo hi T=true){r:Int}{x:α}(hx:x∈T) (h:onn lo hi r x=true):fnd lo hi T r=some x:=by
 unfold fnd;obtain ⟨i,hi',rfl⟩:=List.mem_iff_getElem.1 hx;rw [List.find?_eq_some_iff_getElem];refine ⟨h,i,hi',rfl,fun j hj=>?_⟩
 cases hb:onn lo hi r (T[j]'(by omega)) with
 | false=>rfl
 | true=>exact absurd (Ea hs (by omega) hi' hb h) (by omega)
theorem AE {T:List α}{r:Int}(h:∀i (h:i<T.length),onn lo hi r T[i]=false):fnd lo hi T r=none:=by
 unfold fnd;rw [List.find?_eq_none];intro x hx;obtain ⟨i,hi',rfl⟩:=List.mem_iff_getElem.1 hx;simp [h i hi']
theorem uO {T:List α}{r:Int}{x:α}(h:fnd lo hi T r=some x):x∈T/\onn lo hi r x=true:=⟨List.mem_of_find?_eq_some h,List.find?_some h⟩
theorem zh {T:List α}(hs:uz lo hi T=true){r:Int}{i:Nat}(h1:∀j (h:j<T.length),j<i->hi T[j]<r) (h2:∀j (h:j<T.length),i<=j->r<=hi T[j]):
  fnd lo hi T r=if h:i<T.length then (if lo T[i]<=r then some T[i] else none) else none:=by
 have hno:∀j (h:j<T.length),j≠i->onn lo hi r T[j]=false:=fun j h hne=>by
  cases hb:onn lo hi r T[j] with
  | false=>rfl
  | true=>
   rw [nY] at hb;rcases aU j i with hj|hj
   ·have:=h1 j h hj;omega
   ·have h3:=sZ hs i j h (by omega);have h4:=h2 i (by omega) (aq _);omega
 split
 ·rename_i hi'
  split
  ·rename_i hl
   exact BB hs (aF hi') (nY.2 ⟨hl,h2 i hi' (aq _)⟩)
  ·rename_i hl
   refine AE fun j h=>?_;by_cases hj:j=i
   ·subst hj
    cases hb:onn lo hi r T[j] with
    | false=>rfl
    | true=>exact absurd (nY.1 hb).1 hl
   ·exact hno j h hj
 ·rename_i hi'
  exact AE fun j h=>hno j h (by omega)
theorem F9 {a b:Nat}(h:a+b<=4611686018427387904):w64 ((IntKind.u64.wrap (w64 ((a:Int)+(b:Int)))).fdiv (2 ^ 1))=(((a+b) / 2:Nat):Int):=by
 have e0:w64 ((a:Int)+(b:Int))=((a+b:Nat):Int):=by rw [aJ (by omega)]; simp
 have h1:IntKind.u64.wrap ((a+b:Nat):Int)=((a+b:Nat):Int):=by
  have:((a+b:Nat):Int) % 18446744073709551616=((a+b:Nat):Int):=Int.emod_eq_of_lt (by omega) (by omega);simpa [IntKind.wrap,IntKind.bits,IntKind.signed] using this
 have e2:(((a+b:Nat):Int)).fdiv (2 ^ 1)=(((a+b) / 2:Nat):Int):=by
  rw [Int.fdiv_eq_ediv_of_nonneg _ (by decide)];omega
 rw [e0,h1,e2,aJ (by omega)]
theorem tb {T:List α}(hs:uz lo hi T=true) (hl:T.length<=1000000) (r:Int){step:Int×Int->Option (Int×Int ⊕ Int)}
  (h1:∀a b:Nat,(hab:a<b)->(hb:b<=T.length)->step ((a:Int),(b:Int))=some (.inl (if r<=hi (T[(a+b) / 2]'(by omega)) then ((a:Int),(((a+b) / 2:Nat):Int)) else (((((a+b) / 2+1:Nat):Int)),(b:Int)))))
  (h2:∀a:Nat,step ((a:Int),(a:Int))=some (.inr (a:Int))):
  ∃i:Nat,cH (((T.length:Int)-0).toNat+1) step (0,(T.length:Int))=some (i:Int)/\i<=T.length/\(∀j (h:j<T.length),j<i->hi T[j]<r)/\(∀j (h:j<T.length),i<=j->r<=hi T[j]):=by
 have hmono:∀j k (h:k<T.length),(hjk:j<=k)->hi (T[j]'(by omega))<=hi T[k]:=fun j k h hjk=>by
  rcases aU j k with hlt|hge
  ·have e1:=sZ hs j k h hlt;have e2:=yM hs k h;omega
  ·obtain rfl:j=k:=by omega
   exact nC _
 obtain ⟨t,e1,i,e2,e3,e4,e5⟩:=mo (step:=step) (fun q=>∃a b:Nat,q=((a:Int),(b:Int))/\a<=b/\b<=T.length/\(∀j (h:j<T.length),j<a->hi T[j]<r)/\(∀j (h:j<T.length),b<=j->r<=hi T[j]))
  (fun q=>(q.2-q.1).toNat) (fun t=>∃i:Nat,t=(i:Int)/\i<=T.length/\(∀j (h:j<T.length),j<i->hi T[j]<r)/\(∀j (h:j<T.length),i<=j->r<=hi T[j]))
  (by
   rintro q ⟨a,b,rfl,hab,hb,c1,c2⟩;rcases aU a b with hlt|hge
   ·left
    rw [h1 a b hlt hb];refine ⟨_,rfl,?_⟩;by_cases hr:r<=hi (T[(a+b) / 2]'(by omega))
    ·rw [af hr];exact ⟨⟨a,(a+b) / 2,rfl,by omega,by omega,c1,fun j h hj=>Int.le_trans hr (hmono _ _ h hj)⟩,by simp only; omega⟩
    ·rw [ae hr];refine ⟨⟨(a+b) / 2+1,b,rfl,by omega,hb,fun j h hj=>?_,c2⟩,by simp only; omega⟩;have:=hmono j ((a+b) / 2) (by omega) (by omega);omega
   ·right
    obtain rfl:a=b:=by omega
    exact ⟨_,h2 a,a,rfl,hb,c1,c2⟩)
  (((T.length:Int)-0).toNat+1) (0,(T.length:Int)) ⟨0,T.length,rfl,bT _,aq _,fun j h hj=>by omega,fun j h hj=>by omega⟩ (by simp only; omega)
 subst e2;exact ⟨i,e1,e3,e4,e5⟩
def IZ (v:Option Int):Int ⊕ Unit:=match v with|some x=> .inl x|none=> .inr ()
theorem Ej {n:Nat}(hn:n<=1000000){v:Option Int}{step:Int->Option (Int ⊕ (Int ⊕ Unit))}
  (h1:∀k:Nat,k<n->step (k:Int)=if v=some ((k:Int)+1) then some (.inr (.inl ((k:Int)+1))) else some (.inl ((k+1:Nat):Int)))
  (h2:step (n:Int)=some (.inr (.inr ()))) (hv:∀x,v=some x->1<=x/\x<=n):cH (((n:Int)-0).toNat+1) step 0=some (IZ v):=by
 refine qE (fun s=>∃k:Nat,s=(k:Int)/\k<=n/\∀j:Nat,j<k->v≠some ((j:Int)+1)) (fun s=>((n:Int)-s).toNat) ?_ ⟨0,rfl,bT _,fun j hj=>by omega⟩ (by omega);rintro s ⟨k,rfl,hk,hno⟩;rcases aU k n with hlt|hge
 ·rw [h1 k hlt];by_cases he:v=some ((k:Int)+1)
  ·rw [af he]
   right
   subst he;rfl
  ·rw [ae he];refine .inl ⟨_,rfl,⟨k+1,rfl,by omega,fun j hj=>?_⟩,by omega⟩;by_cases hjk:j=k
   ·subst hjk; exact he
   ·exact hno j (by omega)
 ·obtain rfl:k=n:=by omega
  rw [h2]
  right
  cases v with
  | none=>rfl
  | some x=>
   obtain ⟨e1,e2⟩:=hv x rfl;exact absurd (show some x=some (((x-1).toNat:Int)+1) by congr 1; omega) (hno (x-1).toNat (by omega))
theorem vC {n fuel:Nat}{β:Type}{kk:Int ⊕ Unit->Option β}{rr:Option β}(hn:n<=1000000){v:Option Int}{step:Int->Option (Int ⊕ (Int ⊕ Unit))}
  (h1:∀k:Nat,k<n->step (k:Int)=if v=some ((k:Int)+1) then some (.inr (.inl ((k:Int)+1))) else some (.inl ((k+1:Nat):Int)))
  (h2:step (n:Int)=some (.inr (.inr ()))) (hv:∀x,v=some x->1<=x/\x<=n) (hf:fuel=((n:Int)-0).toNat+1) (hk:kk (IZ v)=rr):(cH fuel step 0).bind kk=rr:=by
 subst hf;rw [Ej hn h1 h2 hv];exact hk
def lk (T:List (Int×Int×Int)) (r:Int):Option Int:=(fnd (fun x=>x.1) (fun x=>x.2.1) T r).map (fun x=>x.2.2)
def xK (l:List (Int×Int)) (r:Int):Bool:=l.any (onn (fun x=>x.1) (fun x=>x.2) r)
def ofv (T:List (Int×Int×Int)) (v:Int):List (Int×Int):=(T.filter (fun x=>x.2.2==v)).map (fun x=>(x.1,x.2.1))
theorem ze {T:List (Int×Int×Int)}(hs:uz (fun x=>x.1) (fun x=>x.2.1) T=true) (v r:Int):xK (ofv T v) r=decide (lk T r=some v):=by
 unfold xK ofv lk;rw [List.any_map,List.any_filter]
 cases hf:fnd (fun x=>x.1) (fun x=>x.2.1) T r with
 | none=>
  simp only [Kg,reduceCtorEq,decide_false];rw [J3];intro x hx;unfold fnd at hf;have:=List.find?_eq_none.1 hf x hx;simp only [Function.comp,aA,An];intro _;simpa [onn] using this
 | some x=>
  obtain ⟨h1,h2⟩:=uO hf;simp only [ga,aV];by_cases hv:x.2.2=v
  ·rw [xo hv,BQ];exact ⟨x,h1,by simp only [Function.comp,aA,aQ]; exact ⟨hv,h2⟩⟩
  ·rw [decide_eq_false hv,J3];intro y hy;simp only [Function.comp,aA,aQ,An];intro e
   cases hb:onn (fun x:Int×Int=>x.1) (fun x=>x.2) r (y.1,y.2.1) with
   | false=>simp
   | true=>
    have:=BB hs hy (show onn (fun x:Int×Int×Int=>x.1) (fun x=>x.2.1) r y=true from hb);rw [hf] at this;cases this;exact absurd e hv
theorem Ei {T:List (Int×Int×Int)}{p:Int->Bool}(h:T.all (fun x=>p x.2.2)=true){r v:Int}(hv:lk T r=some v):p v=true:=by
 unfold lk at hv;obtain ⟨x,hx,rfl⟩:=Option.map_eq_some_iff.1 hv;exact List.all_eq_true.1 h x (uO hx).1
end Go.Lt
namespace Go.Proofs.YtclmdpamofdoiaaGreatDoor
open Go Go.Lt
set_option maxRecDepth 100000
def gT:List (Int×Int×Int):=match ot with|some t=>t|none=>[]
def pT:List (Int×Int):=match mX with|some t=>t|none=>[]
def cT:List (Int×Int×Int):=match nb with|some t=>t|none=>[]
def eT:List (Int×Int×Int):=match na with|some t=>t|none=>[]
theorem I6:ot=some gT:=rfl
theorem IX:mX=some pT:=rfl
theorem Ji:nb=some cT:=rfl
theorem Jc:na=some eT:=rfl
theorem Gf:uz (fun x=>x.1) (fun x=>x.2.1) gT=true:=by kernel_rfl
theorem IV:uz (fun x=>x.1) (fun x=>x.2) pT=true:=by kernel_rfl
theorem Ia:uz (fun x=>x.1) (fun x=>x.2.1) cT=true:=by kernel_rfl
theorem HT:uz (fun x=>x.1) (fun x=>x.2.1) eT=true:=by kernel_rfl
theorem HQ:gT.length<=1000000:=by
 have:Nat.ble gT.length 1000000=true:=by kernel_rfl
 exact bM this
theorem Hz:pT.length<=1000000:=by
 have:Nat.ble pT.length 1000000=true:=by kernel_rfl
 exact bM this
theorem Ic:cT.length<=1000000:=by
 have:Nat.ble cT.length 1000000=true:=by kernel_rfl
 exact bM this
theorem HU:eT.length<=1000000:=by
 have:Nat.ble eT.length 1000000=true:=by kernel_rfl
 exact bM this
theorem JF:gT.all (fun x=>decide (1<=x.2.2) && decide (x.2.2<=8))=true:=by kernel_rfl
theorem JK:cT.all (fun x=>decide (1<=x.2.2) && decide (x.2.2<=3))=true:=by kernel_rfl
theorem JI:eT.all (fun x=>decide (1<=x.2.2) && decide (x.2.2<=3))=true:=by kernel_rfl
def hcl (r:Int):Int:=
 if (4352<=r/\r<=4447)\/(43360<=r/\r<=43388) then 9
 else if (4448<=r/\r<=4519)\/(55216<=r/\r<=55238) then 10
 else if (4520<=r/\r<=4607)\/(55243<=r/\r<=55291) then 11
 else if r<44032\/55203<r then 0
 else if (r-44032) % 28=0 then 12 else 13
def r32 (r:Int):Prop:= -2147483648<=r/\r<=2147483647
theorem r32.w {r:Int}(h:r32 r):w64 r=r:=by unfold r32 at h; exact aJ (by omega)
theorem qS {α:Type}{b:Bool}{p:Prop}[Decidable p] (h:b=true↔p) (x y:α):(if b then x else y)=if p then x else y:=by
 by_cases hp:p
 ·rw [af hp,af (h.2 hp)]
 ·rw [ae hp,ae (fun e=>hp (h.1 e))]
theorem uA {α:Type}{p:Prop}[Decidable p] (x y:α):(if p then some x else some y)=some (if p then x else y):=by split <;> rfl
theorem uL (r:Int) (h:r32 r):ly r=some (hcl r):=by
 unfold r32 at h;unfold ly lf iI hcl;simp only [bb,bsm,bu];have hw:44032<=r->r<=55203->(w32 (r-44032)).tmod 28=(r-44032) % 28:=fun h1 h2=>by
  rw [wI (by omega),Fc (by omega)]
 rw [qS (p:=(4352<=r/\r<=4447)\/(43360<=r/\r<=43388)) (by simp),qS (p:=(4448<=r/\r<=4519)\/(55216<=r/\r<=55238)) (by simp),qS (p:=(4520<=r/\r<=4607)\/(55243<=r/\r<=55291)) (by simp)];rw [qS (p:=r<44032\/55203<r) (by simp)];by_cases hs:r<44032\/55203<r
 ·simp only [af hs,uA]
 ·simp only [ae hs];rw [hw (by omega) (by omega)];rw [qS (p:=(r-44032) % 28=0) (by simp)];simp only [uA]
theorem CP (r:Int) (h1:44032<=r) (h2:r<=55203):∃x,dQ r=some x/\(x.1≠0/\(x.2.2=0↔(r-44032) % 28=0)):=by
 have hw:w64 r=r:=aJ (by omega);unfold dQ;simp only [hw,bu,bsm];rw [ae (by simp; omega)];refine vD (fun q=>∃i:Nat,i<=19/\q=((44032+588*(i:Int),4352+(i:Int)):Int×Int)/\44032+588*(i:Int)<=r) (fun q=>(4371-q.2).toNat)
  (fun t=>∃x:Int×Int×Int,t= .inl x/\(x.1≠0/\(x.2.2=0↔(r-44032) % 28=0))) ?_ ⟨0,by omega,by simp,by omega⟩ (by simp only; omega) ?_
 ·rintro q ⟨i,hi,rfl,hir⟩;by_cases hi2:i=19
  ·subst hi2;omega
  dsimp only
  rw [af (by simp; omega)];refine Gz (fun t=>(∃x:Int×Int×Int,t= .inl x/\(x.1≠0/\(x.2.2=0↔(r-44032) % 28=0)))\/(t= .inr (44032+588*((i+1:Nat):Int))/\44032+588*((i+1:Nat):Int)<=r))
   (mo (fun q=>∃j:Nat,j<=21/\q=((44032+588*(i:Int)+28*(j:Int),4449+(j:Int)):Int×Int)/\44032+588*(i:Int)+28*(j:Int)<=r) (fun q=>(4470-q.2).toNat) _ ?_ _ _ ⟨0,by omega,by simp,by omega⟩ (by simp only; omega)) ?_
  ·rintro q ⟨j,hj,rfl,hjr⟩
   dsimp only
   by_cases hj2:j=21
   ·subst hj2
    right
    refine ⟨.inr (44032+588*((i+1:Nat):Int)),?_,.inr ⟨rfl,by omega⟩⟩;rw [ae (by simp),show (44032+588*(i:Int)+28*((21:Nat):Int))=44032+588*((i+1:Nat):Int) by omega]
   ·rw [af (by simp; omega),aJ (by omega)];by_cases hlt:r<44032+588*(i:Int)+28*(j:Int)+28
    ·right
     rw [af (by simpa using hlt)];rw [show w64 (4519+r)=4519+r from aJ (by omega),aJ (by omega)];by_cases hz:4519+r-(44032+588*(i:Int)+28*(j:Int))=4519
     ·rw [af (by simpa using hz)];exact ⟨_,rfl,.inl ⟨_,rfl,by show 4352+(i:Int)≠0; omega,by show (0:Int)=0↔_; simp; omega⟩⟩
     ·rw [ae (by simpa using hz)];exact ⟨_,rfl,.inl ⟨_,rfl,by show 4352+(i:Int)≠0; omega,by show 4519+r-(44032+588*(i:Int)+28*(j:Int))=0↔_; omega⟩⟩
    ·left
     rw [ae (by simpa using hlt),aJ (by omega)];exact ⟨_,rfl,⟨j+1,by omega,by simp only [iP]; omega,by omega⟩,by omega⟩
  ·rintro t (⟨x,rfl,hx⟩|⟨rfl,hx⟩)
   ·exact .inr ⟨_,rfl,x,rfl,hx⟩
   ·refine .inl ⟨_,rfl,⟨i+1,by omega,?_,by omega⟩,?_⟩
    ·rw [aJ (by omega)];exact Prod.ext rfl (by show 4352+(i:Int)+1=4352+((i+1:Nat):Int); omega)
    ·rw [aJ (by omega)];omega
 ·rintro t ⟨x,rfl,hx⟩;exact ⟨x,rfl,hx⟩
theorem CR (r:Int) (h:r32 r):eR r=some (hcl r):=by
 have hw:=h.w;unfold r32 at h;unfold eR hcl;simp only [hw,bb,bsm,bu];rw [qS (p:=(4352<=r/\r<=4447)\/(43360<=r/\r<=43388)) (by simp),qS (p:=(4448<=r/\r<=4519)\/(55216<=r/\r<=55238)) (by simp),qS (p:=(4520<=r/\r<=4607)\/(55243<=r/\r<=55291)) (by simp)];by_cases hs:r<44032\/55203<r
 ·have:dQ r=some (0,0,0):=by
   unfold dQ;simp only [hw,bu,bsm];rw [af (by simpa using hs)]
  rw [this];simp only [bsm,af hs,uA];rfl
 ·obtain ⟨⟨l,v,t⟩,e1,e2,e3⟩:=CP r (by omega) (by omega);have e2':(l==0)=false:=by simpa using e2
  rw [e1];simp only [bsm,e2',ak,aY,ae hs];rw [qS (b:=t==0) (p:=(r-44032) % 28=0) (by simpa using e3)];simp only [uA]
theorem yV (l:List (Int×Int)) (hl:l.length<=1000000) (r:Int) (h:r32 r):er l r=some (xK l r):=by
 have hw:=h.w;unfold er;simp only [hw];have key:cH (σ:=Int) (τ:=Bool ⊕ Unit) (((l.length:Int)-0).toNat+1) (fun s_5=>
   if decide (s_5<(l.length:Int)) then
   (idx l s_5).bind fun x_15=>
   (bL (decide (r>=x_15.1)) ((idx l s_5).bind fun x_25=>
   some (decide (r<=x_25.2)))).bind fun d_19=>
   if d_19 then
   some (.inr (.inl true))
   else
   some (.inl ((w64 (s_5+1))))
   else
   some (.inr (.inr ()))) 0=some (if xK l r=true then .inl true else .inr ()):=by
  refine qE (fun s=>∃k:Nat,s=(k:Int)/\k<=l.length/\(l.take k).any (onn (fun x=>x.1) (fun x=>x.2) r)=false) (fun s=>((l.length:Int)-s).toNat) ?_ ⟨0,rfl,bT _,by simp⟩ (by omega);rintro s ⟨k,rfl,hk,hno⟩;rcases aU k l.length with hlt|hge
  ·have e1:(l.take (k+1)).any (onn (fun x=>x.1) (fun x=>x.2) r)=((l.take k).any (onn (fun x=>x.1) (fun x=>x.2) r) || onn (fun x=>x.1) (fun x=>x.2) r l[k]):=by
    rw [an hlt,List.any_append];simp
   simp only [dlt hlt,bA,bj hlt,bsm,bb];have e2:(decide (r>=l[k].1) && decide (r<=l[k].2))=onn (fun x:Int×Int=>x.1) (fun x=>x.2) r l[k]:=rfl;rw [e2]
   cases hb:onn (fun x:Int×Int=>x.1) (fun x=>x.2) r l[k] with
   | true=>
    right
    have:xK l r=true:=by
     unfold xK;rw [BQ];exact ⟨_,aF hlt,hb⟩
    rw [af this];rfl
   | false=>
    left
    rw [dm hlt (by omega)];exact ⟨_,rfl,⟨k+1,rfl,hlt,by rw [e1,hno,hb]; rfl⟩,by omega⟩
  ·obtain rfl:k=l.length:=by omega
   right
   rw [dj] at hno;simp only [dnl,ak,aY];rw [show xK l r=false from hno];rfl
 rw [key]
 cases xK l r <;> rfl
theorem I5:(match jz,jy,jx,jv,ju,jt,js,jr with
 | some a,some b,some c,some d,some e,some f,some g,some h=>[a,b,c,d,e,f,g,h]== [ofv gT 1,ofv gT 2,ofv gT 3,ofv gT 4,ofv gT 5,ofv gT 6,ofv gT 7,ofv gT 8]|_,_,_,_,_,_,_,_=>false)=true:=by kernel_rfl
theorem Jh:(match jq,jp,jo with
 | some a,some b,some c=>[a,b,c]== [ofv cT 1,ofv cT 2,ofv cT 3]|_,_,_=>false)=true:=by kernel_rfl
theorem Jb:(match jm,jl,jk with
 | some a,some b,some c=>[a,b,c]== [ofv eT 1,ofv eT 2,ofv eT 3]|_,_,_=>false)=true:=by kernel_rfl
theorem IW:(jL==some pT)=true:=by kernel_rfl
theorem yZ (T:List (Int×Int×Int)) (v:Int):(ofv T v).length<=T.length:=by
 unfold ofv;rw [cC];exact wt _ _
theorem IP (r:Int) (h:r32 r):iZ r=some ((lk gT r).getD (hcl r)):=by
 have hl:=I5;unfold iZ;split at hl
 ·rename_i a b c d e f g hh ea eb ec ed ee ef eg eh
  rw [ea,eb,ec,ed,ee,ef,eg,eh];simp only [bsm];have hl2:=eq_of_beq hl;rw [hl2];refine vC (n:=8) (by decide) (v:=lk gT r) (fun k hk=>?_) (by rfl) (fun x hx=>?_) rfl ?_
  ·have hi:idx ([ofv gT 1,ofv gT 2,ofv gT 3,ofv gT 4,ofv gT 5,ofv gT 6,ofv gT 7,ofv gT 8]:List (List (Int×Int))) (k:Int)=some (ofv gT ((k:Int)+1)):=by
    rw [tl]
    match k,hk with
    | 0,_=>rfl
    | 1,_=>rfl
    | 2,_=>rfl
    | 3,_=>rfl
    | 4,_=>rfl
    | 5,_=>rfl
    | 6,_=>rfl
    | 7,_=>rfl
   simp only [hi,bsm];rw [af (by simp; omega),yV _ (dY (yZ _ _) HQ) r h,ze Gf,aJ (by omega)];simp only [bsm];rw [qS (p:=lk gT r=some ((k:Int)+1)) (by simp)];rfl
  ·have:=Ei (p:=fun v=>decide (1<=v) && decide (v<=8)) JF hx;simpa using this
  ·cases lk gT r with
   | none=>show ((eR r).bind fun o=>some o)=_; rw [CR r h]; rfl
   | some x=>rfl
 ·cases hl
theorem IL (r:Int) (h:r32 r):iX r=some ((lk cT r).getD 0):=by
 have hl:=Jh;unfold iX;split at hl
 ·rename_i a b c ea eb ec
  rw [ea,eb,ec];simp only [bsm];have hl2:=eq_of_beq hl;rw [hl2];refine vC (n:=3) (by decide) (v:=lk cT r) (fun k hk=>?_) (by rfl) (fun x hx=>?_) rfl ?_
  ·have hi:idx ([ofv cT 1,ofv cT 2,ofv cT 3]:List (List (Int×Int))) (k:Int)=some (ofv cT ((k:Int)+1)):=by
    rw [tl]
    match k,hk with
    | 0,_=>rfl
    | 1,_=>rfl
    | 2,_=>rfl
   simp only [hi,bsm];rw [af (by simp; omega),yV _ (dY (yZ _ _) Ic) r h,ze Ia,aJ (by omega)];simp only [bsm];rw [qS (p:=lk cT r=some ((k:Int)+1)) (by simp)];rfl
  ·have:=Ei (p:=fun v=>decide (1<=v) && decide (v<=3)) JK hx;simpa using this
  ·cases lk cT r <;> rfl
 ·cases hl
theorem IK (r:Int) (h:r32 r):iW r=some ((lk eT r).getD 0):=by
 have hl:=Jb;unfold iW;split at hl
 ·rename_i a b c ea eb ec
  rw [ea,eb,ec];simp only [bsm];have hl2:=eq_of_beq hl;rw [hl2];refine vC (n:=3) (by decide) (v:=lk eT r) (fun k hk=>?_) (by rfl) (fun x hx=>?_) rfl ?_
  ·have hi:idx ([ofv eT 1,ofv eT 2,ofv eT 3]:List (List (Int×Int))) (k:Int)=some (ofv eT ((k:Int)+1)):=by
    rw [tl]
    match k,hk with
    | 0,_=>rfl
    | 1,_=>rfl
    | 2,_=>rfl
   simp only [hi,bsm];rw [af (by simp; omega),yV _ (dY (yZ _ _) HU) r h,ze HT,aJ (by omega)];simp only [bsm];rw [qS (p:=lk eT r=some ((k:Int)+1)) (by simp)];rfl
  ·have:=Ei (p:=fun v=>decide (1<=v) && decide (v<=3)) JI hx;simpa using this
  ·cases lk eT r <;> rfl
 ·cases hl
def pic (r:Int):Bool:=(fnd (fun x:Int×Int=>x.1) (fun x=>x.2) pT r).isSome
theorem F6 (r:Int):xK pT r=pic r:=by
 unfold xK pic fnd;rw [cu,List.find?_isSome,BQ]
theorem IM (r:Int) (h:r32 r):iY r=some (pic r):=by
 unfold iY;rw [eq_of_beq IW];simp only [bsm];rw [yV _ Hz r h,F6];rfl
def pr (r:Int):ax:=⟨(lk gT r).getD (hcl r),pic r,(lk cT r).getD 0,(lk eT r).getD 0⟩
theorem IJ (r:Int) (h:r32 r):eq r=some (pr r):=by
 unfold eq;rw [IP r h,IM r h,IL r h,IK r h];rfl
theorem sk {a b n:Nat}(h:a<b) (hb:b<=n):(a+b) / 2<n:=by omega
theorem HO (r:Int) (h:r32 r):sv r=some ((lk gT r).getD (hcl r)):=by
 have hw:=h.w;have hlen:=HQ;unfold sv;rw [I6];simp only [bsm];obtain ⟨i,e1,e2,e3,e4⟩:=tb Gf HQ r (step:=fun s_7=>
  if decide (s_7.1<s_7.2) then
  (pf (w64 ((IntKind.u64.wrap (w64 (s_7.1+s_7.2))).fdiv (2 ^ 1))) gT r).bind fun x_22=>
  if (!x_22)=true then
  some (.inl ((w64 ((w64 ((IntKind.u64.wrap (w64 (s_7.1+s_7.2))).fdiv (2 ^ 1)))+1)),s_7.2))
  else
  some (.inl (s_7.1,(w64 ((IntKind.u64.wrap (w64 (s_7.1+s_7.2))).fdiv (2 ^ 1)))))
  else
  some (.inr s_7.1)) (fun a b hab hb=>by
   simp only;rw [af (by simp; omega),F9 (by omega)];unfold pf;rw [bj (sk hab hb),hw];simp only [bsm];by_cases hr:r<=(gT[(a+b) / 2]'(sk hab hb)).2.1
   ·rw [ae (by simpa using hr),af hr]
   ·rw [af (by simpa using hr),ae hr,aJ (by omega)];rfl) (fun a=>by simp only; rw [ae (by simp)])
 unfold ii;rw [e1];simp only [bsm,hw];have hf:=zh Gf e3 e4;unfold lk;rw [hf];by_cases hi:i<gT.length
 ·rw [xI hi,bj hi];simp only [bsm,bb];by_cases hlo:gT[i].1<=r
  ·rw [af (by simp; exact ⟨hi,hlo⟩),af hlo];rfl
  ·rw [ae (by simp; omega),ae hlo,uL r h];rfl
 ·rw [xJ hi,show decide ((i:Int)<(gT.length:Int))=false by simp; omega,iu];simp only [bsm];rw [ae (by decide),uL r h];rfl
theorem Gs (r:Int) (h:r32 r):qm r=some ((lk cT r).getD 0):=by
 have hw:=h.w;have hlen:=Ic;unfold qm;rw [Ji];simp only [bsm];obtain ⟨i,e1,e2,e3,e4⟩:=tb Ia Ic r (step:=fun s_7=>
  if decide (s_7.1<s_7.2) then
  (oy (w64 ((IntKind.u64.wrap (w64 (s_7.1+s_7.2))).fdiv (2 ^ 1))) cT r).bind fun x_22=>
  if (!x_22)=true then
  some (.inl ((w64 ((w64 ((IntKind.u64.wrap (w64 (s_7.1+s_7.2))).fdiv (2 ^ 1)))+1)),s_7.2))
  else
  some (.inl (s_7.1,(w64 ((IntKind.u64.wrap (w64 (s_7.1+s_7.2))).fdiv (2 ^ 1)))))
  else
  some (.inr s_7.1)) (fun a b hab hb=>by
   simp only;rw [af (by simp; omega),F9 (by omega)];unfold oy;rw [bj (sk hab hb),hw];simp only [bsm];by_cases hr:r<=(cT[(a+b) / 2]'(sk hab hb)).2.1
   ·rw [ae (by simpa using hr),af hr]
   ·rw [af (by simpa using hr),ae hr,aJ (by omega)];rfl) (fun a=>by simp only; rw [ae (by simp)])
 unfold gN;rw [e1];simp only [bsm,hw];have hf:=zh Ia e3 e4;unfold lk;rw [hf];by_cases hi:i<cT.length
 ·rw [xI hi,bj hi];simp only [bsm,bu];by_cases hlo:cT[i].1<=r
  ·rw [ae (by simp; omega),af hlo];rfl
  ·rw [af (by simp; omega),ae hlo];rfl
 ·rw [xJ hi,show ((i:Int)==(cT.length:Int))=true by simp; omega,Ak];simp only [bsm];rw [af trivial];rfl
theorem Gj (r:Int) (h:r32 r):ql r=some ((lk eT r).getD 0):=by
 have hw:=h.w;have hlen:=HU;unfold ql;rw [Jc];simp only [bsm];obtain ⟨i,e1,e2,e3,e4⟩:=tb HT HU r (step:=fun s_7=>
  if decide (s_7.1<s_7.2) then
  (ow (w64 ((IntKind.u64.wrap (w64 (s_7.1+s_7.2))).fdiv (2 ^ 1))) eT r).bind fun x_22=>
  if (!x_22)=true then
  some (.inl ((w64 ((w64 ((IntKind.u64.wrap (w64 (s_7.1+s_7.2))).fdiv (2 ^ 1)))+1)),s_7.2))
  else
  some (.inl (s_7.1,(w64 ((IntKind.u64.wrap (w64 (s_7.1+s_7.2))).fdiv (2 ^ 1)))))
  else
  some (.inr s_7.1)) (fun a b hab hb=>by
   simp only;rw [af (by simp; omega),F9 (by omega)];unfold ow;rw [bj (sk hab hb),hw];simp only [bsm];by_cases hr:r<=(eT[(a+b) / 2]'(sk hab hb)).2.1
   ·rw [ae (by simpa using hr),af hr]
   ·rw [af (by simpa using hr),ae hr,aJ (by omega)];rfl) (fun a=>by simp only; rw [ae (by simp)])
 unfold gM;rw [e1];simp only [bsm,hw];have hf:=zh HT e3 e4;unfold lk;rw [hf];by_cases hi:i<eT.length
 ·rw [xI hi,bj hi];simp only [bsm,bu];by_cases hlo:eT[i].1<=r
  ·rw [ae (by simp; omega),af hlo];rfl
  ·rw [af (by simp; omega),ae hlo];rfl
 ·rw [xJ hi,show ((i:Int)==(eT.length:Int))=true by simp; omega,Ak];simp only [bsm];rw [af trivial];rfl
theorem FK (r:Int) (h:r32 r):qg r=some (pic r):=by
 have hlen:=Hz;unfold qg;rw [IX];simp only [bsm];obtain ⟨i,e1,e2,e3,e4⟩:=tb IV Hz r (step:=fun s_7=>
  if decide (s_7.1<s_7.2) then
  (oq (w64 ((IntKind.u64.wrap (w64 (s_7.1+s_7.2))).fdiv (2 ^ 1))) pT r).bind fun x_22=>
  if (!x_22)=true then
  some (.inl ((w64 ((w64 ((IntKind.u64.wrap (w64 (s_7.1+s_7.2))).fdiv (2 ^ 1)))+1)),s_7.2))
  else
  some (.inl (s_7.1,(w64 ((IntKind.u64.wrap (w64 (s_7.1+s_7.2))).fdiv (2 ^ 1)))))
  else
  some (.inr s_7.1)) (fun a b hab hb=>by
   simp only;rw [af (by simp; omega),F9 (by omega)];unfold oq;rw [bj (sk hab hb)];simp only [bsm];by_cases hr:r<=(pT[(a+b) / 2]'(sk hab hb)).2
   ·rw [ae (by simpa using hr),af hr]
   ·rw [af (by simpa using hr),ae hr,aJ (by omega)];rfl) (fun a=>by simp only; rw [ae (by simp)])
 unfold gL;rw [e1];simp only [bsm];have hf:=zh IV e3 e4;unfold pic;rw [hf];by_cases hi:i<pT.length
 ·rw [xI hi,bj hi];simp only [bsm,bb];by_cases hlo:pT[i].1<=r
  ·rw [af hlo];simp [hi,hlo]
  ·rw [ae hlo];simp [hlo]
 ·rw [xJ hi,show decide ((i:Int)<(pT.length:Int))=false by simp; omega,iu];rfl
theorem Ba (r:Int) (h:r32 r):pa r=some (pr r):=by
 unfold pa;rw [HO r h,FK r h,Gs r h,Gj r h];rfl
end Go.Proofs.YtclmdpamofdoiaaGreatDoor
namespace Go.Proofs.YtclmdpamofdoiaaGreatDoor
open Go Go.Lt
theorem EO {a b:ab}(h1:a.Kind=b.Kind) (h2:a.Text=b.Text):a=b:=by
 cases a; cases b; simp_all
def bl:ab:=⟨0,[]⟩
def vld (r:Int):Bool:=decide (0<=r) && decide (r<=1114111) && (decide (r<55296) || decide (r>57343))
theorem vt (r:Int):dg r=some (vld r):=by
 simp only [dg,bb,bu,bsm,vld,Bz]
theorem vm (r:Int):fO r=some (vld r):=by
 simp only [fO,bb,bu,bsm,vld,aV];rw [cu];simp;omega
def rgt (c:ab):Bool:=
 if c.Kind=0\/c.Kind=3 then c.Text.isEmpty else (decide (c.Kind=1) || decide (c.Kind=2)) && decide (1<=c.Text.length) && decide (c.Text.length<=16) && c.Text.all vld
theorem tU {α:Type}(p:α->Bool) (l:List α) (i:Nat) (h:i<l.length):(l.take (i+1)).all p=((l.take i).all p && p l[i]):=by
 rw [an h,List.all_append];simp
theorem uZ {α:Type}{p:α->Bool}{l:List α}{i:Nat}(h:i<l.length) (hp:p l[i]=false):l.all p=false:=by
 rw [List.all_eq_false];exact ⟨_,aF h,by simp [hp]⟩
theorem vW {α:Type}(l:List α):((l.length:Int)==0)=l.isEmpty:=by
 cases l <;> simp <;> omega
theorem CQ (c:ab):jj c=some (rgt c):=by
 unfold jj rgt;simp only [bu,bb,bsm];by_cases h1:c.Kind=0\/c.Kind=3
 ·have e:(c.Kind==0 || c.Kind==3)=true:=by rcases h1 with h|h <;> simp [h]
  rw [af e,af h1,vW]
 ·have e:(c.Kind==0 || c.Kind==3)=false:=by simp; omega
  rw [ae (by rw [e]; simp),ae h1];by_cases h2:((c.Kind=1\/c.Kind=2)/\1<=c.Text.length/\c.Text.length<=16)
  ·have e2:(((c.Kind != 1 && c.Kind != 2) || decide ((c.Text.length:Int)<1)) || decide ((c.Text.length:Int)>16))=false:=by
    simp; omega
   rw [ae (by rw [e2]; simp)];obtain ⟨t,h3,h4⟩:=oY (τ:=Bool ⊕ Unit) (n:=c.Text.length) (by omega) (fun t=>match t with|.inl b=>b=c.Text.all vld|.inr _=>c.Text.all vld=true) (fun i=>(c.Text.take i).all vld=true) (by simp)
    (step:=fun s_44=>
     if decide (s_44<(c.Text.length:Int)) then
     (idx c.Text s_44).bind fun x_54=>
     (dg x_54).bind fun x_56=>
     if (!x_56)=true then
     some (.inr (.inl false))
     else
     some (.inl ((w64 (s_44+1))))
     else
     some (.inr (.inr ())))
    (fun i hi hI=>by
     have e3:w64 ((i:Int)+1)=((i+1:Nat):Int):=by rw [aJ (by omega)]; simp
     simp only [nI,hi,kL,bA,bj hi,bsm,vt,e3]
     cases hv:vld c.Text[i] with
     | true=>exact .inl ⟨by simp,by rw [tU _ _ _ hi,hI,hv]; rfl⟩
     | false=>exact .inr ⟨.inl false,by simp,(uZ hi hv).symm⟩)
    (fun hI=>⟨.inr (),by simp,by simpa using hI⟩)
   rw [h3];simp only [bsm];have e4:(decide (c.Kind=1) || decide (c.Kind=2))=true:=by simp; exact h2.1
   rw [e4,xo h2.2.1,xo h2.2.2]
   cases t with
   | inl b=>simp only at h4; simp [h4]
   | inr u=>simp only at h4; simp [h4]
  ·have e2:(((c.Kind != 1 && c.Kind != 2) || decide ((c.Text.length:Int)<1)) || decide ((c.Text.length:Int)>16))=true:=by
    simp; omega
   rw [af e2]
   congr 1
   symm
   simp only [wu,xH,gp];omega
theorem AP (r:Int):ki r=some (!vld r):=by simp [ki,vm]
theorem xM (l:List Int) (hl:l.length<=9223372036854775807):bX l=some (!l.all vld):=by
 unfold bX cV;obtain ⟨t,h3,h4⟩:=oY (τ:=Int ⊕ Unit) (n:=l.length) (by omega) (fun t=>match t with|.inl i=>0<=i/\l.all vld=false|.inr _=>l.all vld=true) (fun i=>(l.take i).all vld=true) (by simp)
  (step:=fun s_7=>
   if decide (s_7<(l.length:Int)) then
   (idx l s_7).bind fun x_16=>
   (ki x_16).bind fun x_18=>
   if x_18 then
   some (.inr (.inl s_7))
   else
   some (.inl ((w64 (s_7+1))))
   else
   some (.inr (.inr ())))
  (fun i hi hI=>by
   have e3:w64 ((i:Int)+1)=((i+1:Nat):Int):=by rw [aJ (by omega)]; simp
   simp only [nI,hi,kL,bA,bj hi,bsm,AP,e3]
   cases hv:vld l[i] with
   | true=>exact .inl ⟨by simp,by rw [tU _ _ _ hi,hI,hv]; rfl⟩
   | false=>exact .inr ⟨.inl i,by simp,by omega,uZ hi hv⟩)
  (fun hI=>⟨.inr (),by simp,by simpa using hI⟩)
 rw [h3];simp only [bsm]
 cases t with
 | inl b=>simp only at h4; simp [h4.1,h4.2]
 | inr u=>simp only at h4; simp [h4]
theorem BH (c:ab):lS c=some (rgt c):=by
 unfold lS rgt;by_cases h1:c.Kind=0\/c.Kind=3
 ·rw [af h1];rcases h1 with h|h <;> simp [h,vW]
 ·have n0:(c.Kind==0)=false:=by simp; omega
  have n3:(c.Kind==3)=false:=by simp; omega
  rw [ae h1];simp only [n0,n3,ak,aY,bsm];by_cases h2:c.Kind=1\/c.Kind=2
  ·have e:(if (c.Kind==1)=true then some (c.Kind==1) else some (c.Kind==2):Option Bool)=some true:=by rcases h2 with h|h <;> simp [h]
   have e2:(decide (c.Kind=1) || decide (c.Kind=2))=true:=by simp; exact h2
   rw [e,e2];simp only [bsm,bA,bb,dO];by_cases h3:1<=c.Text.length/\c.Text.length<=16
   ·rw [xM _ (by omega)];have e4:(decide ((c.Text.length:Int)>0) && decide ((c.Text.length:Int)<=16))=true:=by simp; omega
    have e5:(decide (1<=c.Text.length) && decide (c.Text.length<=16))=true:=by simp; exact h3
    rw [e4,e5];simp [ip]
   ·have e4:(decide ((c.Text.length:Int)>0) && decide ((c.Text.length:Int)<=16))=false:=by simp; omega
    have e5:(decide (1<=c.Text.length) && decide (c.Text.length<=16))=false:=by simp; omega
    rw [e4,e5];simp [iu]
  ·have n1:(c.Kind==1)=false:=by simp; omega
   have n2:(c.Kind==2)=false:=by simp; omega
   have e2:(decide (c.Kind=1) || decide (c.Kind=2))=false:=by simp; omega
   rw [e2];simp [n1,n2]
def kd (l:List ab) (i:Nat):Int:=match l[i]? with|some c=>c.Kind|none=>0
theorem lW {l:List ab}{i:Nat}(h:i<l.length):kd l i=l[i].Kind:=by simp [kd,ag h]
theorem nS {l:List ab}{i:Nat}(h:l.length<=i):kd l i=0:=by simp [kd,aT h]
def Snd (l:List ab):Prop:=∀i (h:i<l.length),rgt l[i]=true/\(l[i].Kind=2->kd l (i+1)=3)/\(l[i].Kind=3->0<i/\kd l (i-1)=2)
theorem DX (l:List ab) (i:Int):fB l i=some (if 0<=i then kd l i.toNat else 0):=by
 unfold fB;simp only [bu,bsm];by_cases h0:i<0
 ·rw [af (by simp [h0]),ae (by omega)]
 ·by_cases h1:i<l.length
  ·obtain ⟨k,rfl⟩:=Int.eq_ofNat_of_zero_le (show 0<=i by omega);have hk:k<l.length:=by omega
   rw [ae (by simp; omega),af (by omega),bj hk];simp [lW hk]
  ·rw [af (by simp; omega),af (by omega),nS (by omega)]
theorem Ir (l:List ab) (hl:l.length<=9223372036854775807):∃b,nK l=some b/\(b=true↔Snd l):=by
 unfold nK;obtain ⟨t,h3,h4⟩:=oY (τ:=Bool ⊕ Unit) (n:=l.length) (by omega) (fun t=>match t with|.inl b=>b=false/\¬Snd l|.inr _=>Snd l)
  (fun i=>∀j (h:j<l.length),j<i->rgt l[j]=true/\(l[j].Kind=2->kd l (j+1)=3)/\(l[j].Kind=3->0<j/\kd l (j-1)=2)) (fun j _ h=>by omega)
  (step:=fun s_5=>
   if decide (s_5<(l.length:Int)) then
   (idx l s_5).bind fun x_13=>
   (jj x_13).bind fun x_15=>
   (orE (!x_15) ((idx l s_5).bind fun x_21=>
   (bL (x_21.Kind==2) ((fB l (w64 (s_5+1))).bind fun x_30=>
   some (x_30 != 3))).bind fun d_25=>
   some d_25)).bind fun d_17=>
   (orE d_17 ((idx l s_5).bind fun x_36=>
   (bL (x_36.Kind==3) ((fB l (w64 (s_5-1))).bind fun x_45=>
   some (x_45 != 2))).bind fun d_40=>
   some d_40)).bind fun d_32=>
   if d_32 then
   some (.inr (.inl false))
   else
   some (.inl ((w64 (s_5+1))))
   else
   some (.inr (.inr ())))
  (fun i hi hI=>by
   have e3:w64 ((i:Int)+1)=((i+1:Nat):Int):=by rw [aJ (by omega)]; simp
   have e4:w64 ((i:Int)-1)=(i:Int)-1:=aJ (by omega);simp only [nI,hi,kL,bA,bj hi,bsm,CQ,DX,e3,e4,bb,bu];by_cases hk:rgt l[i]=true/\(l[i].Kind=2->kd l (i+1)=3)/\(l[i].Kind=3->0<i/\kd l (i-1)=2)
   ·refine .inl ⟨?_,fun j h hj=>?_⟩
    ·rw [ae];obtain ⟨h1,h2,h5⟩:=hk;simp only [h1,dA,jT,aC,aA,aQ,nv,vT,HE,An,Decidable.not_not];refine ⟨fun h=>?_,fun h=>?_⟩
     ·rw [af (by omega)]; simpa using h2 h
     ·obtain ⟨h6,h7⟩:=h5 h;rw [af (by omega),show ((i:Int)-1).toNat=i-1 by omega]; exact h7
    ·by_cases hji:j=i
     ·subst hji; exact hk
     ·exact hI j h (by omega)
   ·refine .inr ⟨.inl false,?_,rfl,fun hs=>hk (hs i hi)⟩;rw [af]
    cases h1:rgt l[i] with
    | false=>simp
    | true=>
     simp only [h1,wL] at hk;have hk:(l[i].Kind=2/\¬kd l (i+1)=3)\/(l[i].Kind=3/\¬(0<i/\kd l (i-1)=2)):=by
      by_cases hA:l[i].Kind=2->kd l (i+1)=3
      ·exact .inr (Classical.not_imp.1 fun hB=>hk ⟨hA,hB⟩)
      ·exact .inl (Classical.not_imp.1 hA)
     simp only [dA,jT,aC,aA,aQ,nv,vT];rcases hk with ⟨h,h2⟩|⟨h,h2⟩
     ·refine .inl ⟨h,?_⟩;rw [af (by omega)]; simpa using h2
     ·refine .inr ⟨h,?_⟩;by_cases h0:i=0
      ·subst h0; simp
      ·rw [af (by omega),show ((i:Int)-1).toNat=i-1 by omega];exact fun h3=>h2 ⟨by omega,h3⟩)
  (fun hI=>⟨.inr (),by simp,fun j h=>hI j h h⟩)
 rw [h3];simp only [bsm]
 cases t with
 | inl b=>exact ⟨b,rfl,by simp only at h4; rw [h4.1]; simp [h4.2]⟩
 | inr u=>exact ⟨true,rfl,by simpa using h4⟩
theorem xp (l:List ab) (hl:l.length<=9223372036854775807):∃b,lR l=some b/\(b=true↔Snd l):=by
 unfold lR
 let ld:Nat->Bool:=fun i=>match i with|0=>false|k+1=>decide (kd l k=2)
 have key:∀i (h:i<l.length),((rgt l[i]=true/\(ld i=decide (l[i].Kind=3)))↔rgt l[i]=true/\(l[i].Kind=3->0<i/\kd l (i-1)=2)/\(0<i->kd l (i-1)=2->l[i].Kind=3)):=fun i h=>by
  cases i with
  | zero=>simp [ld]
  | succ k=>simp only [ld,zA,decide_eq_decide]; constructor <;> (rintro ⟨a,b⟩; exact ⟨a,by omega⟩)
 have snd:Snd l↔(∀i (h:i<l.length),rgt l[i]=true/\ld i=decide (l[i].Kind=3))/\ld l.length=false:=by
  constructor
  ·intro hs;refine ⟨fun i h=>(key i h).2 ⟨(hs i h).1,(hs i h).2.2,fun h0 h2=>?_⟩,?_⟩
   ·have:=(hs (i-1) (by omega)).2.1 (by rw [<-lW]; exact h2);rw [show i-1+1=i by omega,lW h] at this;exact this
   ·cases hn:l.length with
    | zero=>rfl
    | succ k=>
     simp only [ld,gp];intro h2;have:=(hs k (by omega)).2.1 (by rw [<-lW]; exact h2);rw [nS (by omega)] at this;cases this
  ·rintro ⟨h1,h2⟩ i h;have hk:=(key i h).1 (h1 i h);refine ⟨hk.1,fun h3=>?_,hk.2.1⟩;by_cases hn:i+1<l.length
   ·have:=((key (i+1) hn).1 (h1 (i+1) hn)).2.2 (by omega) (by rw [zA,lW h]; exact h3);rw [lW hn]; exact this
   ·exfalso
    have e:l.length=i+1:=by omega
    rw [e] at h2;simp only [ld,gp] at h2;rw [lW h] at h2;exact h2 h3
 obtain ⟨t,h3,h4⟩:=mo (τ:=Bool ⊕ Bool) (fun s:Bool×Int=>∃i:Nat,s=(ld i,(i:Int))/\i<=l.length/\∀j (h:j<l.length),j<i->rgt l[j]=true/\ld j=decide (l[j].Kind=3)) (fun s=>l.length-s.2.toNat)
  (fun t=>match t with|.inl b=>b=false/\¬Snd l|.inr b=>(b=false↔Snd l))
  (step:=fun s_9=>
   if decide (s_9.2<(l.length:Int)) then
   (idx l s_9.2).bind fun x_12=>
   (lS x_12).bind fun x_18=>
   (orE (!x_18) (some (!(s_9.1==(x_12.Kind==3))))).bind fun d_20=>
   if d_20 then
   some (.inr (.inl false))
   else
   some (.inl (x_12.Kind==2,(w64 (s_9.2+1))))
   else
   some (.inr (.inr s_9.1)))
  (by
   rintro s ⟨i,rfl,hi,hI⟩;rcases aU i l.length with hlt|hge
   ·have e3:w64 ((i:Int)+1)=((i+1:Nat):Int):=by rw [aJ (by omega)]; simp
    simp only [nI,hlt,kL,bA,bj hlt,bsm,BH,bu,e3];by_cases hk:rgt l[i]=true/\ld i=decide (l[i].Kind=3)
    ·refine .inl ⟨_,?_,⟨i+1,rfl,hlt,fun j h hj=>?_⟩,?_⟩
     ·rw [ae]
      ·simp only [ld,lW hlt]; rfl
      ·rw [hk.1,hk.2]; simp; rfl
     ·by_cases hji:j=i
      ·subst hji; exact hk
      ·exact hI j h (by omega)
     ·simp; omega
    ·refine .inr ⟨.inl false,?_,rfl,fun hs=>hk ((snd.1 hs).1 i hlt)⟩;rw [af]
     cases h1:rgt l[i] with
     | false=>simp
     | true=>
      simp only [h1,wL] at hk;simp only [dA,jT,dP,fG,vT];exact hk
   ·obtain rfl:i=l.length:=by omega
    refine .inr ⟨.inr (ld l.length),by simp,?_⟩;simp only;rw [snd];exact ⟨fun h=>⟨fun j hj=>hI j hj hj,h⟩,fun h=>h.2⟩) (((l.length:Int)-0).toNat+1) (false,0) ⟨0,rfl,bT _,fun j _ h=>by omega⟩ (by simp)
 rw [h3];simp only [bsm]
 cases t with
 | inl b=>exact ⟨b,rfl,by simp only at h4; rw [h4.1]; simp [h4.2]⟩
 | inr b=>exact ⟨!b,rfl,by simp only at h4; rw [<-h4]; cases b <;> simp⟩
theorem CI (a:List Int) (ha:a.length<=9223372036854775807) (b:List Int):∃t,dC a b=some t/\(t=true↔a=b):=by
 unfold dC;by_cases hl:a.length=b.length
 ·rw [ae (by simp [hl])];obtain ⟨t,h3,h4⟩:=oY (τ:=Bool ⊕ Unit) (n:=a.length) (by omega) (fun t=>match t with|.inl b'=>b'=false/\a≠b|.inr _=>a=b) (fun i=>∀j,j<i->a[j]? = b[j]?) (fun j h=>by omega)
   (step:=fun s_13=>
    if decide (s_13<(a.length:Int)) then
    (idx a s_13).bind fun x_21=>
    (idx b s_13).bind fun x_25=>
    if (x_21 != x_25)=true then
    some (.inr (.inl false))
    else
    some (.inl ((w64 (s_13+1))))
    else
    some (.inr (.inr ())))
   (fun i hi hI=>by
    have e3:w64 ((i:Int)+1)=((i+1:Nat):Int):=by rw [aJ (by omega)]; simp
    simp only [nI,hi,kL,bA,bj hi,bj (show i<b.length by omega),bsm,e3];by_cases hk:a[i]=b[i]
    ·refine .inl ⟨by rw [ae (by simp [hk])],fun j hj=>?_⟩;by_cases hji:j=i
     ·subst hji; rw [ag hi,ag (show j<b.length by omega),hk]
     ·exact hI j (by omega)
    ·exact .inr ⟨.inl false,by rw [af (by simpa using hk)],rfl,fun e=>hk (by subst e; rfl)⟩)
   (fun hI=>⟨.inr (),by simp,by
    apply bY;intro j;rcases aU j a.length with h|h
    ·exact hI j h
    ·rw [aT h,aT (by omega)]⟩)
  rw [h3];simp only [bsm]
  cases t with
  | inl b'=>exact ⟨b',rfl,by simp only at h4; rw [h4.1]; simp [h4.2]⟩
  | inr u=>exact ⟨true,rfl,by simpa using h4⟩
 ·rw [af (by simp; omega)];exact ⟨false,rfl,by simp; intro e; subst e; exact hl rfl⟩
def Sht (l:List ab):Prop:=∀i (h:i<l.length),l[i].Text.length<=1000000
theorem Snd.sht {l:List ab}(h:Snd l):Sht l:=fun i hi=>by
 have:=(h i hi).1;unfold rgt at this;split at this
 ·have e:l[i].Text= []:=by simpa using this
  rw [e]; simp
 ·simp at this; omega
theorem Bj (a:List ab) (ha:a.length<=9223372036854775807) (hs:Sht a) (b:List ab):∃t,ep a b=some t/\(t=true↔a=b):=by
 unfold ep;by_cases hl:a.length=b.length
 ·rw [ae (by simp [hl])];obtain ⟨t,h3,h4⟩:=oY (τ:=Bool ⊕ Unit) (n:=a.length) (by omega) (fun t=>match t with|.inl b'=>b'=false/\a≠b|.inr _=>a=b) (fun i=>∀j,j<i->a[j]? = b[j]?) (fun j h=>by omega)
   (step:=fun s_13=>
    if decide (s_13<(a.length:Int)) then
    (idx a s_13).bind fun x_21=>
    (idx b s_13).bind fun x_26=>
    (orE (x_21.Kind != x_26.Kind) ((idx a s_13).bind fun x_34=>
    (idx b s_13).bind fun x_39=>
    (dC x_34.Text x_39.Text).bind fun x_42=>
    some (!x_42))).bind fun d_30=>
    if d_30 then
    some (.inr (.inl false))
    else
    some (.inl ((w64 (s_13+1))))
    else
    some (.inr (.inr ())))
   (fun i hi hI=>by
    have e3:w64 ((i:Int)+1)=((i+1:Nat):Int):=by rw [aJ (by omega)]; simp
    obtain ⟨t,ht,ht2⟩:=CI a[i].Text (by have:=hs i hi; omega) b[i].Text;simp only [nI,hi,kL,bA,bj hi,bj (show i<b.length by omega),bsm,e3,ht,bu];by_cases hk:a[i]=b[i]
    ·refine .inl ⟨by rw [ae (by rw [ht2.2 (by rw [hk])]; simp [hk])],fun j hj=>?_⟩;by_cases hji:j=i
     ·subst hji; rw [ag hi,ag (show j<b.length by omega),hk]
     ·exact hI j (by omega)
    ·refine .inr ⟨.inl false,?_,rfl,fun e=>hk (by subst e; rfl)⟩;rw [af];by_cases hkk:a[i].Kind=b[i].Kind
     ·have:t=false:=by
       cases t with
       | false=>rfl
       | true=>exact absurd (EO hkk (ht2.1 rfl)) hk
      simp [this]
     ·simp [hkk])
   (fun hI=>⟨.inr (),by simp,by
    apply bY;intro j;rcases aU j a.length with h|h
    ·exact hI j h
    ·rw [aT h,aT (by omega)]⟩)
  rw [h3];simp only [bsm]
  cases t with
  | inl b'=>exact ⟨b',rfl,by simp only at h4; rw [h4.1]; simp [h4.2]⟩
  | inr u=>exact ⟨true,rfl,by simpa using h4⟩
 ·rw [af (by simp; omega)];exact ⟨false,rfl,by simp; intro e; subst e; exact hl rfl⟩
theorem CJ {a:List ab}(ha:a.length<=9223372036854775807) (hs:Sht a):ep a a=some true:=by
 obtain ⟨t,h1,h2⟩:=Bj a ha hs a;rw [h1,h2.2 rfl]
def gK (r:Int):Int:=if vld r=true then r else 65533
def fx (t:List Int):List Int:=(t.take 16).map gK
def eH (wide:Int) (t:List Int):List ab:=
 if t= [] then (if wide>1 then [bl,bl] else [bl]) else if wide>1 then [⟨2,t⟩,⟨3,[]⟩] else [⟨1,t⟩]
theorem zJ (r:Int):vld (gK r)=true:=by
 unfold gK;split
 ·assumption
 ·rfl
theorem HR (t:List Int):∀x∈fx t,vld x=true:=fun x hx=>by
 obtain ⟨y,_,rfl⟩:=List.mem_map.1 hx;exact zJ y
theorem HS (t:List Int):(fx t).length<=16:=by simp [fx]; omega
theorem Cj (t:List Int):(fx t).length=min 16 t.length:=by simp [fx]
theorem DT {k:Int}(hk:k=1\/k=2){t:List Int}(h1:1<=t.length) (h2:t.length<=16) (hv:∀x∈t,vld x=true):rgt ⟨k,t⟩=true:=by
 unfold rgt;rw [ae (by simp; omega)];simp only [aA,aC,am,vf];exact ⟨⟨⟨hk,h1⟩,h2⟩,hv⟩
theorem CB (wide:Int){t:List Int}(hv:∀x∈t,vld x=true) (h2:t.length<=16):Snd (eH wide t):=by
 unfold eH;have hb:rgt bl=true:=rfl;have h3:rgt ⟨3,[]⟩=true:=rfl;by_cases ht:t= []
 ·rw [af ht];split
  ·intro i hi
   match i,hi with
   | 0,_=>exact ⟨hb,fun h=>by simp [bl] at h,fun h=>by simp [bl] at h⟩
   | 1,_=>exact ⟨hb,fun h=>by simp [bl] at h,fun h=>by simp [bl] at h⟩
  ·intro i hi
   match i,hi with
   | 0,_=>exact ⟨hb,fun h=>by simp [bl] at h,fun h=>by simp [bl] at h⟩
 ·rw [ae ht];have h1:1<=t.length:=by
   rcases sX t.length with h|h
   ·exact absurd (cS h) ht
   ·exact h
  split
  ·intro i hi
   match i,hi with
   | 0,_=>exact ⟨DT (.inr rfl) h1 h2 hv,fun _=>rfl,fun h=>by simp at h⟩
   | 1,_=>exact ⟨h3,fun h=>by simp at h,fun _=>⟨by omega,rfl⟩⟩
  ·intro i hi
   match i,hi with
   | 0,_=>exact ⟨DT (.inl rfl) h1 h2 hv,fun h=>by simp at h,fun h=>by simp at h⟩
theorem DW (wide:Int) (t:List Int) (ht:t.length<=9223372036854775807):iU wide t=some (eH wide (fx t)):=by
 unfold iU;rw [qE (s:=(([]:List Int),(0:Int))) (t:=fx t) (fun st:List Int×Int=>∃i:Nat,st=((fx t).take i,(i:Int))/\i<=(fx t).length) (fun st=>(fx t).length-st.2.toNat) ?_ ⟨0,rfl,bT _⟩ (by simp [fx]; omega)]
 ·simp only [bsm,bb];unfold eH;by_cases h0:fx t= []
  ·rw [af h0,h0];by_cases hw:wide>1
   ·simp [hw,bl]
   ·simp [hw,bl]
  ·have h1:(((fx t).length:Int)==0)=false:=by
    rw [fG];intro e;exact h0 (cS (by omega))
   rw [ae h0];simp only [h1,nE,ak,aY];by_cases hw:wide>1
   ·simp [hw]
   ·simp [hw]
 ·rintro st ⟨i,rfl,hi⟩;have hl:=Cj t;rcases aU i (fx t).length with hlt|hge
  ·refine .inl ⟨_,?_,⟨i+1,rfl,hlt⟩,by simp; omega⟩;have e3:w64 ((i:Int)+1)=((i+1:Nat):Int):=by rw [aJ (by omega)]; simp
   have hit:i<t.length:=by omega
   have d1:(decide ((i:Int)<(t.length:Int)) && decide ((i:Int)<16))=true:=by simp; omega
   have hx:(fx t)[i]=gK t[i]:=by simp [fx]
   simp only [bb,bsm,d1,bA,bj hit,vt,e3];have happ:∀x,x=gK t[i]->app ((fx t).take i) [x]=some ((fx t).take (i+1)):=fun x hxx=>by
    rw [cO (by rw [az]; simp; omega),an hlt,hx,hxx]
   cases hv:vld t[i] with
   | true=>
    simp only [bA];rw [happ _ (by simp [gK,hv])];rfl
   | false=>
    simp only [ak,aY];rw [happ _ (by simp [gK,hv])];rfl
  ·obtain rfl:i=(fx t).length:=by omega
   have d1:(decide (((fx t).length:Int)<(t.length:Int)) && decide (((fx t).length:Int)<16))=false:=by simp; omega
   exact .inr (by simp only [bb,bsm,d1,ak,aY]; simp)
end Go.Proofs.YtclmdpamofdoiaaGreatDoor
namespace Go.Proofs.YtclmdpamofdoiaaGreatDoor
open Go Go.Lt
def Sto.sr (s:Sto) (k:Nat) (x:br):Sto:={ s with row_Row:=s.row_Row.set k x}
theorem cY {α:Type}{l:List α}{k:Nat}{x:α}(h:l[k]? = some x):k<l.length:=(List.getElem?_eq_some_iff.1 h).1
theorem ww {s:Sto}{k:Nat}{x:br}(h:k<s.row_Row.length):s.set_row_Row k x=some (s.sr k x):=by
 unfold Sto.set_row_Row;rw [af h];rfl
theorem Hc (s:Sto) (k:Nat) (x:br):(s.sr k x).row_Row.length=s.row_Row.length:=by simp [Sto.sr]
theorem tZ {s:Sto}{k:Nat}{x:br}(h:k<s.row_Row.length):(s.sr k x).row_Row[k]? = some x:=by simp [Sto.sr,h]
theorem zO {s:Sto}{k j:Nat}{x:br}(h:k≠j):(s.sr k x).row_Row[j]? = s.row_Row[j]? :=by simp [Sto.sr,h]
theorem BV (s:Sto) (k:Nat) (x y:br):(s.sr k x).sr k y=s.sr k y:=by simp [Sto.sr]
theorem zP {s:Sto}{k:Nat}{x:br}(h:s.row_Row[k]? = some x):s.sr k x=s:=by
 have:s.row_Row.set k x=s.row_Row:=by
  apply bY;intro j;by_cases hj:k=j
  ·subst hj; rw [bB (cY h),h]
  ·rw [bh hj]
 simp [Sto.sr,this]
theorem Cr (s:Sto) (x:br):(s.add_row_Row x).row_Row[s.row_Row.length]? = some x:=by simp [Sto.add_row_Row]
theorem Ij (s:Sto) (x y:br):(s.add_row_Row x).sr s.row_Row.length y=s.add_row_Row y:=by simp [Sto.sr,Sto.add_row_Row]
variable {s:Sto}{k:Nat}{l:List ab}{w:Bool}
theorem jX (h:s.row_Row[k]? = some ⟨l,w⟩):bU s (some k)=some (l.length:Int):=by simp [bU,h]
theorem wy {c:ab}(h:c.Text.length<=1000000):mQ c=some c:=by
 simp only [mQ,fM,cO (show ([]:List Int).length+c.Text.length<=1099511627776 by simp; omega),bsm,aW]
theorem DS (h:s.row_Row[k]? = some ⟨l,w⟩):kb s (some k)=some w:=by simp [kb,h,bL]
theorem wR (h:s.row_Row[k]? = some ⟨l,w⟩) (on:Bool):fP s (some k) on=some (s.sr k ⟨l,on⟩):=by
 simp [fP,h,ww (cY h)]
theorem td (h:s.row_Row[k]? = some ⟨l,w⟩) (hl:l.length<=1000000) (hs:Sht l):fh s (some k)=some l:=by
 unfold fh;rw [jX h];simp only [bsm];rw [qE (s:=(([]:List ab),(0:Int))) (t:=l) (fun st:List ab×Int=>∃i:Nat,st=(l.take i,(i:Int))/\i<=l.length) (fun st=>l.length-st.2.toNat) ?_ ⟨0,rfl,bT _⟩ (by simp)]
 ·rfl
 ·rintro st ⟨i,rfl,hi⟩;rcases aU i l.length with hlt|hge
  ·refine .inl ⟨(l.take (i+1),((i+1:Nat):Int)),?_,⟨i+1,rfl,hlt⟩,by simp; omega⟩;have e3:w64 ((i:Int)+1)=((i+1:Nat):Int):=by rw [aJ (by omega)]; simp
   simp only [nI,hlt,kL,bA,bsm,h,bj hlt,wy (hs i hlt),e3];rw [cO (by rw [az]; simp; omega),an hlt];rfl
  ·obtain rfl:i=l.length:=by omega
   exact .inr (by simp)
theorem Ac (h:s.row_Row[k]? = some ⟨l,w⟩){i:Nat}(hi:i<l.length) (hs:Sht l):gX s (some k) i=some (l[i],true):=by
 unfold gX;rw [jX h];simp only [bsm,bu];rw [ae (by simp; omega)];simp only [h,bsm,bj hi,wy (hs i hi)]
theorem Ab (h:s.row_Row[k]? = some ⟨l,w⟩) (i:Nat):iS s (some k) i=some (kd l i):=by
 unfold iS;rw [jX h];simp only [bsm,bu];by_cases hi:i<l.length
 ·rw [ae (by simp; omega)];simp only [h,bsm,bj hi,lW hi]
 ·rw [af (by simp; omega),nS (by omega)]
theorem yS (h:s.row_Row[k]? = some ⟨l,w⟩){i:Nat}(hi:i<l.length) (hl:l.length<=1000000){c:ab}(hc:c.Text.length<=1000000):
  gO s (some k) i c=some (s.sr k ⟨l.set i c,w && !decide (i+1=l.length)⟩):=by
 unfold gO;have e:w64 (((l.set i c).length:Int)-1)=(l.length:Int)-1:=by rw [cz,aJ (by omega)]
 simp only [h,bsm,wy hc,bj hi,lj hi,ww (cY h),e];by_cases hn:i+1=l.length
 ·rw [af (by simp; omega),ww (by rw [Hc]; exact cY h),BV];simp [hn]
 ·rw [ae (by simp; omega)];simp [hn]
def sd (n:Int):Nat:=(max 1 (min n 1024)).toNat
theorem uC (n:Int):1<=sd n/\sd n<=1024:=by unfold sd; omega
theorem BZ {n:Nat}(h:1<=n) (h2:n<=1024):sd n=n:=by unfold sd; omega
theorem vM (n:Int):eY n=some (List.replicate (max 0 (min n 1024)).toNat bl):=by
 unfold eY;simp only [fK,dL];rw [pJ _ (by omega)];rfl
theorem yT (n:Int):lO s n=some (s.add_row_Row ⟨List.replicate (sd n) bl,false⟩,some s.row_Row.length):=by
 unfold lO;rw [vM];simp only [bsm,fK];rw [show (max 0 (min (max 1 n) 1024)).toNat=sd n by unfold sd; omega]
theorem vi (n:Nat):Snd (List.replicate n bl):=fun i h=>by
 rw [jR];exact ⟨rfl,fun h=>by simp [bl] at h,fun h=>by simp [bl] at h⟩
theorem Hn (hl:1<=l.length) (hl2:l.length<=1024) (hs:Snd l):su s l=some (s.add_row_Row ⟨l,false⟩,some s.row_Row.length,Er.nil):=by
 unfold su;obtain ⟨b,h1,h2⟩:=xp l (by omega);have hb:b=true:=h2.2 hs;subst hb;simp only [bu,bsm,h1];rw [ae (by rw [aC,aQ,am]; omega),ae (by simp),yT,BZ hl hl2];simp only [bsm];rw [qE (s:=((0:Int),s.add_row_Row ⟨List.replicate l.length bl,false⟩)) (t:=s.add_row_Row ⟨l,false⟩) (fun st:Int×Sto=>∃i:Nat,st=((i:Int),s.add_row_Row ⟨l.take i++List.replicate (l.length-i) bl,false⟩)/\i<=l.length) (fun st=>l.length-st.1.toNat) ?_ ⟨0,by simp,bT _⟩ (by simp)]
 ·rfl
 ·rintro st ⟨i,rfl,hi⟩;rcases aU i l.length with hlt|hge
  ·refine .inl ⟨_,?_,⟨i+1,rfl,hlt⟩,by simp; omega⟩;have e3:w64 ((i:Int)+1)=((i+1:Nat):Int):=by rw [aJ (by omega)]; simp
   have hlen:(l.take i++List.replicate (l.length-i) bl).length=l.length:=by simp; omega
   simp only [nI,hlt,kL,bA,bj hlt,bsm,Cr,wy (hs.sht i hlt),e3];rw [bj (show i<(l.take i++List.replicate (l.length-i) bl).length by omega)];simp only [bsm];rw [lj (show i<(l.take i++List.replicate (l.length-i) bl).length by omega)];simp only [bsm];rw [ww (cY (Cr _ _)),Ij];simp only [bsm];have:(l.take i++List.replicate (l.length-i) bl).set i l[i]=l.take (i+1)++List.replicate (l.length-(i+1)) bl:=by
    rw [iF _ _ (by rw [az]; omega),az,cL hi,dG,show l.length-i=(l.length-(i+1))+1 by omega,List.replicate_succ,sY,an hlt,aL];rfl
   rw [this]
  ·obtain rfl:i=l.length:=by omega
   exact .inr (by simp)
def tch (l:List ab) (a n j:Nat):Bool:=(decide (a<=j) && decide (j<a+n)) || (decide (kd l j=2) && decide (a<=j+1) && decide (j+1<a+n)) || (decide (kd l j=3) && decide (a+1<=j) && decide (j<a+n+1))
def pc (l:List ab) (a:Nat) (p:List ab) (j:Nat):ab:=
 if a<=j/\j<a+p.length then p.getD (j-a) bl else if tch l a p.length j=true then bl else l.getD j bl
def pl (l:List ab) (a:Nat) (p:List ab):List ab:=(List.range l.length).map (pc l a p)
def pw (l:List ab) (w:Bool) (a n:Nat):Bool:=w && !(decide (0<l.length) && tch l a n (l.length-1))
theorem kp (l:List ab) (a:Nat) (p:List ab):(pl l a p).length=l.length:=by simp [pl]
theorem vy {a:Nat}{p:List ab}{j:Nat}(h:j<l.length):(pl l a p)[j]? = some (pc l a p j):=by simp [pl,h]
theorem GS {a:Nat}{p:List ab}{j:Nat}(h:j<(pl l a p).length):(pl l a p)[j]=pc l a p j:=by simp [pl]
theorem Em {a:Nat}{p:List ab}{j:Nat}(h:j<l.length):kd (pl l a p) j=(pc l a p j).Kind:=by simp [kd,vy h]
theorem Snd.two (h:Snd l){j:Nat}(hj:kd l j=2):kd l (j+1)=3:=by
 have hlt:j<l.length:=by
  rcases aU j l.length with h|h
  ·exact h
  ·rw [nS h] at hj; cases hj
 exact (h j hlt).2.1 (by rw [<-lW hlt]; exact hj)
theorem Snd.three (h:Snd l){j:Nat}(hj:kd l j=3):0<j/\kd l (j-1)=2:=by
 have hlt:j<l.length:=by
  rcases aU j l.length with h|h
  ·exact h
  ·rw [nS h] at hj; cases hj
 exact (h j hlt).2.2 (by rw [<-lW hlt]; exact hj)
theorem vU {j:Nat}(h:kd l j≠0):j<l.length:=by
 rcases aU j l.length with h'|h'
 ·exact h'
 ·exact absurd (nS h') h
theorem Snd.rg (h:Snd l){j:Nat}(hj:j<l.length):rgt (l.getD j bl)=true:=by
 rw [aw,ag hj];exact (h j hj).1
theorem oT (l:List ab) (j:Nat):(l.getD j bl).Kind=kd l j:=by
 rw [aw,kd]
 cases l[j]? <;> rfl
theorem Snd.paint {a:Nat}{p:List ab}(h:Snd l) (hp:Snd p) (ha:a+p.length<=l.length):Snd (pl l a p):=fun j hj=>by
 rw [kp] at hj;rw [GS];have kpc:∀i,i<l.length->(pc l a p i).Kind=if a<=i/\i<a+p.length then kd p (i-a) else if tch l a p.length i=true then 0 else kd l i:=fun i hi=>by
  unfold pc;split
  ·exact oT _ _
  ·split
   ·rfl
   ·exact oT _ _
 have kall:∀i,kd (pl l a p) i=if i<l.length then (if a<=i/\i<a+p.length then kd p (i-a) else if tch l a p.length i=true then 0 else kd l i) else 0:=fun i=>by
  by_cases hi:i<l.length
  ·rw [af hi,Em hi,kpc i hi]
  ·rw [ae hi,nS (by rw [kp]; omega)]
 refine ⟨?_,fun h2=>?_,fun h3=>?_⟩
 ·unfold pc;split
  ·exact hp.rg (by omega)
  ·split
   ·rfl
   ·exact h.rg hj
 ·rw [kpc j hj] at h2;rw [kall];by_cases hin:a<=j/\j<a+p.length
  ·rw [af hin] at h2;have h4:=hp.two h2;have h5:j-a+1<p.length:=vU (by rw [h4]; decide);rw [af (by omega),af (by omega),show j+1-a=j-a+1 by omega]; exact h4
  ·rw [ae hin] at h2;split at h2
   ·cases h2
   ·rename_i ht
    have h4:=h.two h2;have h5:j+1<l.length:=vU (by rw [h4]; decide);simp only [tch,h2,kL,dO,aC,aA,am,HE,An] at ht;have h6:¬(a<=j+1/\j+1<a+p.length):=by omega
    have h7:¬tch l a p.length (j+1)=true:=by
     simp only [tch,h4,aC,aA,am];omega
    rw [af h5,ae h6,ae h7]; exact h4
 ·rw [kpc j hj] at h3;by_cases hin:a<=j/\j<a+p.length
  ·rw [af hin] at h3;have h4:=hp.three h3;refine ⟨by omega,?_⟩;rw [kall,af (by omega),af (by omega),show j-1-a=j-a-1 by omega]; exact h4.2
  ·rw [ae hin] at h3;split at h3
   ·cases h3
   ·rename_i ht
    have h4:=h.three h3;refine ⟨h4.1,?_⟩;simp only [tch,h3,kL,dO,aC,aA,am,HE,An] at ht;have h6:¬(a<=j-1/\j-1<a+p.length):=by omega
    have h7:¬tch l a p.length (j-1)=true:=by
     simp only [tch,h4.2,aC,aA,am];omega
    rw [kall,af (by omega),ae h6,ae h7]; exact h4.2
theorem vu (l:List ab) (w:Bool) (a:Nat) (p:List ab) (hl:l.length<=1000000) (ha:a<=1000000) (hp:p.length<=1000000):eO l w a p=some (pl l a p,pw l w a p.length):=by
 unfold eO;rw [qE (s:=(w,([]:List ab),(0:Int))) (t:=(pw l w a p.length,pl l a p)) (fun st:Bool×List ab×Int=>∃i:Nat,st=(if i<l.length then w else pw l w a p.length,(pl l a p).take i,(i:Int))/\i<=l.length) (fun st=>l.length-st.2.2.toNat) ?_ ⟨0,?_,bT _⟩ (by simp)]
 ·rfl
 ·rintro st ⟨i,rfl,hi⟩;rcases aU i l.length with hlt|hge
  ·refine .inl ⟨_,?_,⟨i+1,rfl,hlt⟩,by simp; omega⟩;have e3:w64 ((i:Int)+1)=((i+1:Nat):Int):=by rw [aJ (by omega)]; simp
   have e4:w64 ((a:Int)+(p.length:Int))=((a+p.length:Nat):Int):=by rw [aJ (by omega)]; simp
   have e5:w64 ((i:Int)-(a:Int))=(i:Int)-a:=aJ (by omega);have e6:w64 ((i:Int)-1)=(i:Int)-1:=aJ (by omega);have hd:decide ((i:Int)<(l.length:Int))=true:=by simp; exact hlt
   simp only [hd,bA,af hlt,bj hlt,bsm,bb,bu,e3,e4,e5,e6];have happ:∀x:ab,x=pc l a p i->app ((pl l a p).take i) [x]=some ((pl l a p).take (i+1)):=fun x hx=>by
    subst hx;rw [cO (by rw [az,kp]; simp; omega),an (show i<(pl l a p).length by rw [kp]; exact hlt),GS]
   by_cases hin:a<=i/\i<a+p.length
   ·have c1:(decide ((i:Int)>=a) && decide ((i:Int)<((a+p.length:Nat):Int)))=true:=by simp; omega
    obtain ⟨q,hq⟩:∃q:Nat,q=i-a:=⟨_,rfl⟩;have c2:(i:Int)-a=(q:Int):=by omega
    have hqp:q<p.length:=by omega
    simp only [c1,bA,c2,bj hqp,bsm,dA,iu,nE,ak,aY,Bool.true_or,GL];rw [happ ⟨p[q].Kind,p[q].Text⟩ (by rw [pc,af hin,<-hq,aw,ag hqp]; rfl)];by_cases hn:i+1=l.length
    ·have c3:(((i+1:Nat):Int)==(l.length:Int))=true:=by simp; omega
     have c4:pw l w a p.length=false:=by
      have:tch l a p.length (l.length-1)=true:=by simp [tch]; omega
      simp [pw,this]; omega
     simp only [c3,bA,bsm,c4];rw [ae (by omega)]
    ·have c3:(((i+1:Nat):Int)==(l.length:Int))=false:=by simp; omega
     simp only [c3,ak,aY,bsm];rw [af (show i+1<l.length by omega)]
   ·have c1:(decide ((i:Int)>=a) && decide ((i:Int)<((a+p.length:Nat):Int)))=false:=by simp; omega
    have c5:((l[i].Kind==2 && decide (((i+1:Nat):Int)>=a) && decide (((i+1:Nat):Int)<((a+p.length:Nat):Int))) || (l[i].Kind==3 && decide ((i:Int)-1>=a) && decide ((i:Int)-1<((a+p.length:Nat):Int))))=tch l a p.length i:=by
     rw [cu];simp only [tch,lW hlt,aC,aA,aQ,am];omega
    simp only [c1,ak,aY,bsm,fe,ip,jT,dO];simp only [c5]
    cases ht:tch l a p.length i with
    | true=>
     simp only [bA,bsm,GL];rw [happ ⟨0,[]⟩ (by rw [pc,ae hin,af ht]; rfl)];by_cases hn:i+1=l.length
     ·have c3:(((i+1:Nat):Int)==(l.length:Int))=true:=by simp; omega
      have c4:pw l w a p.length=false:=by
       have e:l.length-1=i:=by omega
       simp [pw,e,ht]; omega
      simp only [c3,bA,bsm,c4];rw [ae (by omega)]
     ·have c3:(((i+1:Nat):Int)==(l.length:Int))=false:=by simp; omega
      simp only [c3,ak,aY,bsm];rw [af (show i+1<l.length by omega)]
    | false=>
     simp only [ak,aY,bsm,Ff];rw [happ ⟨l[i].Kind,l[i].Text⟩ (by rw [pc,ae hin,ae (by simp [ht]),aw,ag hlt]; rfl)];by_cases hn:i+1=l.length
     ·have c4:pw l w a p.length=w:=by
       have e:l.length-1=i:=by omega
       simp [pw,e,ht]
      simp only [bsm,c4,ite_self]
     ·simp only [bsm];rw [af (show i+1<l.length by omega)]
  ·obtain rfl:i=l.length:=by omega
   refine .inr ?_;have e:(pl l a p).take l.length=pl l a p:=aB (by rw [kp]; exact aq _);simp [e]
 ·by_cases h0:0<l.length
  ·simp [h0]
  ·simp [h0,pw]
end Go.Proofs.YtclmdpamofdoiaaGreatDoor
namespace Go.Proofs.YtclmdpamofdoiaaGreatDoor
open Go Go.Lt
variable {s:Sto}{k:Nat}{l p:List ab}{w:Bool}
theorem C5 {i j:Nat}(h:i≠j) (c:ab):kd (l.set i c) j=kd l j:=by simp [kd,bh h]
theorem pZ (h:s.row_Row[k]? = some ⟨l,w⟩) (hs:Snd l) (hl:l.length<=1024) (hp:Snd p){a:Nat}(hn:1<=p.length) (ha:a+p.length<=l.length):
  ez s (some k) a p=some (s.sr k ⟨pl l a p,pw l w a p.length⟩,Er.nil):=by
 unfold ez;have hk:=cY h;obtain ⟨b,hb1,hb2⟩:=xp p (by omega);have hb:b=true:=hb2.2 hp;subst hb;have e1:w64 ((l.length:Int)-(a:Int))=(l.length:Int)-a:=aJ (by omega);have e2:w64 ((a:Int)+(p.length:Int))=((a+p.length:Nat):Int):=by rw [aJ (by omega)]; simp
 have o1:decide ((a:Int)<0)=false:=by simp
 have o2:decide ((a:Int)>(l.length:Int))=false:=by simp; omega
 have o3:decide ((p.length:Int)>(l.length:Int)-(a:Int))=false:=by simp; omega
 have o4:((p.length:Int)==0)=false:=by rw [fG]; omega
 simp only [bS,ig,o1,o2,o3,o4,h,e1,e2,hb1,bsm,ak,aY,dA,Ab h a];obtain ⟨l1,hl1⟩:∃l1,l1=if kd l a=3 then l.set (a-1) bl else l:=⟨_,rfl⟩;have hlen1:l1.length=l.length:=by rw [hl1]; split <;> simp
 have left:(if (kd l a==3)=true then (gO s (some k) (w64 ((a:Int)-1)) (⟨0,([]:List Int)⟩:ab)).bind fun x_60=>(some x_60:Option Sto) else (some s:Option Sto))=some (s.sr k ⟨l1,w⟩):=by
  by_cases h3:kd l a=3
  ·have h4:=hs.three h3;have h5:a<l.length:=vU (by rw [h3]; decide);rw [af (by simpa using h3),show w64 ((a:Int)-1)=((a-1:Nat):Int) by rw [aJ (by omega)]; omega,yS h (by omega) (by omega) (by simp)];rw [hl1,af h3];have:decide (a-1+1=l.length)=false:=by simp; omega
   simp only [bsm,this,fe,GL];rfl
  ·rw [ae (by simpa using h3),hl1,ae h3,zP h]
 rw [left];simp only [bsm];obtain ⟨l2,hl2⟩:∃l2,l2=if kd l (a+p.length)=3 then l1.set (a+p.length) bl else l1:=⟨_,rfl⟩;obtain ⟨w2,hw2⟩:∃w2,w2=(w && !(decide (kd l (a+p.length)=3) && decide (a+p.length+1=l.length))):=⟨_,rfl⟩;have hlen2:l2.length=l.length:=by rw [hl2]; split <;> simp [hlen1]
 have hget1:(s.sr k ⟨l1,w⟩).row_Row[k]? = some ⟨l1,w⟩:=tZ hk;have hkd1:kd l1 (a+p.length)=kd l (a+p.length):=by
  rw [hl1]; split
  ·exact C5 (by omega) _
  ·rfl
 have right:((iS (s.sr k ⟨l1,w⟩) (some k) ((a+p.length:Nat):Int)).bind fun x_71=>
   if (x_71==3)=true then
   (gO (s.sr k ⟨l1,w⟩) (some k) ((a+p.length:Nat):Int) (⟨0,([]:List Int)⟩:ab)).bind fun x_77=>
   (some x_77:Option Sto)
   else
   (some (s.sr k ⟨l1,w⟩):Option Sto))=some (s.sr k ⟨l2,w2⟩):=by
  rw [Ab hget1,hkd1];simp only [bsm];by_cases h3:kd l (a+p.length)=3
  ·have h5:a+p.length<l.length:=vU (by rw [h3]; decide);rw [af (by simpa using h3),yS hget1 (by omega) (by omega) (by simp)];simp only [bsm,BV];rw [hl2,af h3,hw2,hlen1];simp only [h3,kL,dO];rfl
  ·rw [ae (by simpa using h3),hl2,ae h3,hw2];simp [h3]
 rw [right];simp only [bsm];rw [qE (s:=((0:Int),s.sr k ⟨l2,w2⟩)) (t:=s.sr k ⟨l2.take a++p++l2.drop (a+p.length),w2 && !decide (a+p.length=l.length)⟩)
  (fun st:Int×Sto=>∃i:Nat,st=((i:Int),s.sr k ⟨l2.take a++p.take i++l2.drop (a+i),w2 && !(decide (0<i) && decide (a+i=l.length))⟩)/\i<=p.length) (fun st=>p.length-st.1.toNat) ?_ ⟨0,?_,bT _⟩ (by simp)]
 ·simp only [bsm,aV,iP,xF]
  congr 1
  congr 1
  ·
   apply bY;intro j;rcases aU j l.length with hj|hj
   ·rw [vy hj];have g1:∀j,j<l.length->j≠a+p.length->l1[j]? = some (if kd l a=3/\j=a-1 then bl else l.getD j bl):=fun j hj _=>by
     rw [hl1];split
     ·rename_i h3
      by_cases hja:j=a-1
      ·subst hja;rw [bB (by omega),af ⟨h3,rfl⟩]
      ·rw [bh (vN hja),ae (fun e=>hja e.2),ag hj,aw,ag hj]; rfl
     ·rename_i h3
      rw [ae (fun e=>h3 e.1),ag hj,aw,ag hj]; rfl
    have lw:(l2.take a).length=a:=by rw [az]; omega
    rcases aU j a with hja|hja
    ·rw [aL,aG (by omega),aX,af hja];have e:l2[j]? = l1[j]? :=by
      rw [hl2]; split
      ·exact bh (by omega)
      ·rfl
     have hp0:¬(a<=j/\j<a+p.length):=by omega
     rw [e,g1 j hj (by omega),pc,ae hp0]
     congr 1
     by_cases hc:kd l a=3/\j=a-1
     ·rw [af hc,af];have h4:=hs.three hc.1;simp only [tch,aC,aA,am];refine .inl (.inr ⟨⟨?_,?_⟩,?_⟩)
      ·rw [hc.2]; exact h4.2
      ·omega
      ·omega
     ·rw [ae hc,ae];simp only [tch,aC,aA,am,HE,An];refine ⟨⟨fun h=>by omega,fun h2=>?_⟩,fun h=>by omega⟩;have h3:=hs.two h2.1;have:j+1=a:=by omega
      rw [this] at h3;exact absurd ⟨h3,by omega⟩ hc
    ·rcases aU j (a+p.length) with hjn|hjn
     ·rw [aL,aM (by omega),aG (by omega),lw,pc,af ⟨hja,hjn⟩,aw,ag (by omega)];rfl
     ·rw [aM (by rw [ao]; omega),bW,ao,lw,show a+p.length+(j-(a+p.length))=j by omega];rw [pc,ae (by omega)];by_cases hc:kd l (a+p.length)=3/\j=a+p.length
      ·rw [hl2,af hc.1,hc.2,bB (by omega),af];simp only [tch,aC,aA,am];exact .inr ⟨⟨hc.1,by omega⟩,by omega⟩
      ·have e:l2[j]? = some (l.getD j bl):=by
        have e2:l1[j]? = some (l.getD j bl):=by
         rw [hl1]; split
         ·rw [bh (by omega),aw,ag hj]; rfl
         ·rw [aw,ag hj]; rfl
        rw [hl2]; split
        ·rename_i h3
         rw [bh (fun e=>hc ⟨h3,e.symm⟩),e2]
        ·exact e2
       rw [e,ae];simp only [tch,aC,aA,am,HE,An];refine ⟨⟨fun h=>by omega,fun h=>by omega⟩,fun h2=>?_⟩;intro h4;have:j=a+p.length:=by omega
       exact hc ⟨by rw [<-this]; exact h2.1,this⟩
   ·rw [aT (l:=pl l a p) (by rw [kp]; exact hj),aT (by simp only [ao,az,bm]; omega)]
  ·
   rw [hw2,pw,Bool.and_assoc]
   congr 1
   rw [<-Bool.not_or]
   congr 1
   have h2:kd l (l.length-1)≠2:=fun h2=>by
    have:=hs.two h2;rw [show l.length-1+1=l.length by omega,nS (aq _)] at this;cases this
   rw [cu];simp only [tch,aC,aA,am];constructor
   ·rintro (⟨h3,h4⟩|h4)
    ·refine ⟨by omega,.inr ⟨⟨?_,by omega⟩,by omega⟩⟩;rw [show l.length-1=a+p.length by omega]; exact h3
    ·exact ⟨by omega,.inl (.inl ⟨by omega,by omega⟩)⟩
   ·rintro ⟨h0,(⟨h3,h4⟩|⟨⟨h3,_⟩,_⟩)|⟨⟨h3,h4⟩,h5⟩⟩
    ·exact .inr (by omega)
    ·exact absurd h3 h2
    ·by_cases hx:a+p.length=l.length
     ·exact .inr hx
     ·have:l.length-1=a+p.length:=by omega
      exact .inl ⟨by rw [<-this]; exact h3,by omega⟩
 ·rintro st ⟨i,rfl,hi⟩;rcases aU i p.length with hlt|hge
  ·refine .inl ⟨_,?_,⟨i+1,rfl,hlt⟩,by simp; omega⟩;have e3:w64 ((i:Int)+1)=((i+1:Nat):Int):=by rw [aJ (by omega)]; simp
   have e4:w64 ((a:Int)+(i:Int))=((a+i:Nat):Int):=by rw [aJ (by omega)]; simp
   have hd:decide ((i:Int)<(p.length:Int))=true:=by simp; exact hlt
   have hli:(l2.take a++p.take i++l2.drop (a+i)).length=l.length:=by
    simp only [ao,az,bm]; omega
   simp only [hd,bA,bj hlt,bsm,e3,e4];rw [yS (tZ hk) (by rw [hli]; omega) (by rw [hli]; omega) (hp.sht i hlt)];simp only [bsm,BV,hli];have hset:(l2.take a++p.take i++l2.drop (a+i)).set (a+i) p[i]=l2.take a++p.take (i+1)++l2.drop (a+(i+1)):=by
    have hx:(l2.take a++p.take i).length=a+i:=by simp only [ao,az]; omega
    rw [iF _ _ (by omega),hx,dG,fE (show a+i<l2.length by omega),sY,an hlt];simp only [aL,bP,aW,ur]
   rw [hset];have hwe:((w2 && !(decide (0<i) && decide (a+i=l.length))) && !decide (a+i+1=l.length))=(w2 && !(decide (0<i+1) && decide (a+(i+1)=l.length))):=by
    have:decide (a+i=l.length)=false:=by simp; omega
    rw [this];simp [ur]
   rw [hwe]
  ·obtain rfl:i=p.length:=by omega
   refine .inr ?_;have:decide (0<p.length)=true:=by simp; omega
   simp [this]
 ·simp
def cl (n:Int) (m:Nat):Nat:=(max 0 (min n m)).toNat
theorem oN (n:Int) (m:Nat):cl n m<=m:=by unfold cl; omega
end Go.Proofs.YtclmdpamofdoiaaGreatDoor
namespace Go.Proofs.YtclmdpamofdoiaaGreatDoor
open Go Go.Lt
variable {s:Sto}{g k W:Nat}{ks:List Nat}{l p:List ab}{w:Bool}
def Sto.sg (s:Sto) (g:Nat) (x:ck):Sto:={ s with grid_Grid:=s.grid_Grid.set g x}
theorem zS {x:ck}(h:g<s.grid_Grid.length):s.set_grid_Grid g x=some (s.sg g x):=by
 simp only [Sto.set_grid_Grid,h,bA];rfl
theorem DI {x:ck}(h:g<s.grid_Grid.length):(s.sg g x).grid_Grid[g]? = some x:=by simp [Sto.sg,h]
theorem IC (s:Sto) (g:Nat) (x y:ck):(s.sg g x).sg g y=s.sg g y:=by simp [Sto.sg]
theorem ID {x:ck}(h:s.grid_Grid[g]? = some x):s.sg g x=s:=by
 obtain ⟨h1,h2⟩:=List.getElem?_eq_some_iff.1 h;unfold Sto.sg;rw [<-h2,Is]
def ln (s:Sto) (k:Nat):aj:=match s.row_Row[k]? with|some r=>⟨r.cells,r.wrap⟩|none=>⟨[],false⟩
theorem oX {r:br}(h:s.row_Row[k]? = some r):ln s k=⟨r.cells,r.wrap⟩:=by simp [ln,h]
def Rw (s:Sto) (W k:Nat):Prop:=∃r,s.row_Row[k]? = some r/\Snd r.cells/\r.cells.length=W
structure Gw (s:Sto) (g:Nat) (ks:List Nat) (W:Nat):Prop where
 g:s.grid_Grid[g]? = some ⟨ks.map some⟩
 r:∀k∈ks,Rw s W k
 h1:1<=ks.length
 h2:ks.length<=1024
 w1:1<=W
 w2:W<=1024
theorem Gw.at (h:Gw s g ks W){i:Nat}(hi:i<ks.length):Rw s W ks[i]:=h.r _ (aF hi)
theorem eM (h:Gw s g ks W):bQ s (some g)=some (ks.length:Int):=by simp [bQ,h.g]
theorem fL (h:Gw s g ks W){i:Nat}(hi:i<ks.length):bF s (some g) i=some (some ks[i]):=by
 unfold bF;rw [eM h];simp only [bsm,bu];rw [ae (by simp; omega)];simp only [bsm,h.g];rw [bj (by simpa using hi)];simp
theorem uM (h:Gw s g ks W){i:Int}(hi:i<0\/(ks.length:Int)<=i):bF s (some g) i=some none:=by
 unfold bF;rw [eM h];simp only [bsm,bu];rw [af (by simp; omega)]
theorem yH (h:Rw s W k):bU s (some k)=some (W:Int):=by
 obtain ⟨r,h1,_,h3⟩:=h;rw [jX (l:=r.cells) (w:=r.wrap) h1,h3]
theorem jE (h:Gw s g ks W):ci s (some g)=some (W:Int):=by
 unfold ci;rw [show (0:Int)=((0:Nat):Int) from rfl,fL h (show 0<ks.length from h.h1)];simp only [bsm];rw [yH (h.at h.h1)];rfl
theorem Az (h:Gw s g ks W){i:Nat}(hi:i<ks.length) (hk:Rw s W k):fi s (some g) i (some k)=some (s.sg g ⟨(ks.set i k).map some⟩,true):=by
 unfold fi;rw [fL h hi];simp only [bsm,yH (h.at hi),yH hk,bS,ig];rw [ae (by simp)];simp only [h.g,bsm];rw [bj (by simpa using hi),lj (by simpa using hi)];simp only [bsm];rw [zS (cY h.g)];simp
theorem Gw.set (h:Gw s g ks W){i:Nat}(hk:Rw s W k):Gw (s.sg g ⟨(ks.set i k).map some⟩) g (ks.set i k) W:=
 ⟨DI (cY h.g),fun j hj=>by
  rcases Fg hj with hj|rfl
  ·exact h.r j hj
  ·exact hk,by simpa using h.h1,by simpa using h.h2,h.w1,h.w2⟩
theorem xk (h:Gw s g ks W):il s (some g)=some (ks.map (ln s)):=by
 have hh:=h.h2;have hw:=h.w2;unfold il;rw [eM h];simp only [bsm];obtain ⟨t,h1,h2⟩:=eV (σ:=(List aj)×Int) (τ:=List aj) (n:=ks.length) (fuel:=((ks.length:Int)-0).toNat+1) (s:=(([]:List aj),0))
  (fun i q=>q=((ks.take i).map (ln s),(i:Int))) (fun t=>t=ks.map (ln s))
  (step:=fun s_9=>
 if decide (s_9.2<(ks.length:Int)) then
 (s.grid_Grid[g]?).bind fun o_19=>
 (idx o_19.rows s_9.2).bind fun x_21=>
 (idx o_19.rows s_9.2).bind fun x_28=>
 (fh s x_21).bind fun x_30=>
 (kb s x_28).bind fun x_31=>
 (app s_9.1 ([(⟨x_30,x_31⟩:aj)]:List aj)).bind fun x_34=>
 some (.inl (x_34,(w64 (s_9.2+1))))
 else
 some (.inr s_9.1))
  (fun i q hi e=>by
   subst e;refine .inl ⟨_,?_,rfl⟩;obtain ⟨r,r1,r2,r3⟩:=h.at hi;have e5:w64 ((i:Int)+1)=((i+1:Nat):Int):=by rw [aJ (by omega)]; simp
   have hd:decide ((i:Int)<(ks.length:Int))=true:=by simp; exact hi
   have hi2:i<(ks.map some).length:=by simpa using hi
   simp only [hd,bA,bsm,h.g,bj hi2,eB,e5];rw [td (l:=r.cells) (w:=r.wrap) r1 (by omega) r2.sht,DS (l:=r.cells) (w:=r.wrap) r1];simp only [bsm];rw [cO (by simp; omega)];simp only [bsm];rw [an hi,bC];simp [oX r1])
  (fun q e=>⟨_,by subst e; simp,rfl⟩)
  (by simp) (by omega)
 subst h2;rw [h1];rfl
def Okl (W:Nat) (x:aj):Prop:=Snd x.Cells/\x.Cells.length=W
theorem Bv {a:List aj}(ha:a.length<=1000000) (hs:∀x∈a,x.Cells.length<=1000000/\Sht x.Cells):fy a a=some true:=by
 unfold fy;rw [ae (by simp)];obtain ⟨t,h1,h2⟩:=eV (σ:=Int) (τ:=Bool ⊕ Unit) (n:=a.length) (fuel:=((a.length:Int)-0).toNat+1) (s:=0)
  (fun i q=>q=(i:Int)) (fun t=>t= .inr ())
  (step:=fun s_13=>
 if decide (s_13<(a.length:Int)) then
 (idx a s_13).bind fun x_21=>
 (idx a s_13).bind fun x_26=>
 (orE (!(x_21.Wrap==x_26.Wrap)) ((idx a s_13).bind fun x_34=>
 (idx a s_13).bind fun x_39=>
 (ep x_34.Cells x_39.Cells).bind fun x_42=>
 some (!x_42))).bind fun d_30=>
 if d_30 then
 some (.inr (.inl false))
 else
 some (.inl ((w64 (s_13+1))))
 else
 some (.inr (.inr ())))
  (fun i q hi e=>by
   subst e;refine .inl ⟨_,?_,rfl⟩;have hm:=hs _ (aF hi);have e5:w64 ((i:Int)+1)=((i+1:Nat):Int):=by rw [aJ (by omega)]; simp
   have hd:decide ((i:Int)<(a.length:Int))=true:=by simp; exact hi
   simp only [hd,bA,bj hi,bsm,e5,CJ (show a[i].Cells.length<=9223372036854775807 by omega) hm.2,uY,dA,ig,ak,aY])
  (fun q e=>⟨_,by subst e; simp,rfl⟩)
  rfl (by omega)
 subst h2;rw [h1];rfl
theorem xL (h:Gw s g ks W):∀x∈ks.map (ln s),Okl W x:=fun x hx=>by
 obtain ⟨k,hk,rfl⟩:=List.mem_map.1 hx;obtain ⟨r,r1,r2,r3⟩:=h.r k hk;rw [oX r1];exact ⟨r2,r3⟩
theorem Bi {a:List aj}(ha:a.length<=1024) (hw:W<=1024) (hs:∀x∈a,Okl W x):fy a a=some true:=
 Bv (by omega) fun x hx=>⟨by rw [(hs x hx).2]; omega,(hs x hx).1.sht⟩
theorem Hb {a b:Sto}(h1:a.row_Row=b.row_Row) (h2:a.grid_Grid=b.grid_Grid) (h3: { a with row_Row:=b.row_Row,grid_Grid:=b.grid_Grid}=b):a=b:=
 Eq.trans (show a= { a with row_Row:=b.row_Row,grid_Grid:=b.grid_Grid} by rw [<-h1,<-h2]) h3
def Sto.rst (s:Sto):Sto:={ s with row_Row:=[],grid_Grid:=[]}
def Sto.oth (s:Sto):Sto:={ s with row_Row:=[],grid_Grid:=[],place_Pen:=[]}
theorem lL {a b:Sto}(h:a.rst=b.rst):a.place_Pen=b.place_Pen:=by
 have:=eZ Sto.place_Pen h;exact this
theorem tc {a b:Sto}(h:a.rst=b.rst):a.oth=b.oth:=by
 have:=eZ (fun x:Sto=>({ x with place_Pen:=[]}:Sto)) h;exact this
def Sto.addr (s:Sto) (xs:List br):Sto:={ s with row_Row:=s.row_Row++xs}
theorem E0 (s:Sto) (xs:List br):(s.addr xs).row_Row.length=s.row_Row.length+xs.length:=by simp [Sto.addr]
theorem A0 {xs:List br}(h:k<s.row_Row.length):(s.addr xs).row_Row[k]? = s.row_Row[k]? :=aG h
theorem vd {xs:List br}{i:Nat}(h:i<xs.length):(s.addr xs).row_Row[s.row_Row.length+i]? = some xs[i]:=by
 simp [Sto.addr,aM,h]
theorem E2 (s:Sto) (xs:List br) (x:br):(s.addr xs).add_row_Row x=s.addr (xs++ [x]):=by simp [Sto.addr,Sto.add_row_Row]
theorem A1 (s:Sto):s.addr []=s:=by simp [Sto.addr]
theorem Rw.lt (h:Rw s W k):k<s.row_Row.length:=by obtain ⟨r,h,_⟩:=h; exact cY h
theorem Rw.addr {xs:List br}(h:Rw s W k):Rw (s.addr xs) W k:=by
 obtain ⟨r,h1,h2⟩:=h;exact ⟨r,by rw [A0 (cY h1)]; exact h1,h2⟩
theorem Gw.addr {xs:List br}(h:Gw s g ks W):Gw (s.addr xs) g ks W:=⟨h.g,fun k hk=>(h.r k hk).addr,h.h1,h.h2,h.w1,h.w2⟩
theorem xd {xs:List br}(h:k<s.row_Row.length):ln (s.addr xs) k=ln s k:=by unfold ln; rw [A0 h]
theorem Eh {xs:List br}{i:Nat}(h:i<xs.length):ln (s.addr xs) (s.row_Row.length+i)=⟨xs[i].cells,xs[i].wrap⟩:=oX (vd h)
def lr (x:aj):br:=⟨x.Cells,x.Wrap⟩
theorem GW {L:List aj}(h1:1<=L.length) (h2:L.length<=1024)
  (hok:∀i (h:i<L.length),1<=L[i].Cells.length/\L[i].Cells.length<=1024/\Snd L[i].Cells/\L[i].Cells.length=(L[0]'(by omega)).Cells.length):
  Gw ((s.addr (L.map lr)).add_grid_Grid ⟨(List.range' s.row_Row.length L.length).map some⟩) s.grid_Grid.length (List.range' s.row_Row.length L.length) (L[0]'(by omega)).Cells.length/\
   (List.range' s.row_Row.length L.length).map (ln ((s.addr (L.map lr)).add_grid_Grid ⟨(List.range' s.row_Row.length L.length).map some⟩))=L:=by
 have hr:∀i (h:i<L.length),((s.addr (L.map lr)).add_grid_Grid ⟨(List.range' s.row_Row.length L.length).map some⟩).row_Row[s.row_Row.length+i]? = some (lr L[i]):=fun i h=>by
  have:=vd (s:=s) (xs:=L.map lr) (i:=i) (by simpa using h);rw [eB] at this;exact this
 refine ⟨⟨by simp [Sto.add_grid_Grid,Sto.addr],fun k hk=>?_,by simpa using h1,by simpa using h2,(hok 0 (by omega)).1,(hok 0 (by omega)).2.1⟩,?_⟩
 ·rw [A4] at hk;have hi:k-s.row_Row.length<L.length:=by omega
  have:=hr _ hi;rw [show s.row_Row.length+(k-s.row_Row.length)=k by omega] at this;exact ⟨_,this,(hok _ hi).2.2.1,(hok _ hi).2.2.2⟩
 ·refine J9 (by simp) fun i h1 h2=>?_;rw [eB,List.getElem_range',oQ,oX (hr i h2)];rfl
theorem icl (a:Int) (m:Nat):aK 0 (aE a (m:Int))=((cl a m:Nat):Int):=by simp only [fK,dL,cl]; omega
theorem yf (h:Gw s g ks W) (a b n:Int):mP s (some g) a b n=some (⟨(cl a ks.length:Nat),(cl b ks.length:Nat),min n ((cl b ks.length:Int)-(cl a ks.length:Int))⟩,decide (cl a ks.length<cl b ks.length) && decide (0<n)):=by
 have h1:=oN a ks.length;have h2:=oN b ks.length;have hh:=h.h2;unfold mP;rw [eM h];simp only [bsm,icl,bb];rw [dL,aJ (by omega)];simp
theorem vS (h:Gw s g ks W){a b:Nat}(hab:a<=b) (hb:b<=ks.length):kU s (some g) a b=some (((ks.drop a).take (b-a)).map some):=by
 have hh:=h.h2;unfold kU;obtain ⟨t,h1,h2⟩:=eV (σ:=(List (Option Nat))×Int) (τ:=List (Option Nat)) (n:=b-a) (fuel:=((b:Int)-(a:Int)).toNat+1) (s:=(([]:List (Option Nat)),(a:Int)))
  (fun i q=>q=(((ks.drop a).take i).map some,((a+i:Nat):Int))) (fun t=>t=((ks.drop a).take (b-a)).map some)
  (step:=fun s_8=>
 if decide (s_8.2<(b:Int)) then
 (bF s (some g) s_8.2).bind fun x_16=>
 (app s_8.1 ([x_16]:List (Option Nat))).bind fun x_18=>
 some (.inl (x_18,(w64 (s_8.2+1))))
 else
 some (.inr s_8.1))
  (fun i q hi e=>by
   subst e;refine .inl ⟨_,?_,rfl⟩;have e5:w64 (((a+i:Nat):Int)+1)=((a+(i+1):Nat):Int):=by rw [aJ (by omega)]; simp; omega
   have hd:decide (((a+i:Nat):Int)<(b:Int))=true:=by simp; omega
   simp only [hd,bA];rw [fL h (show a+i<ks.length by omega)];simp only [bsm,e5];rw [cO (by simp; omega)];simp only [bsm];rw [an (by simp; omega),bC];simp)
  (fun q e=>by
   subst e;have hd:decide (((a+(b-a):Nat):Int)<(b:Int))=false:=by simp; omega
   exact ⟨_,by simp only [hd]; rfl,rfl⟩)
  (by simp) (by omega)
 subst h2;rw [h1];rfl
def bk (W:Nat):br:=⟨List.replicate W bl,false⟩
theorem tM (h:Gw s g ks W){n:Nat}(hn:n<=1024):jF s (some g) n=some (s.addr (List.replicate n (bk W)),(List.range' s.row_Row.length n).map some):=by
 unfold jF;obtain ⟨t,h1,h2⟩:=eV (σ:=(List (Option Nat))×Int×Sto) (τ:=(List (Option Nat))×Sto) (n:=n) (fuel:=((n:Int)-0).toNat+1) (s:=(([]:List (Option Nat)),0,s))
  (fun i q=>q=((List.range' s.row_Row.length i).map some,(i:Int),s.addr (List.replicate i (bk W)))) (fun t=>t=((List.range' s.row_Row.length n).map some,s.addr (List.replicate n (bk W))))
  (step:=fun s_8=>
 if decide (s_8.2.1<(n:Int)) then
 (ci s_8.2.2 (some g)).bind fun x_13=>
 (lO s_8.2.2 x_13).bind fun x_14=>
 (app s_8.1 ([x_14.2]:List (Option Nat))).bind fun x_16=>
 some (.inl (x_16,(w64 (s_8.2.1+1)),x_14.1))
 else
 some (.inr (s_8.1,s_8.2.2)))
  (fun i q hi e=>by
   subst e;refine .inl ⟨_,?_,rfl⟩;have e5:w64 ((i:Int)+1)=((i+1:Nat):Int):=by rw [aJ (by omega)]; simp
   have hd:decide ((i:Int)<(n:Int))=true:=by simp; exact hi
   simp only [hd,bA];rw [jE (h.addr (xs:=List.replicate i (bk W)))];simp only [bsm,yT,BZ h.w1 h.w2,e5];rw [cO (by simp; omega)];simp only [bsm];rw [E2,E0,JP,bC,xG];simp [bk])
  (fun q e=>⟨_,by subst e; simp,rfl⟩)
  (by simp [A1]) (by omega)
 subst h2;rw [h1];rfl
def ov (ks:List Nat) (F:Nat) (p:List Nat):List Nat:=ks.take F++p++ks.drop (F+p.length)
theorem vA {F:Nat}{p:List Nat}(h:F+p.length<=ks.length):(ov ks F p).length=ks.length:=by simp [ov]; omega
theorem HB {F i:Nat}{p:List Nat}(h:F+p.length<=ks.length) (hi:i<p.length):(ov ks F (p.take i)).set (F+i) p[i]=ov ks F (p.take (i+1)):=by
 unfold ov;have h1:(ks.take F++p.take i).length=F+i:=by simp; omega
 rw [iF _ _ (by omega),h1,dG,az,az,cL (vP hi),cL (show i+1<=p.length by omega),fE (show F+i<ks.length by omega),sY,an hi];simp only [aL,bP,aW,ur]
def off (s:Sto) (k:Nat):Sto:=s.sr k ⟨(ln s k).Cells,false⟩
theorem AB (h:Rw s W k):fP s (some k) false=some (off s k):=by
 obtain ⟨r,h1,_⟩:=h;rw [wR (l:=r.cells) (w:=r.wrap) h1];unfold off;rw [oX h1]
theorem Rw.off {j:Nat}(h:Rw s W j) (hk:Rw s W k):Rw (off s k) W j:=by
 obtain ⟨r,h1,h2,h3⟩:=h;obtain ⟨q,k1,k2,k3⟩:=hk;by_cases e:k=j
 ·subst e;exact ⟨_,tZ (cY k1),by rw [oX k1]; exact ⟨k2,k3⟩⟩
 ·exact ⟨r,(zO e).trans h1,h2,h3⟩
theorem Gw.off (h:Gw s g ks W) (hk:Rw s W k):Gw (off s k) g ks W:=⟨h.g,fun j hj=>(h.r j hj).off hk,h.h1,h.h2,h.w1,h.w2⟩
theorem HG {j:Nat}(hk:Rw s W k):ln (off s k) j=if j=k then ⟨(ln s k).Cells,false⟩ else ln s j:=by
 by_cases e:k=j
 ·subst e;rw [af rfl];exact oX (tZ hk.lt)
 ·rw [ae (vN e)];unfold ln;rw [show (Go.Proofs.YtclmdpamofdoiaaGreatDoor.off s k).row_Row[j]? = s.row_Row[j]? from zO e]
theorem Ar (x:ck) (j:Nat):ln (s.sg g x) j=ln s j:=rfl
def offa (s:Sto) (ks:List Nat) (F:Nat):Sto:=if F=0 then s else off s (ks.getD (F-1) 0)
theorem wO (h:Gw s g ks W){F:Nat}{p:List Nat}(hp:F+p.length<=ks.length) (hr:∀k∈p,Rw s W k) (st:iQ) (hF:st.from_=(F:Int)):
  ft s st (some g) (p.map some)=some (offa (s.sg g ⟨(ov ks F p).map some⟩) (ov ks F p) F)/\Gw (s.sg g ⟨(ov ks F p).map some⟩) g (ov ks F p) W:=by
 have hh:=h.h2;have key:∀i,i<=p.length->Gw (s.sg g ⟨(ov ks F (p.take i)).map some⟩) g (ov ks F (p.take i)) W:=fun i hi=>
  ⟨DI (cY h.g),fun k hk=>by
   unfold ov at hk;rw [wg,wg] at hk;rcases hk with (hk|hk)|hk
   ·exact h.r k (cq hk)
   ·exact hr k (cq hk)
   ·exact h.r k (fb hk),by rw [vA (by simp; omega)]; exact h.h1,by rw [vA (by simp; omega)]; exact h.h2,h.w1,h.w2⟩
 have kend:=key p.length (aq _);rw [dj] at kend;refine ⟨?_,kend⟩;unfold ft;rw [hF];obtain ⟨t,h1,h2⟩:=eV (σ:=Int×Sto) (τ:=Sto) (n:=p.length) (fuel:=(((p.map some).length:Int)-0).toNat+1) (s:=((0:Int),s))
  (fun i q=>q=((i:Int),s.sg g ⟨(ov ks F (p.take i)).map some⟩)) (fun t=>t=s.sg g ⟨(ov ks F p).map some⟩)
  (step:=fun s_7=>
 if decide (s_7.1<((p.map some).length:Int)) then
 (idx (p.map some) s_7.1).bind fun x_11=>
 (fi s_7.2 (some g) (w64 ((F:Int)+s_7.1)) x_11).bind fun x_22=>
 some (.inl ((w64 (s_7.1+1)),x_22.1))
 else
 some (.inr s_7.2))
  (fun i q hi e=>by
   subst e;refine .inl ⟨_,?_,rfl⟩;have e5:w64 ((i:Int)+1)=((i+1:Nat):Int):=by rw [aJ (by omega)]; simp
   have e6:w64 ((F:Int)+(i:Int))=((F+i:Nat):Int):=by rw [aJ (by omega)]; simp
   have hd:decide ((i:Int)<((p.map some).length:Int))=true:=by simp; exact hi
   have hi2:i<(p.map some).length:=by simpa using hi
   have hk:=key i (vP hi);simp only [hd,bA,bj hi2,bsm,eB,e5,e6];have hl:(ov ks F (p.take i)).length=ks.length:=vA (by simp; omega);rw [Az hk (show F+i<(ov ks F (p.take i)).length by omega) (hr _ (aF hi))];simp only [bsm];rw [HB hp hi,IC])
  (fun q e=>by
   subst e;rw [dj];exact ⟨_,by simp,rfl⟩)
  (by
   simp only [bN,iP];refine ⟨rfl,(ID ?_).symm⟩;rw [h.g];simp [ov]) (by simp)
 subst h2;rw [h1];simp only [bsm];unfold offa;by_cases h0:F=0
 ·subst h0;rw [af rfl,uM kend (by left; rw [aJ (by omega)]; omega)];rfl
 ·have e7:w64 ((F:Int)-1)=((F-1:Nat):Int):=by rw [aJ (by omega)]; omega
  have hl:(ov ks F p).length=ks.length:=vA hp;have hlt:F-1<(ov ks F p).length:=by omega
  rw [ae h0,e7,fL kend hlt];simp only [bsm];rw [AB (kend.at hlt),aw,ag hlt];rfl
def dl:aj:=⟨[],false⟩
def mvb (W:Nat) (L:List aj) (F T m:Nat) (up:Bool) (i:Nat):aj:=
 if F<=i/\i<T then (if up then (if i+m<T then L.getD (i+m) dl else ⟨List.replicate W bl,false⟩) else (if F+m<=i then L.getD (i-m) dl else ⟨List.replicate W bl,false⟩)) else L.getD i dl
def mvl (W:Nat) (L:List aj) (F T m:Nat) (up:Bool) (i:Nat):aj:=
 if i+1=F\/(up=false/\i+1=T) then ⟨(mvb W L F T m up i).Cells,false⟩ else mvb W L F T m up i
def mv (W:Nat) (L:List aj) (F T:Nat) (n:Int) (up:Bool):List aj:=
 if F<T/\0<n then (List.range L.length).map (mvl W L F T (min n ((T:Int)-(F:Int))).toNat up) else L
theorem gd {i:Nat}(h:i<ks.length):ks.getD i 0=ks[i]:=by rw [aw,ag h]; rfl
theorem gdl {L:List aj}{i:Nat}(h:i<L.length):L.getD i dl=L[i]:=by rw [aw,ag h]; rfl
theorem B9 (nd:ks.Nodup){i j:Nat}(hj:j<ks.length) (hij:i<j):ks.getD i 0≠ks.getD j 0:=by
 rw [gd hj,gd (Nat.lt_trans hij hj)];exact List.pairwise_iff_getElem.1 nd i j _ _ hij
theorem Ee {h:Nat}{f:Nat->Nat}(hf:∀i j,i<j->j<h->f i≠f j):((List.range h).map f).Nodup:=by
 rw [List.Nodup,List.pairwise_map];exact List.pairwise_lt_range.imp_of_mem fun _ hb hlt=>hf _ _ hlt (List.mem_range.1 hb)
def kfu (ks:List Nat) (N F T m i:Nat):Nat:=if i<F\/T<=i then ks.getD i 0 else if i+m<T then ks.getD (i+m) 0 else N+(i+m-T)
def kfd (ks:List Nat) (N F T m i:Nat):Nat:=if i<F\/T<=i then ks.getD i 0 else if i<F+m then N+(i-F) else ks.getD (i-m) 0
theorem IY {F T m:Nat}(N:Nat) (h1:F+m<=T) (h2:T<=ks.length):ov ks F ((ks.drop (F+m)).take (T-(F+m))++List.range' N m)=(List.range ks.length).map (kfu ks N F T m):=by
 refine bY fun i=>?_;rcases aU i ks.length with hi|hi
 ·rw [bO,dI hi,ga];have e:((ks.drop (F+m)).take (T-(F+m))++List.range' N m).length=T-F:=by simp; omega
  have et:(ks.take F).length=F:=by simp; omega
  have ex:((ks.drop (F+m)).take (T-(F+m))).length=T-(F+m):=by simp; omega
  unfold ov;rw [e,aL,gu,et];unfold kfu;by_cases c1:i<F
  ·rw [af c1,af (Or.inl c1),aX,af c1,gd hi,ag hi]
  ·rw [ae c1,gu,e];by_cases c2:T<=i
   ·rw [ae (by omega),af (Or.inr c2),bW,show F+(T-F)+(i-F-(T-F))=i by omega,gd hi,ag hi]
   ·rw [af (by omega),ae (by omega),gu,ex];by_cases c3:i+m<T
    ·rw [af (by omega),af c3,aX,af (by omega),bW,show F+m+(i-F)=i+m by omega,gd (by omega),ag (by omega)]
    ·rw [ae (by omega),ae c3,Jm (by omega),oQ]
     congr 1
     omega
 ·rw [aT (by rw [vA (by simp; omega)]; exact hi),aT (by simpa using hi)]
theorem FU {F T m:Nat}(N:Nat) (h1:F+m<=T) (h2:T<=ks.length):ov ks F (List.range' N m++(ks.drop F).take (T-m-F))=(List.range ks.length).map (kfd ks N F T m):=by
 refine bY fun i=>?_;rcases aU i ks.length with hi|hi
 ·rw [bO,dI hi,ga];have e:(List.range' N m++(ks.drop F).take (T-m-F)).length=T-F:=by simp; omega
  have et:(ks.take F).length=F:=by simp; omega
  have ex:(List.range' N m).length=m:=by simp
  unfold ov;rw [e,aL,gu,et];unfold kfd;by_cases c1:i<F
  ·rw [af c1,af (Or.inl c1),aX,af c1,gd hi,ag hi]
  ·rw [ae c1,gu,e];by_cases c2:T<=i
   ·rw [ae (by omega),af (Or.inr c2),bW,show F+(T-F)+(i-F-(T-F))=i by omega,gd hi,ag hi]
   ·rw [af (by omega),ae (by omega),gu,ex];by_cases c3:i<F+m
    ·rw [af (by omega),af c3,Jm (by omega),oQ]
    ·rw [ae (by omega),ae c3,aX,af (by omega),bW,show F+(i-F-m)=i-m by omega,gd (by omega),ag (by omega)]
 ·rw [aT (by rw [vA (by simp; omega)]; exact hi),aT (by simpa using hi)]
theorem HI (nd:ks.Nodup){N F T m:Nat}(hN:∀k∈ks,k<N) (h1:F+m<=T) (h2:T<=ks.length) (i j:Nat) (hij:i<j) (hj:j<ks.length):kfu ks N F T m i≠kfu ks N F T m j:=by
 have lt:∀i,i<ks.length->ks.getD i 0<N:=fun i hi=>by rw [gd hi]; exact hN _ (aF hi)
 have ne:∀a b,a<b->b<ks.length->ks.getD a 0≠ks.getD b 0:=fun a b hab hb=>B9 nd hb hab;have ne2:∀a b,b<a->a<ks.length->ks.getD a 0≠ks.getD b 0:=fun a b hab ha=>(B9 nd ha hab).symm;unfold kfu
 repeat' split
 all_goals first
  | exact ne _ _ (by omega) (by omega)
  | exact ne2 _ _ (by omega) (by omega)
  | (have:=lt i (by omega); omega)
  | (have:=lt j (by omega); omega)
  | (have:=lt (i+m) (by omega); omega)
  | (have:=lt (j+m) (by omega); omega)
  | omega
theorem HJ (nd:ks.Nodup){N F T m:Nat}(hN:∀k∈ks,k<N) (h1:F+m<=T) (h2:T<=ks.length) (i j:Nat) (hij:i<j) (hj:j<ks.length):kfd ks N F T m i≠kfd ks N F T m j:=by
 have lt:∀i,i<ks.length->ks.getD i 0<N:=fun i hi=>by rw [gd hi]; exact hN _ (aF hi)
 have ne:∀a b,a<b->b<ks.length->ks.getD a 0≠ks.getD b 0:=fun a b hab hb=>B9 nd hb hab;have ne2:∀a b,b<a->a<ks.length->ks.getD a 0≠ks.getD b 0:=fun a b hab ha=>(B9 nd ha hab).symm;unfold kfd
 repeat' split
 all_goals first
  | exact ne _ _ (by omega) (by omega)
  | exact ne2 _ _ (by omega) (by omega)
  | (have:=lt i (by omega); omega)
  | (have:=lt j (by omega); omega)
  | (have:=lt (i-m) (by omega); omega)
  | (have:=lt (j-m) (by omega); omega)
  | omega
theorem zd {h:Nat}{f:Nat->Nat}{B:Nat->aj}(hf:∀i j,i<j->j<h->f i≠f j) (hB:∀i,i<h->ln s (f i)=B i){j:Nat}(hj:j<h) (hk:Rw s W (f j)) (i:Nat) (hi:i<h):
  ln (off s (f j)) (f i)=if i=j then ⟨(B j).Cells,false⟩ else B i:=by
 rw [HG hk,hB j hj];by_cases e:i=j
 ·subst e; rw [af rfl,af rfl]
 ·rw [ae,ae e,hB i hi];rcases JO e with h|h
  ·exact hf i j h hj
  ·exact (hf j i h hi).symm
theorem Al (s:Sto) (ks:List Nat) (F:Nat):(offa s ks F).rst=s.rst:=by
 unfold offa;split <;> rfl
theorem mV {h i:Nat}{f:Nat->Nat}(hi:i<h):((List.range h).map f).getD i 0=f i:=by
 rw [gd (by simpa using hi)];simp
structure Rf (s s':Sto) (g:Nat) (ks:List Nat) (g':Nat) (ks':List Nat):Prop where
 gl:s.grid_Grid.length<=s'.grid_Grid.length
 rl:s.row_Row.length<=s'.row_Row.length
 gr:∀j,j<s.grid_Grid.length->j≠g->s'.grid_Grid[j]? = s.grid_Grid[j]?
 rw:∀j,j<s.row_Row.length->j∉ks->s'.row_Row[j]? = s.row_Row[j]?
 ng:g'=g\/s.grid_Grid.length<=g'
 nr:∀r∈ks',r∈ks\/s.row_Row.length<=r
theorem Rf.self (s:Sto) (g:Nat) (ks:List Nat):Rf s s g ks g ks:=⟨aq _,aq _,fun _ _ _=>rfl,fun _ _ _=>rfl,.inl rfl,fun _ h=> .inl h⟩
theorem Rf.rowoff {s':Sto}{ks':List Nat}(h:Rf s s' g ks g ks'){i:Nat}(hi:i∈ks'):Rf s (off s' i) g ks g ks':=by
 have e:(off s' i).row_Row=s'.row_Row.set i ⟨(ln s' i).Cells,false⟩:=rfl;refine ⟨h.gl,by rw [e,cz]; exact h.rl,h.gr,fun j h1 h2=>?_,h.ng,h.nr⟩;rw [e,bh ?_]
 ·exact h.rw j h1 h2
 ·rintro rfl;rcases h.nr _ hi with q|q
  ·exact h2 q
  ·omega
theorem Rf.aboff {s':Sto}{ks':List Nat}(h:Rf s s' g ks g ks') (F:Nat) (hF:F<=ks'.length):Rf s (offa s' ks' F) g ks g ks':=by
 unfold Go.Proofs.YtclmdpamofdoiaaGreatDoor.offa;split
 ·exact h
 ·refine h.rowoff ?_;rw [gd (by omega)];exact aF _
theorem Rf.lay (xs:List br) (x:ck){ks':List Nat}(h:∀r∈ks',r∈ks\/s.row_Row.length<=r):Rf s ((s.addr xs).sg g x) g ks g ks':=by
 have e:((s.addr xs).sg g x).row_Row=s.row_Row++xs:=rfl;have e2:((s.addr xs).sg g x).grid_Grid=s.grid_Grid.set g x:=rfl;exact ⟨by rw [e2,cz]; exact aq _,by rw [e,ao]; omega,fun j _ hj=>by rw [e2,bh (vN hj)],fun j hj _=>by rw [e,aG hj],.inl rfl,h⟩
theorem FX {N F T m:Nat}(hm:T<=ks.length){r:Nat}(hr:r∈(List.range ks.length).map (kfu ks N F T m)):r∈ks\/N<=r:=by
 obtain ⟨i,hi,rfl⟩:=List.mem_map.1 hr;have hi:=List.mem_range.1 hi;unfold kfu;split
 ·rw [gd hi]; exact .inl (aF _)
 ·split
  ·rw [gd (by omega)]; exact .inl (aF _)
  ·exact .inr (by omega)
theorem FY {N F T m:Nat}(hm:T<=ks.length){r:Nat}(hr:r∈(List.range ks.length).map (kfd ks N F T m)):r∈ks\/N<=r:=by
 obtain ⟨i,hi,rfl⟩:=List.mem_map.1 hr;have hi:=List.mem_range.1 hi;unfold kfd;split
 ·rw [gd hi]; exact .inl (aF _)
 ·split
  ·exact .inr (by omega)
  ·rw [gd (by omega)]; exact .inl (aF _)
theorem A7 (h:Gw s g ks W) (nd:ks.Nodup) (a b n:Int):∃s' ks',lv s (some g) a b n=some s'/\(Gw s' g ks' W/\ks'.Nodup/\ks'.length=ks.length/\
  ks'.map (ln s')=mv W (ks.map (ln s)) (cl a ks.length) (cl b ks.length) n true)/\s'.rst=s.rst/\Rf s s' g ks g ks':=by
 have hF:=oN a ks.length;have hT:=oN b ks.length;have hh:=h.h2;have hN:∀k∈ks,k<s.row_Row.length:=fun k hk=>(h.r k hk).lt;unfold lv;rw [yf h];simp only [bsm];generalize cl a ks.length=F at *;generalize cl b ks.length=T at *;unfold mv;by_cases hc:F<T/\0<n
 ·obtain ⟨m,hm⟩:∃m:Nat,min n ((T:Int)-(F:Int))=(m:Int):=⟨(min n ((T:Int)-(F:Int))).toNat,by omega⟩;have hm2:F+m<=T/\1<=m:=by omega
  rw [af (by simp; omega),af hc,hm,aJ (by omega),show ((F:Int)+(m:Int))=((F+m:Nat):Int) by simp,vS h hm2.1 hT];simp only [bsm];rw [tM h (by omega)];simp only [bsm];rw [cO (by simp; omega),<-bC];simp only [bsm];have h1:=h.addr (xs:=List.replicate m (bk W));have hlen:((ks.drop (F+m)).take (T-(F+m))++List.range' s.row_Row.length m).length=T-F:=by simp; omega
  obtain ⟨h3,h4⟩:=wO h1 (F:=F) (p:=(ks.drop (F+m)).take (T-(F+m))++List.range' s.row_Row.length m) (by rw [hlen]; omega) (fun k hk=>by
   rcases List.mem_append.1 hk with hk|hk
   ·exact h1.r k (fb (cq hk))
   ·rw [A4] at hk;have:=vd (s:=s) (xs:=List.replicate m (bk W)) (i:=k-s.row_Row.length) (by simp; omega);rw [show s.row_Row.length+(k-s.row_Row.length)=k by omega,jR] at this;exact ⟨_,this,vi W,by simp [bk]⟩) ⟨(F:Int),(T:Int),(m:Int)⟩ rfl
  rw [h3];rw [IY s.row_Row.length hm2.1 hT] at h4|-;have ne:=HI nd (N:=s.row_Row.length) (F:=F) (T:=T) (m:=m) hN hm2.1 hT;have hB:∀i,i<ks.length->ln ((s.addr (List.replicate m (bk W))).sg g ⟨((List.range ks.length).map (kfu ks s.row_Row.length F T m)).map some⟩) (kfu ks s.row_Row.length F T m i)=mvb W (ks.map (ln s)) F T m true i:=by
   intro i hi;rw [Ar];have old:∀j,j<ks.length->ln (s.addr (List.replicate m (bk W))) (ks.getD j 0)=(ks.map (ln s)).getD j dl:=fun j hj=>by
    rw [gdl (by simpa using hj),gd hj,xd (hN _ (aF hj)),eB]
   unfold kfu mvb;by_cases c1:i<F\/T<=i
   ·rw [af c1,ae (show ¬(F<=i/\i<T) by omega),old i hi]
   ·rw [ae c1,af (show F<=i/\i<T by omega),af rfl];by_cases c2:i+m<T
    ·rw [af c2,af c2,old _ (by omega)]
    ·rw [ae c2,ae c2,Eh (by simp; omega),jR];rfl
  refine ⟨_,(List.range ks.length).map (kfu ks s.row_Row.length F T m),rfl,⟨?_,Ee ne,by simp,?_⟩,Al _ _ _,(Rf.lay _ _ fun r hr=>FX hT hr).aboff F (by simp; omega)⟩
  ·unfold offa;split
   ·exact h4
   ·refine h4.off ?_;rw [mV (by omega)];exact h4.r _ (List.mem_map.2 ⟨F-1,List.mem_range.2 (by omega),rfl⟩)
  ·rw [cC,Io];refine dH fun i hi=>?_;have hi:=List.mem_range.1 hi;simp only [Function.comp,bE];unfold offa mvl;by_cases h0:F=0
   ·rw [af h0,ae (by simp; omega),hB i hi]
   ·rw [ae h0,mV (by omega),zd ne hB (by omega) (h4.r _ (List.mem_map.2 ⟨F-1,List.mem_range.2 (by omega),rfl⟩)) i hi];by_cases e:i=F-1
    ·rw [af e,af (by omega),e]
    ·rw [ae e,ae (by simp; omega)]
 ·rw [ae (by simp; omega),ae hc];exact ⟨s,ks,rfl,⟨h,nd,rfl,rfl⟩,rfl,Rf.self _ _ _⟩
theorem AJ (h:Gw s g ks W) (nd:ks.Nodup) (a b n:Int):∃s' ks',kV s (some g) a b n=some s'/\(Gw s' g ks' W/\ks'.Nodup/\ks'.length=ks.length/\
  ks'.map (ln s')=mv W (ks.map (ln s)) (cl a ks.length) (cl b ks.length) n false)/\s'.rst=s.rst/\Rf s s' g ks g ks':=by
 have hF:=oN a ks.length;have hT:=oN b ks.length;have hh:=h.h2;have hN:∀k∈ks,k<s.row_Row.length:=fun k hk=>(h.r k hk).lt;unfold kV;rw [yf h];simp only [bsm];generalize cl a ks.length=F at *;generalize cl b ks.length=T at *;unfold mv;by_cases hc:F<T/\0<n
 ·obtain ⟨m,hm⟩:∃m:Nat,min n ((T:Int)-(F:Int))=(m:Int):=⟨(min n ((T:Int)-(F:Int))).toNat,by omega⟩;have hm2:F+m<=T/\1<=m:=by omega
  have h1:=h.addr (xs:=List.replicate m (bk W));rw [af (by simp; omega),af hc,hm,tM h (by omega)];simp only [bsm];rw [aJ (by omega),show ((T:Int)-(m:Int))=((T-m:Nat):Int) by omega,vS h1 (by omega) (by omega)];simp only [bsm];rw [cO (by simp; omega),<-bC];simp only [bsm];have hlen:(List.range' s.row_Row.length m++(ks.drop F).take (T-m-F)).length=T-F:=by simp; omega
  obtain ⟨h3,h4⟩:=wO h1 (F:=F) (p:=List.range' s.row_Row.length m++(ks.drop F).take (T-m-F)) (by rw [hlen]; omega) (fun k hk=>by
   rcases List.mem_append.1 hk with hk|hk
   ·rw [A4] at hk;have:=vd (s:=s) (xs:=List.replicate m (bk W)) (i:=k-s.row_Row.length) (by simp; omega);rw [show s.row_Row.length+(k-s.row_Row.length)=k by omega,jR] at this;exact ⟨_,this,vi W,by simp [bk]⟩
   ·exact h1.r k (fb (cq hk))) ⟨(F:Int),(T:Int),(m:Int)⟩ rfl
  rw [h3];rw [FU s.row_Row.length hm2.1 hT] at h4|-;have ne:=HJ nd (N:=s.row_Row.length) (F:=F) (T:=T) (m:=m) hN hm2.1 hT;have hB:∀i,i<ks.length->ln ((s.addr (List.replicate m (bk W))).sg g ⟨((List.range ks.length).map (kfd ks s.row_Row.length F T m)).map some⟩) (kfd ks s.row_Row.length F T m i)=mvb W (ks.map (ln s)) F T m false i:=by
   intro i hi;rw [Ar];have old:∀j,j<ks.length->ln (s.addr (List.replicate m (bk W))) (ks.getD j 0)=(ks.map (ln s)).getD j dl:=fun j hj=>by
    rw [gdl (by simpa using hj),gd hj,xd (hN _ (aF hj)),eB]
   unfold kfd mvb;by_cases c1:i<F\/T<=i
   ·rw [af c1,ae (show ¬(F<=i/\i<T) by omega),old i hi]
   ·rw [ae c1,af (show F<=i/\i<T by omega),ae (show ¬(false=true) by simp)];by_cases c2:i<F+m
    ·rw [af c2,ae (show ¬(F+m<=i) by omega),Eh (by simp; omega),jR];rfl
    ·rw [ae c2,af (show F+m<=i by omega),old _ (by omega)]
  have hmem:∀j,j<ks.length->kfd ks s.row_Row.length F T m j∈(List.range ks.length).map (kfd ks s.row_Row.length F T m):=fun j hj=>List.mem_map.2 ⟨j,List.mem_range.2 hj,rfl⟩;have h5:Gw (offa ((s.addr (List.replicate m (bk W))).sg g ⟨((List.range ks.length).map (kfd ks s.row_Row.length F T m)).map some⟩) ((List.range ks.length).map (kfd ks s.row_Row.length F T m)) F) g ((List.range ks.length).map (kfd ks s.row_Row.length F T m)) W:=by
   unfold offa;split
   ·exact h4
   ·refine h4.off ?_;rw [mV (by omega)];exact h4.r _ (hmem _ (by omega))
  have hC:∀i,i<ks.length->ln (offa ((s.addr (List.replicate m (bk W))).sg g ⟨((List.range ks.length).map (kfd ks s.row_Row.length F T m)).map some⟩) ((List.range ks.length).map (kfd ks s.row_Row.length F T m)) F) (kfd ks s.row_Row.length F T m i)=
    if i+1=F then ⟨(mvb W (ks.map (ln s)) F T m false i).Cells,false⟩ else mvb W (ks.map (ln s)) F T m false i:=by
   intro i hi;unfold offa;by_cases h0:F=0
   ·rw [af h0,ae (by omega),hB i hi]
   ·rw [ae h0,mV (by omega),zd ne hB (by omega) (h4.r _ (hmem _ (by omega))) i hi];by_cases e:i=F-1
    ·rw [af e,af (by omega),e]
    ·rw [ae e,ae (by omega)]
  have hlt:T-1<((List.range ks.length).map (kfd ks s.row_Row.length F T m)).length:=by simp; omega
  simp only [bsm];rw [aJ (by omega),show ((T:Int)-1)=((T-1:Nat):Int) by omega,fL h5 hlt];simp only [bsm];rw [AB (h5.at hlt)];simp only [bsm,eB,zC];refine ⟨_,(List.range ks.length).map (kfd ks s.row_Row.length F T m),rfl,⟨h5.off (h5.r _ (hmem _ (by omega))),Ee ne,by simp,?_⟩,Al _ _ _,((Rf.lay _ _ fun r hr=>FY hT hr).aboff F (by simp; omega)).rowoff (hmem _ (by omega))⟩;rw [cC,Io];refine dH fun i hi=>?_;have hi:=List.mem_range.1 hi;simp only [Function.comp,bE];rw [zd ne hC (by omega) (h5.r _ (hmem _ (by omega))) i hi];unfold mvl;by_cases e:i=T-1
  ·rw [af e,ae (show ¬(T-1+1=F) by omega),af (show i+1=F\/(false=false/\i+1=T) from Or.inr ⟨rfl,by omega⟩),e]
  ·rw [ae e];by_cases e2:i+1=F
   ·rw [af e2,af (Or.inl e2)]
   ·rw [ae e2,ae (show ¬(i+1=F\/(false=false/\i+1=T)) by simp; omega)]
 ·rw [ae (by simp; omega),ae hc];exact ⟨s,ks,rfl,⟨h,nd,rfl,rfl⟩,rfl,Rf.self _ _ _⟩
theorem sj {L:List aj}(hl:L.length<=1024) (hW:W<=1024) (hL:∀x∈L,x.Cells.length=W) (a b n:Int) (up:Bool):
  em L a b n up=some (mv W L (cl a L.length) (cl b L.length) n up):=by
 have hF:=oN a L.length;have hT:=oN b L.length;unfold em;simp only [icl,bu,bsm];generalize cl a L.length=F at *;generalize cl b L.length=T at *;unfold mv;by_cases hc:F<T/\0<n
 ·obtain ⟨m,hm⟩:∃m:Nat,min n ((T:Int)-(F:Int))=(m:Int):=⟨(min n ((T:Int)-(F:Int))).toNat,by omega⟩;have hm2:F+m<=T/\1<=m:=by omega
  rw [ae (by rw [aC,am,am]; omega),af hc,aJ (by omega),dL,hm,bE];obtain ⟨t,h1,h2⟩:=eV (σ:=(List aj)×Int) (τ:=List aj) (n:=L.length) (fuel:=((L.length:Int)-0).toNat+1) (s:=(([]:List aj),0))
   (fun i q=>q=((List.range i).map (mvl W L F T m up),(i:Int))) (fun t=>t=(List.range L.length).map (mvl W L F T m up))
   (step:=fun s_41=>
 if decide (s_41.2<(L.length:Int)) then
 (idx L s_41.2).bind fun x_48=>
 ((bL (decide (s_41.2>=(F:Int))) (some (decide (s_41.2<(T:Int))))).bind fun d_57=>
 if d_57 then
 (if (!up)=true then
 (some ((w64 (s_41.2-(m:Int)))):Option Int)
 else
 (some ((w64 (s_41.2+(m:Int)))):Option Int)).bind fun z_68=>
 (idx L s_41.2).bind fun x_79=>
 (rep (x_79.Cells.length:Int) (⟨0,([]:List Int)⟩:ab)).bind fun x_83=>
 (bL (decide (z_68>=(F:Int))) (some (decide (z_68<(T:Int))))).bind fun d_90=>
 if d_90 then
 (idx L z_68).bind fun x_98=>
 (some (x_98.Cells,x_98.Wrap):Option ((List ab)×Bool))
 else
 (some (x_83,false):Option ((List ab)×Bool))
 else
 (some (x_48.Cells,x_48.Wrap):Option ((List ab)×Bool))).bind fun z_53=>
 ((orE ((w64 (s_41.2+1))==(F:Int)) ((bL (!up) (some ((w64 (s_41.2+1))==(T:Int)))).bind fun d_111=>
 some d_111)).bind fun d_107=>
 if d_107 then
 (some false:Option Bool)
 else
 (some z_53.2:Option Bool)).bind fun z_102=>
 (app s_41.1 ([(⟨z_53.1,z_102⟩:aj)]:List aj)).bind fun x_124=>
 some (.inl (x_124,(w64 (s_41.2+1))))
 else
 some (.inr s_41.1))
   (fun i q hi e=>by
    subst e;refine .inl ⟨_,?_,rfl⟩;have e5:w64 ((i:Int)+1)=((i+1:Nat):Int):=by rw [aJ (by omega)]; simp
    have hd:decide ((i:Int)<(L.length:Int))=true:=by simp; exact hi
    have hlw:=hL _ (aF hi);simp only [hd,bA,bj hi,bsm,e5,bb];have hz:(if (decide ((i:Int)>=(F:Int)) && decide ((i:Int)<(T:Int)))=true then
      (if (!up)=true then (some ((w64 ((i:Int)-(m:Int)))):Option Int) else (some ((w64 ((i:Int)+(m:Int)))):Option Int)).bind fun z_68=>
      (rep (L[i].Cells.length:Int) (⟨0,([]:List Int)⟩:ab)).bind fun x_83=>
      if (decide (z_68>=(F:Int)) && decide (z_68<(T:Int)))=true then
      (idx L z_68).bind fun x_98=>(some (x_98.Cells,x_98.Wrap):Option ((List ab)×Bool))
      else (some (x_83,false):Option ((List ab)×Bool))
      else (some (L[i].Cells,L[i].Wrap):Option ((List ab)×Bool)))=some ((mvb W L F T m up i).Cells,(mvb W L F T m up i).Wrap):=by
     unfold mvb;by_cases c1:F<=i/\i<T
     ·rw [af (by simp; omega),af c1]
      cases up with
      | true=>
       rw [ae (by simp),af rfl];simp only [bsm];rw [pJ _ (by omega),aJ (by omega),show ((i:Int)+(m:Int))=((i+m:Nat):Int) by simp];simp only [bsm];by_cases c2:i+m<T
       ·rw [af (by simp; omega),af c2,bj (show i+m<L.length by omega),gdl (by omega)];rfl
       ·rw [ae (by simp; omega),ae c2,bE,hlw];rfl
      | false=>
       rw [af (by simp),ae (by simp)];simp only [bsm];rw [pJ _ (by omega),aJ (by omega)];simp only [bsm];by_cases c2:F+m<=i
       ·rw [show ((i:Int)-(m:Int))=((i-m:Nat):Int) by omega,af (by simp; omega),af c2,bj (show i-m<L.length by omega),gdl (by omega)];rfl
       ·rw [ae (by simp; omega),ae c2,bE,hlw];rfl
     ·rw [ae (by simp; omega),ae c1,gdl hi]
    rw [hz];simp only [bsm];have hy:(orE (((i+1:Nat):Int)==(F:Int)) (some (!up && (((i+1:Nat):Int)==(T:Int)))))=some (decide (i+1=F\/(up=false/\i+1=T))):=by
     rw [bu]
     congr 1
     rw [cu];simp only [aC,aQ,aA,dP,am,Int.ofNat_inj]
    rw [hy];simp only [bsm];have hx:∀y:Bool,(if decide (i+1=F\/(up=false/\i+1=T))=true then (some false:Option Bool) else some y)=some (if i+1=F\/(up=false/\i+1=T) then false else y):=fun y=>by
     by_cases c:i+1=F\/(up=false/\i+1=T)
     ·rw [af (by simpa using c),af c]
     ·rw [ae (by simpa using c),ae c]
    rw [hx];simp only [bsm];rw [cO (by simp; omega)];simp only [bsm];have hz3:(⟨(mvb W L F T m up i).Cells,if i+1=F\/(up=false/\i+1=T) then false else (mvb W L F T m up i).Wrap⟩:aj)=mvl W L F T m up i:=by
     unfold mvl;split <;> rfl
    rw [hz3,qP,bC];rfl)
   (fun q e=>⟨_,by subst e; simp,rfl⟩)
   (by simp) (by omega)
  subst h2;rw [h1];rfl
 ·rw [af (by rw [aC,am,am]; omega),ae hc]
end Go.Proofs.YtclmdpamofdoiaaGreatDoor
namespace Go.Proofs.YtclmdpamofdoiaaGreatDoor
open Go Go.Lt
variable {s:Sto}{k:Nat}{l p:List ab}{w:Bool}
theorem zW (p:List Int) (hp:p.length<=1000000):ka p=some (p.map gK):=by
 unfold ka;rw [pJ _ (by omega),pJ _ (by omega)];simp only [bsm];obtain ⟨t,h1,h2⟩:=eV (σ:=(List Int)×Int) (τ:=List Int) (n:=p.length) (fuel:=((p.length:Int)-0).toNat+1) (s:=(List.replicate (0:Int).toNat 0,0))
  (fun i q=>q=((p.take i).map gK,(i:Int))) (fun t=>t=p.map gK)
  (step:=fun s_12=>
 if decide (s_12.2<(p.length:Int)) then
 (idx p s_12.2).bind fun x_15=>
 ((fO x_15).bind fun x_21=>
 if (!x_21)=true then
 (some 65533:Option Int)
 else
 (some x_15:Option Int)).bind fun z_19=>
 (app s_12.1 ([z_19]:List Int)).bind fun x_29=>
 some (.inl (x_29,(w64 (s_12.2+1))))
 else
 some (.inr s_12.1))
  (fun i q hi e=>by
   subst e;refine .inl ⟨_,?_,rfl⟩;have e5:w64 ((i:Int)+1)=((i+1:Nat):Int):=by rw [aJ (by omega)]; simp
   have hd:decide ((i:Int)<(p.length:Int))=true:=by simp; exact hi
   simp only [hd,bA,bj hi,bsm,vm,e5];have hz:(if (!vld p[i])=true then (some 65533:Option Int) else some p[i])=some (gK p[i]):=by
    unfold gK
    cases vld p[i] <;> rfl
   rw [hz];simp only [bsm];rw [cO (by simp; omega)];simp only [bsm];rw [an hi,bC];rfl)
  (fun q e=>⟨_,by subst e; simp,rfl⟩)
  rfl (by omega)
 subst h2;rw [h1];rfl
theorem Cq (wide:Int) (t:List Int) (ht:t.length<=9223372036854775807):qo wide t=some (eH wide (fx t)):=by
 unfold qo;have hz:(if decide (wide>=2) then (app ([(⟨0,([]:List Int)⟩:ab)]:List ab) ([(⟨0,([]:List Int)⟩:ab)]:List ab)).bind fun x_14=>(some x_14:Option ((List ab))) else
   (some (([(⟨0,([]:List Int)⟩:ab)]:List ab)):Option ((List ab))))=some (if 2<=wide then [bl,bl] else [bl]):=by
  by_cases h:2<=wide
  ·rw [af (by simpa using h),af h,cO (by simp)];rfl
  ·rw [ae (by simpa using h),ae h];rfl
 rw [hz];simp only [bsm];unfold eH;by_cases h0:t= []
 ·subst h0;rw [af (show ((([]:List Int).length:Int)==0)=true from rfl),af (show fx []= [] from rfl)];by_cases h:2<=wide
  ·rw [af h,af (show wide>1 by omega)]
  ·rw [ae h,ae (show ¬(wide>1) by omega)]
 ·have hl:0<t.length:=List.length_pos_iff.2 h0;have hf:fx t≠ []:=by
   have:=Cj t;intro h;rw [h,aI] at this;omega
  rw [ae (by rw [aQ]; omega),ae hf,dL,show (min (t.length:Int) 16)=((min t.length 16:Nat):Int) by omega,show (0:Int)=((0:Nat):Int) from rfl,mI (bT _) (Nat.min_le_left _ _)];simp only [bsm];rw [zW _ (by simp; omega)];have ef:((t.drop 0).take (min t.length 16-0)).map gK=fx t:=by
   unfold fx;rw [fU,mf]
   congr 1
   rcases Nat.le_total t.length 16 with h|h
   ·rw [cL h,aB (aq _),aB h]
   ·rw [Nat.min_eq_right h]
  rw [ef];by_cases h:2<=wide
  ·rw [af h,af (show wide>1 by omega),show decide (wide>=2)=true by simpa using h];rfl
  ·rw [ae h,ae (show ¬(wide>1) by omega),show decide (wide>=2)=false by simpa using h];rfl
theorem Cy (wide:Int) (t:List Int):1<=(eH wide t).length/\(eH wide t).length<=2:=by
 unfold eH
 repeat' split
 all_goals simp
theorem Bf (wide:Int) (t:List Int):Snd (eH wide (fx t)):=CB wide (HR t) (HS t)
theorem I9 {t:List Int}(h:∀x∈t,vld x=true) (hl:t.length<=16):fx t=t:=by
 unfold fx;rw [aB hl]
 conv=>rhs; rw [<-List.map_id t]
 refine dH fun x hx=>?_;unfold gK;rw [af (h x hx)];rfl
theorem Eg (h:s.row_Row[k]? = some ⟨l,w⟩) (hs:Snd l) (hl:l.length<=1024){a:Nat}(wide:Int){t:List Int}(ht:t.length<=9223372036854775807) (ha:a+(eH wide (fx t)).length<=l.length):
  mJ s (some k) a wide t=some (s.sr k ⟨pl l a (eH wide (fx t)),pw l w a (eH wide (fx t)).length⟩,Er.nil):=by
 unfold mJ;rw [Cq wide t ht];simp only [bsm];rw [pZ h hs hl (Bf wide t) (Cy wide _).1 ha];rfl
def mat (l:List ab) (i:Int):Option Nat:=if 0<=i/\i<l.length then (if kd l i.toNat=0 then none else if kd l i.toNat=3 then some (i.toNat-1) else some i.toNat) else none
theorem yU (h:s.row_Row[k]? = some ⟨l,w⟩){i:Int}(hi:¬(0<=i/\i<l.length)):gX s (some k) i=some (bl,false):=by
 unfold gX;rw [jX h];simp only [bsm,bu];rw [af (by simp; omega)];rfl
theorem HK (hs:Snd l) (j:Nat):kd l j=0\/kd l j=1\/kd l j=2\/kd l j=3:=by
 rcases aU j l.length with h|h
 ·have:=(hs j h).1;unfold rgt at this;rw [lW h];split at this
  ·omega
  ·simp only [aA,aC,am] at this;omega
 ·exact .inl (nS h)
theorem FW (h:s.row_Row[k]? = some ⟨l,w⟩) (hs:Snd l) (i:Int) (hi: -9223372036854775808<=i/\i<=9223372036854775807):
  qh s (some k) i=some (match mat l i with|some j=>((j:Int),⟨kd l j,(l.getD j bl).Text⟩,true)|none=>(0,⟨0,[]⟩,false)):=by
 unfold qh mat;by_cases hin:0<=i/\i<l.length
 ·obtain ⟨j,rfl⟩:∃j:Nat,i=(j:Int):=⟨i.toNat,by omega⟩;have hj:j<l.length:=by omega
  rw [af hin,Ac h hj hs.sht,bE];have hkd:=lW hj;have hgd:l.getD j bl=l[j]:=by rw [aw,ag hj]; rfl
  simp only [bsm,ip];by_cases h3:kd l j=3
  ·obtain ⟨p1,p2⟩:=hs.three h3;have hj2:j-1<l.length:=by omega
   have hkd2:=lW hj2;rw [af (by rw [aQ,<-hkd]; exact h3),aJ (by omega),show ((j:Int)-1)=((j-1:Nat):Int) by omega,Ac h hj2 hs.sht];simp only [bsm,ip];rw [ae (show ¬kd l j=0 by omega),af h3,ae (by rw [aQ,<-hkd2]; omega),af (by rw [aQ,<-hkd2]; exact p2)];simp only;rw [p2,aw,ag hj2];rfl
  ·rw [ae (by rw [aQ,<-hkd]; exact h3)];simp only [bsm,ip];rcases HK hs j with h0|h1|h2|h4
   ·rw [ae (by rw [aQ,<-hkd]; omega),ae (by rw [aQ,<-hkd]; omega),af h0]
   ·rw [af (by rw [aQ,<-hkd]; exact h1),ae (by omega),ae h3];simp only;rw [h1,hgd]
   ·rw [ae (by rw [aQ,<-hkd]; omega),af (by rw [aQ,<-hkd]; exact h2),ae (by omega),ae h3];simp only;rw [h2,hgd]
   ·exact absurd h4 h3
 ·rw [ae hin,yU h hin];rfl
theorem D6 {a j:Nat}(h:a<=j/\j<a+p.length):pc l a p j=p.getD (j-a) bl:=by unfold pc; rw [af h]
theorem Hx {a j:Nat}(h:¬(a<=j/\j<a+p.length)):pc l a p j=if tch l a p.length j=true then bl else l.getD j bl:=by unfold pc; rw [ae h]
end Go.Proofs.YtclmdpamofdoiaaGreatDoor
namespace Go.Proofs.YtclmdpamofdoiaaGreatDoor
open Go Go.Lt
variable {s C:Sto}{g k W:Nat}{ks:List Nat}{l p:List ab}{w:Bool}{q:aa}
def Sto.sp (s:Sto) (k:Nat) (x:bv):Sto:={ s with place_Pen:=s.place_Pen.set k x}
theorem jJ {x:bv}(h:k<s.place_Pen.length):s.set_place_Pen k x=some (s.sp k x):=by
 simp only [Sto.set_place_Pen,h,bA];rfl
theorem yN {x:bv}(h:k<s.place_Pen.length):(s.sp k x).place_Pen[k]? = some x:=by simp [Sto.sp,h]
theorem yb (s:Sto) (k:Nat) (x y:bv):(s.sp k x).sp k y=s.sp k y:=by simp [Sto.sp]
theorem Gw.sp (h:Gw s g ks W) (k:Nat) (x:bv):Gw (s.sp k x) g ks W:=⟨h.g,h.r,h.h1,h.h2,h.w1,h.w2⟩
def ownG (C:Sto) (k g:Nat):Prop:=∃x,C.place_Pen[k]? = some x/\x.G=some g
def ownR (C:Sto) (k r:Nat):Prop:=∃g y,ownG C k g/\C.grid_Grid[g]? = some y/\some r∈y.rows
structure Fr (C s:Sto) (k g:Nat) (ks:List Nat):Prop where
 pl:C.place_Pen.length<=s.place_Pen.length
 gl:C.grid_Grid.length<=s.grid_Grid.length
 rl:C.row_Row.length<=s.row_Row.length
 pn:∀j,j<C.place_Pen.length->j≠k->s.place_Pen[j]? = C.place_Pen[j]?
 gr:∀j,j<C.grid_Grid.length->¬ownG C k j->s.grid_Grid[j]? = C.grid_Grid[j]?
 rw:∀j,j<C.row_Row.length->¬ownR C k j->s.row_Row[j]? = C.row_Row[j]?
 ng:ownG C k g\/C.grid_Grid.length<=g
 nr:∀r∈ks,ownR C k r\/C.row_Row.length<=r
theorem Fr.self {p:bv}(h:s.place_Pen[k]? = some p) (hg:p.G=some g) (hk:s.grid_Grid[g]? = some ⟨ks.map some⟩):Fr s s k g ks:=
 ⟨aq _,aq _,aq _,fun _ _ _=>rfl,fun _ _ _=>rfl,fun _ _ _=>rfl,.inl ⟨p,h,hg⟩,fun r hr=> .inl ⟨g,_,⟨p,h,hg⟩,hk,List.mem_map.2 ⟨r,hr,rfl⟩⟩⟩
theorem Fr.new (h1:C.place_Pen.length<=s.place_Pen.length) (h2:C.grid_Grid.length<=s.grid_Grid.length) (h3:C.row_Row.length<=s.row_Row.length) (h4:∀j,j<C.place_Pen.length->s.place_Pen[j]? = C.place_Pen[j]?)
  (h5:∀j,j<C.grid_Grid.length->s.grid_Grid[j]? = C.grid_Grid[j]?) (h6:∀j,j<C.row_Row.length->s.row_Row[j]? = C.row_Row[j]?) (h7:C.grid_Grid.length<=g) (h8:∀r∈ks,C.row_Row.length<=r):Fr C s k g ks:=
 ⟨h1,h2,h3,fun j a _=>h4 j a,fun j a _=>h5 j a,fun j a _=>h6 j a,.inr h7,fun r hr=> .inr (h8 r hr)⟩
theorem Fr.step {s':Sto}{g':Nat}{ks':List Nat}(h:Fr C s k g ks) (f:Rf s s' g ks g' ks') (hp:s'.place_Pen=s.place_Pen):Fr C s' k g' ks':=by
 refine ⟨by rw [hp]; exact h.pl,dY h.gl f.gl,dY h.rl f.rl,fun j a b=>by rw [hp]; exact h.pn j a b,fun j a b=>?_,fun j a b=>?_,?_,fun r hr=>?_⟩
 ·have:=h.gl;rw [f.gr j (by omega) ?_,h.gr j a b];rintro rfl;rcases h.ng with q|q
  ·exact b q
  ·omega
 ·have:=h.rl;rw [f.rw j (by omega) ?_,h.rw j a b];intro hj;rcases h.nr j hj with q|q
  ·exact b q
  ·omega
 ·rcases f.ng with rfl|q
  ·exact h.ng
  ·exact .inr (dY h.gl q)
 ·rcases f.nr r hr with q|q
  ·exact h.nr r q
  ·exact .inr (dY h.rl q)
theorem Fr.sp (h:Fr C s k g ks) (x:bv):Fr C (s.sp k x) k g ks:=
 ⟨by simp only [Sto.sp,cz]; exact h.pl,h.gl,h.rl,fun j a b=>by simp only [Sto.sp]; rw [bh (vN b)]; exact h.pn j a b,h.gr,h.rw,h.ng,h.nr⟩
theorem Fr.sr (h:Fr C s k g ks){i:Nat}(hi:i∈ks) (r:br):Fr C (s.sr i r) k g ks:=by
 refine h.step (s':=s.sr i r) ⟨aq _,by simp [Sto.sr],fun _ _ _=>rfl,fun j _ b=>?_,.inl rfl,fun r hr=> .inl hr⟩ rfl;exact zO (fun e=>b (e▸ hi))
theorem Fr.addp (h:Fr C s k g ks) (x:bv):Fr C (s.add_place_Pen x) k g ks:=
 ⟨by have:=h.pl; simp only [Sto.add_place_Pen,ao]; omega,h.gl,h.rl,fun j a b=>by have:=h.pl; simp only [Sto.add_place_Pen]; rw [aG (by omega)]; exact h.pn j a b,h.gr,h.rw,h.ng,h.nr⟩
structure Rgp (s s':Sto):Prop where
 r:s'.row_Row=s.row_Row
 g:s'.grid_Grid=s.grid_Grid
 p:s'.place_Pen=s.place_Pen
theorem Rgp.self (s:Sto):Rgp s s:=⟨rfl,rfl,rfl⟩
theorem Rgp.symm {s s':Sto}(h:Rgp s s'):Rgp s' s:=⟨h.r.symm,h.g.symm,h.p.symm⟩
theorem Rgp.ownG {s s':Sto}(h:Rgp s s') (k g:Nat):ownG s' k g↔ownG s k g:=by unfold Go.Proofs.YtclmdpamofdoiaaGreatDoor.ownG; rw [h.p]
theorem Rgp.ownR {s s':Sto}(h:Rgp s s') (k r:Nat):ownR s' k r↔ownR s k r:=by unfold Go.Proofs.YtclmdpamofdoiaaGreatDoor.ownR; rw [h.g]; simp only [h.ownG]
theorem Fr.rgp {C' s':Sto}(h:Fr C s k g ks) (hC:Rgp C C') (hs:Rgp s s'):Fr C' s' k g ks:=by
 refine ⟨by rw [hC.p,hs.p]; exact h.pl,by rw [hC.g,hs.g]; exact h.gl,by rw [hC.r,hs.r]; exact h.rl,?_,?_,?_,?_,?_⟩
 ·rw [hC.p,hs.p]; exact h.pn
 ·rw [hC.g,hs.g]; simp only [hC.ownG]; exact h.gr
 ·rw [hC.r,hs.r]; simp only [hC.ownR]; exact h.rw
 ·rw [hC.g,hC.ownG]; exact h.ng
 ·rw [hC.r]; simp only [hC.ownR]; exact h.nr
theorem Fr.trans {B:Sto}{g0:Nat}{ks0:List Nat}(h:Fr B C k g0 ks0) (hg:∀j,ownG C k j->j=g0) (hr:∀j,ownR C k j->j∈ks0) (h':Fr C s k g ks):Fr B s k g ks:=by
 have hl:=h.gl;have hl2:=h.rl;have hl3:=h.pl;refine ⟨dY h.pl h'.pl,dY h.gl h'.gl,dY h.rl h'.rl,fun j a b=>?_,fun j a b=>?_,fun j a b=>?_,?_,fun r hr'=>?_⟩
 ·rw [h'.pn j (by omega) b,h.pn j a b]
 ·rw [h'.gr j (by omega) ?_,h.gr j a b];intro q;obtain rfl:=hg j q;rcases h.ng with q|q
  ·exact b q
  ·omega
 ·rw [h'.rw j (by omega) ?_,h.rw j a b];intro q;rcases h.nr j (hr j q) with q|q
  ·exact b q
  ·omega
 ·rcases h'.ng with q|q
  ·obtain rfl:=hg g q; exact h.ng
  ·exact .inr (by omega)
 ·rcases h'.nr r hr' with q|q
  ·exact h.nr r (hr r q)
  ·exact .inr (by omega)
structure Pv (C s:Sto) (k g_ W:Nat) (q:aa) (ks:List Nat):Prop where
 p:s.place_Pen[k]? = some ⟨some g_,q.At,q.Auto⟩
 g:Gw s g_ ks W
 nd:ks.Nodup
 l:ks.map (ln s)=q.L
 o:s.oth=C.oth
 f:Fr C s k g_ ks
theorem Pv.self (h:Pv C s k g W q ks):Pv s s k g W q ks:=⟨h.p,h.g,h.nd,h.l,rfl,Fr.self h.p rfl h.g.g⟩
theorem Pv.oG (h:Pv C s k g W q ks) (j:Nat) (hj:ownG s k j):j=g:=by
 obtain ⟨x,h1,h2⟩:=hj;rw [h.p] at h1;cases h1;exact (bi h2).symm
theorem Pv.oR (h:Pv C s k g W q ks) (j:Nat) (hj:ownR s k j):j∈ks:=by
 obtain ⟨g',y,h1,h2,h3⟩:=hj;obtain rfl:=h.oG g' h1;rw [h.g.g] at h2;cases h2;obtain ⟨r,h4,h5⟩:=List.mem_map.1 h3;cases h5;exact h4
theorem Pv.len (h:Pv C s k g W q ks):q.L.length=ks.length:=by rw [<-h.l,cC]
theorem Pv.ok (h:Pv C s k g W q ks):∀x∈q.L,Okl W x:=by rw [<-h.l]; exact xL h.g
theorem Pv.at (h:Pv C s k g W q ks){i:Nat}(hi:i<ks.length):q.L[i]'(by rw [h.len]; exact hi)=ln s ks[i]:=by
 have:=h.l;have e:q.L[i]? = (ks.map (ln s))[i]? :=by rw [this]
 rw [ag (by rw [h.len]; exact hi),bO,ag hi] at e;exact bi e
theorem Pv.set (h:Pv C s k g W q ks) (c:ai) (a:Bool):Pv C (s.sp k ⟨some g,c,a⟩) k g W ⟨q.L,c,a⟩ ks:=
 ⟨yN (cY h.p),h.g.sp _ _,h.nd,h.l,h.o,h.f.sp _⟩
theorem Pv.row (h:Pv C s k g W q ks){i:Nat}(hi:i<ks.length){r:br}(hr:Snd r.cells) (hl:r.cells.length=W):Pv C (s.sr ks[i] r) k g W ⟨q.L.set i ⟨r.cells,r.wrap⟩,q.At,q.Auto⟩ ks:=by
 have hlt:=(h.g.at hi).lt;refine ⟨h.p,⟨h.g.g,fun j hj=>?_,h.g.h1,h.g.h2,h.g.w1,h.g.w2⟩,h.nd,?_,h.o,h.f.sr (aF hi) _⟩
 ·by_cases e:ks[i]=j
  ·subst e; exact ⟨r,tZ hlt,hr,hl⟩
  ·obtain ⟨r0,h1,h2⟩:=h.g.r j hj;exact ⟨r0,(zO e).trans h1,h2⟩
 ·refine bY fun j=>?_;rw [bO,mT];rcases aU j ks.length with hj|hj
  ·rw [ag hj,ga];by_cases e:i=j
   ·subst e;rw [af rfl,af (by rw [h.len]; exact hi),oX (tZ hlt)]
   ·have hne:ks[i]≠ks[j]:=by
     rcases JO e with h1|h1
     ·exact List.pairwise_iff_getElem.1 h.nd i j _ _ h1
     ·exact (List.pairwise_iff_getElem.1 h.nd j i _ _ h1).symm
    rw [ae e,ag (by rw [h.len]; exact hj),h.at hj];unfold ln;rw [zO hne]
  ·rw [aT hj,ae (by omega),aT (by rw [h.len]; exact hj)];rfl
def hc (c:ai) (W h:Nat):ai:=⟨max 0 (min c.Row ((h:Int)-1)),max 0 (min c.Col ((W:Int)-1)),c.Pending && (c.Col==(W:Int)-1)⟩
theorem uQ {n:Nat}(h1:1<=n) (h2:n<=1024):iK n=some (n:Int):=by
 unfold iK;rw [fK,dL]
 congr 1
 omega
theorem wU {n:Nat}(h1:1<=n) (h2:n<=1024):cg n=some (n:Int):=by
 unfold cg;rw [ae (by simp; omega),ae (by simp; omega)]
theorem qr (c:ai){W h:Nat}(w1:1<=W) (w2:W<=1024) (h1:1<=h) (h2:h<=1024):gR c W h=some (hc c W h):=by
 unfold gR mw;rw [uQ w1 w2,uQ h1 h2];simp only [bsm,bb];rw [aJ (by omega),aJ (by omega),fK,dL,fK,dL];rfl
theorem wT (n:Int){m:Nat}(h1:1<=m) (h2:m<=1024):eC n m=some (max 0 (min n ((m:Int)-1))):=by
 unfold eC;rw [aJ (by omega)];by_cases a:n<0
 ·rw [af (by simpa using a)]
  congr 1
  omega
 ·rw [ae (by simpa using a)];by_cases b:(m:Int)<=n
  ·rw [af (by simpa using b)]
   congr 1
   omega
  ·rw [ae (by simpa using b)]
   congr 1
   omega
theorem Ae (c:ai){W h:Nat}(w1:1<=W) (w2:W<=1024) (h1:1<=h) (h2:h<=1024):fA c W h=some (hc c W h):=by
 unfold fA;rw [wU h1 h2,wU w1 w2];simp only [bsm,bb];rw [wT _ h1 h2,wT _ w1 w2,aJ (by omega)];rfl
structure Hd (c:ai) (W h:Nat):Prop where
 rr:0<=c.Row/\c.Row<(h:Int)
 cc:0<=c.Col/\c.Col<(W:Int)
 pp:c.Pending=true->c.Col=(W:Int)-1
theorem uK (c:ai){W h:Nat}(w1:1<=W) (h1:1<=h):Hd (hc c W h) W h:=by
 refine ⟨by simp only [hc]; omega,by simp only [hc]; omega,fun hp=>?_⟩;simp only [hc,aA,aQ] at hp|-;omega
theorem I1 {c:ai}{W h:Nat}(hd:Hd c W h):hc c W h=c:=by
 obtain ⟨h1,h2,h3⟩:=hd;obtain ⟨a,b,d⟩:=c;simp only at h1 h2 h3;unfold hc;simp only [ai.mk.injEq];refine ⟨by omega,by omega,?_⟩
 cases d with
 | false=>rfl
 | true=>rw [h3 rfl]; simp
theorem yq (h:Pv C s k g W q ks):ik s (some k)=some (s.sp k ⟨some g,hc q.At W ks.length,q.Auto⟩,true):=by
 unfold ik;simp only [bS,ig,bsm,h.p,ak,aY];rw [jE h.g,eM h.g];simp only [bsm];rw [qr _ h.g.w1 h.g.w2 h.g.h1 h.g.h2];simp only [bsm];rw [jJ (cY h.p)];rfl
theorem se (h:Pv C s k g W q ks):cX q=some (W:Int):=by
 have hl:=h.len;have h1:=h.g.h1;have h0:idx q.L (0:Int)=some (q.L[0]'(by omega)):=bj (i:=0) (by omega);unfold cX;rw [h0];simp only [bsm];rw [(h.ok _ (aF _)).2]
theorem qb (h:Pv C s k g W q ks):cp q=some ⟨q.L,hc q.At W ks.length,q.Auto⟩:=by
 unfold cp;rw [se h];simp only [bsm];rw [h.len,Ae _ h.g.w1 h.g.w2 h.g.h1 h.g.h2];rfl
theorem xc (h:Pv C s k g W q ks):∃s' q' ks',fX s (some k)=some s'/\du q=some q'/\Pv C s' k g W q' ks'/\ks'.length=ks.length/\
  Hd q'.At W ks.length/\q'.At.Pending=false/\q'.At.Col=(hc q.At W ks.length).Col/\q'.Auto=q.Auto:=by
 have h1:=h.set (hc q.At W ks.length) q.Auto;have hd:=uK q.At h.g.w1 h.g.h1;have hh:=h.g.h2;unfold fX du;rw [yq h,qb h];generalize hc q.At W ks.length=c at *;simp only [bsm,dA,ak,aY];rw [h1.p];simp only [bsm];rw [eM h1.g];simp only [bsm];unfold og;rw [uQ h.g.h1 h.g.h2];simp only [bsm];rw [aJ (by omega),aJ (by have:=hd.rr; omega),h.len];have hr:=hd.rr;by_cases he:(ks.length:Int)-1<=c.Row
 ·rw [af (by simpa using he),ae (by simp; omega)];have h2:=h1.set ⟨c.Row,c.Col,false⟩ q.Auto;rw [yb] at h2;simp only [bsm];rw [jJ (by rw [show (s.sp k ⟨some g,c,q.Auto⟩).place_Pen.length=s.place_Pen.length by simp [Sto.sp]]; exact cY h.p),yb];simp only [bsm,bA];rw [eM h2.g];simp only [bsm];obtain ⟨s',ks',u1,⟨u2,u3,u4,u5⟩,u6,u7⟩:=A7 h2.g h2.nd 0 (ks.length:Int) 1;have hm:=sj (W:=W) (L:=q.L) (by rw [h.len]; exact hh) h.g.w2 (fun x hx=>(h.ok x hx).2) 0 (ks.length:Int) 1 true;rw [h.len] at hm;rw [u1,hm];refine ⟨s',_,ks',rfl,rfl,⟨?_,u2,u3,?_,(tc u6).trans h2.o,h2.f.step u7 (lL u6)⟩,u4,⟨hr,hd.cc,fun e=>by cases e⟩,rfl,rfl,rfl⟩
  ·rw [lL u6]; exact h2.p
  ·rw [u5,h2.l]
 ·rw [ae (by simpa using he),af (by simp; omega)];have h2:=h1.set ⟨c.Row+1,c.Col,false⟩ q.Auto;rw [yb] at h2;simp only [bsm];rw [jJ (by rw [show (s.sp k ⟨some g,c,q.Auto⟩).place_Pen.length=s.place_Pen.length by simp [Sto.sp]]; exact cY h.p),yb];simp only [bsm,ak,aY];exact ⟨_,_,ks,rfl,rfl,h2,rfl,⟨by simp only; omega,hd.cc,fun e=>by cases e⟩,rfl,rfl,rfl⟩
theorem uF (h:Pv C s k g W q ks){i:Nat}(hi:i<ks.length) (x:aj):co q i x=some ⟨q.L.set i x,q.At,q.Auto⟩:=by
 have hl:=h.len;have hh:=h.g.h2;unfold co;rw [cO (by simp; omega),aW];simp only [bsm];rw [bj (show i<q.L.length by omega),lj (show i<q.L.length by omega)];rfl
theorem Ci (h:Pv C s k g W q ks) (hd:0<=q.At.Row/\q.At.Row<(ks.length:Int)):∃s' q' ks',gy s (some k)=some s'/\cF q=some q'/\Pv C s' k g W q' ks'/\ks'.length=ks.length/\
  Hd q'.At W ks.length/\q'.At.Pending=false/\q'.At.Col=0/\q'.Auto=q.Auto:=by
 obtain ⟨i,hi⟩:∃i:Nat,q.At.Row=(i:Int):=⟨q.At.Row.toNat,by omega⟩;have hik:i<ks.length:=by omega
 have hl:=h.len;obtain ⟨r,r1,r2,r3⟩:=h.g.at hik;have hrow:=h.row hik (r:=⟨r.cells,true⟩) r2 r3;have h2:=hrow.set ⟨q.At.Row,0,false⟩ q.Auto;have w1:=h.g.w1;unfold gy cF;simp only [bsm,h.p,hi];rw [fL h.g hik];simp only [bsm];rw [wR (l:=r.cells) (w:=r.wrap) r1];simp only [bsm];rw [hrow.p];simp only [bsm,dJ];rw [jJ (cY hrow.p)];simp only [bsm];rw [bj (show i<q.L.length by omega),h.at hik,oX r1];simp only [bsm];rw [uF h hik];simp only [bsm,hi];obtain ⟨s',q',ks',n1,n2,n3,n4,n5,n6,n7,n8⟩:=xc h2;rw [hi] at n1 n2;rw [n1,n2];refine ⟨s',q',ks',rfl,rfl,n3,n4,n5,n6,?_,n8⟩;rw [n7];simp only [hc];omega
theorem Aj (h:Pv C s k g W q ks){i a:Nat}(hi:i<ks.length) (hp:Snd p) (hn:1<=p.length) (ha:a+p.length<=W):∃s' q',ez s (some ks[i]) a p=some (s',Er.nil)/\ce q i a p=some q'/\
  Pv C s' k g W q' ks/\q'.At=q.At/\q'.Auto=q.Auto/\q'.L=q.L.set i ⟨pl (ln s ks[i]).Cells a p,pw (ln s ks[i]).Cells (ln s ks[i]).Wrap a p.length⟩:=by
 obtain ⟨r,r1,r2,r3⟩:=h.g.at hi;have w2:=h.g.w2;have hl:=h.len;have hrow:=h.row hi (r:=⟨pl r.cells a p,pw r.cells r.wrap a p.length⟩) (r2.paint hp (by rw [r3]; exact ha)) (by rw [kp]; exact r3);refine ⟨_,_,pZ (l:=r.cells) (w:=r.wrap) r1 r2 (by omega) hp hn (by omega),?_,hrow,rfl,rfl,by rw [oX r1]⟩;unfold ce;rw [bj (show i<q.L.length by omega),h.at hi,oX r1];simp only [bsm];rw [vu _ _ _ _ (by omega) (by omega) (by omega)];simp only [bsm];rw [uF h hi];rfl
end Go.Proofs.YtclmdpamofdoiaaGreatDoor
namespace Go.Proofs.YtclmdpamofdoiaaGreatDoor
open Go Go.Lt
def ca (c:ai) (d W:Nat) (au:Bool):ai:=if c.Col<(W:Int)-d then ⟨c.Row,c.Col+d,false⟩ else ⟨c.Row,(W:Int)-1,au⟩
theorem Dj (c:ai){d W:Nat}(hd:d=1\/d=2) (w1:1<=W) (w2:W<=1024) (hc:0<=c.Col/\c.Col<(W:Int)) (au:Bool):lB c d W au=some (ca c d W au):=by
 unfold lB ca;rw [uQ w1 w2];simp only [bsm,fK,dL];rw [show max (1:Int) (min (d:Int) 2)=(d:Int) by omega,aJ (by omega),aJ (by omega),aJ (by omega)];by_cases h:c.Col<(W:Int)-d
 ·rw [af (by simpa using h),af h]
 ·rw [ae (by simpa using h),ae h]
theorem yo (c:ai){d W:Nat}(hd:d=1\/d=2) (w1:1<=W) (w2:W<=1024) (hc:0<=c.Col/\c.Col<(W:Int)) (au:Bool):gk c d W au=some (ca c d W au):=by
 unfold gk ca;have hz:(if decide ((d:Int)>1)=true then (some 2:Option Int) else some 1)=some (d:Int):=by
  rcases hd with rfl|rfl <;> rfl
 rw [hz];simp only [bsm];rw [wU w1 w2];simp only [bsm];rw [aJ (by omega),aJ (by omega),aJ (by omega)];by_cases h:c.Col<(W:Int)-d
 ·rw [ae (by simp; omega),af h]
 ·rw [af (by simp; omega),ae h]
variable {s C:Sto}{g k W:Nat}{ks:List Nat}{q:aa}
theorem Jg {c:ai}{d h:Nat}(hd:d=1\/d=2) (w1:1<=W) (hc:0<=c.Col/\c.Col<(W:Int)) (hr:0<=c.Row/\c.Row<(h:Int)) (au:Bool):Hd (ca c d W au) W h:=by
 unfold ca;by_cases h:c.Col<(W:Int)-d
 ·rw [af h];exact ⟨hr,by simp only; omega,fun e=>by cases e⟩
 ·rw [ae h];exact ⟨hr,by simp only; omega,fun _=>rfl⟩
theorem pC (d:Nat) (hd:d=1\/d=2) (t:List Int):(eH (d:Int) t).length=d:=by
 unfold eH;rcases hd with rfl|rfl <;> (repeat' split) <;> first|rfl|(exfalso; omega)
def fld (q:aa):(List aj)×Int×Int×Bool×Bool:=(q.L,q.At.Row,q.At.Col,q.At.Pending,q.Auto)
def rp1 (q:aa):Option ((List aj)×Int×Int×Bool×Bool):=
 if q.At.Pending then
 (cF q).bind fun x_34=>
 (some (x_34.L,x_34.At.Row,x_34.At.Col,x_34.At.Pending,x_34.Auto):Option ((List aj)×Int×Int×Bool×Bool))
 else
 (some (q.L,q.At.Row,q.At.Col,q.At.Pending,q.Auto):Option ((List aj)×Int×Int×Bool×Bool))
def rp2 (d W:Int) (z_28:(List aj)×Int×Int×Bool×Bool):Option ((List aj)×Int×Int×Bool×Bool):=
 (bL (d==2) (some (z_28.2.2.1==(w64 (W-1))))).bind fun d_40=>
 if d_40 then
 if z_28.2.2.2.2 then
 (rep 1 (⟨0,([]:List Int)⟩:ab)).bind fun x_58=>
 (ce (⟨z_28.1,(⟨z_28.2.1,z_28.2.2.1,z_28.2.2.2.1⟩:ai),z_28.2.2.2.2⟩:aa) z_28.2.1 (w64 (W-1)) x_58).bind fun x_59=>
 (cF x_59).bind fun x_60=>
 (some (x_60.L,x_60.At.Row,x_60.At.Col,x_60.At.Pending,x_60.Auto):Option ((List aj)×Int×Int×Bool×Bool))
 else
 (some (z_28.1,z_28.2.1,(w64 (W-2)),z_28.2.2.2.1,z_28.2.2.2.2):Option ((List aj)×Int×Int×Bool×Bool))
 else
 (some (z_28.1,z_28.2.1,z_28.2.2.1,z_28.2.2.2.1,z_28.2.2.2.2):Option ((List aj)×Int×Int×Bool×Bool))
def cp1 (s:Sto) (p0:Option Nat):Option Sto:=
 (p0).bind fun k_3=>
 (s.place_Pen[k_3]?).bind fun o_6=>
 if o_6.At.Pending then
 (gy s p0).bind fun x_9=>
 (some x_9:Option Sto)
 else
 (some s:Option Sto)
theorem GQ (h:Pv C s k g W q ks) (hd:Hd q.At W ks.length):∃s' q' ks',cp1 s (some k)=some s'/\rp1 q=some (fld q')/\Pv C s' k g W q' ks'/\ks'.length=ks.length/\Hd q'.At W ks.length/\q'.Auto=q.Auto/\q'.At.Pending=false:=by
 unfold cp1 rp1;simp only [bsm,h.p]
 cases hp:q.At.Pending with
 | false=>
  simp only [ak,aY];exact ⟨s,q,ks,rfl,by unfold fld; rw [hp],h,rfl,hd,rfl,hp⟩
 | true=>
  simp only [bA];obtain ⟨s',q',ks',a1,a2,a3,a4,a5,a6,a7,a8⟩:=Ci h hd.rr;rw [a1,a2];exact ⟨s',q',ks',rfl,rfl,a3,a4,a5,a8,a6⟩
theorem B4 (h:Pv C s k g W q ks) (hd:Hd q.At W ks.length){d:Nat}(hdd:d=1\/d=2) (hdw:d<=W):
  ∃s' q' ks' z,ke s (some k) d=some s'/\rp1 q=some z/\rp2 d W z=some (fld q')/\Pv C s' k g W q' ks'/\ks'.length=ks.length/\(0<=q'.At.Row/\q'.At.Row<(ks.length:Int))/\(0<=q'.At.Col/\q'.At.Col+d<=(W:Int))/\q'.Auto=q.Auto:=by
 obtain ⟨s1,q1,ks1,a1,a2,v1,n1,hd1,au1,pe1⟩:=GQ h hd;have w1:=h.g.w1;have w2:=h.g.w2;have hcc:=hd1.cc;unfold ke
 change ∃s' q' ks' z,((cp1 s (some k)).bind _)=some s'/\_
 rw [a1];simp only [bsm,v1.p];rw [jE v1.g];simp only [bsm,bu];have e1:w64 ((W:Int)-1)=((W-1:Nat):Int):=by rw [aJ (by omega)]; omega
 have e2:w64 ((W:Int)-2)=(W:Int)-2:=aJ (by omega);rw [e1];unfold rp2;by_cases hA:d=1\/q1.At.Col<(W:Int)-1
 ·rw [af (by simp only [aC,aQ,am]; omega)];refine ⟨s1,q1,ks1,_,rfl,a2,?_,v1,n1,hd1.rr,by omega,au1⟩;simp only [fld,bb,bsm,e1];rw [ae (by simp only [aA,aQ]; omega)]
 ·rw [ae (by simp only [aC,aQ,am]; omega)];have hd2:d=2:=by omega
  have hcol:q1.At.Col=(W:Int)-1:=by omega
  obtain ⟨i,hi⟩:∃i:Nat,q1.At.Row=(i:Int):=⟨q1.At.Row.toNat,by have:=hd1.rr; omega⟩;have hik:i<ks1.length:=by have:=hd1.rr; omega
  cases hau:q1.Auto with
  | true=>
   simp only [bA];rw [hi,fL v1.g hik];simp only [bsm];rw [show eY 1=some [bl] from vM 1];simp only [bsm];obtain ⟨s2,q2,b1,b2,v2,at2,au2,_⟩:=Aj (p:=[bl]) (a:=W-1) v1 hik (vi 1) (by decide) (by simp; omega);rw [b1];simp only [bsm];obtain ⟨s3,q3,ks3,c1,c2,v3,n3,hd3,pe3,co3,au3⟩:=Ci v2 (by rw [at2,n1]; exact hd1.rr);rw [c1];refine ⟨s3,q3,ks3,_,rfl,a2,?_,v3,n3.trans n1,by rw [<-n1]; exact hd3.rr,by rw [co3]; omega,by rw [au3,au2,au1]⟩;simp only [fld,bb,bsm,e1];rw [af (by simp only [aA,aQ]; omega)];simp only [hau,bA];rw [pJ _ (by decide),hi];simp only [bsm];rw [show (List.replicate (1:Int).toNat (⟨0,[]⟩:ab))= [bl] from rfl];have b2':ce ⟨q1.L,⟨(i:Int),q1.At.Col,q1.At.Pending⟩,true⟩ i ((W-1:Nat):Int) [bl]=some q2:=by rw [<-hi,<-hau]; rw [<-hi] at b2; exact b2
   rw [b2'];simp only [bsm];rw [c2];rfl
  | false=>
   simp only [ak,aY];rw [jJ (cY v1.p)];simp only [bsm];have e3:w64 (q1.At.Col-1)=(W:Int)-2:=by rw [aJ (by omega)]; omega
   have v2:=v1.set ⟨q1.At.Row,(W:Int)-2,q1.At.Pending⟩ q1.Auto;rw [hau] at v2;rw [e3];refine ⟨_,_,ks1,_,rfl,a2,?_,v2,n1,hd1.rr,by simp only; omega,by simp only; rw [<-hau]; exact au1⟩;simp only [fld,bb,bsm,e1,e2];rw [af (by simp only [aA,aQ]; omega)];simp only [hau,ak,aY]
def cl2 (p1:Int) (t:List Int) (W:Nat):Nat×List Int:=if max 1 (min p1 2)>(W:Int) then (1,[65533]) else ((max 1 (min p1 2)).toNat,t)
theorem EL (p1:Int) (t:List Int) (w1:1<=W):((cl2 p1 t W).1=1\/(cl2 p1 t W).1=2)/\(cl2 p1 t W).1<=W:=by
 unfold cl2;split
 ·exact ⟨.inl rfl,w1⟩
 ·simp only;omega
theorem EK (p1:Int) (t:List Int):(if decide ((aK 1 (aE p1 2))>(W:Int)) then (some (1,([65533]:List Int)):Option (Int×(List Int))) else (some ((aK 1 (aE p1 2)),t):Option (Int×(List Int))))=some (((cl2 p1 t W).1:Int),(cl2 p1 t W).2):=by
 rw [dL,fK];unfold cl2;by_cases h:max 1 (min p1 2)>(W:Int)
 ·rw [af (by simpa using h),af h];rfl
 ·rw [ae (by simpa using h),ae h];simp only;rw [ra (by omega)]
theorem wV (h:Pv C s k g W q ks) (p1:Int) (t:List Int) (ht:t.length<=1000000):∃(s':Sto) (q':aa) (ks':List Nat) (i a:Nat),i<ks.length/\iq s (some k) p1 t=some (s',⟨(i:Int),(a:Int),false⟩)/\be q p1 t=some (q',⟨(i:Int),(a:Int),false⟩)/\
  Pv C s' k g W q' ks'/\ks'.length=ks.length/\Hd q'.At W ks.length/\q'.Auto=q.Auto/\a+(cl2 p1 t W).1<=W/\
  ∃l0 w0,l0.length=W/\q'.L[i]? = some ⟨pl l0 a (eH (cl2 p1 t W).1 (fx (cl2 p1 t W).2)),w0⟩:=by
 have hl:(cl2 p1 t W).2.length<=1000000:=by unfold cl2; split <;> simp; exact ht
 obtain ⟨hdd,hdw⟩:=EL p1 t h.g.w1;have hce:=EK (W:=W) p1 t;have w1:=h.g.w1;have w2:=h.g.w2;have h1:=h.set (hc q.At W ks.length) q.Auto;have hd:=uK q.At h.g.w1 h.g.h1;unfold iq be;rw [yq h,qb h];generalize hc q.At W ks.length=c at *;simp only [bsm,dA,ak,aY,h1.p];rw [jE h1.g,se h1];simp only [bsm];rw [hce];generalize (cl2 p1 t W).2=t2 at *;generalize (cl2 p1 t W).1=d at *;simp only [bsm];obtain ⟨s2,q2,ks2,z,a1,a2,a3,v2,n2,hr,hcl,au⟩:=B4 h1 hd hdd hdw;rw [a1];obtain ⟨i,hi⟩:∃i:Nat,q2.At.Row=(i:Int):=⟨q2.At.Row.toNat,by omega⟩;obtain ⟨a,ha⟩:∃a:Nat,q2.At.Col=(a:Int):=⟨q2.At.Col.toNat,by omega⟩;have hik:i<ks2.length:=by omega
 obtain ⟨L2,⟨row2,col2,pd2⟩,ua2⟩:=q2;simp only at hi ha hr hcl au;subst hi ha;simp only [bsm,v2.p];rw [fL v2.g hik];simp only [bsm];unfold mJ;rw [Cq _ _ (by omega)];simp only [bsm];have hsl:=pC d hdd (fx t2);obtain ⟨s3,q3,b1,b2,v3,at3,au3,l3⟩:=Aj (p:=eH d (fx t2)) (a:=a) v2 hik (Bf _ _) (by rw [hsl]; omega) (by rw [hsl]; omega);rw [b1];simp only [bsm,v3.p];rw [jE v3.g];simp only [bsm];have hc2:0<=(⟨(i:Int),(a:Int),false⟩:ai).Col/\(⟨(i:Int),(a:Int),false⟩:ai).Col<(W:Int):=by simp only; omega
 rw [Dj _ hdd w1 w2 hc2];simp only [bsm];rw [jJ (cY v3.p)];simp only [bsm];have v4:=v3.set (ca ⟨(i:Int),(a:Int),false⟩ d W q3.Auto) q3.Auto
 change ∃s' q' ks' i_1 a_1,_/\_/\((rp1 ⟨q.L,c,q.Auto⟩).bind fun z_28=>(rp2 d W z_28).bind _)=_/\_
 rw [a2];simp only [bsm];rw [a3];simp only [fld,bsm];rw [DW _ _ (by omega)];simp only [bsm];rw [b2];simp only [bsm];rw [yo _ hdd w1 w2 hc2];simp only [bsm];refine ⟨_,_,ks2,i,a,by omega,rfl,rfl,v4,n2,Jg hdd w1 hc2 (by simp only; omega) _,by simp only; rw [au3,au],by omega,(ln s2 ks2[i]).Cells,pw (ln s2 ks2[i]).Cells (ln s2 ks2[i]).Wrap a (eH d (fx t2)).length,?_,?_⟩
 ·have:=v2.ok _ (aF (show i<L2.length by have:=v2.len; simp only at this; omega));rw [v2.at hik] at this;exact this.2
 ·simp only;rw [l3,bB (by have:=v2.len; simp only at this|-; omega)]
end Go.Proofs.YtclmdpamofdoiaaGreatDoor
namespace Go.Proofs.YtclmdpamofdoiaaGreatDoor
open Go Go.Lt
variable {s:Sto}{k g W:Nat}{l p p':List ab}{w:Bool}{q:aa}{ks:List Nat}
theorem ux (l:List ab) (a n j:Nat):tch l a n j=true↔(a<=j/\j<a+n)\/(kd l j=2/\a<=j+1/\j+1<a+n)\/(kd l j=3/\a+1<=j/\j<a+n+1):=by
 simp only [tch,aC,aA,am];omega
theorem yX {c j:Nat}(h:¬(c<=j/\j<c+p.length)):pc l c p j=if (kd l j=2/\j+1=c/\0<p.length)\/(kd l j=3/\j=c+p.length/\0<p.length) then bl else l.getD j bl:=by
 rw [Hx h];by_cases ht:tch l c p.length j=true
 ·rw [af ht,af];rw [ux] at ht;omega
 ·rw [ae ht,ae];rw [ux] at ht;omega
theorem Eo {c j:Nat}(hj:j<l.length) (h:¬(c<=j/\j<c+p.length)):kd (pl l c p) j=if (kd l j=2/\j+1=c/\0<p.length)\/(kd l j=3/\j=c+p.length/\0<p.length) then 0 else kd l j:=by
 rw [Em hj,yX h];split
 ·rfl
 ·exact oT l j
theorem yW {a c:Nat}(h1:a<=c) (h2:c+p.length<=a+p'.length) (h3:a+p'.length<=l.length):pl (pl l c p) a p'=pl l a p':=by
 apply bY;intro j;rcases aU j l.length with hj|hj
 ·rw [vy (by rw [kp]; exact hj),vy hj]
  congr 1
  by_cases hi:a<=j/\j<a+p'.length
  ·rw [D6 hi,D6 hi]
  ·have hc:¬(c<=j/\j<c+p.length):=by omega
   have hg:(pl l c p).getD j bl=pc l c p j:=by rw [aw,vy hj]; rfl
   rw [yX hi,yX hi,Eo hj hc,hg,yX hc];by_cases hA:(kd l j=2/\j+1=c/\0<p.length)\/(kd l j=3/\j=c+p.length/\0<p.length)
   ·rw [af hA,af hA,ae (by omega),af (by omega)]
   ·rw [ae hA,ae hA]
 ·rw [aT (by rw [kp,kp]; exact hj),aT (by rw [kp]; exact hj)]
theorem B5 {a c:Nat}(h1:a<=c) (h2:c+p.length<=a+p'.length) (h3:a+p'.length<=l.length):pw (pl l c p) (pw l w c p.length) a p'.length=pw l w a p'.length:=by
 unfold pw;rw [kp];by_cases hl:0<l.length
 ·have e:(tch l c p.length (l.length-1) || tch (pl l c p) a p'.length (l.length-1))=tch l a p'.length (l.length-1):=by
   rw [cu,aC,ux,ux,ux];by_cases hc:c<=l.length-1/\l.length-1<c+p.length
   ·omega
   ·rw [Eo (by omega) hc];split <;> omega
  rw [show decide (0<l.length)=true by simpa using hl,dO,dO,Bool.and_assoc,<-Bool.not_or,e,dO]
 ·rw [show decide (0<l.length)=false by simpa using hl];simp
end Go.Proofs.YtclmdpamofdoiaaGreatDoor
namespace Go.Proofs.YtclmdpamofdoiaaGreatDoor
open Go Go.Lt
variable {s C:Sto}{k g W:Nat}{l p p':List ab}{w:Bool}{q:aa}{ks:List Nat}
def rdy (q:aa) (W H d:Nat):Option ((List aj)×Int×Int×Bool×Bool):=(rp1 ⟨q.L,hc q.At W H,q.Auto⟩).bind (rp2 d W)
def CX (L:List aj) (i a d W:Nat) (au:Bool) (t:List Int):aa:=
 ⟨L.set i ⟨pl (L.getD i dl).Cells a (eH d (fx t)),pw (L.getD i dl).Cells (L.getD i dl).Wrap a d⟩,ca ⟨(i:Int),(a:Int),false⟩ d W au,au⟩
theorem uG {L:List aj}{c:ai}{au:Bool}{i a:Nat}(hi:i<L.length) (hL:L.length<=1024) (hw:(L.getD i dl).Cells.length<=1024) (hp:p.length<=1000000) (ha:a<=1000000):
  ce ⟨L,c,au⟩ i a p=some ⟨L.set i ⟨pl (L.getD i dl).Cells a p,pw (L.getD i dl).Cells (L.getD i dl).Wrap a p.length⟩,c,au⟩:=by
 unfold ce co;simp only [gdl hi] at hw|-;simp only [bj hi,bsm];rw [vu _ _ _ _ (by omega) ha hp];simp only [bsm];rw [cO (by simp; omega),aW];simp only [bsm];rw [bj hi,lj hi];rfl
theorem ll {L2:List aj}{i a d:Nat}{pd au:Bool}(hdd:d=1\/d=2) (h:Pv C s k g W q ks) (hr:rdy q W ks.length d=some (L2,(i:Int),(a:Int),pd,au)) (hi:i<ks.length) (ha:a+d<=W) (hL:L2.length=ks.length) (hok:∀x∈L2,Okl W x) (p1:Int) (t:List Int) (ht:t.length<=1000000)
  (hcl:(cl2 p1 t W).1=d):be q p1 t=some (CX L2 i a d W au (cl2 p1 t W).2,⟨(i:Int),(a:Int),false⟩):=by
 have hl:(cl2 p1 t W).2.length<=1000000:=by unfold cl2; split <;> simp; exact ht
 have hce:=EK (W:=W) p1 t;have w1:=h.g.w1;have w2:=h.g.w2;have h1:=h.set (hc q.At W ks.length) q.Auto;have h2:=h.g.h2;unfold be;rw [qb h];unfold rdy at hr;generalize hc q.At W ks.length=c at *;simp only [bsm];rw [se h1];simp only [bsm];rw [hce,hcl];generalize (cl2 p1 t W).2=t2 at *;simp only [bsm];have hsl:=pC d hdd (fx t2);have hc2:0<=(⟨(i:Int),(a:Int),false⟩:ai).Col/\(⟨(i:Int),(a:Int),false⟩:ai).Col<(W:Int):=by simp only; omega
 obtain ⟨z,hz1,hz2⟩:=bs hr
 change ((rp1 ⟨q.L,c,q.Auto⟩).bind fun z_28=>(rp2 d W z_28).bind _)=_
 rw [hz1];simp only [bsm];rw [hz2];simp only [bsm];rw [DW _ _ (by omega)];simp only [bsm];have hlt:i<L2.length:=by omega
 have hcells:(L2.getD i dl).Cells.length=W:=by
  rw [gdl hlt];exact (hok _ (aF hlt)).2
 rw [uG hlt (by omega) (by omega) (by omega) (by omega)];simp only [bsm];rw [yo _ hdd w1 w2 hc2];simp only [bsm,CX,hsl]
theorem D1 (h:Pv C s k g W q ks){d:Nat}(hdd:d=1\/d=2) (hdw:d<=W):∃L2 i a pd,rdy q W ks.length d=some (L2,((i:Nat):Int),((a:Nat):Int),pd,q.Auto)/\i<ks.length/\a+d<=W/\L2.length=ks.length/\(∀x∈L2,Okl W x):=by
 have h1:=h.set (hc q.At W ks.length) q.Auto;have hd:=uK q.At h.g.w1 h.g.h1;obtain ⟨s2,q2,ks2,z,_,a2,a3,v2,n2,hr,hcl,au⟩:=B4 h1 hd hdd hdw;obtain ⟨i,hi⟩:∃i:Nat,q2.At.Row=(i:Int):=⟨q2.At.Row.toNat,by omega⟩;obtain ⟨a,ha⟩:∃a:Nat,q2.At.Col=(a:Int):=⟨q2.At.Col.toNat,by omega⟩;refine ⟨q2.L,i,a,q2.At.Pending,?_,by omega,by omega,by rw [v2.len,n2],v2.ok⟩;unfold rdy;rw [a2];simp only [bsm];rw [a3];simp only [fld,hi,ha,au]
theorem FG (h:Pv C s k g W q ks):∃L1 i c,rp1 ⟨q.L,hc q.At W ks.length,q.Auto⟩=some (L1,((i:Nat):Int),((c:Nat):Int),false,q.Auto)/\i<ks.length/\c+1<=W/\L1.length=ks.length/\(∀x∈L1,Okl W x):=by
 have h1:=h.set (hc q.At W ks.length) q.Auto;have hd:=uK q.At h.g.w1 h.g.h1;obtain ⟨s2,q2,ks2,a1,a2,v2,n2,hd2,au,pe⟩:=GQ h1 hd;have hr:=hd2.rr;have hcc:=hd2.cc;obtain ⟨i,hi⟩:∃i:Nat,q2.At.Row=(i:Int):=⟨q2.At.Row.toNat,by omega⟩;obtain ⟨a,ha⟩:∃a:Nat,q2.At.Col=(a:Int):=⟨q2.At.Col.toNat,by omega⟩;refine ⟨q2.L,i,a,?_,by omega,by omega,by rw [v2.len,n2],v2.ok⟩;rw [a2];simp only [fld,hi,ha,au,pe]
theorem B3 (W:Int) (z:(List aj)×Int×Int×Bool×Bool):rp2 1 W z=some z:=by
 unfold rp2;simp only [bb,bsm];rw [ae (by simp)]
theorem CY (h:Pv C s k g W q ks){p1 p2:Int}{t1 t2:List Int}(ht1:t1.length<=1000000) (ht2:t2.length<=1000000) (hc1:(cl2 p1 t1 W).1=1){q':aa}{at_:ai}(hp:be q p1 t1=some (q',at_))
  {s' C':Sto}{ks':List Nat}(h':Pv C' s' k g W q' ks') (hk:ks'.length=ks.length):be ⟨q'.L,at_,q'.Auto⟩ p2 t2=be q p2 t2:=by
 obtain ⟨L1,i,c,e1,hi,hcw,hL1,hok1⟩:=FG h;have w1:=h.g.w1;have w2:=h.g.w2;have hh2:=h.g.h2;have r1:rdy q W ks.length 1=some (L1,(i:Int),(c:Int),false,q.Auto):=by
  unfold rdy;rw [e1];exact B3 (W:Int) _
 have hq:=ll (.inl rfl) h r1 hi hcw hL1 hok1 p1 t1 ht1 hc1;rw [hp] at hq;simp only [aV,iP] at hq;obtain ⟨rfl,rfl⟩:=hq;simp only [CX];have hlt:i<L1.length:=by omega
 generalize hX:(⟨pl (L1.getD i dl).Cells c (eH (1:Nat) (fx (cl2 p1 t1 W).2)),pw (L1.getD i dl).Cells (L1.getD i dl).Wrap c 1⟩:aj)=X;have hst:=pC 1 (.inl rfl) (fx (cl2 p1 t1 W).2);have hcells:(L1.getD i dl).Cells.length=W:=by
  rw [gdl hlt];exact (hok1 _ (aF hlt)).2
 have hXc:X.Cells.length=W:=by rw [<-hX]; simp only [kp]; exact hcells
 have h2:=h'.set ⟨(i:Int),(c:Int),false⟩ q.Auto;simp only [CX] at h2;rw [hX] at h2;have hcid:hc ⟨(i:Int),(c:Int),false⟩ W ks.length=⟨(i:Int),(c:Int),false⟩:=I1 ⟨by simp only; omega,by simp only; omega,fun e=>by cases e⟩;have e2:rp1 ⟨L1.set i X,hc ⟨(i:Int),(c:Int),false⟩ W ks'.length,q.Auto⟩=some (L1.set i X,(i:Int),(c:Int),false,q.Auto):=by
  rw [hk,hcid];unfold rp1;simp only [ak,aY]
 have hg:(L1.set i X).getD i dl=X:=by
  rw [aw,bB hlt];rfl
 have hokX:∀x∈L1.set i X,Okl W x:=h2.ok;obtain ⟨hdd,hdw⟩:=EL p2 t2 w1;have over:∀(a d:Nat),d=1\/d=2->a<=c->c+1<=a+d->a+d<=W->∀p:List ab,p.length=d->(L1.set i X).set i ⟨pl ((L1.set i X).getD i dl).Cells a p,pw ((L1.set i X).getD i dl).Cells ((L1.set i X).getD i dl).Wrap a d⟩=L1.set i ⟨pl (L1.getD i dl).Cells a p,pw (L1.getD i dl).Cells (L1.getD i dl).Wrap a d⟩:=by
  intro a d _ g1 g2 g3 p hpl;rw [hg,List.set_set]
  congr 1
  rw [<-hX];simp only;have o1:=yW (l:=(L1.getD i dl).Cells) (p:=eH (1:Nat) (fx (cl2 p1 t1 W).2)) (p':=p) g1 (by omega) (by omega);have o2:=B5 (l:=(L1.getD i dl).Cells) (w:=(L1.getD i dl).Wrap) (p:=eH (1:Nat) (fx (cl2 p1 t1 W).2)) (p':=p) g1 (by omega) (by omega);rw [hst,hpl] at o2;rw [o1,o2]
 have fin:∀(a d:Nat) (pd pd':Bool),d=1\/d=2->(cl2 p2 t2 W).1=d->a<=c->c+1<=a+d->a+d<=W->rdy q W ks.length d=some (L1,(i:Int),(a:Int),pd,q.Auto)->rdy ⟨L1.set i X,⟨(i:Int),(c:Int),false⟩,q.Auto⟩ W ks'.length d=some (L1.set i X,(i:Int),(a:Int),pd',q.Auto)->
   be ⟨L1.set i X,⟨(i:Int),(c:Int),false⟩,q.Auto⟩ p2 t2=be q p2 t2:=by
  intro a d pd pd' g0 g1 g2 g3 g4 b1 b2;rw [ll g0 h b1 hi g4 hL1 hok1 p2 t2 ht2 g1,ll g0 h2 b2 (by omega) g4 (by rw [cz]; omega) hokX p2 t2 ht2 g1];have:=over a d g0 g2 g3 g4 (eH d (fx (cl2 p2 t2 W).2)) (pC d g0 _);unfold CX;rw [this]
 have f1:∀(L:List aj) (d:Nat),d=2->c+1<W->rp2 d W (L,(i:Int),(c:Int),false,q.Auto)=some (L,(i:Int),(c:Int),false,q.Auto):=by
  intro L d hd hcn;unfold rp2;simp only [bb,bsm];rw [aJ (by omega),ae (by simp only [aA,aQ]; omega)]
 rcases hdd with hd1|hd2
 ·refine fin c 1 false false (.inl rfl) hd1 (aq _) (aq _) hcw r1 ?_;unfold rdy;rw [e2];exact B3 (W:Int) _
 ·by_cases hcn:c+1<W
  ·refine fin c 2 false false (.inr rfl) hd2 (aq _) (by omega) (by omega) ?_ ?_
   ·unfold rdy;rw [e1];exact f1 _ 2 rfl hcn
   ·unfold rdy;rw [e2];exact f1 _ 2 rfl hcn
  ·have hcW:(c:Int)=(W:Int)-1:=by omega
   have ew1:w64 ((W:Int)-1)=((W-1:Nat):Int):=by rw [aJ (by omega)]; omega
   have ew2:w64 ((W:Int)-2)=((W-2:Nat):Int):=by rw [aJ (by omega)]; omega
   cases hau:q.Auto with
   | true=>
    have hpa:∀L:List aj,L.length=ks.length->(L.getD i dl).Cells.length=W->rp2 (2:Nat) W (L,(i:Int),(c:Int),false,true)=
      (cF ⟨L.set i ⟨pl (L.getD i dl).Cells (W-1) [bl],pw (L.getD i dl).Cells (L.getD i dl).Wrap (W-1) 1⟩,⟨(i:Int),(c:Int),false⟩,true⟩).bind fun x_60=>(some (x_60.L,x_60.At.Row,x_60.At.Col,x_60.At.Pending,x_60.Auto):Option ((List aj)×Int×Int×Bool×Bool)):=by
     intro L hL hLw;unfold rp2;simp only [bb,bsm];rw [af (by simp only [aA,aQ]; rw [ew1]; omega)];simp only [bA];rw [pJ _ (by decide)];simp only [bsm];rw [show (List.replicate (1:Int).toNat (⟨0,[]⟩:ab))= [bl] from rfl,ew1,uG (by omega) (by omega) (by omega) (by decide) (by omega)];simp only [bsm];rfl
    obtain ⟨L2,i2,a2,pd2,g1,g2,g3,g4,g5⟩:=D1 h (.inr rfl) (by omega:2<=W);have hsame:rdy ⟨L1.set i X,⟨(i:Int),(c:Int),false⟩,true⟩ W ks'.length 2=rdy q W ks.length 2:=by
     rw [hau] at e1 e2;unfold rdy;rw [hau,e1,e2];simp only [bsm];rw [hpa _ (by rw [cz]; omega) (by rw [hg]; exact hXc),hpa _ hL1 hcells];rw [over (W-1) 1 (.inl rfl) (by omega) (by omega) (by omega) [bl] rfl]
    rw [hau] at h2;rw [ll (.inr rfl) h g1 g2 g3 g4 g5 p2 t2 ht2 hd2,ll (.inr rfl) h2 (hsame.trans g1) (by omega) g3 (by omega) g5 p2 t2 ht2 hd2]
   | false=>
    have hna:∀L:List aj,rp2 (2:Nat) W (L,(i:Int),(c:Int),false,q.Auto)=some (L,(i:Int),((W-2:Nat):Int),false,q.Auto):=by
     intro L;unfold rp2;simp only [bb,bsm];rw [af (by simp only [aA,aQ]; rw [ew1]; omega)];simp only [hau,ak,aY];rw [ew2]
    have key:=fin (W-2) 2 false false (.inr rfl) hd2 (by omega) (by omega) (by omega) (by unfold rdy; rw [e1]; exact hna _) (by unfold rdy; rw [e2]; exact hna _);rw [hau] at key;exact key
end Go.Proofs.YtclmdpamofdoiaaGreatDoor
namespace Go.Proofs.YtclmdpamofdoiaaGreatDoor
open Go Go.Lt
variable {s:Sto}{k g W:Nat}{l p p':List ab}{w:Bool}{q:aa}{ks:List Nat}
theorem Gh {x:Int}(h:vld x=true):gK x=x:=by unfold gK; rw [af h]
theorem BC (x:Int):gK (gK x)=gK x:=Gh (zJ x)
theorem EA {t:List Int}(ht:t.length<=15) (x:Int):fx (t++ [gK x])=fx (t++ [x]):=by
 unfold fx;rw [aB (by simp; omega),aB (by simp; omega),bC,bC];simp [BC]
theorem DF {d:Nat}(hd:d=1\/d=2){t:List Int}(ht:t≠ []):eH (d:Int) t=if d=2 then [⟨2,t⟩,⟨3,[]⟩] else [⟨1,t⟩]:=by
 unfold eH;rw [ae ht];rcases hd with rfl|rfl <;> rfl
theorem C4 {l0:List ab}{a d:Nat}{t:List Int}(hdd:d=1\/d=2) (h:s.row_Row[k]? = some ⟨pl l0 a (eH d t),w⟩) (hs:Snd (pl l0 a (eH d t))) (hl:l0.length<=1024) (ha:a+d<=l0.length) (ht1:1<=t.length) (ht2:t.length<=15) (x:Int):
  pb s (some k) a x=some (s.sr k ⟨pl l0 a (eH d (fx (t++ [x]))),pw (pl l0 a (eH d t)) w a d⟩,true):=by
 have hne:t≠ []:=fun e=>by rw [e] at ht1; simp at ht1
 have hsl:=pC d hdd t;have hc:pc l0 a (eH d t) a=⟨(d:Int),t⟩:=by
  rw [D6 ⟨aq _,by rw [hsl]; omega⟩,dG,DF hdd hne];rcases hdd with rfl|rfl <;> rfl
 have hkd:kd (pl l0 a (eH d t)) a=(d:Int):=by rw [Em (by omega),hc]
 have hm:mat (pl l0 a (eH d t)) (a:Int)=some a:=by
  unfold mat;rw [af (by rw [kp]; omega),bE,hkd,ae (by omega),ae (by omega)]
 unfold pb;rw [FW h hs a (by omega),hm];have hg:(pl l0 a (eH d t)).getD a bl=⟨(d:Int),t⟩:=by rw [aw,vy (by omega),hc]; rfl
 simp only [bsm,dA,ig,hg,hkd];rw [ae (by simp; omega),cO (by simp; omega)];simp only [bsm];have hsl2:=pC d hdd (fx (t++ [x]));rw [Eg h hs (by rw [kp]; exact hl) _ (by simp; omega) (by rw [hsl2,kp]; exact ha),yW (aq a) (by omega) (by omega),hsl2];simp only [bsm,Er.isNil]
def zb (b:Int):Bool:=b==1 || b==2 || b==3 || b==4 || b==5 || b==10 || b==11
def b2 (x:ax):Bool:= !zb x.Break && (x.East==1 || x.East==2)
theorem BM (b:Int):nf b=some (zb b):=by
 unfold nf zb;by_cases h1:b=1
 ·subst h1; rfl
 by_cases h2:b=2
 ·subst h2; rfl
 by_cases h3:b=3
 ·subst h3; rfl
 by_cases h4:b=4
 ·subst h4; rfl
 by_cases h5:b=5
 ·subst h5; rfl
 by_cases h6:b=10
 ·subst h6; rfl
 by_cases h7:b=11
 ·subst h7; rfl
 simp [h1,h2,h3,h4,h5,h6,h7]
theorem EX (x:ax):∃n,nW x=some n/\(n==2)=b2 x:=by
 unfold nW b2;rw [BM];simp only [bsm,bu]
 cases zb x.Break with
 | true=>exact ⟨0,rfl,rfl⟩
 | false=>
  cases h:(x.East==1 || x.East==2) with
  | true=>exact ⟨2,by simp [h],rfl⟩
  | false=>exact ⟨1,by simp [h],rfl⟩
def gz (y:ba) (r:Int) (x:ax):ba:=⟨true,x.Pict,y.wide || (b2 x || (y.some && ((r==65039 && y.pict) || x.Pict || x.Break==6)))⟩
def wz (y:ba):Int:=if y.wide then 2 else 1
theorem xl (y:ba) (r:Int) (x:ax):cm y r x=some (gz y r x,wz (gz y r x)):=by
 have hw:cy y r x=some (b2 x || (y.some && ((r==65039 && y.pict) || x.Pict || x.Break==6))):=by
  unfold cy;obtain ⟨n,h1,h2⟩:=EX x;rw [h1];simp only [bsm,h2,bb,bu]
  cases b2 x <;> cases y.some <;> rfl
 unfold cm;rw [hw];simp only [bsm,bu,ak,aY];unfold wz gz;split <;> simp_all
structure Cv (c:aP) (t:List Int):Prop where
 n:c.n=(t.length:Int)
 h:t.length<=16
 t:(a16 c.text).take t.length=t
theorem wF {c:aP}{t:List Int}(h:Cv c t):bJ c=some (decide (t.length=16)):=by
 unfold bJ dt;simp only [ak,aY,bsm,h.n]
 congr 1
 rw [cu,aQ,am];omega
theorem EI {c:aP}{t:List Int}(h:Cv c t) (h2:t.length<16) (x:Int):∃c',bq c x=some (c',true)/\Cv c' (t++ [x]):=by
 unfold bq;rw [wF h];simp only [ig,bsm];rw [ae (by simp; omega),h.n,bj (by rw [pG]; exact h2)];simp only [bsm];refine ⟨_,rfl,by simp only; rw [aJ (by omega)]; simp,by simp; omega,?_⟩;simp only;rw [A2,bE,ao];simp only [aD,aI];rw [an (by rw [cz,pG]; exact h2),List.take_set_of_le (aq _),h.t,List.getElem_set_self]
theorem zm {c:aP}{t:List Int}(h:Cv c t):bI c=some t:=by
 unfold bI;simp only [ak,aY,h.n];have:=mI (xs:=a16 c.text) (i:=0) (j:=t.length) (bT _) (by rw [pG]; exact h.h);rw [show ((0:Nat):Int)=0 by rfl] at this;rw [this];simp only [bsm,fU,mf,h.t];unfold fM;rw [cO (by have:=h.h; simp; omega)];rfl
end Go.Proofs.YtclmdpamofdoiaaGreatDoor
