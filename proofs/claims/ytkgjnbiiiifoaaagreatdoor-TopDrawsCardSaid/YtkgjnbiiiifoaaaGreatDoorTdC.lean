/- Parts of the proofs of TopDraws: the walk through the code, and plain Lean. No condition. -/
import Derived.Test.YtkgjnbiiiifoaaaGreatDoorTdA
import Derived.Test.YtkgjnbiiiifoaaaGreatDoorProg
import Derived.Test.YtkgjnbiiiifoaaaGreatDoorTdB
set_option linter.unusedVariables false
set_option linter.unusedSimpArgs false
namespace Go.Proofs.YtkgjnbiiiifoaaaGreatDoor
open Go Go.Lt
set_option maxRecDepth 10000
set_option linter.unusedVariables false
attribute [local irreducible] W WL AC
open Tryz
variable {c0:Cx}{G:Gm}{F:List En}{sg:Sto}{v1 v2 v3 v4 v5 v6 v7 v8 v9 v10 v11 v12 v13 v14 v15 v16 v17 v18 v19 v20 v21 v22 v23 v24 v25 v26 v27 v28 v29 v30 v31 v32 v33 v34 v35 v36 v37 v38 v39 v40 v41 v42 v43 v44 v45 v46 v47 v48 v49 v50 v51 v52 v53 v54 v55 v56 v57 v58 v59 v60:Value}
def mZ (p0:Int):Option Bool:=
 (if (p0==1)=true then
 some (p0==1)
 else
 if (p0==2)=true then
 some (p0==2)
 else
 some (p0==3)).bind fun c=>
 if c then
 some true
 else
 (if (p0==4)=true then
 some (p0==4)
 else
 some (p0==5)).bind fun a=>
 if a then
 some true
 else
 (if (p0==10)=true then
 some (p0==10)
 else
 some (p0==11)).bind fun b=>
 if b then
 some true
 else
 some false
theorem AE (o:Own c0 G F) (a:Int){r:Bool}(H:mZ a=some r): RU 279 #[I a] c0 fun c v=>Own c G F/\v=B r:=by
 unfold mZ at H;refine en func279 rfl rfl<|Ru false<|Rx<|RA a<|wln<|W.block<|RM<|W.block<|W.block<|W.seq<|W.seq<|bn H fun E b i=>W.seqJ (Jn c0 fun c l=>Own c G F/\l= [(3,I a),(4,B E)]) ?_ ?_
 ·refine sr<|Rk (a==1)<|RF b (fun M b=>?_) (fun M b=>?_)
  ·refine RG ?_;cases b;exact jn c0 ⟨o,rfl⟩
  refine sr<|Rk (a==2)<|RF b (fun N b=>?_) (fun N b=>?_)
  ·refine RG ?_;cases b;exact jn c0 ⟨o,rfl⟩
  refine W.region<|Rk (a==3)<|wln ?_;cases b;exact jn c0 ⟨o,rfl⟩
 rintro t D ⟨k,U,_,rfl,X,rfl,p,rfl⟩;refine cn i (fun u i=>?_) (fun u i=>?_)
 ·refine W.exit<|thx<|thx<|bke<|bkn<|RH<|W.seq<|Ru true<|RD<|thr<|RK ?_;cases i;exact Rz k ⟨p,rfl⟩
 refine RG<|W.seq<|bn i fun q d e=>W.seqJ (Jn k fun c l=>Own c G F/\l= [(3,I a),(8,B q)]) ?_ ?_
 ·refine sr<|Rk (a==4)<|RF d (fun x d=>?_) (fun x d=>?_)
  ·refine RG ?_;cases d;exact jn k ⟨p,rfl⟩
  refine W.region<|Rk (a==5)<|wln ?_;cases d;exact jn k ⟨p,rfl⟩
 rintro t D ⟨h,P,_,rfl,S,rfl,j,rfl⟩;refine cn e (fun y e=>?_) (fun y e=>?_)
 ·refine W.exit<|thx<|thx<|bko rfl (bke<|RH<|W.seq<|Ru true<|RD<|thr<|RK ?_);cases e;exact Rz h ⟨j,rfl⟩
 refine RG<|bn e fun s f g=>W.seqJ (Jn h fun c l=>Own c G F/\l= [(11,B s)]) ?_ ?_
 ·refine sr<|Rk (a==10)<|RF f (fun z f=>?_) (fun z f=>?_)
  ·refine RG ?_;cases f;exact jn h ⟨j,rfl⟩
  refine W.region<|Rk (a==11)<|wln ?_;cases f;exact jn h ⟨j,rfl⟩
 rintro t D ⟨n,R,_,rfl,T,rfl,m,rfl⟩;refine cn g (fun A g=>?_) (fun A g=>?_)
 ·refine W.exit<|thx<|bko rfl (bko rfl (RJ<|W.seq<|Ru true<|RD<|thr<|RK ?_));cases g;exact Rz n ⟨m,rfl⟩
 refine RG<|W.exit<|bko rfl (bko rfl (bko rfl (thx<|RJ<|Ru false<|RD ?_)));cases g;exact Rz n ⟨m,rfl⟩
def nN (p0:an):Option Int:=
 (mZ p0.Break).bind fun b=>
 if b then
 some 0
 else
 (orE (p0.East==1) (some (p0.East==2))).bind fun a=>
 if a then
 some 2
 else
 some 1
theorem yx (q:Own c0 G F) (a:an){r:Int}(H:nN a=some r): RU 237 #[.agg #[I a.Break,B a.Pict,I a.Conj,I a.East]] c0 fun c v=>Own c G F/\v=I r:=by
 unfold nN at H;refine en func237 rfl rfl<|sr<|me (bx 162 [I a.Break,B a.Pict,I a.Conj,I a.East] q) ?_;rintro v5 z D ⟨i,rfl,s,k⟩;refine Ro 0<|Rx<|W.block<|RB (Q i)<|vx (l1 u_3 (k 0 _ rfl))<|bn H fun p t H=>cl (AE s a.Break t) ?_;rintro v12 d x ⟨h,rfl⟩;refine Ri p<|RF H (fun n H=>?_) (fun n H=>?_)
 ·refine RA 0<|RD<|RK ?_;cases H;exact Rz d ⟨h,rfl⟩
 refine W.seq<|bn H fun j g H=>W.join (Jn d fun c l=>Own c G F/\l= [(7,B j)]) ?_ ?_
 ·clear H;refine W.region<|Rs i (0+3)<|vx (l1 u_3 ((mm k) 3 _ rfl))<|Ri (a.East==1) ?_;rcases bo (a.East==1) with b|b
  ·obtain rfl:=orT b g;exact vb b<|pz<|ps<|Rk true<|Ry d ⟨h,rfl⟩
  have m:=orF b g;refine vb b<|wa (Qo i (0+3))<|wn<|vx (l1 u_3 ((mm k) 3 _ rfl))<|Rn (a.East==2) ?_;cases m;exact Rk (a.East==2)<|Ry d ⟨h,rfl⟩
 rintro A E ⟨f,u,_,rfl,y,rfl,e,rfl⟩;refine nrm<|cn H (fun o H=>?_) (fun o H=>?_)
 ·refine RA 2<|RD<|RK ?_;cases H;exact Rz f ⟨e,rfl⟩
 refine W.skip<|RH<|RA 1<|RD ?_;cases H;exact Rz f ⟨e,rfl⟩
def co (p0:aY) (p1:Int) (p2:an):Option Bool:=
 (nN p2).bind fun d=>
 if (d==2)=true then
 some true
 else
 if (!p0.some)=true then
 some false
 else
 (bw (p1==65039) (some p0.pict)).bind fun a=>
 (orE a (some p2.Pict)).bind fun b=>
 (orE b (some (p2.Break==6))).bind fun c=>
 some c
theorem kQ {b:Nat}{r0_0:Value}{r0_1:Value}{r0_2:Value}{r0_3:Value}{r0_4:Value}{r0_5:Value}{r0_6:Value}{r0_7:Value}{r0_8:Value}{r0_9:Value}{r0_10:Value}{r0_11:Value}{r0_12:Value}{r0_13:Value}{r0_14:Value}{r0_15:Value}{r0_16:Value}{r0_17:Value}{r0_18:Value}{r0_19:Value}{r0_20:Value}(d:aY) (o:Int) (a:an) (S:Own c0 G ((Eb b 298 [r0_0,r0_1,r0_2,r0_3,r0_4,r0_5,r0_6,r0_7,r0_8,r0_9,r0_10,r0_11,r0_12,r0_13,r0_14,r0_15,r0_16,r0_17,r0_18,r0_19,r0_20,B d.some,B d.pict,B d.wide])::F)){r:Bool}(H:co d o a=some r): RU 172 #[.pointer (some ⟨b,21,none⟩),J o,.agg #[I a.Break,B a.Pict,I a.Conj,I a.East]] c0 fun c v=>Own c G ((Eb b 298 [r0_0,r0_1,r0_2,r0_3,r0_4,r0_5,r0_6,r0_7,r0_8,r0_9,r0_10,r0_11,r0_12,r0_13,r0_14,r0_15,r0_16,r0_17,r0_18,r0_19,r0_20,B d.some,B d.pict,B d.wide])::F)/\v=B r:=by
 unfold co at H;refine en func172 rfl rfl<|sr<|me (bx 162 [I a.Break,B a.Pict,I a.Conj,I a.East] S) ?_;rintro v5 c4 l4 ⟨p,rfl,T,n⟩;refine Ri false<|Rx<|W.block<|sr<|vx (lN 162 n)<|bn H fun u Z H=>cl (yx T a Z) ?_;rintro v12 e b0 ⟨f,rfl⟩;refine Rk (u==2)<|RF H (fun P H=>?_) (fun P H=>?_)
 ·refine Ru true<|RD<|RK ?_;cases H;exact Rz e ⟨f,rfl⟩
 refine sr<|vv (Qo b 21)<|Rs b 21<|vx (le1 21 u_4 (f.on 0 rfl))<|Rk (!d.some)<|RF H (fun R H=>?_) (fun R H=>?_)
 ·refine Ru false<|RD<|RK ?_;cases H;exact Rz e ⟨f,rfl⟩
 refine W.skip<|RH<|W.seq<|bn H fun U q H=>bn H fun X m H=>bn H fun x g H=>W.join (Jn e fun c l=>Own c G ((Eb b 298 [r0_0,r0_1,r0_2,r0_3,r0_4,r0_5,r0_6,r0_7,r0_8,r0_9,r0_10,r0_11,r0_12,r0_13,r0_14,r0_15,r0_16,r0_17,r0_18,r0_19,r0_20,B d.some,B d.pict,B d.wide])::F)/\l= [(6,B x)]) ?_ ?_
 ·clear H;refine Rv (J o)<|Ri (o==65039) ?_;rcases bo (o==65039) with h|h
  ·have y:=anT h q;refine vb h<|wa (Qo b 21)<|wa (Qo b 21)<|wa (Qo b 22)<|wn<|vx (le1 22 u_4 (f.on 0 rfl)) ?_;cases y;refine Ri d.pict ?_;rcases bo d.pict with i|i
   ·obtain rfl:=orT i m;refine vb i<|pz<|Ri true ?_;have s:true=true:=rfl;obtain rfl:=orT s g;exact vb s<|pz<|ps<|Rk true<|Ry e ⟨f,rfl⟩
   have z:=orF i m;refine vb i<|wa (Qo p (0+1))<|wn<|vx (l1 u_4 ((mm n) 1 _ rfl)) ?_;cases z;refine Ri a.Pict ?_;rcases bo a.Pict with j|j
   ·obtain rfl:=orT j g;exact vb j<|pz<|ps<|Rk true<|Ry e ⟨f,rfl⟩
   have A:=orF j g;refine vb j<|wa (Q p)<|wn<|vx (l1 u_3 ((mm n) 0 _ rfl))<|Rn (a.Break==6) ?_;cases A;exact Rk (a.Break==6)<|Ry e ⟨f,rfl⟩
  obtain rfl:=anF h q;refine vb h<|pz<|pz<|Ri false ?_;have t:false=false:=rfl;have D:=orF t m;refine vb t<|wa (Qo p (0+1))<|wn<|vx (l1 u_4 ((mm n) 1 _ rfl)) ?_;cases D;refine Ri a.Pict ?_;rcases bo a.Pict with k|k
  ·obtain rfl:=orT k g;exact vb k<|pz<|ps<|Rk true<|Ry e ⟨f,rfl⟩
  have E:=orF k g;refine vb k<|wa (Q p)<|wn<|vx (l1 u_3 ((mm n) 0 _ rfl))<|Rn (a.Break==6) ?_;cases E;exact Rk (a.Break==6)<|Ry e ⟨f,rfl⟩
 rintro e_ w_ ⟨N,a0,_,rfl,d0,rfl,M,rfl⟩;refine nrm<|W.ret ?_;cases H;exact Rz N ⟨M,rfl⟩
def bX (p0:aY) (p1:Int) (p2:an):Option (aY×Int):=
 if false then
 some (p0,1)
 else
 (orE p0.wide ((co p0 p1 p2).bind fun b=>
 some b)).bind fun a=>
 if a then
 some ((⟨true,p2.Pict,a⟩:aY),2)
 else
 some ((⟨true,p2.Pict,a⟩:aY),1)
theorem lH {a:Nat}{r0_0:Value}{r0_1:Value}{r0_2:Value}{r0_3:Value}{r0_4:Value}{r0_5:Value}{r0_6:Value}{r0_7:Value}{r0_8:Value}{r0_9:Value}{r0_10:Value}{r0_11:Value}{r0_12:Value}{r0_13:Value}{r0_14:Value}{r0_15:Value}{r0_16:Value}{r0_17:Value}{r0_18:Value}{r0_19:Value}{r0_20:Value}(b:aY) (k:Int) (d:an) (T:Own c0 G ((Eb a 298 [r0_0,r0_1,r0_2,r0_3,r0_4,r0_5,r0_6,r0_7,r0_8,r0_9,r0_10,r0_11,r0_12,r0_13,r0_14,r0_15,r0_16,r0_17,r0_18,r0_19,r0_20,B b.some,B b.pict,B b.wide])::F)){r:aY×Int}(H:bX b k d=some r): RU 127 #[.pointer (some ⟨a,21,none⟩),J k,.agg #[I d.Break,B d.Pict,I d.Conj,I d.East]] c0 fun c v=>Own c G ((Eb a 298 [r0_0,r0_1,r0_2,r0_3,r0_4,r0_5,r0_6,r0_7,r0_8,r0_9,r0_10,r0_11,r0_12,r0_13,r0_14,r0_15,r0_16,r0_17,r0_18,r0_19,r0_20,B r.1.some,B r.1.pict,B r.1.wide])::F)/\v=I r.2:=by
 unfold bX at H;refine en func127 rfl rfl<|sr<|me (bx 162 [I d.Break,B d.Pict,I d.Conj,I d.East] T) ?_;rintro v5 X l4 ⟨x,rfl,m,P⟩;refine Ro 0<|Rx<|sr<|Rs a 21<|Ri false<|wln<|W.cond (t:=false) (by kernel_rfl) (fun n=>?_) (fun n=>?_)
 ·cases n
 have H:=ie n H;refine RG<|W.seq<|bn H fun e N H=>W.join (Jn X fun c l=>Own c G ((Eb a 298 [r0_0,r0_1,r0_2,r0_3,r0_4,r0_5,r0_6,r0_7,r0_8,r0_9,r0_10,r0_11,r0_12,r0_13,r0_14,r0_15,r0_16,r0_17,r0_18,r0_19,r0_20,B b.some,B b.pict,B e])::F)/\l= [(0,.pointer (some ⟨a,21,none⟩)),(5,Q x)]) ?_ ?_
 ·clear H;refine W.region<|vv (Qo a 21)<|Rs a 21<|Rs a 23<|vx (le1 23 u_4 (m.on 0 rfl)) ?_;rcases bo b.wide with j|j
  ·obtain rfl:=orT j N;refine vb j<|pz<|pz<|Ri true<|Rs a 21<|Rs a 23<|md (sC 4 23 (B true) [r0_0,r0_1,r0_2,r0_3,r0_4,r0_5,r0_6,r0_7,r0_8,r0_9,r0_10,r0_11,r0_12,r0_13,r0_14,r0_15,r0_16,r0_17,r0_18,r0_19,r0_20,B b.some,B b.pict,B true] 0 m ⟨rfl,trivial⟩) ?_;rintro y e0 U;exact Ry y ⟨U,rfl⟩
  have g:=orF j N;refine vb j<|wa (Qo a 21)<|wa (J k)<|wn<|vx (lN 162 P)<|wn<|bn g fun f E g=>cl (kQ b k d m E) ?_;rintro v19 Z f0 ⟨o,rfl⟩;obtain rfl:=si g;refine Ri f<|Rs a 21<|Rs a 23<|md (sC 4 23 (B f) [r0_0,r0_1,r0_2,r0_3,r0_4,r0_5,r0_6,r0_7,r0_8,r0_9,r0_10,r0_11,r0_12,r0_13,r0_14,r0_15,r0_16,r0_17,r0_18,r0_19,r0_20,B b.some,B b.pict,B f] 0 o ⟨rfl,trivial⟩) ?_;rintro z g0 p;exact Ry z ⟨p,rfl⟩
 rintro e_ w_ ⟨a0,b0,_,rfl,h0,rfl,q,rfl⟩;refine RQ<|rD [] (Kp G0 []) q ?_;intro A i0 s;have l0:Kp G0 [] A:=Kp.nil0;refine ta 0 (.pointer (some ⟨a,21,none⟩))<|ta 1 (Qo a 21)<|ta 2 (Qo x (0+1))<|tx 3 (fun c' d0=>l1 u_4 ((mm P) 1 _ rfl))<|ta 4 (Qo a 21)<|ta 5 (Qo a 21)<|o1 6 (gD 6 (sC 4 21 (B true) [r0_0,r0_1,r0_2,r0_3,r0_4,r0_5,r0_6,r0_7,r0_8,r0_9,r0_10,r0_11,r0_12,r0_13,r0_14,r0_15,r0_16,r0_17,r0_18,r0_19,r0_20,B true,B b.pict,B e] 0 s ⟨rfl,trivial⟩) ?_);rintro D j0 u;have R:Kp G0 [] D:=Kp.nil0;refine ⟨.inr R,ta 7 (.pointer (some ⟨a,21,none⟩)) (ta 8 (Qo a 22)<|o1 9 (gD 9 (sC 4 22 (B d.Pict) [r0_0,r0_1,r0_2,r0_3,r0_4,r0_5,r0_6,r0_7,r0_8,r0_9,r0_10,r0_11,r0_12,r0_13,r0_14,r0_15,r0_16,r0_17,r0_18,r0_19,r0_20,B true,B d.Pict,B e] 0 u ⟨rfl,trivial⟩) ?_))⟩;rintro i k0 h;have S:Kp G0 [] i:=Kp.nil0;refine ⟨.inr S,dn (RQ<|sr<|vv (Qo a 21)<|Rs a 23<|vx (le1 23 u_4 (h.on 0 rfl))<|RF H (fun M H=>?_) (fun M H=>?_))⟩
 ·refine RA 2<|RD<|thr ?_;obtain rfl:=si H;exact Rz i ⟨h,rfl⟩
 refine RG<|RA 1<|RD ?_;obtain rfl:=si H;exact Rz i ⟨h,rfl⟩
def dj (p0:bG):Option Int:=
 if false then
 some 0
 else
 some p0.n
theorem lm {b:Nat}{r0_0:Value}{r0_1:Value}{r0_2:Value}{r0_3:Value}{r0_21:Value}{r0_22:Value}{r0_23:Value}(a:bG) (e:Own c0 G ((Eb b 298 (r0_0::r0_1::r0_2::r0_3::RT a.text [I a.n,r0_21,r0_22,r0_23]))::F)){r:Int}(H:dj a=some r): RU 285 #[.pointer (some ⟨b,4,none⟩)] c0 fun c v=>Own c G ((Eb b 298 (r0_0::r0_1::r0_2::r0_3::RT a.text [I a.n,r0_21,r0_22,r0_23]))::F)/\v=I r:=by
 unfold dj at H;refine en func285 rfl rfl<|RA 0<|Rx<|sr<|Rs b 4<|Ri false<|wln<|W.cond (t:=false) (by kernel_rfl) (fun d=>?_) (fun d=>?_)
 ·cases d
 have H:=ie d H;refine RG<|sr<|vv (Qo b 4)<|Rs b 20<|vx (le1 20 u_3 (e.on 0 rfl))<|Ro a.n<|RD ?_;cases H;exact Rz c0 ⟨e,rfl⟩
def bQ (p0:bG):Option Bool:=
 (dj p0).bind fun a=>
 some (a==16)
theorem fR {b:Nat}{r0_0:Value}{r0_1:Value}{r0_2:Value}{r0_3:Value}{r0_21:Value}{r0_22:Value}{r0_23:Value}(a:bG) (e:Own c0 G ((Eb b 298 (r0_0::r0_1::r0_2::r0_3::RT a.text [I a.n,r0_21,r0_22,r0_23]))::F)){r:Bool}(H:bQ a=some r): RU 255 #[.pointer (some ⟨b,4,none⟩)] c0 fun c v=>Own c G ((Eb b 298 (r0_0::r0_1::r0_2::r0_3::RT a.text [I a.n,r0_21,r0_22,r0_23]))::F)/\v=B r:=by
 unfold bQ at H;refine en func255 rfl rfl<|Ru false<|RO<|Rs b 4<|bn H fun d h H=>cl (lm a e h) ?_;rintro v8 g i ⟨f,rfl⟩;refine Rk (d==16)<|RD ?_;cases H;exact Rz g ⟨f,rfl⟩
def cx (p0:bG) (p1:Int):Option (bG×Bool):=
 (orE false ((bQ p0).bind fun c=>
 some c)).bind fun b=>
 if b then
 some (p0,false)
 else
 (idx (a16 p0.text) p0.n).bind fun d=>
 (some (CT p0.text p0.n p1)).bind fun a=>
 some ((⟨a,(w64 (p0.n+1))⟩:bG),true)
theorem lq {d:Nat}{r0_0:Value}{r0_1:Value}{r0_2:Value}{r0_3:Value}{r0_21:Value}{r0_22:Value}{r0_23:Value}(a:bG) (f:Int) (M:Own c0 G ((Eb d 298 (r0_0::r0_1::r0_2::r0_3::RT a.text [I a.n,r0_21,r0_22,r0_23]))::F)){r:bG×Bool}(H:cx a f=some r): RU 286 #[.pointer (some ⟨d,4,none⟩),J f] c0 fun c v=>Own c G ((Eb d 298 (r0_0::r0_1::r0_2::r0_3::RT r.1.text [I r.1.n,r0_21,r0_22,r0_23]))::F)/\v=B r.2:=by
 unfold cx at H;refine en func286 rfl rfl<|Ru false<|Rx<|W.seq<|bn H fun u R H=>W.join (Jn c0 fun c l=>Own c G ((Eb d 298 (r0_0::r0_1::r0_2::r0_3::RT a.text [I a.n,r0_21,r0_22,r0_23]))::F)/\l= [(0,.pointer (some ⟨d,4,none⟩)),(1,J f),(10,B u)]) ?_ ?_
 ·clear H;refine W.region<|Rs d 4<|Ri false ?_;have y:false=false:=rfl;have m:=orF y R;refine vb y<|wa (Qo d 4)<|wn<|bn m fun E S m=>cl (fR a M S) ?_;rintro v11 p b0 ⟨N,rfl⟩;obtain rfl:=si m;exact Ri E<|Ry p ⟨N,rfl⟩
 rintro e_ w_ ⟨q,a0,_,rfl,d0,rfl,g,rfl⟩;refine nrm<|cn H (fun x H=>?_) (fun x H=>?_)
 ·refine Ru false<|RD<|thr ?_;obtain rfl:=si H;exact Rz q ⟨g,rfl⟩
 refine RG<|W.seq<|rD [9] (Kp G0 [(Eb d 298 (r0_0::r0_1::r0_2::r0_3::RT a.text [I a.n,r0_21,r0_22,r0_23]))]) g ?_;intro s e0 h;have D:=(Kp.cons (h.on 0 rfl) Kp.nil0);refine ta 0 (.pointer (some ⟨d,4,none⟩))<|ta 1 (Qo d 4)<|ta 2 (Qo d 4)<|ta 3 (Qo d 20)<|tkx 4 D (fun P A U=>le1 20 u_3 (U.on 0 rfl)) (ta 5 (J f)<|ta 6 (Qo d 4)<|ta 7 (Qo d 4)<|bn H fun X e H=>AC.take 8 (.pointer (some ⟨d,4+a.n.toNat*1,none⟩)) rfl (by kernel_rfl) (by kernel_rfl) (fun P A=>(rx (by kernel_rfl) (Cp (k:= .i64) underlying294 (by kernel_rfl) (vY e).1 (vY e).2 _))) (bn H fun b z H=>o1 9 (gD 9 (Own.st (T:=21) (j:=4+a.n.toNat*1) (us:=[J f]) (nw:=(r0_0::r0_1::r0_2::r0_3::RT b [I a.n,r0_21,r0_22,r0_23])) (v:=J f) 0 h (by kernel_rfl) rfl rfl rfl rfl (by kernel_rfl) ⟨rfl,trivial⟩ (LC e (bF rfl)) (KV (k:= .i32) e z [r0_0,r0_1,r0_2,r0_3] [I a.n,r0_21,r0_22,r0_23])) ?_)));rintro Z f0 i;refine ⟨.inl rfl,dn (nrm<|sr<|vv (Qo d 4)<|Rs d 20<|vx (le1 20 u_3 (i.on 0 rfl))<|Rt (a.n+1)<|Rs d 4<|Rs d 20<|md (sC 3 20 (I (w64 (a.n+1))) (r0_0::r0_1::r0_2::r0_3::RT b [I (w64 (a.n+1)),r0_21,r0_22,r0_23]) 0 i ⟨rfl,trivial⟩) ?_)⟩;rintro t g0 o;refine wln<|Ru true<|RD ?_;obtain rfl:=si H;exact Rz t ⟨o,rfl⟩
def fy (sg:Sto) (p0:Option Nat) (p1:Int) (p2:an):Option (Sto×Int):=
 ((dU p1).bind fun h=>
 if (!h)=true then
 some 65533
 else
 some p1).bind fun g=>
 (p0).bind fun b=>
 (sg.widen_Cluster[b]?).bind fun a=>
 (cx a.text g).bind fun e=>
 (sg.set_widen_Cluster b (⟨a.at_,a.wide,e.1,a.gauge⟩:bj)).bind fun c=>
 (bX a.gauge g p2).bind fun f=>
 (c.set_widen_Cluster b (⟨a.at_,a.wide,e.1,f.1⟩:bj)).bind fun d=>
 some (d,f.2)
theorem oE (O0:Own c0 G F) (T:Rel c0 sg G) (p0:Option Nat) (m:Int) (f:an){r:Sto×Int}(h2:Pt 3 c0 v1 p0) (H:fy sg p0 m f=some r): RU 256 #[v1,J m,.agg #[I f.Break,B f.Pict,I f.Conj,I f.East]] c0 fun c v=>∃G_:Gm,Own c G_ F/\Rel c r.1 G_/\v=I r.2:=by
 unfold fy at H;refine en func256 rfl rfl<|sr<|me (bx 162 [I f.Break,B f.Pict,I f.Conj,I f.East] O0) ?_;rintro v7 c6 s ⟨b3,rfl,O4,m5⟩;refine Ro 0<|wln<|bn H fun h i e=>W.seqJ (Jn c6 fun c l=>Own c G F/\l= [(0,v1),(1,J h),(5,Q b3)]) ?_ ?_
 ·refine RB (J m)<|bn i fun t0 a0 i=>cl (lg O4 m a0) ?_;rintro v16 p j1 ⟨o,rfl⟩;refine Ri (!t0)<|RF i (fun b0 i=>?_) (fun b0 i=>?_)
  ·refine Rv (J 65533)<|wln ?_;cases i;exact jn p ⟨o,rfl⟩
  refine RG ?_;cases i;exact jn p ⟨o,rfl⟩
 rintro e_ w_ ⟨e1,g1,_,rfl,k,rfl,y,rfl⟩;refine RB v1<|bn e fun z0 d0 e=>?_;obtain ⟨d,rfl,j⟩:=((h2.mono (s.trans k))).get d0;refine va (Q d)<|Rs d 4<|va (J h)<|bn e fun b e0 e=>?_;have f0:=Rel.open_widen_Cluster (T.mono (s.trans k)) e0 j;have z:=y.borrow 0 f0 rfl;refine bn e fun a g0 e=>cl (lq b.text h z g0) ?_;rintro v37 f1 l0 ⟨A,rfl⟩;have D:=A.giveB 0 rfl;refine bn e fun t i0 e=>?_;obtain ⟨b1,E,U,h0,c1⟩:=Rel.put_widen_Cluster D (T.mono (s.trans (k.trans l0))) (E':=[(Eb d 298 (I b.at_.Row::I b.at_.Col::B b.at_.Pending::I b.wide::RT a.1.text [I a.1.n,B b.gauge.some,B b.gauge.pict,B b.gauge.wide]))]) i0 ⟨d,(tm j),rfl⟩;refine Rx<|rD [] (Kp G0 []) E ?_;intro Z m0 M;have k1:Kp G0 [] Z:=Kp.nil0;refine ta 0 (Q d)<|ta 1 (Q d)<|ta 2 (Qo d 21)<|ta 3 (J h)<|tx 4 (fun c' i1=>lN 162 (mm m5)) ?_;have N:=M.borrow 0 h0 rfl;refine bn e fun g j0 e=>o1 5 (gc 5 (lH b.gauge h f N j0) ?_);rintro v56 q o0 ⟨P,rfl⟩;have R:=P.giveB 0 rfl;refine bn e fun u k0 e=>?_;obtain ⟨x,S,X,h1,d1⟩:=Rel.put_widen_Cluster R (U.mono (m0.trans o0)) (E':=[(Eb d 298 (I b.at_.Row::I b.at_.Col::B b.at_.Pending::I b.wide::RT a.1.text [I a.1.n,B g.1.some,B g.1.pict,B g.1.wide]))]) k0 ⟨d,(tm j),rfl⟩;have s0:Kp G0 [] q:=Kp.nil0;refine ⟨.inr s0,ta 6 (I g.2) (dn (nrm<|W.ret ?_))⟩;cases e;exact Rz q ⟨x,S,X,rfl⟩
def bP (p0:bG):Option (List Int):=
 if false then
 some ([]:List Int)
 else
 (slc (a16 p0.text) 0 p0.n).bind fun a=>
 (ge a).bind fun b=>
 some b
theorem fQ {b:Nat}{r0_0:Value}{r0_1:Value}{r0_2:Value}{r0_3:Value}{r0_21:Value}{r0_22:Value}{r0_23:Value}(a:bG) (p:Own c0 G ((Eb b 298 (r0_0::r0_1::r0_2::r0_3::RT a.text [I a.n,r0_21,r0_22,r0_23]))::F)){r:List Int}(H:bP a=some r): RU 258 #[.pointer (some ⟨b,4,none⟩)] c0 fun c v=>∃h o,Own c G (es true (RI .i32) h 21 o r::(Eb b 298 (r0_0::r0_1::r0_2::r0_3::RT a.text [I a.n,r0_21,r0_22,r0_23]))::F)/\v=h/\OA (RI .i32) c h o r:=by
 unfold bP at H;refine en func258 rfl rfl<|RB Y<|Rx<|sr<|Rs b 4<|Ri false<|wln<|W.cond (t:=false) (by kernel_rfl) (fun g=>?_) (fun g=>?_)
 ·cases g
 have H:=ie g H;refine RG<|W.seq<|rD [] (Kp G0 [(Eb b 298 (r0_0::r0_1::r0_2::r0_3::RT a.text [I a.n,r0_21,r0_22,r0_23]))]) p ?_;intro s M i;have y:=(Kp.cons (i.on 0 rfl) Kp.nil0);refine ta 0 (.pointer (some ⟨b,4,none⟩))<|ta 1 (Qo b 4)<|ta 2 (Qo b 4)<|ta 3 (Qo b 4)<|ta 4 (Qo b 4)<|ta 5 (Qo b 20)<|tkx 6 y (fun q l x=>le1 20 u_3 (x.on 0 rfl)) (bn H fun A d H=>AC.take 7 (.slice (some ⟨b,4,none⟩) a.n.toNat 16) rfl (by kernel_rfl) (by kernel_rfl) (fun q l=>(rx (by kernel_rfl) (FH (k:= .i64) underlying294 (by kernel_rfl) (pI d).2.1 (pI d).2.2.1 _))) (bn H fun D u H=>o1 8 (gc 8 (wX i rfl (Ft d) (Jv (k:= .i32) d [r0_0,r0_1,r0_2,r0_3] [I a.n,r0_21,r0_22,r0_23]) u) ?_)));rintro v8 f E ⟨_,z,e,rfl,j⟩;have m:=(Kp.cons (e.on 1 rfl) Kp.nil0);refine ⟨.inr m,ta 9 v8 (dn (nrm<|W.ret ?_))⟩;cases H;exact Rz f ⟨v8,z,e,rfl,j⟩
def lM (sg:Sto) (p0:Option Nat) (p1:Int) (p2:an):Option (Sto×(Option Nat)):=
 (orE p0.isNone ((p0).bind fun k=>
 (sg.place_Pen[k]?).bind fun h=>
 some h.G.isNone)).bind fun j=>
 if j then
 some (sg,(none:Option Nat))
 else
 (some (sg.add_widen_Cluster (⟨(⟨0,0,false⟩:ai),0,(⟨(0,0,0,0,0,0,0,0,0,0,0,0,0,0,0,0),0⟩:bG),(⟨false,false,false⟩:aY)⟩:bj))).bind fun e=>
 (fy e (some sg.widen_Cluster.length) p1 p2).bind fun b=>
 (b.1.widen_Cluster[sg.widen_Cluster.length]?).bind fun a=>
 (b.1.set_widen_Cluster sg.widen_Cluster.length (⟨a.at_,b.2,a.text,a.gauge⟩:bj)).bind fun f=>
 (bP a.text).bind fun i=>
 (je f p0 b.2 i).bind fun d=>
 (d.1.widen_Cluster[sg.widen_Cluster.length]?).bind fun c=>
 (d.1.set_widen_Cluster sg.widen_Cluster.length (⟨d.2,c.wide,c.text,c.gauge⟩:bj)).bind fun g=>
 some (g,(some sg.widen_Cluster.length))
theorem yM (O0:Own c0 G F) (R0:Rel c0 sg G) (hG:Gl [3,7] c0) (y:Option Nat) (z:Int) (g:an){r:Sto×(Option Nat)}(h2:Pt 2 c0 v1 y) (H:lM sg y z g=some r): RU 200 #[v1,J z,.agg #[I g.Break,B g.Pict,I g.Conj,I g.East]] c0 fun c v=>∃y1,∃G_:Gm,Own c G_ F/\Rel c r.1 G_/\v=y1/\Pt 3 c y1 r.2:=by
 unfold lM at H;refine en func200 rfl rfl<|sr<|me (bx 162 [I g.Break,B g.Pict,I g.Conj,I g.East] O0) ?_;rintro v7 c6 l6 ⟨b3,rfl,O4,m5⟩;refine va (.pointer none)<|Rx<|W.seq<|bn H fun m1 h8 H=>W.join (Jn c6 fun c l=>Own c G F/\l= [(0,v1),(1,J z),(5,Q b3),(16,B m1)]) ?_ ?_
 ·clear H;refine Rv v1<|vr (B y.isNone) (by rcases h2.m.cs with ⟨j,k⟩|⟨b_,j,k⟩ <;> (subst j; rw [k]; kernel_rfl)) ?_;rcases bo y.isNone with s|s
  ·obtain rfl:=orT s h8;exact vb s<|pz<|pz<|ps<|Ri true<|Ry c6 ⟨O4,rfl⟩
  have i:=orF s h8;refine vb s<|wa v1<|wn<|bn i fun x3 q1 i=>?_;obtain ⟨T,rfl,n1⟩:=((h2.mono l6)).get q1;refine va (Q T)<|wa (Q T)<|wn<|bn i fun u s1 i=>?_;obtain ⟨v15,u1,t1⟩:=Rel.open_place_Pen (R0.mono l6) s1 n1;refine vx (le1 0 jT (O4.gon u1 0 rfl))<|wn<|vr (B u.G.isNone) (by rcases (t1).cs with ⟨j,k⟩|⟨b_,j,k⟩ <;> (subst j; rw [k]; kernel_rfl)) ?_;cases i;exact Ri u.G.isNone<|Ry c6 ⟨O4,rfl⟩
 rintro e_ w_ ⟨f1,s3,_,rfl,q2,rfl,A,rfl⟩;refine nrm<|cn H (fun w1 H=>?_) (fun w1 H=>?_)
 ·refine RB (.pointer none)<|RD<|thr ?_;cases H;exact Rz f1 ⟨(.pointer none),G,A,R0.m,rfl,rfl⟩
 refine RG<|RB (.agg #[I 0,I 0,B false,I 0,J 0,J 0,J 0,J 0,J 0,J 0,J 0,J 0,J 0,J 0,J 0,J 0,J 0,J 0,J 0,J 0,I 0,B false,B false,B false])<|me (al 298 [I 0,I 0,B false,I 0,J 0,J 0,J 0,J 0,J 0,J 0,J 0,J 0,J 0,J 0,J 0,J 0,J 0,J 0,J 0,J 0,I 0,B false,B false,B false] A) ?_;rintro v28 n3 s2 ⟨e,rfl,o0⟩;have q0:=o0.sD 1 [0];refine bn H fun j0 x1 H=>?_;obtain ⟨g1,h3,z1,y3,o,s0,P,t3,u3,k3⟩:=Rel.new_widen_Cluster (E:=[(Eb e 298 [I 0,I 0,B false,I 0,J 0,J 0,J 0,J 0,J 0,J 0,J 0,J 0,J 0,J 0,J 0,J 0,J 0,J 0,J 0,J 0,I 0,B false,B false,B false])]) (F:=F) (x:=(⟨(⟨0,0,false⟩:ai),0,(⟨(0,0,0,0,0,0,0,0,0,0,0,0,0,0,0,0),0⟩:bG),(⟨false,false,false⟩:aY)⟩:bj)) (b:=e) q0 (R0.mono (l6.trans (q2.trans s2))) (fun c_ hle_=>⟨e,rfl,rfl⟩);rw [aL x1] at P;refine WL.gh z1.1 ?_;have U:Pt 3 g1 (Q e) (some sg.widen_Cluster.length):=⟨e,rfl,o⟩;refine va (Q e)<|RO<|vv (Q e)<|va (J z)<|vx (lN 162 (mm m5))<|bn H fun h b2 H=>cl (oE s0 P (some sg.widen_Cluster.length) z g U b2) ?_;rintro v48 o3 t2 ⟨i3,t0,R,rfl⟩;refine va (Q e)<|Rs e 3<|bn H fun a c2 H=>?_;have d2:=Rel.open_widen_Cluster R c2 (tm o);refine md (gC 3 3 (I h.2) (I a.at_.Row::I a.at_.Col::B a.at_.Pending::I h.2::RT a.text.text [I a.text.n,B a.gauge.some,B a.gauge.pict,B a.gauge.wide]) 0 t0 d2 ⟨rfl,trivial⟩) ?_;rintro p3 X u0;refine bn H fun k0 e2 H=>?_;obtain ⟨p,v0,d1,q,l3⟩:=Rel.put_widen_Cluster u0 (R.mono X) (E':=[(Eb e 298 (I a.at_.Row::I a.at_.Col::B a.at_.Pending::I h.2::RT a.text.text [I a.text.n,B a.gauge.some,B a.gauge.pict,B a.gauge.wide]))]) e2 ⟨e,(tm o),rfl⟩;refine Rx<|rD [10,13] (Kp p []) v0 ?_;intro h1 u2 D;have x2:=(Kp.nil D);refine ta 0 (Q e)<|ta 1 v1<|ta 2 (Q e)<|ta 3 (Q e)<|ta 4 (Qo e 3)<|tkx 5 x2 (fun c' w3 hk=>le1 3 u_3 (hk.gon q 0 rfl)) (ta 6 (Q e)<|ta 7 (Q e)<|ta 8 (Qo e 4) ?_);have w0:=D.borrow 0 q rfl;refine bn H fun i0 f2 H=>o1 9 (gc 9 (fQ a.text w0 f2) ?_);rintro a4 i1 v2 ⟨_,z3,x0,rfl,g2⟩;have z0:=x0.sD 2 [1,0];have y0:=z0.giveB 0 rfl;have M:=Own.back y0 q rfl;have y2:=(Kp.nil M);refine ⟨.inr y2,?_⟩;obtain ⟨j1,k2,Z,N,i2⟩:=M.frz 0 rfl g2;have z2:=(Kp.nil N);refine AC.gh k2 Z (fun _=>z2) (bn H fun f l2 H=>o1 10 (gc 10 (qW N d1.m (hG.m.le (by decide)) y h.2 i0 h2.m i2 l2) ?_));rintro b4 q3 w2 ⟨j3,a1,S,rfl⟩;refine ⟨.inl rfl,ta 11 (Q e) (ta 12 (Q e)<|bn H fun d m2 H=>?_)⟩;have n2:=Rel.open_widen_Cluster S m2 (tm o);refine o1 13 (gD 13 (gB 29 0 [I f.2.Row,I f.2.Col,B f.2.Pending] (I f.2.Row::I f.2.Col::B f.2.Pending::I d.wide::RT d.text.text [I d.text.n,B d.gauge.some,B d.gauge.pict,B d.gauge.wide]) 0 a1 n2 ⟨rfl,rfl,rfl,trivial⟩) ?_);rintro k1 a0 b1;refine bn H fun l0 o2 H=>?_;obtain ⟨m0,c1,e1,v3,m3⟩:=Rel.put_widen_Cluster b1 (S.mono a0) (E':=[(Eb e 298 (I f.2.Row::I f.2.Col::B f.2.Pending::I d.wide::RT d.text.text [I d.text.n,B d.gauge.some,B d.gauge.pict,B d.gauge.wide]))]) o2 ⟨e,((t2.trans (X.trans (u2.trans (v2.trans (Z.trans (w2.trans a0)))))).t _ _ _ o),rfl⟩;refine ⟨.inl rfl,dn (nrm<|sr<|vv (Q e)<|RD ?_)⟩;cases H;have b0:=c1.sD 1 [];exact Rz k1 ⟨(Q e),m0,b0,e1,rfl,U.m⟩
def dS (sg:Sto) (p0:Option Nat) (p1:Option Nat) (p2:Int) (p3:an):Option (Sto×Bool):=
 (orE p0.isNone (some p1.isNone)).bind fun A=>
 (orE A ((p1).bind fun r=>
 (sg.place_Pen[r]?).bind fun u=>
 some u.G.isNone)).bind fun p=>
 (orE p ((p0).bind fun s=>
 (sg.widen_Cluster[s]?).bind fun h=>
 (bQ h.text).bind fun w=>
 some w)).bind fun q=>
 if q then
 some (sg,false)
 else
 (p0).bind fun b=>
 (sg.widen_Cluster[b]?).bind fun v=>
 (fy sg p0 p2 p3).bind fun d=>
 (d.1.widen_Cluster[b]?).bind fun c=>
 (d.1.set_widen_Cluster b (⟨c.at_,d.2,c.text,c.gauge⟩:bj)).bind fun a=>
 (if (d.2 != v.wide)=true then
 (p1).bind fun j=>
 (a.place_Pen[j]?).bind fun k=>
 (a.set_place_Pen j (⟨k.G,c.at_,k.Auto⟩:bq)).bind fun e=>
 (e.widen_Cluster[b]?).bind fun l=>
 (bP l.text).bind fun x=>
 (je e p1 l.wide x).bind fun g=>
 (g.1.widen_Cluster[b]?).bind fun f=>
 (g.1.set_widen_Cluster b (⟨g.2,f.wide,f.text,f.gauge⟩:bj)).bind fun i=>
 some i
 else
 (p1).bind fun t=>
 (a.place_Pen[t]?).bind fun m=>
 (cg a m.G).bind fun y=>
 if decide (d.2<=y) then
 (bz a m.G c.at_.Row).bind fun n=>
 (oV a n c.at_.Col p2).bind fun o=>
 some o.1
 else
 some a).bind fun z=>
 some (z,true)
theorem sF (O0:Own c0 G F) (R0:Rel c0 sg G) (hG:Gl [3,7] c0) (p0:Option Nat) (p1:Option Nat) (Z:Int) (s:an){r:Sto×Bool}(h2:Pt 3 c0 v1 p0) (h4:Pt 2 c0 v3 p1) (H:dS sg p0 p1 Z s=some r): RU 199 #[v1,v3,J Z,.agg #[I s.Break,B s.Pict,I s.Conj,I s.East]] c0 fun c v=>∃G_:Gm,Own c G_ F/\Rel c r.1 G_/\v=B r.2:=by
 unfold dS at H;refine en func199 rfl rfl<|sr<|me (bx 162 [I s.Break,B s.Pict,I s.Conj,I s.East] O0) ?_;rintro v9 c8 R ⟨b5,rfl,O6,m7⟩;refine Ri false<|Rx<|W.seq<|bn H fun l7 c2 H=>bn H fun j6 x0 H=>bn H fun i3 d0 H=>W.join (Jn c8 fun c l=>Own c G F/\l= [(0,v1),(1,v3),(2,J Z),(7,Q b5),(28,B i3)]) ?_ ?_
 ·clear H;refine Rv v1<|vr (B p0.isNone) (by rcases h2.m.cs with ⟨h,i⟩|⟨b_,h,i⟩ <;> (subst h; rw [i]; kernel_rfl)) ?_;rcases bo p0.isNone with A|A
  ·obtain rfl:=orT A c2;refine vb A<|pz<|Ri true ?_;have d2:true=true:=rfl;obtain rfl:=orT d2 x0;refine vb d2<|pz<|pz<|ps<|Ri true ?_;have e2:true=true:=rfl;obtain rfl:=orT e2 d0;exact vb e2<|pz<|pz<|Ri true<|Ry c8 ⟨O6,rfl⟩
  have m4:=orF A c2;refine vb A<|wa v3<|wn<|vr (B p1.isNone) (by rcases h4.m.cs with ⟨h,i⟩|⟨b_,h,i⟩ <;> (subst h; rw [i]; kernel_rfl)) ?_;obtain rfl:=si m4;refine Ri p1.isNone ?_;rcases bo p1.isNone with D|D
  ·obtain rfl:=orT D x0;refine vb D<|pz<|pz<|ps<|Ri true ?_;have f2:true=true:=rfl;obtain rfl:=orT f2 d0;exact vb f2<|pz<|pz<|Ri true<|Ry c8 ⟨O6,rfl⟩
  have y:=orF D x0;refine vb D<|wa v3<|wn<|bn y fun n6 e5 y=>?_;obtain ⟨z1,rfl,d5⟩:=((h4.mono R)).get e5;refine va (Q z1)<|wa (Q z1)<|wn<|bn y fun U f5 y=>?_;obtain ⟨v24,h5,g5⟩:=Rel.open_place_Pen (R0.mono R) f5 d5;refine vx (le1 0 jT (O6.gon h5 0 rfl))<|wn<|vr (B U.G.isNone) (by rcases (g5).cs with ⟨h,i⟩|⟨b_,h,i⟩ <;> (subst h; rw [i]; kernel_rfl)) ?_;obtain rfl:=si y;refine Ri U.G.isNone ?_;rcases bo U.G.isNone with E|E
  ·obtain rfl:=orT E d0;exact vb E<|pz<|pz<|Ri true<|Ry c8 ⟨O6,rfl⟩
  have k:=orF E d0;refine vb E<|wa v1<|wn<|bn k fun o6 j5 k=>?_;obtain ⟨b2,rfl,i5⟩:=((h2.mono R)).get j5;refine va (Q b2)<|wa (Qo b2 4)<|wn<|bn k fun h0 k5 k=>?_;have g2:=Rel.open_widen_Cluster (R0.mono R) k5 i5;have o4:=O6.borrow 0 g2 rfl;refine bn k fun f4 l5 k=>cl (fR h0.text o4 l5) ?_;rintro v42 y4 p7 ⟨p4,rfl⟩;have q4:=p4.giveB 0 rfl;have r4:=Own.back q4 g2 rfl;obtain rfl:=si k;exact Ri f4<|Ry y4 ⟨r4,rfl⟩
 rintro e_ w_ ⟨z4,n7,_,rfl,e0,rfl,q0,rfl⟩;refine nrm<|cn H (fun m5 H=>?_) (fun m5 H=>?_)
 ·refine Ru false<|RD<|thr ?_;obtain rfl:=si H;exact Rz z4 ⟨G,q0,R0.m,rfl⟩
 refine RG<|RB v1<|bn H fun p6 n5 H=>?_;obtain ⟨d,rfl,u⟩:=((h2.mono (R.trans e0))).get n5;refine va (Q d)<|Rs d 3<|bn H fun x o5 H=>?_;have p5:=Rel.open_widen_Cluster (R0.mono (R.trans e0)) o5 u;refine vx (le1 3 u_3 (q0.gon p5 0 rfl))<|Ro x.wide<|RO<|vv (Q d)<|va (J Z)<|vx (lN 162 (mm m7))<|bn H fun g q5 H=>cl (oE q0 R0.m p0 Z s h2.m q5) ?_;rintro q7 j7 f0 ⟨g7,s4,x1,rfl⟩;refine va (Q d)<|Rs d 3<|bn H fun a r5 H=>?_;have s5:=Rel.open_widen_Cluster x1 r5 (tm u);refine md (gC 3 3 (I g.2) (I a.at_.Row::I a.at_.Col::B a.at_.Pending::I g.2::RT a.text.text [I a.text.n,B a.gauge.some,B a.gauge.pict,B a.gauge.wide]) 0 s4 s5 ⟨rfl,trivial⟩) ?_;rintro a5 P t4;refine bn H fun j4 t5 H=>?_;obtain ⟨j,b0,o,M,h7⟩:=Rel.put_widen_Cluster t4 (x1.mono P) (E':=[(Eb d 298 (I a.at_.Row::I a.at_.Col::B a.at_.Pending::I g.2::RT a.text.text [I a.text.n,B a.gauge.some,B a.gauge.pict,B a.gauge.wide]))]) t5 ⟨d,(tm u),rfl⟩;refine wln<|bn H fun i4 e n4=>W.seqJ (Jn a5 fun c l=>∃G_,Own c G_ F/\l= []/\Rel c i4 G_) ?_ ?_
 ·refine W.block<|sr<|vv (Q d)<|Rs d 3<|vx (le1 3 u_3 (b0.gon M 0 rfl))<|Ro x.wide<|Rk (g.2 != x.wide)<|RF e (fun u5 e=>?_) (fun u5 e=>?_)
  ·refine RB v3<|vv (Q d)<|va (Q d)<|vx (leN 29 0 [I a.at_.Row,I a.at_.Col,B a.at_.Pending] (b0.gon M 0 rfl))<|bn e fun q6 v5 e=>?_;obtain ⟨z,rfl,i2⟩:=((h4.mono (R.trans (e0.trans (f0.trans P))))).get v5;refine va (Q z)<|Rs z 1<|bn e fun h1 w5 e=>?_;obtain ⟨n1,y5,x5⟩:=Rel.open_place_Pen o w5 i2;refine md (gB 29 1 [I a.at_.Row,I a.at_.Col,B a.at_.Pending] [n1,I a.at_.Row,I a.at_.Col,B a.at_.Pending,B h1.Auto] 0 b0 y5 ⟨rfl,rfl,rfl,trivial⟩) ?_;rintro k7 g0 u4;refine bn e fun k4 z5 e=>?_;obtain ⟨a0,v4,y1,o7,i7⟩:=Rel.put_place_Pen u4 (o.mono g0) (E':=[(Eb z 73 [n1,I a.at_.Row,I a.at_.Col,B a.at_.Pending,B h1.Auto])]) z5 ⟨z,n1,(tm i2),rfl,(x5.mono g0)⟩;refine wln<|rD [10,13] (Kp a0 []) v4 ?_;intro c5 g1 w1;have c6:=(Kp.nil w1);refine ta 0 (Q d)<|ta 1 (Q z)<|ta 2 (Q d)<|ta 3 (Q d)<|ta 4 (Qo d 3)<|bn e fun i1 a6 e=>?_;have b1:=Rel.open_widen_Cluster (y1.mono g1) a6 (tm u);refine tkx 5 c6 (fun c' N q=>le1 3 u_3 (q.gon b1 0 rfl)) (ta 6 (Q d)<|ta 7 (Q d)<|ta 8 (Qo d 4) ?_);have w4:=w1.borrow 0 b1 rfl;refine bn e fun g4 b6 e=>o1 9 (gc 9 (fQ i1.text w4 b6) ?_);rintro z6 a3 c1 ⟨_,y6,m2,rfl,j3⟩;have o2:=m2.sD 2 [1,0];have n2:=o2.giveB 0 rfl;have j0:=Own.back n2 b1 rfl;have b4:=(Kp.nil j0);refine ⟨.inr b4,?_⟩;obtain ⟨b3,l3,T,k0,k3⟩:=j0.frz 0 rfl j3;have c4:=(Kp.nil k0);refine AC.gh l3 T (fun _=>c4) (bn e fun f m3 e=>o1 10 (gc 10 (qW k0 y1.m (hG.m.le (by decide)) p1 i1.wide g4 h4.m k3 m3) ?_));rintro a7 i6 d1 ⟨e6,q2,u0,rfl⟩;refine ⟨.inl rfl,ta 11 (Q d) (ta 12 (Q d)<|bn e fun b n3 e=>?_)⟩;have o3:=Rel.open_widen_Cluster u0 n3 ((f0.trans (P.trans (g0.trans (g1.trans (c1.trans (T.trans d1)))))).t _ _ _ u);refine o1 13 (gD 13 (gB 29 0 [I f.2.Row,I f.2.Col,B f.2.Pending] (I f.2.Row::I f.2.Col::B f.2.Pending::I b.wide::RT b.text.text [I b.text.n,B b.gauge.some,B b.gauge.pict,B b.gauge.wide]) 0 q2 o3 ⟨rfl,rfl,rfl,trivial⟩) ?_);rintro c3 e1 s2;refine bn e fun l4 q3 e=>?_;obtain ⟨j2,t2,x2,m6,g6⟩:=Rel.put_widen_Cluster s2 (u0.mono e1) (E':=[(Eb d 298 (I f.2.Row::I f.2.Col::B f.2.Pending::I b.wide::RT b.text.text [I b.text.n,B b.gauge.some,B b.gauge.pict,B b.gauge.wide]))]) q3 ⟨d,((f0.trans (P.trans (g0.trans (g1.trans (c1.trans (T.trans (d1.trans e1))))))).t _ _ _ u),rfl⟩;refine ⟨.inl rfl,dn (RH ?_)⟩;obtain rfl:=si e;have u2:=t2.sD 1 [];exact jn c3 ⟨j2,u2,rfl,x2⟩
  refine W.seq<|rD [] (Kp j []) b0 ?_;intro d3 f1 l0;have m1:=(Kp.nil l0);refine ta 0 (Q d)<|ta 1 (Q d)<|ta 2 (Qo d 3)<|tkx 3 m1 (fun c' N q=>le1 3 u_3 (q.gon M 0 rfl)) (ta 4 v3<|bn e fun r6 t3 e=>?_);obtain ⟨p,rfl,s3⟩:=((h4.mono (R.trans (e0.trans (f0.trans (P.trans f1)))))).get t3;refine ta 5 (Q p)<|ta 6 (Q p)<|bn e fun j1 u3 e=>?_;obtain ⟨b7,z0,y0⟩:=Rel.open_place_Pen (o.mono f1) u3 s3;refine tkx 7 m1 (fun c' N q=>le1 0 jT (q.gon z0 0 rfl)) (bn e fun q1 w3 e=>o1 8 (gc 8 (cU l0 o.m j1.G y0 w3) ?_));rintro c7 w0 s6 ⟨S,rfl⟩;have d4:=(Kp.nil S);refine ⟨.inr d4,ta 9 (B (decide (g.2<=q1))) (ta 10 (B (decide (g.2<=q1)))<|dn (nrm<|cn e (fun x3 e=>?_) (fun x3 e=>?_)))⟩
  ·refine rD [16] (Kp j []) S ?_;intro e3 t6 m0;have X:=(Kp.nil m0);refine ta 0 (Q p)<|ta 1 (Q p)<|ta 2 (Q p)<|tkx 3 X (fun c' N q=>le1 0 jT (q.gon z0 0 rfl)) (ta 4 (Q d)<|ta 5 (Q d)<|ta 6 (Q d)<|ta 7 (Q d)<|tkx 8 X (fun c' N q=>le1 0 u_3 (q.gon M 0 rfl)) (ta 10 (Q d)<|ta 11 (Q d)<|ta 12 (Q d)<|ta 13 (Qo d 1)<|tkx 14 X (fun c' N q=>le1 1 u_3 (q.gon M 0 rfl)) (ta 15 (J Z)<|bn e fun u1 y3 e=>o1 9 (gc 9 (dd m0 o.m j1.G a.at_.Row y0.m y3) ?_))));rintro d7 f3 u6 ⟨_,o0,rfl,z3⟩;have e4:=(Kp.nil o0);refine ⟨.inr e4,bn e fun d6 a4 e=>o1 16 (gc 16 (CP o0 o.m (hG.m.le (by decide)) u1 a.at_.Col Z z3 a4) ?_)⟩;rintro e7 g3 v6 ⟨k2,v2,y2,rfl⟩;refine ⟨.inl rfl,dn (RH ?_)⟩;obtain rfl:=si e;exact jn g3 ⟨k2,v2,rfl,y2⟩
  refine W.skip<|RH ?_;obtain rfl:=si e;exact jn w0 ⟨j,S,rfl,o.m⟩
 rintro e_ w_ ⟨h3,l6,_,rfl,w6,rfl,l2,w2,rfl,z2⟩;refine Ru true<|RD ?_;obtain rfl:=si n4;exact Rz h3 ⟨l2,w2,z2,rfl⟩
def ik (p0:an):Option Int:=
 (cm (σ:=Int) (τ:=Int ⊕ Unit) (((([1,2,3,4,5,10,11]:List Int).length:Int)-0).toNat+1) (fun b=>
 if decide (b<(([1,2,3,4,5,10,11]:List Int).length:Int)) then
 (idx ([1,2,3,4,5,10,11]:List Int) b).bind fun d=>
 if (p0.Break==d)=true then
 some (.inr (.inl 0))
 else
 some (.inl ((w64 (b+1))))
 else
 some (.inr (.inr ()))) 0).bind fun a=>
 match a with
 | .inl a=>
 some a
 | .inr a=>
 (orE (p0.East==1) (some (p0.East==2))).bind fun c=>
 if c then
 some 2
 else
 some 1
theorem ux (O0:Own c0 G F) (b:an){r:Int}(H:ik b=some r): RU 138 #[.agg #[I b.Break,B b.Pict,I b.Conj,I b.East]] c0 fun c v=>Own c G F/\v=I r:=by
 unfold ik at H;refine en func138 rfl rfl<|sr<|me (bx 162 [I b.Break,B b.Pict,I b.Conj,I b.East] O0) ?_;rintro v5 c4 l4 ⟨h,rfl,O2,R⟩;refine Ro 0<|RO<|me (sl (RI .i64) 3 [[I 1],[I 2],[I 3],[I 4],[I 5],[I 10],[I 11]] ([1,2,3,4,5,10,11]:List Int) O2 ⟨rfl,rfl,rfl,rfl,rfl,rfl,rfl,trivial⟩) ?_;rintro v10 s l9 ⟨p,O6,u⟩;refine va v10<|Rx<|RA 0<|wln<|W.block<|bn H fun o D a=>lp D (fun d=>Jn s fun c l=>Own c G (es true (RI .i64) v10 3 p ([1,2,3,4,5,10,11]:List Int)::F)/\l= [(1,Q h),(3,v10),(4,I d)]) (fun t=>match t with|.inl T=>(fun t0 ex e w=>ex= .ret/\(Jn s fun c l=>Own c G F/\l= [(2,I t0)]) e w) T|.inr T=>(fun a1 ex e w=>ex= .exit 0/\(Jn s fun c l=>Own c G (es true (RI .i64) v10 3 p ([1,2,3,4,5,10,11]:List Int)::F)/\l= [(1,Q h)]) e w) T) ?_ ?_ ?_
 ·clear a D;intro d j1 g0 u0 H;revert g0 u0;rintro P S ⟨e0,c1,_,rfl,m0,rfl,x,rfl⟩;refine W.seq<|RA d<|va v10<|vx (lnO 3 vM u.m)<|Rj (d<(([1,2,3,4,5,10,11]:List Int).length:Int))<|RF H (fun i0 H=>?_) (fun i0 H=>?_)
  ·refine RG<|RM<|W.seq<|rD [] (Kp G0 [es true (RI .i64) v10 3 p ([1,2,3,4,5,10,11]:List Int)]) x ?_;intro i o0 g;have s0:Kp G0 [es true (RI .i64) v10 3 p ([1,2,3,4,5,10,11]:List Int)] i:=(Kp.cons (g.on 0 rfl) Kp.nil0);refine ta 0 (Q h)<|tx 1 (fun c' M=>l1 u_3 ((mm R) 0 _ rfl))<|ta 2 v10<|ta 3 (I d)<|bn H fun q n H=>tx 4 (fun c' M=>ixO vM u.m n) ?_;obtain ⟨z0,j0,q0⟩:=OA.at (u.mono (m0.trans o0)) n;obtain rfl:=j0;refine AC.takeK 5 (I q) s0 rfl (by kernel_rfl) (by kernel_rfl) (by kernel_rfl) (fun c' M hk=>(rx (by kernel_rfl) (sn u_3 rfl (hk.on 0 rfl) (u.m.blk n) (at1 (j:=0) q0 rfl)))) (ta 6 (B (b.Break==q))<|dn (nrm<|cn H (fun k0 H=>?_) (fun k0 H=>?_)))
   ·refine RA 0<|RD<|RK ?_;cases H;refine ⟨_,rfl,⟨rfl,?_⟩⟩;have X:=g.sD 1 [];exact jn i ⟨X,rfl⟩
   refine W.skip<|RH<|RC d<|Rq (d+1)<|WL.nil ?_;cases H;exact ⟨_,rfl,jn i ⟨g,rfl⟩⟩
  refine W.exit<|thx ?_;cases H;exact ⟨_,rfl,rfl,jn e0 ⟨x,rfl⟩⟩
 ·exact jn s ⟨O6,rfl⟩
 rcases o with o|o
 ·intro h0; revert h0;rintro _ P S ⟨rfl,f0,d1,_,rfl,g1,rfl,Z,rfl⟩;refine RK ?_;cases a;exact Rz f0 ⟨Z,rfl⟩
 rintro _ P S ⟨rfl,k,e1,_,rfl,h1,rfl,y,rfl⟩;refine RJ<|W.seq<|W.seq<|bn a fun N E a=>W.join (Jn k fun c l=>Own c G (es true (RI .i64) v10 3 p ([1,2,3,4,5,10,11]:List Int)::F)/\l= [(26,B N)]) ?_ ?_
 ·clear a;refine W.region<|Rs h (0+3)<|vx (l1 u_3 ((mm R) 3 _ rfl))<|Ri (b.East==1) ?_;rcases bo (b.East==1) with f|f
  ·obtain rfl:=orT f E;exact vb f<|pz<|ps<|Ri true<|Ry k ⟨y,rfl⟩
  have U:=orF f E;refine vb f<|wa (Qo h (0+3))<|wn<|vx (l1 u_3 ((mm R) 3 _ rfl))<|Rn (b.East==2) ?_;cases U;exact Ri (b.East==2)<|Ry k ⟨y,rfl⟩
 rintro P S ⟨A,f1,_,rfl,i1,rfl,z,rfl⟩;refine nrm<|cn a (fun l0 a=>?_) (fun l0 a=>?_)
 ·refine RA 2<|RD<|thr ?_;cases a;have a0:=z.sD 1 [];exact Rz A ⟨a0,rfl⟩
 refine RG<|RA 1<|RD ?_;cases a;have b0:=z.sD 1 [];exact Rz A ⟨b0,rfl⟩
def gG (p0:List Int) (p1:List an):Option Int:=
 (cm (σ:=Int) (τ:=Int ⊕ Unit) (((p0.length:Int)-0).toNat+1) (fun a=>
 if decide (a<(p0.length:Int)) then
 (idx p1 a).bind fun h=>
 (ik h).bind fun i=>
 (orE (i==2) ((bw (decide (a>0)) ((idx p0 a).bind fun j=>
 (bw (j==65039) ((idx p1 (w64 (a-1))).bind fun k=>
 some k.Pict)).bind fun e=>
 (orE e ((idx p1 a).bind fun l=>
 some l.Pict)).bind fun f=>
 (orE f ((idx p1 a).bind fun m=>
 some (m.Break==6))).bind fun g=>
 some g)).bind fun d=>
 some d)).bind fun c=>
 if c then
 some (.inr (.inl 2))
 else
 some (.inl ((w64 (a+1))))
 else
 some (.inr (.inr ()))) 0).bind fun b=>
 match b with
 | .inl b=>
 some b
 | .inr b=>
 some 1
theorem tG (O0:Own c0 G F) (p0:List Int) (p1:List an){r:Int}(h2:Sl (RI .i32) c0 v1 p0) (g:Sl cG c0 v3 p1) (H:gG p0 p1=some r): RU 92 #[v1,v3] c0 fun c v=>Own c G F/\v=I r:=by
 unfold gG at H;refine en func92 rfl rfl<|RA 0<|Rx<|RA 0<|wln<|W.block<|bn H fun N h5 H6=>lp h5 (fun a=>Jn c0 fun c l=>Own c G F/\l= [(0,v1),(1,v3),(5,I a)]) (fun t=>match t with|.inl x_=>(fun k2 ex e w=>ex= .ret/\(Jn c0 fun c l=>Own c G F/\l= [(4,I k2)]) e w) x_|.inr x_=>(fun x2 ex e w=>ex= .exit 0/\(Jn c0 fun c l=>Own c G F/\l= []) e w) x_) ?_ ?_ ?_
 ·clear H6 h5;intro a e3 g1 l2 H;revert g1 l2;rintro e_ w_ ⟨c7,g8,_,rfl,x,rfl,O9,rfl⟩;refine W.seq<|RA a<|va v1<|vx (ln 3 cD h2.m)<|Rj (a<(p0.length:Int))<|RF H (fun i1 H=>?_) (fun i1 H=>?_)
  ·refine RG<|RM<|W.seq<|bn H fun z0 X H=>bn H fun P j1 H=>bn H fun s0 Z H=>W.join (Jn c7 fun c l=>Own c G F/\l= [(0,v1),(1,v3),(5,I a),(51,B s0)]) ?_ ?_
   ·clear H;refine Rv v3<|Ro a ?_;obtain ⟨p2,k1,b2⟩:=Sl.at (g.mono x) (aP X);obtain rfl:=k1;refine vx (ix kN g.m X)<|vx (lN 162 b2)<|cl (ux O9 z0 j1) ?_;rintro v25 i k ⟨h,rfl⟩;refine Ri (P==2) ?_;rcases bo (P==2) with n|n
    ·obtain rfl:=orT n Z;exact vb n<|pz<|pz<|pz<|pz<|pz<|pz<|pz<|pz<|pz<|pz<|pz<|pz<|pz<|pz<|pz<|pz<|Ri true<|Ry i ⟨h,rfl⟩
    have f:=orF n Z;refine vb n<|wa (I a)<|Rm (a>0)<|wn<|bn f fun n2 a0 f=>?_;rcases bo (decide (a>0)) with o|o
    ·have b:=anT o a0;refine vb o<|wa v1<|wa (I a)<|wn<|bn b fun R b0 b=>?_;obtain ⟨q2,m1,c2⟩:=Sl.at (h2.mono (x.trans k)) (aP b0);obtain rfl:=m1;refine vx (ix cD h2.m b0)<|wn<|vx (l1 nB (c2 0 _ rfl))<|Rn (R==65039)<|wn<|bn b fun o2 d0 b=>?_;rcases bo (R==65039) with p|p
     ·have y:=anT p d0;refine vb p<|wa v3<|wa (I a)<|wa (I (w64 (a-1)))<|wn<|bn y fun S e0 y=>?_;obtain ⟨s2,n1,d2⟩:=Sl.at (g.mono (x.trans k)) (aP e0);obtain rfl:=n1;refine vx (ix kN g.m e0)<|wa (Qo (sb v3) (so v3+(w64 (a-1)).toNat*4+1))<|wn<|vx (l1 u_4 (d2 1 _ rfl))<|wn ?_;cases y;refine Ri S.Pict<|wn<|bn b fun t0 f0 b=>?_;rcases bo S.Pict with q|q
      ·obtain rfl:=orT q f0;refine vb q<|pz<|pz<|ps<|Rn true<|wn<|bn b fun M q1 b=>?_;have g0:true=true:=rfl;obtain rfl:=orT g0 q1;refine vb g0<|pz<|pz<|pz<|Rn true<|wn ?_;cases b;refine Ri true ?_;cases f;exact Ri true<|Ry i ⟨h,rfl⟩
      have z:=orF q f0;refine vb q<|wa v3<|wa (I a)<|wn<|bn z fun j h0 z=>?_;obtain ⟨t2,s1,e2⟩:=Sl.at (g.mono (x.trans k)) (aP h0);obtain rfl:=s1;refine vx (ix kN g.m h0)<|wa (Qo (sb v3) (so v3+a.toNat*4+1))<|wn<|vx (l1 u_4 (e2 1 _ rfl))<|wn ?_;cases z;refine Ri j.Pict<|wn<|bn b fun M i0 b=>?_;rcases bo j.Pict with s|s
      ·obtain rfl:=orT s i0;refine vb s<|pz<|pz<|pz<|Rn true<|wn ?_;cases b;refine Ri true ?_;cases f;exact Ri true<|Ry i ⟨h,rfl⟩
      have A:=orF s i0;refine vb s<|wa v3<|wa (I a)<|wn<|bn A fun d j0 A=>?_;obtain ⟨u2,u1,f2⟩:=Sl.at (g.mono (x.trans k)) (aP j0);obtain rfl:=u1;refine vx (ix kN g.m j0)<|wa (Qo (sb v3) (so v3+a.toNat*4))<|wn<|vx (l1 u_3 (f2 0 _ rfl))<|Rn (d.Break==6)<|wn ?_;cases A;refine Ri (d.Break==6)<|wn ?_;cases b;refine Ri (d.Break==6) ?_;cases f;exact Ri (d.Break==6)<|Ry i ⟨h,rfl⟩
     obtain rfl:=anF p d0;refine vb p<|pz<|pz<|pz<|Rn false<|wn<|bn b fun t0 w1 b=>?_;have k0:false=false:=rfl;have D:=orF k0 w1;refine vb k0<|wa v3<|wa (I a)<|wn<|bn D fun j l0 D=>?_;obtain ⟨v2,x1,g2⟩:=Sl.at (g.mono (x.trans k)) (aP l0);obtain rfl:=x1;refine vx (ix kN g.m l0)<|wa (Qo (sb v3) (so v3+a.toNat*4+1))<|wn<|vx (l1 u_4 (g2 1 _ rfl))<|wn ?_;cases D;refine Ri j.Pict<|wn<|bn b fun M m0 b=>?_;rcases bo j.Pict with u|u
     ·obtain rfl:=orT u m0;refine vb u<|pz<|pz<|pz<|Rn true<|wn ?_;cases b;refine Ri true ?_;cases f;exact Ri true<|Ry i ⟨h,rfl⟩
     have E:=orF u m0;refine vb u<|wa v3<|wa (I a)<|wn<|bn E fun d o0 E=>?_;obtain ⟨w2,y1,i2⟩:=Sl.at (g.mono (x.trans k)) (aP o0);obtain rfl:=y1;refine vx (ix kN g.m o0)<|wa (Qo (sb v3) (so v3+a.toNat*4))<|wn<|vx (l1 u_3 (i2 0 _ rfl))<|Rn (d.Break==6)<|wn ?_;cases E;refine Ri (d.Break==6)<|wn ?_;cases b;refine Ri (d.Break==6) ?_;cases f;exact Ri (d.Break==6)<|Ry i ⟨h,rfl⟩
    obtain rfl:=anF o a0;refine vb o<|pz<|pz<|pz<|pz<|pz<|pz<|pz<|pz<|pz<|pz<|pz<|pz<|pz<|pz<|Rn false ?_;cases f;exact Ri false<|Ry i ⟨h,rfl⟩
   rintro e_ w_ ⟨U,y2,_,rfl,b3,rfl,T,rfl⟩;refine nrm<|cn H (fun z1 H=>?_) (fun z1 H=>?_)
   ·refine RA 2<|RD<|RK ?_;cases H;exact ⟨_,rfl,⟨rfl,jn U ⟨T,rfl⟩⟩⟩
   refine W.skip<|RH<|RC a<|Rq (a+1)<|WL.nil ?_;cases H;exact ⟨_,rfl,jn U ⟨T,rfl⟩⟩
  refine W.exit<|thx ?_;cases H;exact ⟨_,rfl,rfl,jn c7 ⟨O9,rfl⟩⟩
 ·exact jn c0 ⟨O0,rfl⟩
 rcases N with N|N
 ·intro h1; revert h1;rintro _ e_ w_ ⟨rfl,e1,z2,_,rfl,c3,rfl,a1,rfl⟩;refine RK ?_;cases H6;exact Rz e1 ⟨a1,rfl⟩
 rintro _ e_ w_ ⟨rfl,f1,a3,_,rfl,d3,rfl,b1,rfl⟩;refine RJ<|RA 1<|RD ?_;cases H6;exact Rz f1 ⟨b1,rfl⟩
def ma:List (Int×Int×Int):=[(0,9,3),(10,10,2),(11,12,3),(13,13,1),(14,31,3),(127,159,3),(173,173,3),(768,879,4),(1155,1161,4),(1425,1469,4),(1471,1471,4),(1473,1474,4),(1476,1477,4),(1479,1479,4),(1536,1541,7),(1552,1562,4),(1564,1564,3),(1611,1631,4),(1648,1648,4),(1750,1756,4),(1757,1757,7),(1759,1764,4),(1767,1768,4),(1770,1773,4),(1807,1807,7),(1809,1809,4),(1840,1866,4),(1958,1968,4),(2027,2035,4),(2070,2073,4),(2075,2083,4),(2192,2193,7),(2259,2273,4),(2274,2274,7),(2275,2306,4),(2307,2307,8),(2362,2362,4),(2363,2363,8),(2364,2364,4),(2366,2368,8),(2369,2376,4),(2377,2380,8),(2381,2381,4),(2382,2383,8),(2385,2391,4),(2402,2403,4),(2433,2433,4),(2434,2435,8),(2492,2492,4),(2494,2494,4),(2495,2496,8),(2497,2500,4),(2503,2504,8),(2507,2508,8),(2509,2509,4),(2519,2519,4),(2530,2531,4),(2561,2562,4),(2563,2563,8),(2620,2620,4),(2622,2624,8),(2625,2626,4),(2631,2632,4),(2635,2637,4),(2691,2691,8),(2748,2748,4),(2750,2752,8),(2753,2757,4),(2761,2761,8),(2765,2765,4),(2818,2819,8),(2876,2876,4),(2878,2879,4),(2880,2880,8),(2881,2884,4),(2887,2888,8),(2893,2893,4),(2902,2903,4),(3073,3075,8),(3132,3132,4),(3134,3136,4),(3137,3140,8),(3142,3144,4),(3146,3149,4),(3276,3277,4),(3330,3331,8),(3390,3390,4),(3391,3392,8),(3393,3396,4),(3398,3400,8),(3405,3405,4),(3406,3406,7),(3633,3633,4),(3635,3635,8),(3636,3642,4),(3655,3662,4),(3761,3761,4),(3763,3763,8),(3764,3772,4),(3864,3865,4),(3902,3903,8),(3953,3966,4),(4155,4156,8),(4957,4959,4),(6158,6158,3),(6832,6862,4),(7616,7679,4),(8203,8203,3),(8204,8204,4),(8205,8205,5),(8206,8207,3),(8232,8238,3),(8288,8303,3),(8400,8432,4),(12330,12335,4),(12441,12442,4),(42607,42610,4),(64286,64286,4),(65024,65039,4),(65056,65071,4),(65279,65279,3),(65520,65531,3),(69821,69821,7),(69837,69837,7),(127462,127487,6),(127995,127999,4),(917504,917535,3),(917536,917631,4),(917632,917759,3),(917760,917999,4),(918000,921599,3)]
def ol:Option (List (Int×Int×Int)):=
 some ma
theorem BZ (d:Own c0 G F){r:List (Int×Int×Int)}(H:ol=some r): RU 238 #[] c0 fun c v=>∃a b,Own c G (es true iS a 286 b r::F)/\v=a/\OA iS c a b r:=by
 unfold ol at H;refine en func238 rfl rfl<|RB Y<|RO<|Rh (ma.map fun x=>aF x.1 x.2.1 x.2.2)<|me (Own.sl (R:=iS) (E:=286) (ls:=ma.map (fun x=>[I x.1,I x.2.1,I x.2.2])) (vs:=(ma.map (fun x=>[I x.1,I x.2.1,I x.2.2])).flatten) (xs:=ma) true d (ba _) rfl (pV.map _ (fun _=>rfl) _) (by kernel_rfl) (by kernel_rfl)) ?_;rintro v5 f i ⟨h,e,g⟩;refine va v5<|RD ?_;cases H;exact Rz f ⟨v5,h,e,rfl,g⟩
def oW (p0:Int) (q0_0:List (Int×Int×Int)) (q1_0:Int):Option Bool:=
 (idx q0_0 p0).bind fun a=>
 some (decide (a.2.1>=(w64 q1_0)))
theorem CQ {d:Nat}{e:Nat}(o:Own c0 G F) (b:Int) (q0_0:List (Int×Int×Int)) (q1_0:Int){r:Bool}(s:∀j u,([v2]:List Value)[j]? = some u->Im c0 d (0+j) u) (k:Sl iS c0 v2 q0_0) (t:∀j u,([J q1_0]:List Value)[j]? = some u->Im c0 e (0+j) u) (H:oW b q0_0 q1_0=some r): RU 240 #[I b,Q d,Q e] c0 fun c v=>Own c G F/\v=B r:=by
 unfold oW at H;refine en func240 rfl rfl<|Ru false<|Rx<|rD [] (Kp G0 []) o ?_;intro h q p;have y:Kp G0 [] h:=Kp.nil0;refine tx 0 (fun g a=>l1 iX ((mm s) 0 _ rfl))<|ta 1 (I b)<|bn H fun f l H=>?_;obtain ⟨x,i,n⟩:=Sl.at (k.mono q) (aP l);obtain rfl:=i;refine tx 2 (fun g a=>ix iX k.m l)<|ta 3 (Qo (sb v2) (so v2+b.toNat*3+1))<|tx 4 (fun g a=>l1 u_3 ((mm n) 1 _ rfl))<|tx 5 (fun g a=>l1 nB ((mm t) 0 _ rfl))<|ta 6 (I (w64 q1_0))<|ta 7 (B (decide (f.2.1>=(w64 q1_0))))<|ta 8 (B (decide (f.2.1>=(w64 q1_0))))<|dn (nrm<|W.ret ?_);cases H;exact Rz h ⟨p,rfl⟩
def gQ (p0:Int) (p1:Int) (p2:Int):Option Bool:=
 (bw (decide (p0>=p1)) (some (decide (p0<=p2)))).bind fun a=>
 some a
theorem ll (f:Own c0 G F) (a:Int) (e:Int) (b:Int){r:Bool}(H:gQ a e b=some r): RU 280 #[J a,J e,J b] c0 fun c v=>Own c G F/\v=B r:=by
 unfold gQ at H;refine en func280 rfl rfl<|Ru false<|Rx<|bn H fun g h H=>W.join (Jn c0 fun c l=>Own c G F/\l= [(6,B g)]) ?_ ?_
 ·clear H;refine Rv (J a)<|va (J e)<|Rj (a>=e) ?_;rcases bo (decide (a>=e)) with d|d
  ·have i:=anT d h;refine vb d<|wa (J a)<|wa (J b)<|Rm (a<=b) ?_;cases i;exact vv (B (decide (a<=b)))<|Ry c0 ⟨f,rfl⟩
  obtain rfl:=anF d h;exact vb d<|pz<|ps<|Rk false<|Ry c0 ⟨f,rfl⟩
 rintro m p ⟨k,n,_,rfl,o,rfl,j,rfl⟩;refine nrm<|W.ret ?_;cases H;exact Rz k ⟨j,rfl⟩
def kO (p0:Int):Option Bool:=
 (gQ p0 44032 55203).bind fun a=>
 some a
theorem vy (d:Own c0 G F) (a:Int){r:Bool}(H:kO a=some r): RU 281 #[J a] c0 fun c v=>Own c G F/\v=B r:=by
 unfold kO at H;refine en func281 rfl rfl<|Ru false<|wln<|RB (J a)<|bn H fun b g H=>cl (ll d a 44032 55203 g) ?_;rintro v7 f h ⟨e,rfl⟩;refine Ri b<|RD ?_;cases H;exact Rz f ⟨e,rfl⟩
def kZ (p0:Int):Option Int:=
 (gQ p0 4352 4447).bind fun i=>
 (orE i ((gQ p0 43360 43388).bind fun j=>
 some j)).bind fun h=>
 if h then
 some 9
 else
 (gQ p0 4448 4519).bind fun c=>
 (orE c ((gQ p0 55216 55238).bind fun d=>
 some d)).bind fun a=>
 if a then
 some 10
 else
 (gQ p0 4520 4607).bind fun e=>
 (orE e ((gQ p0 55243 55291).bind fun f=>
 some f)).bind fun b=>
 if b then
 some 11
 else
 (kO p0).bind fun g=>
 if (!g)=true then
 some 0
 else
 if (((w32 (p0-44032)).tmod 28)==0)=true then
 some 12
 else
 some 13
theorem yr (O0:Own c0 G F) (a:Int){r:Int}(H:kZ a=some r): RU 241 #[J a] c0 fun c v=>Own c G F/\v=I r:=by
 unfold kZ at H;refine en func241 rfl rfl<|RA 0<|Rx<|W.block<|W.seq<|bn H fun w0 h1 H=>bn H fun e0 h2 H=>W.join (Jn c0 fun c l=>Own c G F/\l= [(0,J a),(3,B e0)]) ?_ ?_
 ·clear H;refine Rv (J a)<|cl (ll O0 a 4352 4447 h1) ?_;rintro v8 c7 l7 ⟨S,rfl⟩;rcases bo w0 with j|j
  ·obtain rfl:=orT j h2;exact vb j<|pz<|Rk true<|Ry c7 ⟨S,rfl⟩
  have e:=orF j h2;refine vb j<|wa (J a)<|wn<|bn e fun A g0 e=>cl (ll S a 43360 43388 g0) ?_;rintro v17 U l16 ⟨P,rfl⟩;obtain rfl:=si e;exact Rk A<|Ry U ⟨P,rfl⟩
 rintro e_ w_ ⟨u,a1,_,rfl,d1,rfl,o,rfl⟩;refine nrm<|cn H (fun i0 H=>?_) (fun i0 H=>?_)
 ·refine RA 9<|RD<|RK ?_;obtain rfl:=si H;exact Rz u ⟨o,rfl⟩
 refine W.seq<|bn H fun M j0 H=>bn H fun D y H=>W.join (Jn u fun c l=>Own c G F/\l= [(0,J a),(10,B D)]) ?_ ?_
 ·clear H;refine Rv (J a)<|cl (ll o a 4448 4519 j0) ?_;rintro v32 X e1 ⟨p,rfl⟩;rcases bo M with b|b
  ·obtain rfl:=orT b y;exact vb b<|pz<|Rk true<|Ry X ⟨p,rfl⟩
  have f:=orF b y;refine vb b<|wa (J a)<|wn<|bn f fun k k0 f=>cl (ll p a 55216 55238 k0) ?_;rintro v41 Z f1 ⟨R,rfl⟩;obtain rfl:=si f;exact Rk k<|Ry Z ⟨R,rfl⟩
 rintro e_ w_ ⟨x,b1,_,rfl,g1,rfl,q,rfl⟩;refine nrm<|cn H (fun l0 H=>?_) (fun l0 H=>?_)
 ·refine RA 10<|RD<|RK ?_;obtain rfl:=si H;exact Rz x ⟨q,rfl⟩
 refine W.seq<|bn H fun N m0 H=>bn H fun E z H=>W.join (Jn x fun c l=>Own c G F/\l= [(0,J a),(17,B E)]) ?_ ?_
 ·clear H;refine Rv (J a)<|cl (ll q a 4520 4607 m0) ?_;rintro v56 a0 i1 ⟨s,rfl⟩;rcases bo N with d|d
  ·obtain rfl:=orT d z;exact vb d<|pz<|Rk true<|Ry a0 ⟨s,rfl⟩
  have g:=orF d z;refine vb d<|wa (J a)<|wn<|bn g fun m o0 g=>cl (ll s a 55243 55291 o0) ?_;rintro n1 b0 j1 ⟨T,rfl⟩;obtain rfl:=si g;exact Rk m<|Ry b0 ⟨T,rfl⟩
 rintro e_ w_ ⟨d0,c1,_,rfl,k1,rfl,t,rfl⟩;refine nrm<|cn H (fun q0 H=>?_) (fun q0 H=>?_)
 ·refine RA 11<|RD<|RK ?_;obtain rfl:=si H;exact Rz d0 ⟨t,rfl⟩
 refine RB (J a)<|bn H fun n s0 H=>cl (vy t a s0) ?_;rintro p1 i m1 ⟨h,rfl⟩;refine Rk (!n)<|RF H (fun t0 H=>?_) (fun t0 H=>?_)
 ·refine RA 0<|RD<|RK ?_;obtain rfl:=si H;exact Rz i ⟨h,rfl⟩
 refine RB (J a)<|va (J (w32 (a-44032)))<|va (J ((w32 (a-44032)).tmod 28))<|Rk (((w32 (a-44032)).tmod 28)==0)<|RF H (fun u0 H=>?_) (fun u0 H=>?_)
 ·refine RA 12<|RD<|RK ?_;obtain rfl:=si H;exact Rz i ⟨h,rfl⟩
 refine W.skip<|RH<|RA 13<|RD ?_;obtain rfl:=si H;exact Rz i ⟨h,rfl⟩
def gy (p0:Int) (p1_0_0:List (Int×Int×Int)) (p1_1_0:Int):Option Int:=
 (cm (σ:=Int×Int) (τ:=Int) ((p0-0).toNat+1) (fun a=>
 if decide (a.1<a.2) then
 (oW (w64 ((IntKind.u64.wrap (w64 (a.1+a.2))).fdiv (2 ^ 1))) p1_0_0 p1_1_0).bind fun b=>
 if (!b)=true then
 some (.inl ((w64 ((w64 ((IntKind.u64.wrap (w64 (a.1+a.2))).fdiv (2 ^ 1)))+1)),a.2))
 else
 some (.inl (a.1,(w64 ((IntKind.u64.wrap (w64 (a.1+a.2))).fdiv (2 ^ 1)))))
 else
 some (.inr a.1)) (0,p0)).bind fun c=>
 some c
theorem qs {b1_0:Nat}{b1_1:Nat}(A:Own c0 G F) (b:Int) (p1_0_0:List (Int×Int×Int)) (p1_1_0:Int){r:Int}(N:∀j u,([v2]:List Value)[j]? = some u->Im c0 b1_0 (0+j) u) (M:Sl iS c0 v2 p1_0_0) (P:∀j u,([J p1_1_0]:List Value)[j]? = some u->Im c0 b1_1 (0+j) u) (H:gy b p1_0_0 p1_1_0=some r): RU 239 #[I b,.func (.func 240) #[] #[Q b1_0,Q b1_1]] c0 fun c v=>Own c G F/\v=I r:=by
 unfold gy at H;refine en func239 rfl rfl<|RA 0<|wln<|RA b<|Ro 0<|Ro b<|Rx<|W.block<|bn H fun g y k=>lp y (fun a=>Jn c0 fun c l=>Own c G F/\l= [(1,.func (.func 240) #[] #[Q b1_0,Q b1_1]),(5,I a.1),(6,I a.2)]) (fun h ex e w=>ex= .exit 0/\(Jn c0 fun c l=>Own c G F/\l= [(5,I h)]) e w) ?_ ?_ ?_
 ·clear k y;intro a X q z H;revert q z;rintro E R ⟨D,Z,_,rfl,l7,rfl,o,rfl⟩;refine W.seq<|RA a.1<|Ro a.2<|Rj (a.1<a.2)<|RF H (fun s H=>?_) (fun s H=>?_)
  ·refine RG<|W.block<|RA a.1<|Ro a.2<|Rt (a.1+a.2)<|va (.int .u64 (IntKind.u64.wrap (w64 (a.1+a.2))))<|va (.int .u64 ((IntKind.u64.wrap (w64 (a.1+a.2))).fdiv (2 ^ 1)))<|Rq ((IntKind.u64.wrap (w64 (a.1+a.2))).fdiv (2 ^ 1))<|wln<|RB (.func (.func 240) #[] #[Q b1_0,Q b1_1])<|Rt ((IntKind.u64.wrap (w64 (a.1+a.2))).fdiv (2 ^ 1))<|bn H fun i t H=>cl (CQ o (w64 ((IntKind.u64.wrap (w64 (a.1+a.2))).fdiv (2 ^ 1))) p1_0_0 p1_1_0 (mm N) M.m (mm P) t) ?_;rintro v20 f T ⟨d,rfl⟩;refine Ri (!i)<|RF H (fun x H=>?_) (fun x H=>?_)
   ·refine W.region<|Rt ((IntKind.u64.wrap (w64 (a.1+a.2))).fdiv (2 ^ 1))<|Rq ((w64 ((IntKind.u64.wrap (w64 (a.1+a.2))).fdiv (2 ^ 1)))+1)<|WL.nil<|bkn ?_;cases H;exact ⟨_,rfl,jn f ⟨d,rfl⟩⟩
   refine W.region<|Rq ((IntKind.u64.wrap (w64 (a.1+a.2))).fdiv (2 ^ 1))<|WL.nil<|bkn ?_;cases H;exact ⟨_,rfl,jn f ⟨d,rfl⟩⟩
  refine W.exit<|thx ?_;cases H;exact ⟨_,rfl,rfl,jn D ⟨o,rfl⟩⟩
 ·exact jn c0 ⟨A,rfl⟩
 rintro _ E R ⟨rfl,p,S,_,rfl,U,rfl,n,rfl⟩;refine RJ<|sr<|vv (I g)<|RD ?_;cases k;exact Rz p ⟨n,rfl⟩
def sE (p0:Int):Option Int:=
 (ol).bind fun a=>
 (gy (a.length:Int) a p0).bind fun b=>
 (bw (decide (b<(a.length:Int))) ((idx a b).bind fun d=>
 some (decide (d.1<=(w64 p0))))).bind fun c=>
 if c then
 (idx a b).bind fun e=>
 some e.2.2
 else
 (kZ p0).bind fun f=>
 some f
theorem GW (O0:Own c0 G F) (i:Int){r:Int}(H:sE i=some r): RU 173 #[J i] c0 fun c v=>Own c G F/\v=I r:=by
 unfold sE at H;refine en func173 rfl rfl<|sr<|me (bx 21 [J i] O0) ?_;rintro v5 c4 l4 ⟨b1,rfl,O2,R⟩;refine Ro 0<|RO<|bn H fun j h6 H=>cl (BZ O2 h6) ?_;rintro v7 h1 p1 ⟨_,u8,U,rfl,s⟩;refine me (al 283 [Y] U) ?_;rintro v19 i1 E ⟨y,rfl,X⟩;obtain ⟨b,d,e,rfl⟩:=((s.mono E)).form;refine md (sC 283 0 (.slice b d e) [.slice b d e] 0 X ⟨s.m.one,trivial⟩) ?_;rintro j1 v0 t;refine RO<|vx (le1 0 iX (t.on 0 rfl))<|vx (lnO 3 iX s.m) ?_;obtain ⟨k1,l0,q1,Z,g⟩:=t.frz 1 rfl (s.mono (E.trans v0));refine WL.gh l0 ?_;obtain ⟨m1,m0,M,a0,n⟩:=Own.frzB 0 Z rfl;refine WL.gh m0 ?_;have b0:=a0.sD 2 [1];refine va (.func (.func 240) #[] #[Q y,Q b1])<|bn H fun a o0 H=>cl (qs b0 (j.length:Int) j i n g.m (mm R) o0) ?_;rintro v40 i0 N ⟨d0,rfl⟩;refine Ro a<|Rx<|W.seq<|bn H fun P z H=>W.join (Jn i0 fun c l=>Own c G (es false iS (.slice b d e) 286 u8 j::F)/\l= [(1,Q b1),(3,Q y),(4,I a),(23,B P)]) ?_ ?_
 ·clear H;refine rD [] (Kp G0 []) d0 ?_;intro p w0 u;have t1:Kp G0 [] p:=Kp.nil0;refine ta 0 (I a)<|tx 1 (fun k f=>l1 iX ((mm n) 0 _ rfl))<|tx 2 (fun k f=>ln 3 iX g.m)<|ta 3 (B (decide (a<(j.length:Int)))) ?_;rcases bo (decide (a<(j.length:Int))) with h|h
  ·have o:=anT h z;refine bn o fun q A o=>AC.takeb 4 h rfl (by kernel_rfl) (by kernel_rfl) (fun k f=>(by kernel_rfl)) (tx 5 (fun k f=>l1 iX ((mm n) 0 _ rfl))<|ta 6 (I a) ?_);obtain ⟨e1,q0,y0⟩:=Sl.at (g.mono (M.trans (N.trans w0))) (aP A);obtain rfl:=q0;refine tx 7 (fun k f=>ix iX g.m A)<|ta 8 (Qo (sb (.slice b d e)) (so (.slice b d e)+a.toNat*3))<|tx 9 (fun k f=>l1 u_3 ((mm y0) 0 _ rfl))<|tx 10 (fun k f=>l1 nB ((mm R) 0 _ rfl))<|ta 11 (I (w64 i))<|ta 12 (B (decide (q.1<=(w64 i)))) ?_;cases o;exact ta 13 (B (decide (q.1<=(w64 i))))<|dn (nrm<|jn p ⟨u,rfl⟩)
  obtain rfl:=anF h z;exact AC.takeb 4 h rfl (by kernel_rfl) (by kernel_rfl) (fun k f=>(by kernel_rfl)) (tp 5<|tp 6<|tp 7<|tp 8<|tp 9<|tp 10<|tp 11<|tp 12<|ta 13 (B false)<|dn (nrm<|jn p ⟨u,rfl⟩))
 rintro e_ w_ ⟨j0,n1,_,rfl,x0,rfl,x,rfl⟩;refine nrm<|cn H (fun s0 H=>?_) (fun s0 H=>?_)
 ·refine sr<|vx (l1 iX ((mm n) 0 _ rfl))<|Ro a<|bn H fun S D H=>?_;obtain ⟨f1,t0,z0⟩:=Sl.at (g.mono (M.trans (N.trans x0))) (aP D);obtain rfl:=t0;refine vx (ix iX g.m D)<|Rs (sb (.slice b d e)) (so (.slice b d e)+a.toNat*3+2)<|vx (l1 u_3 (z0 2 _ rfl))<|Ro S.2.2<|RD<|thr ?_;cases H;have e0:=x.sD 1 [];exact Rz j0 ⟨e0,rfl⟩
 refine RG<|sr<|vx (l1 nB ((mm R) 0 _ rfl))<|bn H fun T u0 H=>cl (yr x i u0) ?_;rintro u1 k0 s1 ⟨f0,rfl⟩;refine Ro T<|RD ?_;cases H;have g0:=f0.sD 1 [];exact Rz k0 ⟨g0,rfl⟩
def oh (p0:Int) (q0_0:List (Int×Int)) (q1_0:Int):Option Bool:=
 (idx q0_0 p0).bind fun a=>
 some (decide (a.2>=q1_0))
theorem BX {d:Nat}{e:Nat}(o:Own c0 G F) (b:Int) (q0_0:List (Int×Int)) (q1_0:Int){r:Bool}(s:∀j u,([v2]:List Value)[j]? = some u->Im c0 d (0+j) u) (k:Sl tA c0 v2 q0_0) (t:∀j u,([J q1_0]:List Value)[j]? = some u->Im c0 e (0+j) u) (H:oh b q0_0 q1_0=some r): RU 243 #[I b,Q d,Q e] c0 fun c v=>Own c G F/\v=B r:=by
 unfold oh at H;refine en func243 rfl rfl<|Ru false<|Rx<|rD [] (Kp G0 []) o ?_;intro h q p;have y:Kp G0 [] h:=Kp.nil0;refine tx 0 (fun g a=>l1 wD ((mm s) 0 _ rfl))<|ta 1 (I b)<|bn H fun f l H=>?_;obtain ⟨x,i,n⟩:=Sl.at (k.mono q) (aP l);obtain rfl:=i;refine tx 2 (fun g a=>ix wD k.m l)<|ta 3 (Qo (sb v2) (so v2+b.toNat*2+1))<|tx 4 (fun g a=>l1 nB ((mm n) 1 _ rfl))<|tx 5 (fun g a=>l1 nB ((mm t) 0 _ rfl))<|ta 6 (B (decide (f.2>=q1_0)))<|ta 7 (B (decide (f.2>=q1_0)))<|dn (nrm<|W.ret ?_);cases H;exact Rz h ⟨p,rfl⟩
def lZ:List (Int×Int):=[(169,169),(174,174),(8252,8252),(8265,8265),(8482,8482),(8505,8505),(8596,8601),(8617,8618),(8986,8987),(9000,9000),(9096,9096),(9167,9167),(9193,9203),(9208,9210),(9410,9410),(9642,9643),(9654,9654),(9664,9664),(9723,9726),(9728,9733),(9735,9746),(9748,9861),(9872,9989),(9992,10002),(10004,10004),(10006,10006),(10013,10013),(10017,10017),(10024,10024),(10035,10036),(10052,10052),(10055,10055),(10060,10060),(10062,10062),(10067,10069),(10071,10071),(10083,10087),(10133,10135),(10145,10145),(10160,10160),(10175,10175),(10548,10549),(11013,11015),(11035,11036),(11088,11088),(11093,11093),(12336,12336),(12349,12349),(12951,12951),(12953,12953),(126976,127231),(127245,127247),(127279,127279),(127340,127345),(127358,127359),(127374,127374),(127377,127386),(127405,127461),(127489,127503),(127514,127514),(127535,127535),(127538,127546),(127548,127551),(127561,127994),(128000,128317),(128326,128591),(128640,128767),(128884,128895),(128981,129023),(129036,129039),(129096,129103),(129114,129119),(129160,129167),(129198,129279),(129292,129338),(129340,129349),(129351,129791),(130048,131069)]
def mS:Option (List (Int×Int)):=
 some lZ
theorem Au (d:Own c0 G F){r:List (Int×Int)}(H:mS=some r): RU 242 #[] c0 fun c v=>∃a b,Own c G (es true tA a 289 b r::F)/\v=a/\OA tA c a b r:=by
 unfold mS at H;refine en func242 rfl rfl<|RB Y<|RO<|Rh (lZ.map fun x=>JII x.1 x.2)<|me (Own.sl (R:=tA) (E:=289) (ls:=lZ.map (fun x=>[J x.1,J x.2])) (vs:=(lZ.map (fun x=>[J x.1,J x.2])).flatten) (xs:=lZ) true d (ba _) rfl (pV.map _ (fun _=>rfl) _) (by kernel_rfl) (by kernel_rfl)) ?_;rintro v5 f i ⟨h,e,g⟩;refine va v5<|RD ?_;cases H;exact Rz f ⟨v5,h,e,rfl,g⟩
def fV (p0:Int) (p1_0_0:List (Int×Int)) (p1_1_0:Int):Option Int:=
 (cm (σ:=Int×Int) (τ:=Int) ((p0-0).toNat+1) (fun a=>
 if decide (a.1<a.2) then
 (oh (w64 ((IntKind.u64.wrap (w64 (a.1+a.2))).fdiv (2 ^ 1))) p1_0_0 p1_1_0).bind fun b=>
 if (!b)=true then
 some (.inl ((w64 ((w64 ((IntKind.u64.wrap (w64 (a.1+a.2))).fdiv (2 ^ 1)))+1)),a.2))
 else
 some (.inl (a.1,(w64 ((IntKind.u64.wrap (w64 (a.1+a.2))).fdiv (2 ^ 1)))))
 else
 some (.inr a.1)) (0,p0)).bind fun c=>
 some c
theorem pL {b1_0:Nat}{b1_1:Nat}(A:Own c0 G F) (b:Int) (p1_0_0:List (Int×Int)) (p1_1_0:Int){r:Int}(N:∀j u,([v2]:List Value)[j]? = some u->Im c0 b1_0 (0+j) u) (M:Sl tA c0 v2 p1_0_0) (P:∀j u,([J p1_1_0]:List Value)[j]? = some u->Im c0 b1_1 (0+j) u) (H:fV b p1_0_0 p1_1_0=some r): RU 239 #[I b,.func (.func 243) #[] #[Q b1_0,Q b1_1]] c0 fun c v=>Own c G F/\v=I r:=by
 unfold fV at H;refine en func239 rfl rfl<|RA 0<|wln<|RA b<|Ro 0<|Ro b<|Rx<|W.block<|bn H fun g y k=>lp y (fun a=>Jn c0 fun c l=>Own c G F/\l= [(1,.func (.func 243) #[] #[Q b1_0,Q b1_1]),(5,I a.1),(6,I a.2)]) (fun h ex e w=>ex= .exit 0/\(Jn c0 fun c l=>Own c G F/\l= [(5,I h)]) e w) ?_ ?_ ?_
 ·clear k y;intro a X q z H;revert q z;rintro E R ⟨D,Z,_,rfl,l7,rfl,o,rfl⟩;refine W.seq<|RA a.1<|Ro a.2<|Rj (a.1<a.2)<|RF H (fun s H=>?_) (fun s H=>?_)
  ·refine RG<|W.block<|RA a.1<|Ro a.2<|Rt (a.1+a.2)<|va (.int .u64 (IntKind.u64.wrap (w64 (a.1+a.2))))<|va (.int .u64 ((IntKind.u64.wrap (w64 (a.1+a.2))).fdiv (2 ^ 1)))<|Rq ((IntKind.u64.wrap (w64 (a.1+a.2))).fdiv (2 ^ 1))<|wln<|RB (.func (.func 243) #[] #[Q b1_0,Q b1_1])<|Rt ((IntKind.u64.wrap (w64 (a.1+a.2))).fdiv (2 ^ 1))<|bn H fun i t H=>cl (BX o (w64 ((IntKind.u64.wrap (w64 (a.1+a.2))).fdiv (2 ^ 1))) p1_0_0 p1_1_0 (mm N) M.m (mm P) t) ?_;rintro v20 f T ⟨d,rfl⟩;refine Ri (!i)<|RF H (fun x H=>?_) (fun x H=>?_)
   ·refine W.region<|Rt ((IntKind.u64.wrap (w64 (a.1+a.2))).fdiv (2 ^ 1))<|Rq ((w64 ((IntKind.u64.wrap (w64 (a.1+a.2))).fdiv (2 ^ 1)))+1)<|WL.nil<|bkn ?_;cases H;exact ⟨_,rfl,jn f ⟨d,rfl⟩⟩
   refine W.region<|Rq ((IntKind.u64.wrap (w64 (a.1+a.2))).fdiv (2 ^ 1))<|WL.nil<|bkn ?_;cases H;exact ⟨_,rfl,jn f ⟨d,rfl⟩⟩
  refine W.exit<|thx ?_;cases H;exact ⟨_,rfl,rfl,jn D ⟨o,rfl⟩⟩
 ·exact jn c0 ⟨A,rfl⟩
 rintro _ E R ⟨rfl,p,S,_,rfl,U,rfl,n,rfl⟩;refine RJ<|sr<|vv (I g)<|RD ?_;cases k;exact Rz p ⟨n,rfl⟩
def qf (p0:Int):Option Bool:=
 (mS).bind fun a=>
 (fV (a.length:Int) a p0).bind fun b=>
 (bw (decide (b<(a.length:Int))) ((idx a b).bind fun d=>
 some (decide (d.1<=p0)))).bind fun c=>
 some c
theorem EQ (O0:Own c0 G F) (j:Int){r:Bool}(H:qf j=some r): RU 174 #[J j] c0 fun c v=>Own c G F/\v=B r:=by
 unfold qf at H;refine en func174 rfl rfl<|sr<|me (bx 21 [J j] O0) ?_;rintro v5 c4 l4 ⟨b1,rfl,O2,m3⟩;refine Ri false<|RO<|bn H fun h h6 H=>cl (Au O2 h6) ?_;rintro v7 u0 a1 ⟨_,u8,D,rfl,s⟩;refine me (al 287 [Y] D) ?_;rintro v19 v0 z ⟨U,rfl,E⟩;obtain ⟨d,e,f,rfl⟩:=((s.mono z)).form;refine md (sC 287 0 (.slice d e f) [.slice d e f] 0 E ⟨s.m.one,trivial⟩) ?_;rintro w0 f0 t;refine RO<|vx (le1 0 wD (t.on 0 rfl))<|vx (lnO 3 wD s.m) ?_;obtain ⟨x0,a0,c1,M,n⟩:=t.frz 1 rfl (s.mono (z.trans f0));refine WL.gh a0 ?_;obtain ⟨y0,b0,g0,N,q⟩:=Own.frzB 0 M rfl;refine WL.gh b0 ?_;have P:=N.sD 2 [1];refine va (.func (.func 243) #[] #[Q U,Q b1])<|bn H fun a d0 H=>cl (pL P (h.length:Int) h j q n.m (mm m3) d0) ?_;rintro v40 X h0 ⟨R,rfl⟩;refine Ro a<|Rx<|bn H fun A x H=>W.join (Jn X fun c l=>Own c G (es false tA (.slice d e f) 289 u8 h::F)/\l= [(2,B A)]) ?_ ?_
 ·clear H;refine rD [] (Kp G0 []) R ?_;intro p i0 u;have e1:Kp G0 [] p:=Kp.nil0;refine ta 0 (I a)<|tx 1 (fun i b=>l1 wD ((mm q) 0 _ rfl))<|tx 2 (fun i b=>ln 3 wD n.m)<|ta 3 (B (decide (a<(h.length:Int)))) ?_;rcases bo (decide (a<(h.length:Int))) with g|g
  ·have o:=anT g x;refine bn o fun k y o=>AC.takeb 4 g rfl (by kernel_rfl) (by kernel_rfl) (fun i b=>(by kernel_rfl)) (tx 5 (fun i b=>l1 wD ((mm q) 0 _ rfl))<|ta 6 (I a) ?_);obtain ⟨s0,e0,k0⟩:=Sl.at (n.mono (g0.trans (h0.trans i0))) (aP y);obtain rfl:=e0;refine tx 7 (fun i b=>ix wD n.m y)<|ta 8 (Qo (sb (.slice d e f)) (so (.slice d e f)+a.toNat*2))<|tx 9 (fun i b=>l1 nB ((mm k0) 0 _ rfl))<|tx 10 (fun i b=>l1 nB ((mm m3) 0 _ rfl))<|ta 11 (B (decide (k.1<=j))) ?_;cases o;exact ta 12 (B (decide (k.1<=j)))<|ta 13 (B (decide (k.1<=j)))<|dn (nrm<|jn p ⟨u,rfl⟩)
  obtain rfl:=anF g x;exact AC.takeb 4 g rfl (by kernel_rfl) (by kernel_rfl) (fun i b=>(by kernel_rfl)) (tp 5<|tp 6<|tp 7<|tp 8<|tp 9<|tp 10<|tp 11<|ta 12 (B false)<|ta 13 (B false)<|dn (nrm<|jn p ⟨u,rfl⟩))
 rintro e_ w_ ⟨Z,z0,_,rfl,d1,rfl,S,rfl⟩;refine nrm<|W.ret ?_;cases H;have T:=S.sD 1 [];exact Rz Z ⟨T,rfl⟩
def oq (p0:Int) (q0_0:List (Int×Int×Int)) (q1_0:Int):Option Bool:=
 (idx q0_0 p0).bind fun a=>
 some (decide (a.2.1>=(w64 q1_0)))
theorem B3 {d:Nat}{e:Nat}(o:Own c0 G F) (b:Int) (q0_0:List (Int×Int×Int)) (q1_0:Int){r:Bool}(s:∀j u,([v2]:List Value)[j]? = some u->Im c0 d (0+j) u) (k:Sl iS c0 v2 q0_0) (t:∀j u,([J q1_0]:List Value)[j]? = some u->Im c0 e (0+j) u) (H:oq b q0_0 q1_0=some r): RU 245 #[I b,Q d,Q e] c0 fun c v=>Own c G F/\v=B r:=by
 unfold oq at H;refine en func245 rfl rfl<|Ru false<|Rx<|rD [] (Kp G0 []) o ?_;intro h q p;have y:Kp G0 [] h:=Kp.nil0;refine tx 0 (fun g a=>l1 iX ((mm s) 0 _ rfl))<|ta 1 (I b)<|bn H fun f l H=>?_;obtain ⟨x,i,n⟩:=Sl.at (k.mono q) (aP l);obtain rfl:=i;refine tx 2 (fun g a=>ix iX k.m l)<|ta 3 (Qo (sb v2) (so v2+b.toNat*3+1))<|tx 4 (fun g a=>l1 u_3 ((mm n) 1 _ rfl))<|tx 5 (fun g a=>l1 nB ((mm t) 0 _ rfl))<|ta 6 (I (w64 q1_0))<|ta 7 (B (decide (f.2.1>=(w64 q1_0))))<|ta 8 (B (decide (f.2.1>=(w64 q1_0))))<|dn (nrm<|W.ret ?_);cases H;exact Rz h ⟨p,rfl⟩
def mb:List (Int×Int×Int):=[(768,879,3),(1155,1159,3),(1425,1469,3),(1552,1562,3),(1611,1631,3),(2325,2361,1),(2364,2364,3),(2381,2381,2),(2385,2388,3),(2392,2399,1),(2424,2431,1),(2453,2472,1),(2474,2480,1),(2482,2482,1),(2486,2489,1),(2492,2492,3),(2509,2509,2),(2524,2525,1),(2527,2527,1),(2544,2545,1),(2709,2728,1),(2730,2736,1),(2738,2739,1),(2741,2745,1),(2748,2748,3),(2765,2765,2),(2809,2809,1),(2837,2856,1),(2858,2864,1),(2866,2867,1),(2869,2873,1),(2876,2876,3),(2893,2893,2),(2908,2909,1),(2911,2911,1),(2929,2929,1),(3093,3112,1),(3114,3129,1),(3132,3132,3),(3149,3149,2),(3160,3162,1),(3349,3386,1),(3405,3405,2),(6832,6845,3),(7616,7679,3),(8205,8205,3),(8400,8412,3),(12330,12335,3),(12441,12442,3),(65056,65071,3)]
def mY:Option (List (Int×Int×Int)):=
 some mb
theorem AD (d:Own c0 G F){r:List (Int×Int×Int)}(H:mY=some r): RU 244 #[] c0 fun c v=>∃a b,Own c G (es true iS a 286 b r::F)/\v=a/\OA iS c a b r:=by
 unfold mY at H;refine en func244 rfl rfl<|RB Y<|RO<|Rh (mb.map fun x=>aF x.1 x.2.1 x.2.2)<|me (Own.sl (R:=iS) (E:=286) (ls:=mb.map (fun x=>[I x.1,I x.2.1,I x.2.2])) (vs:=(mb.map (fun x=>[I x.1,I x.2.1,I x.2.2])).flatten) (xs:=mb) true d (ba _) rfl (pV.map _ (fun _=>rfl) _) (by kernel_rfl) (by kernel_rfl)) ?_;rintro v5 f i ⟨h,e,g⟩;refine va v5<|RD ?_;cases H;exact Rz f ⟨v5,h,e,rfl,g⟩
def fX (p0:Int) (p1_0_0:List (Int×Int×Int)) (p1_1_0:Int):Option Int:=
 (cm (σ:=Int×Int) (τ:=Int) ((p0-0).toNat+1) (fun a=>
 if decide (a.1<a.2) then
 (oq (w64 ((IntKind.u64.wrap (w64 (a.1+a.2))).fdiv (2 ^ 1))) p1_0_0 p1_1_0).bind fun b=>
 if (!b)=true then
 some (.inl ((w64 ((w64 ((IntKind.u64.wrap (w64 (a.1+a.2))).fdiv (2 ^ 1)))+1)),a.2))
 else
 some (.inl (a.1,(w64 ((IntKind.u64.wrap (w64 (a.1+a.2))).fdiv (2 ^ 1)))))
 else
 some (.inr a.1)) (0,p0)).bind fun c=>
 some c
theorem pN {b1_0:Nat}{b1_1:Nat}(A:Own c0 G F) (b:Int) (p1_0_0:List (Int×Int×Int)) (p1_1_0:Int){r:Int}(N:∀j u,([v2]:List Value)[j]? = some u->Im c0 b1_0 (0+j) u) (M:Sl iS c0 v2 p1_0_0) (P:∀j u,([J p1_1_0]:List Value)[j]? = some u->Im c0 b1_1 (0+j) u) (H:fX b p1_0_0 p1_1_0=some r): RU 239 #[I b,.func (.func 245) #[] #[Q b1_0,Q b1_1]] c0 fun c v=>Own c G F/\v=I r:=by
 unfold fX at H;refine en func239 rfl rfl<|RA 0<|wln<|RA b<|Ro 0<|Ro b<|Rx<|W.block<|bn H fun g y k=>lp y (fun a=>Jn c0 fun c l=>Own c G F/\l= [(1,.func (.func 245) #[] #[Q b1_0,Q b1_1]),(5,I a.1),(6,I a.2)]) (fun h ex e w=>ex= .exit 0/\(Jn c0 fun c l=>Own c G F/\l= [(5,I h)]) e w) ?_ ?_ ?_
 ·clear k y;intro a X q z H;revert q z;rintro E R ⟨D,Z,_,rfl,l7,rfl,o,rfl⟩;refine W.seq<|RA a.1<|Ro a.2<|Rj (a.1<a.2)<|RF H (fun s H=>?_) (fun s H=>?_)
  ·refine RG<|W.block<|RA a.1<|Ro a.2<|Rt (a.1+a.2)<|va (.int .u64 (IntKind.u64.wrap (w64 (a.1+a.2))))<|va (.int .u64 ((IntKind.u64.wrap (w64 (a.1+a.2))).fdiv (2 ^ 1)))<|Rq ((IntKind.u64.wrap (w64 (a.1+a.2))).fdiv (2 ^ 1))<|wln<|RB (.func (.func 245) #[] #[Q b1_0,Q b1_1])<|Rt ((IntKind.u64.wrap (w64 (a.1+a.2))).fdiv (2 ^ 1))<|bn H fun i t H=>cl (B3 o (w64 ((IntKind.u64.wrap (w64 (a.1+a.2))).fdiv (2 ^ 1))) p1_0_0 p1_1_0 (mm N) M.m (mm P) t) ?_;rintro v20 f T ⟨d,rfl⟩;refine Ri (!i)<|RF H (fun x H=>?_) (fun x H=>?_)
   ·refine W.region<|Rt ((IntKind.u64.wrap (w64 (a.1+a.2))).fdiv (2 ^ 1))<|Rq ((w64 ((IntKind.u64.wrap (w64 (a.1+a.2))).fdiv (2 ^ 1)))+1)<|WL.nil<|bkn ?_;cases H;exact ⟨_,rfl,jn f ⟨d,rfl⟩⟩
   refine W.region<|Rq ((IntKind.u64.wrap (w64 (a.1+a.2))).fdiv (2 ^ 1))<|WL.nil<|bkn ?_;cases H;exact ⟨_,rfl,jn f ⟨d,rfl⟩⟩
  refine W.exit<|thx ?_;cases H;exact ⟨_,rfl,rfl,jn D ⟨o,rfl⟩⟩
 ·exact jn c0 ⟨A,rfl⟩
 rintro _ E R ⟨rfl,p,S,_,rfl,U,rfl,n,rfl⟩;refine RJ<|sr<|vv (I g)<|RD ?_;cases k;exact Rz p ⟨n,rfl⟩
def ql (p0:Int):Option Int:=
 (mY).bind fun a=>
 (fX (a.length:Int) a p0).bind fun b=>
 (orE (b==(a.length:Int)) ((idx a b).bind fun d=>
 some (decide (d.1>(w64 p0))))).bind fun c=>
 if c then
 some 0
 else
 (idx a b).bind fun e=>
 some e.2.2
theorem EW (O0:Own c0 G F) (k:Int){r:Int}(H:ql k=some r): RU 175 #[J k] c0 fun c v=>Own c G F/\v=I r:=by
 unfold ql at H;refine en func175 rfl rfl<|sr<|me (bx 21 [J k] O0) ?_;rintro v5 c4 l4 ⟨b1,rfl,O2,m3⟩;refine Ro 0<|RO<|bn H fun i h6 H=>cl (AD O2 h6) ?_;rintro v7 d1 j1 ⟨_,u8,T,rfl,s⟩;refine me (al 283 [Y] T) ?_;rintro v19 e1 M ⟨y,rfl,U⟩;obtain ⟨b,d,e,rfl⟩:=((s.mono M)).form;refine md (sC 283 0 (.slice b d e) [.slice b d e] 0 U ⟨s.m.one,trivial⟩) ?_;rintro f1 m0 t;refine RO<|vx (le1 0 iX (t.on 0 rfl))<|vx (lnO 3 iX s.m) ?_;obtain ⟨g1,g0,k1,X,g⟩:=t.frz 1 rfl (s.mono (M.trans m0));refine WL.gh g0 ?_;obtain ⟨h1,h0,N,Z,n⟩:=Own.frzB 0 X rfl;refine WL.gh h0 ?_;have a0:=Z.sD 2 [1];refine va (.func (.func 245) #[] #[Q y,Q b1])<|bn H fun a i0 H=>cl (pN a0 (i.length:Int) i k n g.m (mm m3) i0) ?_;rintro v40 f0 P ⟨b0,rfl⟩;refine Ro a<|Rx<|W.seq<|bn H fun R A H=>W.join (Jn f0 fun c l=>Own c G (es false iS (.slice b d e) 286 u8 i::F)/\l= [(3,Q y),(4,I a),(23,B R)]) ?_ ?_
 ·clear H;refine rD [] (Kp G0 []) b0 ?_;intro p o0 u;have m1:Kp G0 [] p:=Kp.nil0;refine ta 0 (I a)<|tx 1 (fun j f=>l1 iX ((mm n) 0 _ rfl))<|tx 2 (fun j f=>ln 3 iX g.m)<|ta 3 (B (a==(i.length:Int))) ?_;rcases bo (a==(i.length:Int)) with h|h
  ·obtain rfl:=orT h A;exact AC.takeb 4 h rfl (by kernel_rfl) (by kernel_rfl) (fun j f=>(by kernel_rfl)) (tp 5<|tp 6<|tp 7<|tp 8<|tp 9<|tp 10<|tp 11<|tp 12<|ta 13 (B true)<|dn (nrm<|jn p ⟨u,rfl⟩))
  have o:=orF h A;refine bn o fun q D o=>AC.takeb 4 h rfl (by kernel_rfl) (by kernel_rfl) (fun j f=>(by kernel_rfl)) (tx 5 (fun j f=>l1 iX ((mm n) 0 _ rfl))<|ta 6 (I a) ?_);obtain ⟨z0,j0,t0⟩:=Sl.at (g.mono (N.trans (P.trans o0))) (aP D);obtain rfl:=j0;refine tx 7 (fun j f=>ix iX g.m D)<|ta 8 (Qo (sb (.slice b d e)) (so (.slice b d e)+a.toNat*3))<|tx 9 (fun j f=>l1 u_3 ((mm t0) 0 _ rfl))<|tx 10 (fun j f=>l1 nB ((mm m3) 0 _ rfl))<|ta 11 (I (w64 k))<|ta 12 (B (decide (q.1>(w64 k)))) ?_;cases o;exact ta 13 (B (decide (q.1>(w64 k))))<|dn (nrm<|jn p ⟨u,rfl⟩)
 rintro e_ w_ ⟨z,i1,_,rfl,q0,rfl,x,rfl⟩;refine nrm<|cn H (fun k0 H=>?_) (fun k0 H=>?_)
 ·refine RA 0<|RD<|thr ?_;cases H;have d0:=x.sD 1 [];exact Rz z ⟨d0,rfl⟩
 refine RG<|sr<|vx (l1 iX ((mm n) 0 _ rfl))<|Ro a<|bn H fun S E H=>?_;obtain ⟨a1,l0,u0⟩:=Sl.at (g.mono (N.trans (P.trans q0))) (aP E);obtain rfl:=l0;refine vx (ix iX g.m E)<|Rs (sb (.slice b d e)) (so (.slice b d e)+a.toNat*3+2)<|vx (l1 u_3 (u0 2 _ rfl))<|Ro S.2.2<|RD ?_;cases H;have e0:=x.sD 1 [];exact Rz z ⟨e0,rfl⟩
def oo (p0:Int) (q0_0:List (Int×Int×Int)) (q1_0:Int):Option Bool:=
 (idx q0_0 p0).bind fun a=>
 some (decide (a.2.1>=(w64 q1_0)))
theorem B2 {d:Nat}{e:Nat}(o:Own c0 G F) (b:Int) (q0_0:List (Int×Int×Int)) (q1_0:Int){r:Bool}(s:∀j u,([v2]:List Value)[j]? = some u->Im c0 d (0+j) u) (k:Sl iS c0 v2 q0_0) (t:∀j u,([J q1_0]:List Value)[j]? = some u->Im c0 e (0+j) u) (H:oo b q0_0 q1_0=some r): RU 247 #[I b,Q d,Q e] c0 fun c v=>Own c G F/\v=B r:=by
 unfold oo at H;refine en func247 rfl rfl<|Ru false<|Rx<|rD [] (Kp G0 []) o ?_;intro h q p;have y:Kp G0 [] h:=Kp.nil0;refine tx 0 (fun g a=>l1 iX ((mm s) 0 _ rfl))<|ta 1 (I b)<|bn H fun f l H=>?_;obtain ⟨x,i,n⟩:=Sl.at (k.mono q) (aP l);obtain rfl:=i;refine tx 2 (fun g a=>ix iX k.m l)<|ta 3 (Qo (sb v2) (so v2+b.toNat*3+1))<|tx 4 (fun g a=>l1 u_3 ((mm n) 1 _ rfl))<|tx 5 (fun g a=>l1 nB ((mm t) 0 _ rfl))<|ta 6 (I (w64 q1_0))<|ta 7 (B (decide (f.2.1>=(w64 q1_0))))<|ta 8 (B (decide (f.2.1>=(w64 q1_0))))<|dn (nrm<|W.ret ?_);cases H;exact Rz h ⟨p,rfl⟩
def ly:List (Int×Int×Int):=[(4352,4447,1),(8361,8361,3),(8986,8987,1),(9001,9002,1),(9193,9196,1),(9200,9200,1),(9203,9203,1),(9725,9726,1),(9748,9749,1),(9800,9811,1),(9855,9855,1),(9875,9875,1),(9889,9889,1),(9898,9899,1),(9917,9918,1),(9924,9925,1),(9934,9934,1),(9940,9940,1),(9962,9962,1),(9970,9971,1),(9973,9973,1),(9978,9978,1),(9981,9981,1),(9989,9989,1),(9994,9995,1),(10024,10024,1),(10060,10060,1),(10062,10062,1),(10067,10069,1),(10071,10071,1),(10133,10135,1),(10160,10160,1),(10175,10175,1),(11035,11036,1),(11088,11088,1),(11093,11093,1),(11904,11929,1),(11931,12019,1),(12032,12245,1),(12272,12287,1),(12288,12288,2),(12289,12350,1),(12353,12438,1),(12441,12543,1),(12549,12591,1),(12593,12686,1),(12688,12771,1),(12784,12830,1),(12832,12871,1),(12880,19903,1),(19968,42124,1),(42128,42182,1),(43360,43388,1),(44032,55203,1),(63744,64255,1),(65040,65049,1),(65072,65106,1),(65108,65126,1),(65128,65131,1),(65281,65376,2),(65377,65470,3),(65474,65479,3),(65482,65487,3),(65490,65495,3),(65498,65500,3),(65504,65510,2),(65512,65518,3),(94176,94180,1),(94208,100343,1),(100352,101589,1),(110592,110882,1),(126980,126980,1),(127183,127183,1),(127374,127374,1),(127377,127386,1),(127488,127490,1),(127504,127547,1),(127552,127560,1),(127568,127569,1),(127584,127589,1),(127744,127776,1),(127789,127797,1),(127799,127868,1),(127870,127891,1),(127904,127946,1),(127951,127955,1),(127968,127984,1),(127988,127988,1),(127992,128062,1),(128064,128064,1),(128066,128252,1),(128255,128317,1),(128331,128334,1),(128336,128359,1),(128378,128378,1),(128405,128406,1),(128420,128420,1),(128507,128591,1),(128640,128709,1),(128716,128716,1),(128720,128722,1),(128725,128727,1),(128732,128735,1),(128747,128748,1),(128756,128764,1),(128992,129003,1),(129008,129008,1),(129292,129338,1),(129340,129349,1),(129351,129535,1),(129648,129660,1),(129664,129672,1),(129680,129725,1),(129727,129733,1),(129742,129755,1),(129760,129768,1),(129776,129784,1),(131072,196605,1),(196608,262141,1)]
def mX:Option (List (Int×Int×Int)):=
 some ly
theorem AB (d:Own c0 G F){r:List (Int×Int×Int)}(H:mX=some r): RU 246 #[] c0 fun c v=>∃a b,Own c G (es true iS a 286 b r::F)/\v=a/\OA iS c a b r:=by
 unfold mX at H;refine en func246 rfl rfl<|RB Y<|RO<|Rh (ly.map fun x=>aF x.1 x.2.1 x.2.2)<|me (Own.sl (R:=iS) (E:=286) (ls:=ly.map (fun x=>[I x.1,I x.2.1,I x.2.2])) (vs:=(ly.map (fun x=>[I x.1,I x.2.1,I x.2.2])).flatten) (xs:=ly) true d (ba _) rfl (pV.map _ (fun _=>rfl) _) (by kernel_rfl) (by kernel_rfl)) ?_;rintro v5 f i ⟨h,e,g⟩;refine va v5<|RD ?_;cases H;exact Rz f ⟨v5,h,e,rfl,g⟩
def fW (p0:Int) (p1_0_0:List (Int×Int×Int)) (p1_1_0:Int):Option Int:=
 (cm (σ:=Int×Int) (τ:=Int) ((p0-0).toNat+1) (fun a=>
 if decide (a.1<a.2) then
 (oo (w64 ((IntKind.u64.wrap (w64 (a.1+a.2))).fdiv (2 ^ 1))) p1_0_0 p1_1_0).bind fun b=>
 if (!b)=true then
 some (.inl ((w64 ((w64 ((IntKind.u64.wrap (w64 (a.1+a.2))).fdiv (2 ^ 1)))+1)),a.2))
 else
 some (.inl (a.1,(w64 ((IntKind.u64.wrap (w64 (a.1+a.2))).fdiv (2 ^ 1)))))
 else
 some (.inr a.1)) (0,p0)).bind fun c=>
 some c
theorem pM {b1_0:Nat}{b1_1:Nat}(A:Own c0 G F) (b:Int) (p1_0_0:List (Int×Int×Int)) (p1_1_0:Int){r:Int}(N:∀j u,([v2]:List Value)[j]? = some u->Im c0 b1_0 (0+j) u) (M:Sl iS c0 v2 p1_0_0) (P:∀j u,([J p1_1_0]:List Value)[j]? = some u->Im c0 b1_1 (0+j) u) (H:fW b p1_0_0 p1_1_0=some r): RU 239 #[I b,.func (.func 247) #[] #[Q b1_0,Q b1_1]] c0 fun c v=>Own c G F/\v=I r:=by
 unfold fW at H;refine en func239 rfl rfl<|RA 0<|wln<|RA b<|Ro 0<|Ro b<|Rx<|W.block<|bn H fun g y k=>lp y (fun a=>Jn c0 fun c l=>Own c G F/\l= [(1,.func (.func 247) #[] #[Q b1_0,Q b1_1]),(5,I a.1),(6,I a.2)]) (fun h ex e w=>ex= .exit 0/\(Jn c0 fun c l=>Own c G F/\l= [(5,I h)]) e w) ?_ ?_ ?_
 ·clear k y;intro a X q z H;revert q z;rintro E R ⟨D,Z,_,rfl,l7,rfl,o,rfl⟩;refine W.seq<|RA a.1<|Ro a.2<|Rj (a.1<a.2)<|RF H (fun s H=>?_) (fun s H=>?_)
  ·refine RG<|W.block<|RA a.1<|Ro a.2<|Rt (a.1+a.2)<|va (.int .u64 (IntKind.u64.wrap (w64 (a.1+a.2))))<|va (.int .u64 ((IntKind.u64.wrap (w64 (a.1+a.2))).fdiv (2 ^ 1)))<|Rq ((IntKind.u64.wrap (w64 (a.1+a.2))).fdiv (2 ^ 1))<|wln<|RB (.func (.func 247) #[] #[Q b1_0,Q b1_1])<|Rt ((IntKind.u64.wrap (w64 (a.1+a.2))).fdiv (2 ^ 1))<|bn H fun i t H=>cl (B2 o (w64 ((IntKind.u64.wrap (w64 (a.1+a.2))).fdiv (2 ^ 1))) p1_0_0 p1_1_0 (mm N) M.m (mm P) t) ?_;rintro v20 f T ⟨d,rfl⟩;refine Ri (!i)<|RF H (fun x H=>?_) (fun x H=>?_)
   ·refine W.region<|Rt ((IntKind.u64.wrap (w64 (a.1+a.2))).fdiv (2 ^ 1))<|Rq ((w64 ((IntKind.u64.wrap (w64 (a.1+a.2))).fdiv (2 ^ 1)))+1)<|WL.nil<|bkn ?_;cases H;exact ⟨_,rfl,jn f ⟨d,rfl⟩⟩
   refine W.region<|Rq ((IntKind.u64.wrap (w64 (a.1+a.2))).fdiv (2 ^ 1))<|WL.nil<|bkn ?_;cases H;exact ⟨_,rfl,jn f ⟨d,rfl⟩⟩
  refine W.exit<|thx ?_;cases H;exact ⟨_,rfl,rfl,jn D ⟨o,rfl⟩⟩
 ·exact jn c0 ⟨A,rfl⟩
 rintro _ E R ⟨rfl,p,S,_,rfl,U,rfl,n,rfl⟩;refine RJ<|sr<|vv (I g)<|RD ?_;cases k;exact Rz p ⟨n,rfl⟩
def qj (p0:Int):Option Int:=
 (mX).bind fun a=>
 (fW (a.length:Int) a p0).bind fun b=>
 (orE (b==(a.length:Int)) ((idx a b).bind fun d=>
 some (decide (d.1>(w64 p0))))).bind fun c=>
 if c then
 some 0
 else
 (idx a b).bind fun e=>
 some e.2.2
theorem EU (O0:Own c0 G F) (k:Int){r:Int}(H:qj k=some r): RU 176 #[J k] c0 fun c v=>Own c G F/\v=I r:=by
 unfold qj at H;refine en func176 rfl rfl<|sr<|me (bx 21 [J k] O0) ?_;rintro v5 c4 l4 ⟨b1,rfl,O2,m3⟩;refine Ro 0<|RO<|bn H fun i h6 H=>cl (AB O2 h6) ?_;rintro v7 d1 j1 ⟨_,u8,T,rfl,s⟩;refine me (al 283 [Y] T) ?_;rintro v19 e1 M ⟨y,rfl,U⟩;obtain ⟨b,d,e,rfl⟩:=((s.mono M)).form;refine md (sC 283 0 (.slice b d e) [.slice b d e] 0 U ⟨s.m.one,trivial⟩) ?_;rintro f1 m0 t;refine RO<|vx (le1 0 iX (t.on 0 rfl))<|vx (lnO 3 iX s.m) ?_;obtain ⟨g1,g0,k1,X,g⟩:=t.frz 1 rfl (s.mono (M.trans m0));refine WL.gh g0 ?_;obtain ⟨h1,h0,N,Z,n⟩:=Own.frzB 0 X rfl;refine WL.gh h0 ?_;have a0:=Z.sD 2 [1];refine va (.func (.func 247) #[] #[Q y,Q b1])<|bn H fun a i0 H=>cl (pM a0 (i.length:Int) i k n g.m (mm m3) i0) ?_;rintro v40 f0 P ⟨b0,rfl⟩;refine Ro a<|Rx<|W.seq<|bn H fun R A H=>W.join (Jn f0 fun c l=>Own c G (es false iS (.slice b d e) 286 u8 i::F)/\l= [(3,Q y),(4,I a),(23,B R)]) ?_ ?_
 ·clear H;refine rD [] (Kp G0 []) b0 ?_;intro p o0 u;have m1:Kp G0 [] p:=Kp.nil0;refine ta 0 (I a)<|tx 1 (fun j f=>l1 iX ((mm n) 0 _ rfl))<|tx 2 (fun j f=>ln 3 iX g.m)<|ta 3 (B (a==(i.length:Int))) ?_;rcases bo (a==(i.length:Int)) with h|h
  ·obtain rfl:=orT h A;exact AC.takeb 4 h rfl (by kernel_rfl) (by kernel_rfl) (fun j f=>(by kernel_rfl)) (tp 5<|tp 6<|tp 7<|tp 8<|tp 9<|tp 10<|tp 11<|tp 12<|ta 13 (B true)<|dn (nrm<|jn p ⟨u,rfl⟩))
  have o:=orF h A;refine bn o fun q D o=>AC.takeb 4 h rfl (by kernel_rfl) (by kernel_rfl) (fun j f=>(by kernel_rfl)) (tx 5 (fun j f=>l1 iX ((mm n) 0 _ rfl))<|ta 6 (I a) ?_);obtain ⟨z0,j0,t0⟩:=Sl.at (g.mono (N.trans (P.trans o0))) (aP D);obtain rfl:=j0;refine tx 7 (fun j f=>ix iX g.m D)<|ta 8 (Qo (sb (.slice b d e)) (so (.slice b d e)+a.toNat*3))<|tx 9 (fun j f=>l1 u_3 ((mm t0) 0 _ rfl))<|tx 10 (fun j f=>l1 nB ((mm m3) 0 _ rfl))<|ta 11 (I (w64 k))<|ta 12 (B (decide (q.1>(w64 k)))) ?_;cases o;exact ta 13 (B (decide (q.1>(w64 k))))<|dn (nrm<|jn p ⟨u,rfl⟩)
 rintro e_ w_ ⟨z,i1,_,rfl,q0,rfl,x,rfl⟩;refine nrm<|cn H (fun k0 H=>?_) (fun k0 H=>?_)
 ·refine RA 0<|RD<|thr ?_;cases H;have d0:=x.sD 1 [];exact Rz z ⟨d0,rfl⟩
 refine RG<|sr<|vx (l1 iX ((mm n) 0 _ rfl))<|Ro a<|bn H fun S E H=>?_;obtain ⟨a1,l0,u0⟩:=Sl.at (g.mono (N.trans (P.trans q0))) (aP E);obtain rfl:=l0;refine vx (ix iX g.m E)<|Rs (sb (.slice b d e)) (so (.slice b d e)+a.toNat*3+2)<|vx (l1 u_3 (u0 2 _ rfl))<|Ro S.2.2<|RD ?_;cases H;have e0:=x.sD 1 [];exact Rz z ⟨e0,rfl⟩
def oQ (p0:Int):Option an:=
 (sE p0).bind fun b=>
 (qf p0).bind fun c=>
 (ql p0).bind fun d=>
 (qj p0).bind fun a=>
 some (⟨b,c,d,a⟩:an)
theorem yf (p:Own c0 G F) (a:Int){r:an}(H:oQ a=some r): RU 128 #[J a] c0 fun c v=>Own c G F/\v= .agg #[I r.Break,B r.Pict,I r.Conj,I r.East]:=by
 unfold oQ at H;refine en func128 rfl rfl<|sr<|me (al 162 [I 0,B false,I 0,I 0] p) ?_;rintro v4 R S ⟨P,rfl,q⟩;refine wln<|RB (J a)<|bn H fun d t H=>cl (GW q a t) ?_;rintro v11 u A ⟨s,rfl⟩;refine va (J a)<|bn H fun e m H=>cl (EQ s a m) ?_;rintro v18 x D ⟨i,rfl⟩;refine va (J a)<|bn H fun f n H=>cl (EW i a n) ?_;rintro v25 y E ⟨j,rfl⟩;refine va (J a)<|bn H fun b o H=>cl (EU j a o) ?_;rintro v32 z M ⟨k,rfl⟩;refine va (.agg #[I d,B e,I f,I b])<|md (sA 162 [I d,B e,I f,I b] 0 k ⟨rfl,rfl,rfl,rfl,trivial⟩) ?_;rintro h N g;refine RD ?_;cases H;have l:=g.sD 1 [];exact uj (c:=h) (vs:=[I d,B e,I f,I b]) rfl (by kernel_rfl) (by kernel_rfl) (by kernel_rfl) (g.on 0 rfl _ rfl).1 ⟨_,h,rfl,rfl,pt,l,rfl⟩
def fJ (p0:List Int):Option (List an):=
 (cm (σ:=(List an)×Int) (τ:=(List an)) (((p0.length:Int)-0).toNat+1) (fun a=>
 if decide (a.2<(p0.length:Int)) then
 (idx p0 a.2).bind fun b=>
 (dW b).bind fun c=>
 (app a.1 ([c]:List an)).bind fun d=>
 some (.inl (d,(w64 (a.2+1))))
 else
 some (.inr a.1)) (([]:List an),0)).bind fun e=>
 some e
theorem rp (O0:Own c0 G F) (n:List Int){r:List an}(k:Sl (RI .i32) c0 v1 n) (H:fJ n=some r): RU 132 #[v1] c0 fun c v=>∃p y2,Own c G (es true cG p 162 y2 r::F)/\v=p/\OA cG c p y2 r:=by
 unfold fJ at H;refine en func132 rfl rfl<|RB Y<|wln<|RB Y<|Rx<|RA 0<|wln<|W.block<|bn H fun c1 S q=>lp S (fun a=>Jn c0 fun c l=>∃v5 f,Own c G (es true cG v5 162 f a.1::F)/\l= [(0,v1),(3,v5),(4,I a.2)]/\OA cG c v5 f a.1) (fun d ex e w=>ex= .exit 0/\(Jn c0 fun c l=>∃v7 g,Own c G (es true cG v7 162 g d::F)/\l= [(3,v7)]/\OA cG c v7 g d) e w) ?_ ?_ ?_
 ·clear q S;intro a e1 M g0 H;revert M g0;rintro e_ w_ ⟨c9,v0,_,rfl,l9,rfl,v5,f,h,rfl,i⟩;refine W.seq<|RA a.2<|va v1<|vx (ln 3 cD k.m)<|Rj (a.2<(n.length:Int))<|RF H (fun N H=>?_) (fun N H=>?_)
  ·refine RG<|RM<|Rv v5<|va v1<|Ro a.2<|bn H fun o j H=>?_;obtain ⟨m0,P,e0⟩:=Sl.at (k.mono l9) (aP j);obtain rfl:=P;refine vx (ix cD k.m j)<|vx (l1 nB (e0 0 _ rfl))<|bn H fun b R H=>cl (oZ h o R) ?_;rintro v27 s0 x0 ⟨s,rfl⟩;refine me (sl cG 162 [[I b.Break,B b.Pict,I b.Conj,I b.East]] ([b]:List an) s ⟨rfl,trivial⟩) ?_;rintro v32 t0 y0 ⟨d1,t,T⟩;obtain ⟨u0,X,z0,u,U⟩:=t.frz 0 rfl T;refine WL.gh X (bn H fun q0 Z H=>me (ap cG (.agg #[I 0,B false,I 0,I 0]) 32 160 1 u i.m U Z kN) ?_);rintro v42 D a1 ⟨f0,x,a0⟩;refine va v42<|WL.nil<|RH<|RC a.2<|Rq (a.2+1)<|WL.nil ?_;cases H;refine ⟨_,rfl,?_⟩;have y:=x.sD 2 [1];exact jn D ⟨v42,f0,y,rfl,a0⟩
  refine W.exit<|thx ?_;cases H;exact ⟨_,rfl,rfl,jn c9 ⟨v5,f,h,rfl,i⟩⟩
 ·have b0:OA cG c0 Y [] []:=OA.nil (ba _);have z:=O0.addHole (e:=es true cG Y 162 [] ([]:List an)) rfl;exact jn c0 ⟨(Y),[],z,rfl,b0⟩
 rintro _ e_ w_ ⟨rfl,E,w0,_,rfl,b1,rfl,v7,g,A,rfl,d0⟩;refine RJ<|sr<|vv v7<|RD ?_;cases q;exact Rz E ⟨v7,g,A,rfl,d0⟩
def kY:Option (List ByteArray):=
 some ([(⟨#[48,48,48,48,49,49,48,48,49,48,48,48,48,48]⟩:ByteArray),(⟨#[48,48,49,48,48,48,48,48,48,48,48,48,48,48]⟩:ByteArray),(⟨#[48,48,48,48,48,48,48,48,48,48,48,48,48,48]⟩:ByteArray),(⟨#[48,48,48,48,48,48,48,48,48,48,48,48,48,48]⟩:ByteArray),(⟨#[50,48,48,48,49,49,48,48,49,48,48,48,48,48]⟩:ByteArray),(⟨#[50,48,48,48,49,49,48,48,49,48,48,48,48,48]⟩:ByteArray),(⟨#[48,48,48,48,49,49,50,48,49,48,48,48,48,48]⟩:ByteArray),(⟨#[49,48,48,48,49,49,49,49,49,49,49,49,49,49]⟩:ByteArray),(⟨#[48,48,48,48,49,49,48,48,49,48,48,48,48,48]⟩:ByteArray),(⟨#[48,48,48,48,49,49,48,48,49,49,49,48,49,49]⟩:ByteArray),(⟨#[48,48,48,48,49,49,48,48,49,48,49,49,48,48]⟩:ByteArray),(⟨#[48,48,48,48,49,49,48,48,49,48,48,49,48,48]⟩:ByteArray),(⟨#[48,48,48,48,49,49,48,48,49,48,49,49,48,48]⟩:ByteArray),(⟨#[48,48,48,48,49,49,48,48,49,48,48,49,48,48]⟩:ByteArray)]:List ByteArray)
theorem sR (d:Own c0 G F){r:List ByteArray}(H:kY=some r): RU 248 #[] c0 fun c v=>∃a b,Own c G (es true RS a 9 b r::F)/\v=a/\OA RS c a b r:=by
 unfold kY at H;refine en func248 rfl rfl<|RB Y<|RO<|me (sl RS 9 [[.string (⟨#[48,48,48,48,49,49,48,48,49,48,48,48,48,48]⟩:ByteArray)],[.string (⟨#[48,48,49,48,48,48,48,48,48,48,48,48,48,48]⟩:ByteArray)],[.string (⟨#[48,48,48,48,48,48,48,48,48,48,48,48,48,48]⟩:ByteArray)],[.string (⟨#[48,48,48,48,48,48,48,48,48,48,48,48,48,48]⟩:ByteArray)],[.string (⟨#[50,48,48,48,49,49,48,48,49,48,48,48,48,48]⟩:ByteArray)],[.string (⟨#[50,48,48,48,49,49,48,48,49,48,48,48,48,48]⟩:ByteArray)],[.string (⟨#[48,48,48,48,49,49,50,48,49,48,48,48,48,48]⟩:ByteArray)],[.string (⟨#[49,48,48,48,49,49,49,49,49,49,49,49,49,49]⟩:ByteArray)],[.string (⟨#[48,48,48,48,49,49,48,48,49,48,48,48,48,48]⟩:ByteArray)],[.string (⟨#[48,48,48,48,49,49,48,48,49,49,49,48,49,49]⟩:ByteArray)],[.string (⟨#[48,48,48,48,49,49,48,48,49,48,49,49,48,48]⟩:ByteArray)],[.string (⟨#[48,48,48,48,49,49,48,48,49,48,48,49,48,48]⟩:ByteArray)],[.string (⟨#[48,48,48,48,49,49,48,48,49,48,49,49,48,48]⟩:ByteArray)],[.string (⟨#[48,48,48,48,49,49,48,48,49,48,48,49,48,48]⟩:ByteArray)]] ([(⟨#[48,48,48,48,49,49,48,48,49,48,48,48,48,48]⟩:ByteArray),(⟨#[48,48,49,48,48,48,48,48,48,48,48,48,48,48]⟩:ByteArray),(⟨#[48,48,48,48,48,48,48,48,48,48,48,48,48,48]⟩:ByteArray),(⟨#[48,48,48,48,48,48,48,48,48,48,48,48,48,48]⟩:ByteArray),(⟨#[50,48,48,48,49,49,48,48,49,48,48,48,48,48]⟩:ByteArray),(⟨#[50,48,48,48,49,49,48,48,49,48,48,48,48,48]⟩:ByteArray),(⟨#[48,48,48,48,49,49,50,48,49,48,48,48,48,48]⟩:ByteArray),(⟨#[49,48,48,48,49,49,49,49,49,49,49,49,49,49]⟩:ByteArray),(⟨#[48,48,48,48,49,49,48,48,49,48,48,48,48,48]⟩:ByteArray),(⟨#[48,48,48,48,49,49,48,48,49,49,49,48,49,49]⟩:ByteArray),(⟨#[48,48,48,48,49,49,48,48,49,48,49,49,48,48]⟩:ByteArray),(⟨#[48,48,48,48,49,49,48,48,49,48,48,49,48,48]⟩:ByteArray),(⟨#[48,48,48,48,49,49,48,48,49,48,49,49,48,48]⟩:ByteArray),(⟨#[48,48,48,48,49,49,48,48,49,48,48,49,48,48]⟩:ByteArray)]:List ByteArray) d ⟨rfl,rfl,rfl,rfl,rfl,rfl,rfl,rfl,rfl,rfl,rfl,rfl,rfl,rfl,trivial⟩) ?_;rintro v5 f i ⟨h,e,g⟩;refine va v5<|RD ?_;cases H;exact Rz f ⟨v5,h,e,rfl,g⟩
def di (p0:Int) (p1:Int):Option Int:=
 ((orE (decide (p0<0)) (some (decide (p0>13)))).bind fun f=>
 if f then
 some 0
 else
 some p0).bind fun g=>
 ((orE (decide (p1<0)) (some (decide (p1>13)))).bind fun a=>
 if a then
 some 0
 else
 some p1).bind fun e=>
 (kY).bind fun b=>
 (idx b g).bind fun c=>
 (HD c e).bind fun d=>
 some (w64 ((w64 d)-48))
theorem sS (N:Own c0 G F) (e:Int) (d:Int){r:Int}(H:di e d=some r): RU 177 #[I e,I d] c0 fun c v=>Own c G F/\v=I r:=by
 unfold di at H;refine en func177 rfl rfl<|RA 0<|wln<|bn H fun m g H2=>W.seqJ (Jn c0 fun c l=>Own c G F/\l= [(0,I m),(1,I d)]) ?_ ?_
 ·refine W.seq<|bn g fun X h3 g=>W.join (Jn c0 fun c l=>Own c G F/\l= [(0,I e),(1,I d),(10,B X)]) ?_ ?_
  ·clear g;refine RC e<|Rj (e<0) ?_;rcases bo (decide (e<0)) with n|n
   ·obtain rfl:=orT n h3;exact vb n<|pz<|Ri true<|Ry c0 ⟨N,rfl⟩
   have H5:=orF n h3;refine vb n<|wa (I e)<|Rm (e>13) ?_;cases H5;exact Rj (e>13)<|Ry c0 ⟨N,rfl⟩
  rintro A D ⟨U,g7,_,rfl,l6,rfl,S,rfl⟩;refine nrm<|cn g (fun Z g=>?_) (fun Z g=>?_)
  ·refine RC 0<|wln ?_;cases g;exact jn U ⟨S,rfl⟩
  refine RG ?_;cases g;exact jn U ⟨S,rfl⟩
 rintro A D ⟨i,m0,_,rfl,s0,rfl,s,rfl⟩;refine bn H2 fun q a b=>W.seqJ (Jn i fun c l=>Own c G F/\l= [(0,I m),(1,I q)]) ?_ ?_
 ·refine W.seq<|bn a fun z y a=>W.join (Jn i fun c l=>Own c G F/\l= [(0,I m),(1,I d),(16,B z)]) ?_ ?_
  ·clear a;refine RC d<|Rj (d<0) ?_;rcases bo (decide (d<0)) with h|h
   ·obtain rfl:=orT h y;exact vb h<|pz<|Ri true<|Ry i ⟨s,rfl⟩
   have M:=orF h y;refine vb h<|wa (I d)<|Rm (d>13) ?_;cases M;exact Rj (d>13)<|Ry i ⟨s,rfl⟩
  rintro A D ⟨x,o0,_,rfl,t0,rfl,t,rfl⟩;refine nrm<|cn a (fun b0 a=>?_) (fun b0 a=>?_)
  ·refine RC 0<|wln ?_;cases a;exact jn x ⟨t,rfl⟩
  refine RG ?_;cases a;exact jn x ⟨t,rfl⟩
 rintro A D ⟨l0,q0,_,rfl,u0,rfl,P,rfl⟩;refine sr<|bn b fun k0 d0 b=>cl (sR P d0) ?_;rintro v38 T v0 ⟨_,w0,u,rfl,o⟩;refine Ro m<|bn b fun E p b=>vx (ixO ki o p) ?_;obtain ⟨j0,e0,g0⟩:=OA.at o p;obtain rfl:=e0;refine vr (.string E) (rx (by kernel_rfl) (sn u_9 rfl (u.on 0 rfl) (o.blk p) (at1 (j:=0) g0 rfl)))<|Ro q<|bn b fun f f0 b=>vr (.int .u8 f) (rx (by kernel_rfl) (xy (k:= .i64) u_9 f0 _))<|Rt f<|Rq ((w64 f)-48)<|RD ?_;cases b;have R:=u.sD 1 [];exact Rz T ⟨R,rfl⟩
def eH (p0:List an) (p1:Int):Option Bool:=
 (idx p0 p1).bind fun i=>
 if (i.Conj != 1)=true then
 some false
 else
 (cm (σ:=Int×Int) (τ:=Bool ⊕ Unit) (((w64 (p1-1))-0).toNat+2) (fun a=>
 if decide (a.2>=0) then
 (idx p0 a.2).bind fun d=>
 if (d.Conj==1)=true then
 some (.inr (.inl (decide (a.1>0))))
 else
 ((idx p0 a.2).bind fun e=>
 if (e.Conj==2)=true then
 some ((w64 (a.1+1)))
 else
 some a.1).bind fun h=>
 (idx p0 a.2).bind fun f=>
 (bw (f.Conj != 2) ((idx p0 a.2).bind fun g=>
 some (g.Conj != 3))).bind fun c=>
 if c then
 some (.inr (.inl false))
 else
 some (.inl (h,(w64 (a.2-1))))
 else
 some (.inr (.inr ()))) (0,(w64 (p1-1)))).bind fun b=>
 match b with
 | .inl b=>
 some b
 | .inr b=>
 some false
theorem pQ (O0:Own c0 G F) (p0:List an) (j:Int){r:Bool}(f:Sl cG c0 v1 p0) (H:eH p0 j=some r): RU 178 #[v1,I j] c0 fun c v=>Own c G F/\v=B r:=by
 unfold eH at H;refine en func178 rfl rfl<|Ru false<|Rx<|RB v1<|Ro j<|bn H fun d1 h3 H=>?_;obtain ⟨z1,h5,m6⟩:=Sl.at f (aP h3);obtain rfl:=h5;refine vx (ix kN f h3)<|Rs (sb v1) (so v1+j.toNat*4+2)<|vx (l1 u_3 (m6 2 _ rfl))<|Ri (d1.Conj != 1)<|RF H (fun h7 H=>?_) (fun h7 H=>?_)
 ·refine Ru false<|RD<|thr ?_;cases H;exact Rz c0 ⟨O0,rfl⟩
 refine RG<|RA 0<|Rx<|RA j<|Rq (j-1)<|wln<|W.block<|bn H fun i h8 T=>lp h8 (fun a=>Jn c0 fun c l=>Own c G F/\l= [(0,v1),(5,I a.1),(6,I a.2)]) (fun t=>match t with|.inl X=>(fun b1 ex e w=>ex= .ret/\(Jn c0 fun c l=>Own c G F/\l= [(4,B b1)]) e w) X|.inr X=>(fun e1 ex e w=>ex= .exit 0/\(Jn c0 fun c l=>Own c G F/\l= []) e w) X) ?_ ?_ ?_
 ·clear T h8;intro a b2 h0 c1 H;revert h0 c1;rintro x y ⟨g,n1,_,rfl,n,rfl,k,rfl⟩;refine W.seq<|RA a.2<|Rj (a.2>=0)<|RF H (fun j0 H=>?_) (fun j0 H=>?_)
  ·refine RG<|RM<|W.seq<|RB v1<|Ro a.2<|bn H fun Z E H=>?_;obtain ⟨h1,k0,w0⟩:=Sl.at (f.mono n) (aP E);obtain rfl:=k0;refine vx (ix kN f.m E)<|Rs (sb v1) (so v1+a.2.toNat*4+2)<|vx (l1 u_3 (w0 2 _ rfl))<|Ri (Z.Conj==1)<|RF H (fun l0 H=>?_) (fun l0 H=>?_)
   ·refine RA a.1<|vv (B (decide (a.1>0)))<|RD<|thr<|RK ?_;cases H;exact ⟨_,rfl,⟨rfl,jn g ⟨k,rfl⟩⟩⟩
   refine RG<|bn H fun u d b=>W.seqJ (Jn g fun c l=>Own c G F/\l= [(0,v1),(5,I u),(6,I a.2)]) ?_ ?_
   ·refine RB v1<|Ro a.2<|bn d fun a0 M d=>?_;obtain ⟨i1,m0,x0⟩:=Sl.at (f.mono n) (aP M);obtain rfl:=m0;refine vx (ix kN f.m M)<|Rs (sb v1) (so v1+a.2.toNat*4+2)<|vx (l1 u_3 (x0 2 _ rfl))<|Ri (a0.Conj==2)<|RF d (fun o0 d=>?_) (fun o0 d=>?_)
    ·refine RC a.1<|Rq (a.1+1)<|wln ?_;cases d;exact jn g ⟨k,rfl⟩
    refine RG ?_;cases d;exact jn g ⟨k,rfl⟩
   rintro x y ⟨p,q1,_,rfl,S,rfl,z,rfl⟩;refine W.seq<|bn b fun q N b=>bn b fun U P b=>W.join (Jn p fun c l=>Own c G F/\l= [(0,v1),(5,I u),(6,I a.2),(48,B U)]) ?_ ?_
   ·clear b;refine Rv v1<|Ro a.2 ?_;obtain ⟨j1,s0,y0⟩:=Sl.at (f.mono (n.trans S)) (aP N);obtain rfl:=s0;refine vx (ix kN f.m N)<|Rs (sb v1) (so v1+a.2.toNat*4+2)<|vx (l1 u_3 (y0 2 _ rfl))<|Ri (q.Conj != 2) ?_;rcases bo (q.Conj != 2) with h|h
    ·have o:=anT h P;refine vb h<|wa v1<|wa (I a.2)<|wn<|bn o fun s R o=>?_;obtain ⟨k1,t0,z0⟩:=Sl.at (f.mono (n.trans S)) (aP R);obtain rfl:=t0;refine vx (ix kN f.m R)<|wa (Qo (sb v1) (so v1+a.2.toNat*4+2))<|wn<|vx (l1 u_3 (z0 2 _ rfl))<|Rn (s.Conj != 3) ?_;cases o;exact Ri (s.Conj != 3)<|Ry p ⟨z,rfl⟩
    obtain rfl:=anF h P;exact vb h<|pz<|pz<|pz<|Ri false<|Ry p ⟨z,rfl⟩
   rintro x y ⟨D,s1,_,rfl,w1,rfl,A,rfl⟩;refine nrm<|cn b (fun u0 b=>?_) (fun u0 b=>?_)
   ·refine Ru false<|RD<|RK ?_;cases b;exact ⟨_,rfl,⟨rfl,jn D ⟨A,rfl⟩⟩⟩
   refine W.skip<|RH<|RC a.2<|Rq (a.2-1)<|WL.nil ?_;cases b;exact ⟨_,rfl,jn D ⟨A,rfl⟩⟩
  refine W.exit<|thx ?_;cases H;exact ⟨_,rfl,rfl,jn g ⟨k,rfl⟩⟩
 ·exact jn c0 ⟨O0,rfl⟩
 rcases i with i|i
 ·intro i0; revert i0;rintro _ x y ⟨rfl,f0,t1,_,rfl,x1,rfl,d0,rfl⟩;refine RK ?_;cases T;exact Rz f0 ⟨d0,rfl⟩
 rintro _ x y ⟨rfl,g0,u1,_,rfl,y1,rfl,e0,rfl⟩;refine RJ<|Ru false<|RD ?_;cases T;exact Rz g0 ⟨e0,rfl⟩
def eY (p0:List an) (p1:Int):Option Bool:=
 (idx p0 p1).bind fun j=>
 (orE (!j.Pict) (some (decide (p1<2)))).bind fun i=>
 (orE i ((idx p0 (w64 (p1-1))).bind fun e=>
 some (e.Break != 5))).bind fun c=>
 (orE c ((idx p0 (w64 (p1-1))).bind fun f=>
 some f.Pict)).bind fun d=>
 if d then
 some false
 else
 (cm (σ:=Int) (τ:=Bool ⊕ Unit) (((w64 (p1-2))-0).toNat+2) (fun b=>
 if decide (b>=0) then
 (idx p0 b).bind fun g=>
 if g.Pict then
 some (.inr (.inl true))
 else
 (idx p0 b).bind fun h=>
 if (h.Break != 4)=true then
 some (.inr (.inl false))
 else
 some (.inl ((w64 (b-1))))
 else
 some (.inr (.inr ()))) ((w64 (p1-2)))).bind fun a=>
 match a with
 | .inl a=>
 some a
 | .inr a=>
 some false
theorem qu (u:Own c0 G F) (p0:List an) (b:Int){r:Bool}(d:Sl cG c0 v1 p0) (H:eY p0 b=some r): RU 179 #[v1,I b] c0 fun c v=>Own c G F/\v=B r:=by
 unfold eY at H;refine en func179 rfl rfl<|Ru false<|Rx<|W.seq<|bn H fun U h3 H=>bn H fun u1 h4 H=>bn H fun i1 h5 H=>bn H fun X x H=>W.join (Jn c0 fun c l=>Own c G F/\l= [(0,v1),(1,I b),(32,B X)]) ?_ ?_
 ·clear H;refine Rv v1<|Ro b ?_;obtain ⟨d2,h8,m9⟩:=Sl.at d (aP h3);obtain rfl:=h8;refine vx (ix kN d h3)<|Rs (sb v1) (so v1+b.toNat*4+1)<|vx (l1 u_4 (m9 1 _ rfl))<|Ri (!U.Pict) ?_;rcases bo (!U.Pict) with g|g
  ·obtain rfl:=orT g h4;refine vb g<|pz<|Ri true ?_;have z:true=true:=rfl;obtain rfl:=orT z h5;refine vb z<|pz<|pz<|pz<|ps<|Ri true ?_;have A:true=true:=rfl;obtain rfl:=orT A x;exact vb A<|pz<|pz<|pz<|Ri true<|Ry c0 ⟨u,rfl⟩
  have g0:=orF g h4;refine vb g<|wa (I b)<|Rm (b<2) ?_;cases g0;refine Rj (b<2) ?_;rcases bo (decide (b<2)) with h|h
  ·obtain rfl:=orT h h5;refine vb h<|pz<|pz<|pz<|ps<|Ri true ?_;have D:true=true:=rfl;obtain rfl:=orT D x;exact vb D<|pz<|pz<|pz<|Ri true<|Ry c0 ⟨u,rfl⟩
  have p:=orF h h5;refine vb h<|wa v1<|wa (I b)<|wa (I (w64 (b-1)))<|wn<|bn p fun k E p=>?_;obtain ⟨k1,o0,a1⟩:=Sl.at d (aP E);obtain rfl:=o0;refine vx (ix kN d E)<|wa (Qo (sb v1) (so v1+(w64 (b-1)).toNat*4))<|wn<|vx (l1 u_3 (a1 0 _ rfl))<|Rn (k.Break != 5) ?_;cases p;refine Ri (k.Break != 5) ?_;rcases bo (k.Break != 5) with i|i
  ·obtain rfl:=orT i x;exact vb i<|pz<|pz<|pz<|Ri true<|Ry c0 ⟨u,rfl⟩
  have q:=orF i x;refine vb i<|wa v1<|wa (I b)<|wa (I (w64 (b-1)))<|wn<|bn q fun e0 M q=>?_;obtain ⟨m1,q0,b1⟩:=Sl.at d (aP M);obtain rfl:=q0;refine vx (ix kN d M)<|wa (Qo (sb v1) (so v1+(w64 (b-1)).toNat*4+1))<|wn<|vx (l1 u_4 (b1 1 _ rfl)) ?_;cases q;exact Ri e0.Pict<|Ry c0 ⟨u,rfl⟩
 rintro Z w_ ⟨f,w1,_,rfl,S,rfl,y,rfl⟩;refine nrm<|cn H (fun t0 H=>?_) (fun t0 H=>?_)
 ·refine Ru false<|RD<|thr ?_;cases H;exact Rz f ⟨y,rfl⟩
 refine RG<|W.seq<|RA b<|Rq (b-2)<|wln<|W.block<|bn H fun j N s=>lp N (fun a=>Jn f fun c l=>Own c G F/\l= [(0,v1),(5,I a)]) (fun t=>match t with|.inl x_=>(fun f1 ex e w=>ex= .ret/\(Jn f fun c l=>Own c G F/\l= [(4,B f1)]) e w) x_|.inr x_=>(fun h1 ex e w=>ex= .exit 0/\(Jn f fun c l=>Own c G F/\l= []) e w) x_) ?_ ?_ ?_
 ·clear s N;intro a e2 l0 g1 H;revert l0 g1;rintro Z w_ ⟨o,x1,_,rfl,T,rfl,n,rfl⟩;refine W.seq<|RA a<|Rj (a>=0)<|RF H (fun v0 H=>?_) (fun v0 H=>?_)
  ·refine RG<|RM<|W.seq<|RB v1<|Ro a<|bn H fun t1 P H=>?_;obtain ⟨n1,w0,c1⟩:=Sl.at (d.mono (S.trans T)) (aP P);obtain rfl:=w0;refine vx (ix kN d.m P)<|Rs (sb v1) (so v1+a.toNat*4+1)<|vx (l1 u_4 (c1 1 _ rfl))<|RF H (fun x0 H=>?_) (fun x0 H=>?_)
   ·refine Ru true<|RD<|thr<|RK ?_;cases H;exact ⟨_,rfl,⟨rfl,jn o ⟨n,rfl⟩⟩⟩
   refine RG<|RB v1<|Ro a<|bn H fun f0 R H=>?_;obtain ⟨q1,y0,d1⟩:=Sl.at (d.mono (S.trans T)) (aP R);obtain rfl:=y0;refine vx (ix kN d.m R)<|Rs (sb v1) (so v1+a.toNat*4)<|vx (l1 u_3 (d1 0 _ rfl))<|Ri (f0.Break != 4)<|RF H (fun z0 H=>?_) (fun z0 H=>?_)
   ·refine Ru false<|RD<|RK ?_;cases H;exact ⟨_,rfl,⟨rfl,jn o ⟨n,rfl⟩⟩⟩
   refine W.skip<|RH<|RC a<|Rq (a-1)<|WL.nil ?_;cases H;exact ⟨_,rfl,jn o ⟨n,rfl⟩⟩
  refine W.exit<|thx ?_;cases H;exact ⟨_,rfl,rfl,jn o ⟨n,rfl⟩⟩
 ·exact jn f ⟨y,rfl⟩
 rcases j with j|j
 ·intro m0; revert m0;rintro _ Z w_ ⟨rfl,j0,y1,_,rfl,b2,rfl,h0,rfl⟩;refine RK ?_;cases s;exact Rz j0 ⟨h0,rfl⟩
 rintro _ Z w_ ⟨rfl,k0,z1,_,rfl,c2,rfl,i0,rfl⟩;refine RJ<|Ru false<|RD ?_;cases s;exact Rz k0 ⟨i0,rfl⟩
def eE (p0:List an) (p1:Int):Option Bool:=
 (orE (decide (p1<1)) (some (decide (p1>=(p0.length:Int))))).bind fun n=>
 if n then
 some false
 else
 (idx p0 (w64 (p1-1))).bind fun h=>
 (idx p0 p1).bind fun i=>
 (di h.Break i.Break).bind fun b=>
 (orE (b==1) ((eH p0 p1).bind fun j=>
 some j)).bind fun c=>
 (orE c ((eY p0 p1).bind fun k=>
 some k)).bind fun d=>
 if d then
 some true
 else
 (orE (b != 2) ((idx p0 p1).bind fun l=>
 some (l.Break != 6))).bind fun e=>
 if e then
 some false
 else
 (cm (σ:=Int×Int) (τ:=Int) (((w64 (p1-1))-0).toNat+2) (fun a=>
 (bw (decide (a.2>=0)) ((idx p0 a.2).bind fun m=>
 some (m.Break==6))).bind fun f=>
 if f then
 some (.inl ((w64 (a.1+1)),(w64 (a.2-1))))
 else
 some (.inr a.1)) (0,(w64 (p1-1)))).bind fun g=>
 some ((g.tmod 2)==1)
theorem rq (O0:Own c0 G F) (q:List an) (b:Int){r:Bool}(f:Sl cG c0 v1 q) (H:eE q b=some r): RU 133 #[v1,I b] c0 fun c v=>Own c G F/\v=B r:=by
 unfold eE at H;refine en func133 rfl rfl<|Ru false<|Rx<|W.seq<|bn H fun m1 h3 H=>W.join (Jn c0 fun c l=>Own c G F/\l= [(0,v1),(1,I b),(15,B m1)]) ?_ ?_
 ·clear H;refine RC b<|Rj (b<1) ?_;rcases bo (decide (b<1)) with M|M
  ·obtain rfl:=orT M h3;exact vb M<|pz<|pz<|Ri true<|Ry c0 ⟨O0,rfl⟩
  have H5:=orF M h3;refine vb M<|wa (I b)<|wa v1<|wn<|vx (ln 3 kN f)<|Rm (b>=(q.length:Int)) ?_;obtain rfl:=si H5;exact Rj (b>=(q.length:Int))<|Ry c0 ⟨O0,rfl⟩
 rintro D P ⟨c6,g7,_,rfl,U,rfl,O8,rfl⟩;refine nrm<|cn H (fun q1 H=>?_) (fun q1 H=>?_)
 ·refine Ru false<|RD<|thr ?_;obtain rfl:=si H;exact Rz c6 ⟨O8,rfl⟩
 refine RG<|W.seq<|rD [] (Kp G0 []) O8 ?_;intro h1 p d1;have f3:Kp G0 [] h1:=Kp.nil0;refine ta 0 v1<|ta 1 (I b)<|ta 2 (I (w64 (b-1)))<|bn H fun z0 h0 H=>?_;obtain ⟨s2,s1,i2⟩:=Sl.at (f.mono (U.trans p)) (aP h0);obtain rfl:=s1;refine tx 3 (fun c' N=>ix kN f.m h0)<|ta 4 (Qo (sb v1) (so v1+(w64 (b-1)).toNat*4))<|tx 5 (fun c' N=>l1 u_3 ((mm i2) 0 _ rfl))<|ta 6 v1<|ta 7 (I b)<|bn H fun a1 i0 H=>?_;obtain ⟨t2,t1,j2⟩:=Sl.at (f.mono (U.trans p)) (aP i0);obtain rfl:=t1;refine tx 8 (fun c' N=>ix kN f.m i0)<|ta 9 (Qo (sb v1) (so v1+b.toNat*4))<|tx 10 (fun c' N=>l1 u_3 ((mm j2) 0 _ rfl))<|bn H fun d u1 H=>o1 11 (gc 11 (sS d1 z0.Break a1.Break u1) ?_);rintro v30 z t0 ⟨a0,rfl⟩;have m2:Kp G0 [] z:=Kp.nil0;refine ⟨.inr m2,ta 12 (I d) (dn (RQ<|W.seq<|bn H fun q2 j0 H=>bn H fun w0 E H=>W.join (Jn z fun c l=>Own c G F/\l= [(0,v1),(1,I b),(5,I d),(39,B w0)]) ?_ ?_))⟩
 ·clear H;refine RC d<|Ri (d==1) ?_;rcases bo (d==1) with h|h
  ·obtain rfl:=orT h j0;refine vb h<|pz<|ps<|Ri true ?_;have k0:true=true:=rfl;obtain rfl:=orT k0 E;exact vb k0<|pz<|ps<|Ri true<|Ry z ⟨a0,rfl⟩
  have s:=orF h j0;refine vb h<|wa v1<|wa (I b)<|wn<|bn s fun R x1 s=>cl (pQ a0 q b f.m x1) ?_;rintro v43 i1 b3 ⟨b0,rfl⟩;obtain rfl:=si s;refine Ri R ?_;rcases bo R with i|i
  ·obtain rfl:=orT i E;exact vb i<|pz<|ps<|Ri true<|Ry i1 ⟨b0,rfl⟩
  have t:=orF i E;refine vb i<|wa v1<|wa (I b)<|wn<|bn t fun b1 y1 t=>cl (qu b0 q b f.m y1) ?_;rintro v52 j1 c3 ⟨e1,rfl⟩;obtain rfl:=si t;exact Ri b1<|Ry j1 ⟨e1,rfl⟩
 rintro D P ⟨n,w2,_,rfl,u0,rfl,y,rfl⟩;refine nrm<|cn H (fun z1 H=>?_) (fun z1 H=>?_)
 ·refine Ru true<|RD<|thr ?_;obtain rfl:=si H;exact Rz n ⟨y,rfl⟩
 refine RG<|W.seq<|W.seq<|bn H fun x0 l0 H=>W.join (Jn n fun c l=>Own c G F/\l= [(0,v1),(1,I b),(49,B x0)]) ?_ ?_
 ·clear H;refine RC d<|Ri (d != 2) ?_;rcases bo (d != 2) with j|j
  ·obtain rfl:=orT j l0;exact vb j<|pz<|pz<|pz<|Ri true<|Ry n ⟨y,rfl⟩
  have u:=orF j l0;refine vb j<|wa v1<|wa (I b)<|wn<|bn u fun S m0 u=>?_;obtain ⟨u2,b2,k2⟩:=Sl.at (f.mono (U.trans (p.trans (t0.trans u0)))) (aP m0);obtain rfl:=b2;refine vx (ix kN f.m m0)<|wa (Qo (sb v1) (so v1+b.toNat*4))<|wn<|vx (l1 u_3 (k2 0 _ rfl))<|Rn (S.Break != 6) ?_;obtain rfl:=si u;exact Ri (S.Break != 6)<|Ry n ⟨y,rfl⟩
 rintro D P ⟨o,x2,_,rfl,f2,rfl,d0,rfl⟩;refine nrm<|cn H (fun c2 H=>?_) (fun c2 H=>?_)
 ·refine Ru false<|RD<|thr ?_;obtain rfl:=si H;exact Rz o ⟨d0,rfl⟩
 refine RG<|RA 0<|Rx<|RA b<|Rq (b-1)<|wln<|W.block<|bn H fun g o0 Z=>lp o0 (fun a=>Jn o fun c l=>Own c G F/\l= [(0,v1),(6,I a.1),(7,I a.2)]) (fun X ex e w=>ex= .exit 0/\(Jn o fun c l=>Own c G F/\l= [(6,I X)]) e w) ?_ ?_ ?_
 ·clear Z o0;intro a g3 n1 n2 H;revert n1 n2;rintro D P ⟨A,y2,_,rfl,g2,rfl,e0,rfl⟩;refine W.seq<|W.seq<|bn H fun y0 q0 H=>W.join (Jn A fun c l=>Own c G F/\l= [(0,v1),(6,I a.1),(7,I a.2),(61,B y0)]) ?_ ?_
  ·clear H;refine RC a.2<|Rj (a.2>=0) ?_;rcases bo (decide (a.2>=0)) with k|k
   ·have x:=anT k q0;refine vb k<|wa v1<|wa (I a.2)<|wn<|bn x fun T s0 x=>?_;obtain ⟨v2,d2,l2⟩:=Sl.at (f.mono (U.trans (p.trans (t0.trans (u0.trans (f2.trans g2)))))) (aP s0);obtain rfl:=d2;refine vx (ix kN f.m s0)<|wa (Qo (sb v1) (so v1+a.2.toNat*4))<|wn<|vx (l1 u_3 (l2 0 _ rfl))<|Rn (T.Break==6) ?_;obtain rfl:=si x;exact Ri (T.Break==6)<|Ry A ⟨e0,rfl⟩
   obtain rfl:=anF k q0;exact vb k<|pz<|pz<|pz<|Ri false<|Ry A ⟨e0,rfl⟩
  rintro D P ⟨g0,z2,_,rfl,d3,rfl,f0,rfl⟩;refine nrm<|cn H (fun e2 H=>?_) (fun e2 H=>?_)
  ·refine RG<|RM<|RC a.1<|Rq (a.1+1)<|WL.nil<|RH<|RC a.2<|Rq (a.2-1)<|WL.nil ?_;obtain rfl:=si H;exact ⟨_,rfl,jn g0 ⟨f0,rfl⟩⟩
  refine W.exit<|thx ?_;obtain rfl:=si H;exact ⟨_,rfl,rfl,jn g0 ⟨f0,rfl⟩⟩
 ·exact jn o ⟨d0,rfl⟩
 rintro _ D P ⟨rfl,k1,a3,_,rfl,e3,rfl,g1,rfl⟩;refine RJ<|RA g<|Ro (g.tmod 2)<|Rk ((g.tmod 2)==1)<|RD ?_;obtain rfl:=si Z;exact Rz k1 ⟨g1,rfl⟩
def fw (p0:List Int):Option (List Int):=
 (fJ p0).bind fun b=>
 (cm (σ:=(List Int)×Int) (τ:=(List Int)) (((b.length:Int)-0).toNat+1) (fun a=>
 if decide (a.2<(b.length:Int)) then
 ((eE b a.2).bind fun d=>
 if (!d)=true then
 (app a.1 ([a.2]:List Int)).bind fun e=>
 some e
 else
 some a.1).bind fun f=>
 some (.inl (f,(w64 (a.2+1))))
 else
 some (.inr a.1)) (([]:List Int),0)).bind fun c=>
 some c
theorem qQ (O0:Own c0 G F) (x:List Int){r:List Int}(h2:Sl (RI .i32) c0 v1 x) (H:fw x=some r): RU 90 #[v1] c0 fun c v=>∃A y2,Own c G (es true (RI .i64) A 3 y2 r::F)/\v=A/\OA (RI .i64) c A y2 r:=by
 unfold fw at H;refine en func90 rfl rfl<|RB Y<|wln<|RB Y<|wln<|RB v1<|bn H fun f h3 H=>cl (rp O0 x h2 h3) ?_;rintro v4 k q1 ⟨_,y,O8,rfl,u⟩;refine va v4<|Rx<|RA 0<|wln<|W.block<|bn H fun g1 t p=>lp t (fun a=>Jn k fun c l=>∃v15 d,Own c G (es true (RI .i64) v15 3 d a.1::es false cG v4 162 y f::F)/\l= [(3,v15),(4,v4),(5,I a.2)]/\OA (RI .i64) c v15 d a.1) (fun g ex e w=>ex= .exit 0/\(Jn k fun c l=>∃v17 h,Own c G (es true (RI .i64) v17 3 h g::es false cG v4 162 y f::F)/\l= [(3,v17)]/\OA (RI .i64) c v17 h g) e w) ?_ ?_ ?_
 ·clear p t;intro a d2 g0 a1 H;revert g0 a1;rintro e_ w_ ⟨s,k1,_,rfl,x0,rfl,v15,d,j,rfl,n⟩;refine W.seq<|RA a.2<|va v4<|vx (lnO 3 kN u.m)<|Rj (a.2<(f.length:Int))<|RF H (fun h0 H=>?_) (fun h0 H=>?_)
  ·refine RG<|bn H fun o b D=>W.seqJ (Jn s fun c l=>∃v29 i,Own c G (es true (RI .i64) v29 3 i o::es false cG v4 162 y f::F)/\l= [(3,v29),(4,v4),(5,I a.2)]/\OA (RI .i64) c v29 i o) ?_ ?_
   ·refine W.block<|RB v4<|Ro a.2 ?_;have i0:=j.slf 1 rfl (u.mono x0);refine bn b fun z j0 b=>cl (rq j f a.2 i0 j0) ?_;rintro v38 Z s1 ⟨q,rfl⟩;refine Ri (!z)<|RF b (fun k0 b=>?_) (fun k0 b=>?_)
    ·refine Rv v15<|Ro a.2<|me (sl (RI .i64) 3 [[I a.2]] ([a.2]:List Int) q ⟨rfl,trivial⟩) ?_;rintro v44 i1 t1 ⟨c2,E,l0⟩;obtain ⟨j1,o0,u1,M,m0⟩:=E.frz 0 rfl l0;refine WL.gh o0 (bn b fun h1 q0 b=>me (ap (RI .i64) (I 0) 8 97 1 M n.m m0 q0 vM) ?_);rintro v54 a0 w1 ⟨y0,N,s0⟩;refine va v54<|WL.nil<|RH ?_;cases b;have P:=N.sD 3 [1,2];exact jn a0 ⟨v54,y0,P,rfl,s0⟩
    refine W.skip<|RH ?_;cases b;exact jn Z ⟨v15,d,q,rfl,n.m⟩
   rintro e_ w_ ⟨b0,m1,_,rfl,x1,rfl,v29,i,R,rfl,t0⟩;refine RC a.2<|Rq (a.2+1)<|WL.nil ?_;cases D;exact ⟨_,rfl,jn b0 ⟨v29,i,R,rfl,t0⟩⟩
  refine W.exit<|thx ?_;cases H;exact ⟨_,rfl,rfl,jn s ⟨v15,d,j,rfl,n⟩⟩
 ·have u0:OA (RI .i64) k Y [] []:=OA.nil (ba _);have S:=O8.addHole (e:=es true (RI .i64) Y 3 [] ([]:List Int)) rfl;obtain ⟨d0,v0,z1,T,p1⟩:=S.frz 1 rfl u;exact ⟨d0,_,_,v0.symm,pt,us,(Y),[],T,rfl,u0.m⟩
 rintro _ e_ w_ ⟨rfl,e0,n1,_,rfl,b2,rfl,v17,h,U,rfl,w0⟩;refine RJ<|sr<|vv v17<|RD ?_;cases p;have X:=U.sD 2 [0];exact Rz e0 ⟨v17,h,X,rfl,w0⟩
def eG (p0:List Int):Option (List (List Int)):=
 (fw p0).bind fun i=>
 (app i ([(p0.length:Int)]:List Int)).bind fun b=>
 (cm (σ:=(List (List Int))×Int) (τ:=(List (List Int))) (((b.length:Int)-(w64 (0+1))).toNat+1) (fun a=>
 if decide ((w64 (a.2+1))<(b.length:Int)) then
 (idx b a.2).bind fun d=>
 (idx b (w64 (a.2+1))).bind fun e=>
 (slc p0 d e).bind fun f=>
 (app ([]:List Int) f).bind fun g=>
 (app a.1 ([g]:List (List Int))).bind fun h=>
 some (.inl (h,(w64 (a.2+1))))
 else
 some (.inr a.1)) (([]:List (List Int)),0)).bind fun c=>
 some c
theorem pP (O0:Own c0 G F) (g:List Int){r:List (List Int)}(h2:Sl (RI .i32) c0 v1 g) (H:eG g=some r): RU 49 #[v1] c0 fun c v=>∃y1 y2,Own c G (es true (RL (RI .i32)) y1 59 y2 r::F)/\v=y1/\OA (RL (RI .i32)) c y1 y2 r:=by
 unfold eG at H;refine en func49 rfl rfl<|RB Y<|wln<|RB Y<|wln<|RB v1<|bn H fun c4 h3 H=>cl (qQ O0 g h2 h3) ?_;rintro v4 m3 g2 ⟨_,u5,O8,rfl,h6⟩;refine va v1<|vx (ln 3 cD h2.m)<|me (sl (RI .i64) 3 [[I (g.length:Int)]] ([(g.length:Int)]:List Int) O8 ⟨rfl,trivial⟩) ?_;rintro v17 n3 l16 ⟨e0,s0,g1⟩;obtain ⟨o3,i1,i2,t0,h1⟩:=s0.frz 0 rfl g1;refine WL.gh i1 (bn H fun b j1 H=>me (ap (RI .i64) (I 0) 8 97 1 t0 h6.m h1 j1 vM) ?_);rintro v27 h j2 ⟨d,u0,f⟩;refine va v27<|Rx<|RA 0<|wln<|W.block<|bn H fun i3 Z y=>lp Z (fun a=>Jn h fun c l=>∃v30 o,Own c G (es true (RL (RI .i32)) v30 59 o a.1::es false (RI .i64) v17 3 e0 ([(g.length:Int)]:List Int)::es true (RI .i64) v27 3 d b::F)/\l= [(0,v1),(3,v30),(4,v27),(5,I a.2)]/\OA (RL (RI .i32)) c v30 o a.1) (fun n ex e w=>ex= .exit 0/\(Jn h fun c l=>∃v32 p,Own c G (es true (RL (RI .i32)) v32 59 p n::es false (RI .i64) v17 3 e0 ([(g.length:Int)]:List Int)::es true (RI .i64) v27 3 d b::F)/\l= [(3,v32)]/\OA (RL (RI .i32)) c v32 p n) e w) ?_ ?_ ?_
 ·clear y Z;intro a d4 f1 w2 H;revert f1 w2;rintro e_ w_ ⟨x0,p3,_,rfl,t,rfl,v30,o,z,rfl,a0⟩;refine W.seq<|RA a.2<|Rt (a.2+1)<|va v27<|vx (lnO 3 vM f.m)<|Rj ((w64 (a.2+1))<(b.length:Int))<|RF H (fun k1 H=>?_) (fun k1 H=>?_)
  ·refine RG<|RM<|rD [] (Kp G0 [es true (RI .i64) v27 3 d b]) z ?_;intro y0 u A;have d0:=(Kp.cons (A.on 2 rfl) Kp.nil0);refine ta 0 v30<|ta 2 v1<|ta 3 v27<|ta 4 (I a.2)<|bn H fun l0 q H=>tx 5 (fun x i=>ixO vM f.m q) ?_;obtain ⟨f3,m1,m2⟩:=OA.at (f.mono (t.trans u)) q;obtain rfl:=m1;refine AC.takeK 6 (I l0) d0 rfl (by kernel_rfl) (by kernel_rfl) (by kernel_rfl) (fun x i hk=>(rx (by kernel_rfl) (sn u_3 rfl (hk.on 0 rfl) (f.m.blk q) (at1 (j:=0) m2 rfl)))) (ta 7 v27<|ta 8 (I a.2)<|ta 9 (I (w64 (a.2+1)))<|bn H fun m0 s H=>tx 10 (fun x i=>ixO vM f.m s) ?_);obtain ⟨g3,n1,n2⟩:=OA.at (f.mono (t.trans u)) s;obtain rfl:=n1;refine AC.takeK 11 (I m0) d0 rfl (by kernel_rfl) (by kernel_rfl) (by kernel_rfl) (fun x i hk=>(rx (by kernel_rfl) (sn u_3 rfl (hk.on 0 rfl) (f.m.blk s) (at1 (j:=0) n2 rfl)))) (bn H fun k3 p1 H=>?_);obtain ⟨v54,q1,s1⟩:=HK (k:= .i64) (k':= .i64) cD (by kernel_rfl) (h2.mono (g2.trans (l16.trans (i2.trans (j2.trans (t.trans u)))))) p1;refine AC.take 12 v54 rfl (by kernel_rfl) (by kernel_rfl) (fun x i=>(rx (by kernel_rfl) (q1 _))) (o1 1 (gm 1 (sl (RI .i32) 21 [] ([]:List Int) A trivial) ?_));rintro z3 z0 q3 ⟨w3,D,t1⟩;have o2:=(Kp.cons (D.on 3 rfl) Kp.nil0);refine ⟨.inr o2,bn H fun o0 u1 H=>o1 13 (gm 13 (ap (RI .i32) (J 0) 4 59 0 D t1 s1.m u1 cD) ?_)⟩;rintro a4 a1 s3 ⟨x3,E,w1⟩;have p2:=(Kp.cons (E.on 3 rfl) Kp.nil0);refine ⟨.inr p2,?_⟩;obtain ⟨b1,x1,k2,M,b0⟩:=E.frz 0 rfl w1;have q2:=(Kp.cons (M.on 3 rfl) Kp.nil0);refine AC.gh x1 k2 (fun _=>q2) ?_;obtain ⟨S,T,U,rfl⟩:=(b0).form;refine o1 14 (gm 14 (sl (RL (RI .i32)) 59 [[.slice S T U]] ([o0]:List (List Int)) M ⟨⟨(.slice S T U),rfl,b0⟩,trivial⟩) ?_);rintro b4 c1 t3 ⟨y3,N,z1⟩;have s2:=(Kp.cons (N.on 4 rfl) Kp.nil0);refine ⟨.inr s2,?_⟩;obtain ⟨d1,c2,l2,P,b2⟩:=N.frz 0 rfl z1;have t2:=(Kp.cons (P.on 4 rfl) Kp.nil0);refine AC.gh c2 l2 (fun _=>t2) (bn H fun l3 d2 H=>o1 15 (gm 15 (ap (RL (RI .i32)) Y 24 105 2 P a0.m b2 d2 underlying105) ?_));rintro f0 X u3 ⟨v2,R,e2⟩;have u2:=(Kp.cons (R.on 4 rfl) Kp.nil0);refine ⟨.inr u2,ta 16 f0 (dn (RH<|RC a.2<|Rq (a.2+1)<|WL.nil ?_))⟩;cases H;refine ⟨_,rfl,?_⟩;have v0:=R.sD 5 [2,3,4];exact jn X ⟨f0,v2,v0,rfl,e2⟩
  refine W.exit<|thx ?_;cases H;exact ⟨_,rfl,rfl,jn x0 ⟨v30,o,z,rfl,a0⟩⟩
 ·have f2:OA (RL (RI .i32)) h Y [] []:=OA.nil (ba _);have w0:=u0.addHole (e:=es true (RL (RI .i32)) Y 59 [] ([]:List (List Int))) rfl;exact jn h ⟨(Y),[],w0,rfl,f2⟩
 rintro _ e_ w_ ⟨rfl,e1,c3,_,rfl,v3,rfl,v32,p,g0,rfl,i0⟩;refine RJ<|sr<|vv v32<|RD ?_;cases y;have h0:=g0.sD 3 [0];exact Rz e1 ⟨v32,p,h0,rfl,i0⟩
def ij (p0:List Int):Option Int:=
 (cm (σ:=(List an)×Int) (τ:=(List an)) (((p0.length:Int)-0).toNat+1) (fun a=>
 if decide (a.2<(p0.length:Int)) then
 (idx p0 a.2).bind fun b=>
 (dW b).bind fun c=>
 (app a.1 ([c]:List an)).bind fun d=>
 some (.inl (d,(w64 (a.2+1))))
 else
 some (.inr a.1)) (([]:List an),0)).bind fun f=>
 (gG p0 f).bind fun e=>
 some e
theorem uw (O0:Own c0 G F) (h:List Int){r:Int}(g:Sl (RI .i32) c0 v1 h) (H:ij h=some r): RU 50 #[v1] c0 fun c v=>Own c G F/\v=I r:=by
 unfold ij at H;refine en func50 rfl rfl<|RA 0<|wln<|RB Y<|Rx<|RA 0<|wln<|W.block<|bn H fun l0 X f=>lp X (fun a=>Jn c0 fun c l=>∃v5 i,Own c G (es true cG v5 162 i a.1::F)/\l= [(0,v1),(3,v5),(4,I a.2)]/\OA cG c v5 i a.1) (fun d ex e w=>ex= .exit 0/\(Jn c0 fun c l=>∃v7 o,Own c G (es true cG v7 162 o d::F)/\l= [(0,v1),(3,v7)]/\OA cG c v7 o d) e w) ?_ ?_ ?_
 ·clear f X;intro a q1 R o0 H;revert R o0;rintro e_ w_ ⟨c9,d1,_,rfl,l9,rfl,v5,i,j,rfl,k⟩;refine W.seq<|RA a.2<|va v1<|vx (ln 3 cD g.m)<|Rj (a.2<(h.length:Int))<|RF H (fun S H=>?_) (fun S H=>?_)
  ·refine RG<|RM<|Rv v5<|va v1<|Ro a.2<|bn H fun p n H=>?_;obtain ⟨v0,T,k0⟩:=Sl.at (g.mono l9) (aP n);obtain rfl:=T;refine vx (ix cD g.m n)<|vx (l1 nB (k0 0 _ rfl))<|bn H fun b U H=>cl (oZ j p U) ?_;rintro v27 y0 f1 ⟨s,rfl⟩;refine me (sl cG 162 [[I b.Break,B b.Pict,I b.Conj,I b.East]] ([b]:List an) s ⟨rfl,trivial⟩) ?_;rintro v32 z0 g1 ⟨n1,t,Z⟩;obtain ⟨a1,b0,h1,u,a0⟩:=t.frz 0 rfl Z;refine WL.gh b0 (bn H fun x0 d0 H=>me (ap cG (.agg #[I 0,B false,I 0,I 0]) 32 160 1 u k.m a0 d0 kN) ?_);rintro v42 N i1 ⟨m0,x,e0⟩;refine va v42<|WL.nil<|RH<|RC a.2<|Rq (a.2+1)<|WL.nil ?_;cases H;refine ⟨_,rfl,?_⟩;have y:=x.sD 2 [1];exact jn N ⟨v42,m0,y,rfl,e0⟩
  refine W.exit<|thx ?_;cases H;exact ⟨_,rfl,rfl,jn c9 ⟨v5,i,j,rfl,k⟩⟩
 ·have f0:OA cG c0 Y [] []:=OA.nil (ba _);have z:=O0.addHole (e:=es true cG Y 162 [] ([]:List an)) rfl;exact jn c0 ⟨(Y),[],z,rfl,f0⟩
 rintro _ e_ w_ ⟨rfl,b1,e1,_,rfl,j1,rfl,v7,o,A,rfl,g0⟩;refine RJ<|RB v1<|va v7 ?_;obtain ⟨c1,i0,k1,D,h0⟩:=A.frz 0 rfl g0;refine WL.gh i0 (bn f fun q j0 f=>cl (tG D h l0 g.m h0 j0) ?_);rintro p1 P m1 ⟨E,rfl⟩;refine Ro q<|RD ?_;cases f;have M:=E.sD 1 [];exact Rz P ⟨M,rfl⟩
def oX (sg:Sto) (p0:Option Nat):Option (Sto×(Option Nat)):=
 (orE p0.isNone ((p0).bind fun d=>
 (sg.place_Pen[d]?).bind fun b=>
 some b.G.isNone)).bind fun c=>
 if c then
 some (sg,(none:Option Nat))
 else
 (some (sg.add_feed_Feeder (⟨p0,(⟨0,0,0,0,0⟩:bD),(⟨false,0,0,0,false⟩:bv),(none:Option Nat)⟩:bE))).bind fun a=>
 some (a,(some sg.feed_Feeder.length))
theorem CR (t:Own c0 G F) (u:Rel c0 sg G) (k:Option Nat){r:Sto×(Option Nat)}(n:Pt 2 c0 v1 k) (H:oX sg k=some r): RU 23 #[v1] c0 fun c v=>∃y1,∃G_:Gm,Own c G_ F/\Rel c r.1 G_/\eu G G_/\v=y1/\Pt 4 c y1 r.2:=by
 unfold oX at H;refine en func23 rfl rfl<|RB (.pointer none)<|Rx<|W.seq<|bn H fun T h3 H=>W.join (Jn c0 fun c l=>Own c G F/\l= [(0,v1),(11,B T)]) ?_ ?_
 ·clear H;refine Rv v1<|vr (B k.isNone) (by rcases (n).cs with ⟨d,e⟩|⟨b_,d,e⟩ <;> (subst d; rw [e]; kernel_rfl)) ?_;rcases bo k.isNone with h|h
  ·obtain rfl:=orT h h3;exact vb h<|pz<|pz<|ps<|Ri true<|Ry c0 ⟨t,rfl⟩
  have g:=orF h h3;refine vb h<|wa v1<|wn<|bn g fun t0 h8 g=>?_;obtain ⟨R,rfl,h7⟩:=(n).get h8;refine va (Q R)<|wa (Q R)<|wn<|bn g fun j h9 g=>?_;obtain ⟨v10,X,U⟩:=Rel.open_place_Pen u h9 h7;refine vx (le1 0 jT (t.gon X 0 rfl))<|wn<|vr (B j.G.isNone) (by rcases (U).cs with ⟨d,e⟩|⟨b_,d,e⟩ <;> (subst d; rw [e]; kernel_rfl)) ?_;cases g;exact Ri j.G.isNone<|Ry c0 ⟨t,rfl⟩
 rintro e_ w_ ⟨S,o0,_,rfl,i,rfl,o,rfl⟩;refine nrm<|cn H (fun Z H=>?_) (fun Z H=>?_)
 ·refine RB (.pointer none)<|RD<|thr ?_;cases H;exact Rz S ⟨(.pointer none),G,o,u.m,(eu.refl _),rfl,rfl⟩
 refine RG<|RB v1 ?_;obtain ⟨f,rfl⟩:=((n.mono i)).form;refine va (.agg #[.pointer f,I 0,I 0,.int .u8 0,.int .u8 0,I 0,B false,I 0,I 0,I 0,B false,.pointer none])<|me (al 115 [.pointer f,I 0,I 0,.int .u8 0,.int .u8 0,I 0,B false,I 0,I 0,I 0,B false,.pointer none] o) ?_;rintro v24 m0 s ⟨a,rfl,A⟩;have D:=A.sD 1 [0];refine bn H fun y a0 H=>?_;obtain ⟨q,z,b0,u0,d0,M,p,q0,f0,N⟩:=Rel.new_feed_Feeder (E:=[(Eb a 115 [.pointer f,I 0,I 0,.int .u8 0,.int .u8 0,I 0,B false,I 0,I 0,I 0,B false,.pointer none])]) (F:=F) (x:=(⟨k,(⟨0,0,0,0,0⟩:bD),(⟨false,0,0,0,false⟩:bv),(none:Option Nat)⟩:bE)) (b:=a) D (u.mono (i.trans s)) (fun c_ hle_=>⟨a,(.pointer f),(.pointer none),rfl,rfl,(n.mono ((i.trans s).trans hle_)),rfl⟩);rw [aL a0] at p;refine WL.gh b0.1 ?_;have s0:=eu.nil (eu.refl _) f0;have P:=(eu.refl _).trans N;have g0:Pt 4 q (Q a) (some sg.feed_Feeder.length):=⟨a,rfl,d0⟩;refine va (Q a)<|RD ?_;cases H;exact Rz q ⟨(Q a),z,M,p,P,rfl,g0⟩
def js (p0:Int):Option Int:=
 (orE (decide (p0<0)) (some (decide (p0>13)))).bind fun a=>
 if a then
 some 0
 else
 some p0
theorem tX (d:Own c0 G F) (a:Int){r:Int}(H:js a=some r): RU 306 #[I a] c0 fun c v=>Own c G F/\v=I r:=by
 unfold js at H;refine en func306 rfl rfl<|RA 0<|Rx<|W.seq<|bn H fun g h H=>W.join (Jn c0 fun c l=>Own c G F/\l= [(0,I a),(8,B g)]) ?_ ?_
 ·clear H;refine RC a<|Rj (a<0) ?_;rcases bo (decide (a<0)) with b|b
  ·obtain rfl:=orT b h;exact vb b<|pz<|Ri true<|Ry c0 ⟨d,rfl⟩
  have j:=orF b h;refine vb b<|wa (I a)<|Rm (a>13) ?_;cases j;exact Rj (a>13)<|Ry c0 ⟨d,rfl⟩
 rintro k o ⟨f,m,_,rfl,n,rfl,e,rfl⟩;refine nrm<|cn H (fun i H=>?_) (fun i H=>?_)
 ·refine RA 0<|RD<|thr ?_;cases H;exact Rz f ⟨e,rfl⟩
 refine RG<|sr<|vv (I a)<|RD ?_;cases H;exact Rz f ⟨e,rfl⟩
def mT (p0:Int):Option Bool:=
 if (p0==1)=true then
 some true
 else
 if (p0==2)=true then
 some true
 else
 if (p0==3)=true then
 some true
 else
 some false
theorem sM (b:Own c0 G F) (a:Int){r:Bool}(H:mT a=some r): RU 307 #[I a] c0 fun c v=>Own c G F/\v=B r:=by
 unfold mT at H;refine en func307 rfl rfl<|Ru false<|Rx<|RA a<|wln<|W.block<|RM<|W.block<|W.block<|W.seq<|W.seq<|sr<|Rk (a==1)<|RF H (fun d H=>?_) (fun d H=>?_)
 ·refine W.exit<|thx<|thx<|bke<|bkn<|RH<|W.seq<|Ru true<|RD<|thr<|RK ?_;cases H;exact Rz c0 ⟨b,rfl⟩
 refine RG<|W.seq<|sr<|Rk (a==2)<|RF H (fun e H=>?_) (fun e H=>?_)
 ·refine W.exit<|thx<|thx<|bko rfl (bke<|RH<|W.seq<|Ru true<|RD<|thr<|RK ?_);cases H;exact Rz c0 ⟨b,rfl⟩
 refine RG<|sr<|Rk (a==3)<|RF H (fun f H=>?_) (fun f H=>?_)
 ·refine W.exit<|thx<|bko rfl (bko rfl (RJ<|W.seq<|Ru true<|RD<|thr<|RK ?_));cases H;exact Rz c0 ⟨b,rfl⟩
 refine RG<|W.exit<|bko rfl (bko rfl (bko rfl (thx<|RJ<|Ru false<|RD ?_)));cases H;exact Rz c0 ⟨b,rfl⟩
def nL (p0:Int) (p1:Int):Option Bool:=
 if (p0==9)=true then
 (orE (p1==9) (some (p1==10))).bind fun a=>
 (orE a (some (p1==12))).bind fun b=>
 (orE b (some (p1==13))).bind fun c=>
 some c
 else
 (if (p0==12)=true then
 some (p0==12)
 else
 some (p0==10)).bind fun e=>
 if e then
 (orE (p1==10) (some (p1==11))).bind fun d=>
 some d
 else
 (if (p0==13)=true then
 some (p0==13)
 else
 some (p0==11)).bind fun f=>
 if f then
 some (p1==11)
 else
 some false
theorem wu (m:Own c0 G F) (b:Int) (a:Int){r:Bool}(H:nL b a=some r): RU 308 #[I b,I a] c0 fun c v=>Own c G F/\v=B r:=by
 unfold nL at H;refine en func308 rfl rfl<|Ru false<|Rx<|RA b<|wln<|W.block<|sr<|Rk (b==9)<|RF H (fun h1 H=>?_) (fun h1 H=>?_)
 ·refine W.seq<|bn H fun i0 Z H=>bn H fun j0 A H=>bn H fun x p H=>W.join (Jn c0 fun c l=>Own c G F/\l= [(4,B x)]) ?_ ?_
  ·clear H;refine RC a<|Ri (a==9) ?_;rcases bo (a==9) with n|n
   ·obtain rfl:=orT n Z;refine vb n<|pz<|Ri true ?_;have h6:true=true:=rfl;obtain rfl:=orT h6 A;refine vb h6<|pz<|Ri true ?_;have h7:true=true:=rfl;obtain rfl:=orT h7 p;exact vb h7<|pz<|Rk true<|Ry c0 ⟨m,rfl⟩
   have H8:=orF n Z;refine vb n<|wa (I a)<|Rn (a==10) ?_;cases H8;refine Ri (a==10) ?_;rcases bo (a==10) with o|o
   ·obtain rfl:=orT o A;refine vb o<|pz<|Ri true ?_;have t:true=true:=rfl;obtain rfl:=orT t p;exact vb t<|pz<|Rk true<|Ry c0 ⟨m,rfl⟩
   have N:=orF o A;refine vb o<|wa (I a)<|Rn (a==12) ?_;cases N;refine Ri (a==12) ?_;rcases bo (a==12) with i|i
   ·obtain rfl:=orT i p;exact vb i<|pz<|Rk true<|Ry c0 ⟨m,rfl⟩
   have P:=orF i p;refine vb i<|wa (I a)<|Rn (a==13) ?_;cases P;exact Rk (a==13)<|Ry c0 ⟨m,rfl⟩
  rintro z D ⟨U,l0,_,rfl,s0,rfl,S,rfl⟩;refine nrm<|W.ret<|RK ?_;cases H;exact Rz U ⟨S,rfl⟩
 refine bn H fun E f d=>W.seqJ (Jn c0 fun c l=>Own c G F/\l= [(1,I a),(5,I b),(22,B E)]) ?_ ?_
 ·refine sr<|Rk (b==12)<|RF f (fun a0 f=>?_) (fun a0 f=>?_)
  ·refine RG ?_;cases f;exact jn c0 ⟨m,rfl⟩
  refine W.region<|Rk (b==10)<|wln ?_;cases f;exact jn c0 ⟨m,rfl⟩
 rintro z D ⟨e,m0,_,rfl,t0,rfl,k,rfl⟩;refine cn d (fun b0 d=>?_) (fun b0 d=>?_)
 ·refine W.seq<|bn d fun y u d=>W.join (Jn e fun c l=>Own c G F/\l= [(4,B y)]) ?_ ?_
  ·clear d;refine RC a<|Ri (a==10) ?_;rcases bo (a==10) with j|j
   ·obtain rfl:=orT j u;exact vb j<|pz<|Rk true<|Ry e ⟨k,rfl⟩
   have R:=orF j u;refine vb j<|wa (I a)<|Rn (a==11) ?_;cases R;exact Rk (a==11)<|Ry e ⟨k,rfl⟩
  rintro z D ⟨X,o0,_,rfl,u0,rfl,T,rfl⟩;refine nrm<|W.ret<|RK ?_;cases d;exact Rz X ⟨T,rfl⟩
 refine bn d fun M g h=>W.seqJ (Jn e fun c l=>Own c G F/\l= [(1,I a),(31,B M)]) ?_ ?_
 ·refine sr<|Rk (b==13)<|RF g (fun d0 g=>?_) (fun d0 g=>?_)
  ·refine RG ?_;cases g;exact jn e ⟨k,rfl⟩
  refine W.region<|Rk (b==11)<|wln ?_;cases g;exact jn e ⟨k,rfl⟩
 rintro z D ⟨s,q0,_,rfl,v0,rfl,q,rfl⟩;refine cn h (fun e0 h=>?_) (fun e0 h=>?_)
 ·refine RA a<|Rk (a==11)<|RD<|RK ?_;cases h;exact Rz s ⟨q,rfl⟩
 refine W.skip<|RH<|Ru false<|RD ?_;cases h;exact Rz s ⟨q,rfl⟩
def fu (p0:Int) (p1:Int):Option Int:=
 (js p0).bind fun b=>
 (js p1).bind fun a=>
 (bw (b==1) (some (a==2))).bind fun e=>
 if e then
 some 1
 else
 (mT b).bind fun i=>
 (orE i ((mT a).bind fun j=>
 some j)).bind fun f=>
 if f then
 some 0
 else
 ((nL b a).bind fun d=>
 if d then
 some d
 else
 if (a==4)=true then
 some (a==4)
 else
 if (a==5)=true then
 some (a==5)
 else
 if (a==8)=true then
 some (a==8)
 else
 some (b==7)).bind fun k=>
 if k then
 some 1
 else
 ((bw (a==0) ((orE (b==5) (some (b==4))).bind fun g=>
 some g)).bind fun c=>
 if c then
 some c
 else
 (bw (b==6) (some (a==6))).bind fun h=>
 some h).bind fun l=>
 if l then
 some 2
 else
 some 0
theorem vu (O0:Own c0 G F) (E:Int) (M:Int){r:Int}(H:fu E M=some r): RU 284 #[I E,I M] c0 fun c v=>Own c G F/\v=I r:=by
 unfold fu at H;refine en func284 rfl rfl<|RA 0<|wln<|RA E<|bn H fun b h1 H=>cl (tX O0 E h1) ?_;rintro v7 c6 l6 ⟨O3,rfl⟩;refine Ro M<|bn H fun a h8 H=>cl (tX O3 M h8) ?_;rintro v14 y c2 ⟨N,rfl⟩;refine Ro b<|Ro a<|Rx<|W.block<|W.seq<|bn H fun g0 a0 H=>W.join (Jn y fun c l=>Own c G F/\l= [(0,I b),(1,I a),(9,B g0)]) ?_ ?_
 ·clear H;refine RC b<|Ri (b==1) ?_;rcases bo (b==1) with k|k
  ·have q0:=anT k a0;refine vb k<|wa (I a)<|Rn (a==2) ?_;obtain rfl:=si q0;exact Rk (a==2)<|Ry y ⟨N,rfl⟩
  obtain rfl:=anF k a0;exact vb k<|pz<|Rk false<|Ry y ⟨N,rfl⟩
 rintro z A ⟨U,v1,_,rfl,d2,rfl,P,rfl⟩;refine nrm<|cn H (fun z0 H=>?_) (fun z0 H=>?_)
 ·refine RA 1<|RD<|RK ?_;obtain rfl:=si H;exact Rz U ⟨P,rfl⟩
 refine W.seq<|bn H fun k0 a1 H=>bn H fun h0 b0 H=>W.join (Jn U fun c l=>Own c G F/\l= [(0,I b),(1,I a),(16,B h0)]) ?_ ?_
 ·clear H;refine RC b<|cl (sM P b a1) ?_;rintro v32 w0 e2 ⟨R,rfl⟩;rcases bo k0 with m|m
  ·obtain rfl:=orT m b0;exact vb m<|pz<|Rk true<|Ry w0 ⟨R,rfl⟩
  have u:=orF m b0;refine vb m<|wa (I a)<|wn<|bn u fun D b1 u=>cl (sM R a b1) ?_;rintro v41 x0 f2 ⟨u0,rfl⟩;obtain rfl:=si u;exact Rk D<|Ry x0 ⟨u0,rfl⟩
 rintro z A ⟨X,w1,_,rfl,g2,rfl,S,rfl⟩;refine nrm<|cn H (fun c1 H=>?_) (fun c1 H=>?_)
 ·refine RA 0<|RD<|RK ?_;obtain rfl:=si H;exact Rz X ⟨S,rfl⟩
 refine bn H fun m0 d g=>W.seqJ (Jn X fun c l=>Own c G F/\l= [(0,I b),(1,I a),(23,B m0)]) ?_ ?_
 ·refine RA b<|Ro a<|bn d fun l0 d1 d=>cl (wu S b a d1) ?_;rintro v57 j h2 ⟨i,rfl⟩;refine Ri l0<|RF d (fun e1 d=>?_) (fun e1 d=>?_)
  ·refine RG ?_;obtain rfl:=si d;exact jn j ⟨i,rfl⟩
  refine RA a<|Rk (a==4)<|RF d (fun f1 d=>?_) (fun f1 d=>?_)
  ·refine RG ?_;obtain rfl:=si d;exact jn j ⟨i,rfl⟩
  refine RA a<|Rk (a==5)<|RF d (fun g1 d=>?_) (fun g1 d=>?_)
  ·refine RG ?_;obtain rfl:=si d;exact jn j ⟨i,rfl⟩
  refine RA a<|Rk (a==8)<|RF d (fun i1 d=>?_) (fun i1 d=>?_)
  ·refine RG ?_;obtain rfl:=si d;exact jn j ⟨i,rfl⟩
  refine RC b<|Rk (b==7)<|wln ?_;obtain rfl:=si d;exact jn j ⟨i,rfl⟩
 rintro z A ⟨f,x1,_,rfl,i2,rfl,s,rfl⟩;refine cn g (fun j1 g=>?_) (fun j1 g=>?_)
 ·refine RA 1<|RD<|RK ?_;obtain rfl:=si g;exact Rz f ⟨s,rfl⟩
 refine bn g fun o0 e h=>W.seqJ (Jn f fun c l=>Own c G F/\l= [(35,B o0)]) ?_ ?_
 ·refine W.seq<|bn e fun i0 d0 e=>W.join (Jn f fun c l=>Own c G F/\l= [(0,I b),(1,I a),(35,B i0)]) ?_ ?_
  ·clear e;refine RC a<|Ri (a==0) ?_;rcases bo (a==0) with n|n
   ·have q:=anT n d0;refine vb n<|wa (I b)<|Rn (b==5)<|wn<|bn q fun s1 e0 q=>?_;rcases bo (b==5) with o|o
    ·obtain rfl:=orT o e0;refine vb o<|pz<|Rn true ?_;obtain rfl:=si q;exact Rk true<|Ry f ⟨s,rfl⟩
    have s0:=orF o e0;refine vb o<|wa (I b)<|Rn (b==4)<|wn ?_;obtain rfl:=si s0;refine Ri (b==4) ?_;obtain rfl:=si q;exact Rk (b==4)<|Ry f ⟨s,rfl⟩
   obtain rfl:=anF n d0;exact vb n<|pz<|pz<|pz<|Rk false<|Ry f ⟨s,rfl⟩
  rintro z A ⟨t,y1,_,rfl,j2,rfl,x,rfl⟩;refine nrm<|cn e (fun k1 e=>?_) (fun k1 e=>?_)
  ·refine RG ?_;obtain rfl:=si e;exact jn t ⟨x,rfl⟩
  refine bn e fun j0 f0 e=>W.join (Jn t fun c l=>Own c G F/\l= [(35,B j0)]) ?_ ?_
  ·clear e;refine RC b<|Ri (b==6) ?_;rcases bo (b==6) with p|p
   ·have t0:=anT p f0;refine vb p<|wa (I a)<|Rn (a==6) ?_;obtain rfl:=si t0;exact Rk (a==6)<|Ry t ⟨x,rfl⟩
   obtain rfl:=anF p f0;exact vb p<|pz<|Rk false<|Ry t ⟨x,rfl⟩
  rintro z A ⟨y0,z1,_,rfl,k2,rfl,v0,rfl⟩;refine nrm ?_;obtain rfl:=si e;exact jn y0 ⟨v0,rfl⟩
 rintro z A ⟨Z,b2,_,rfl,l2,rfl,T,rfl⟩;refine cn h (fun m1 h=>?_) (fun m1 h=>?_)
 ·refine RA 2<|RD<|RK ?_;obtain rfl:=si h;exact Rz Z ⟨T,rfl⟩
 refine W.skip<|RH<|RA 0<|RD ?_;obtain rfl:=si h;exact Rz Z ⟨T,rfl⟩
def dO (p0:bv):Option bv:=
 if true then
 some (⟨false,0,0,0,false⟩:bv)
 else
 some p0
theorem nq {a:Nat}{r0_0:Value}{r0_1:Value}{r0_2:Value}{r0_3:Value}{r0_4:Value}{r0_5:Value}{r0_11:Value}(b:bv) (e:Own c0 G ((Eb a 115 [r0_0,r0_1,r0_2,r0_3,r0_4,r0_5,B b.some,I b.last,I b.pict,I b.conj,B b.odd,r0_11])::F)){r:bv}(H:dO b=some r):
   RU 97 #[.pointer (some ⟨a,6,none⟩)] c0 fun c v=>Own c G ((Eb a 115 [r0_0,r0_1,r0_2,r0_3,r0_4,r0_5,B r.some,I r.last,I r.pict,I r.conj,B r.odd,r0_11])::F)/\v= .tuple #[]:=by
 unfold dO at H
 refine en func97 rfl rfl<|sr<|Rs a 6<|Ri true<|wln<|W.cond (t:=true) (by kernel_rfl) (fun d=>?_) (fun d=>?_)
 ·have H:=it d H
  refine W.region<|Rs a 6<|va (.agg #[B false,I 0,I 0,I 0,B false])<|Rs a 6<|md (sB 112 6 [B false,I 0,I 0,I 0,B false] [r0_0,r0_1,r0_2,r0_3,r0_4,r0_5,B false,I 0,I 0,I 0,B false,r0_11] 0 e ⟨rfl,rfl,rfl,rfl,rfl,trivial⟩) ?_
  rintro g h f
  refine WL.nil ?_
  cases H
  exact RN g ⟨f,rfl⟩
 cases d
def du (sg:Sto) (p0:Option Nat):Option Sto:=
 if (!p0.isNone)=true then
 (p0).bind fun c=>
 (sg.feed_Feeder[c]?).bind fun a=>
 (sg.set_feed_Feeder c (⟨a.pen,a.dec,a.seg,(none:Option Nat)⟩:bE)).bind fun d=>
 (dO a.seg).bind fun e=>
 (d.set_feed_Feeder c (⟨a.pen,a.dec,e,(none:Option Nat)⟩:bE)).bind fun b=>
 some b
 else
 some sg
theorem jC (n:Own c0 G F) (i:Rel c0 sg G) (k:Option Nat){r:Sto}(M:Pt 4 c0 v1 k) (H:du sg k=some r): RU 54 #[v1] c0 fun c v=>∃G_:Gm,Own c G_ F/\Rel c r G_/\v= .tuple #[]:=by
 unfold du at H;refine en func54 rfl rfl<|RB v1<|vr (B (!k.isNone)) (by rcases (M).cs with ⟨f,g⟩|⟨b_,f,g⟩ <;> (subst f; rw [g]; kernel_rfl))<|RF H (fun T H=>?_) (fun T H=>?_)
 ·refine RB v1<|bn H fun g0 U H=>?_;obtain ⟨d,rfl,j⟩:=(M).get U;refine va (Q d)<|Rs d 11<|bn H fun a X H=>?_;obtain ⟨v8,v10,A,R,e0⟩:=Rel.open_feed_Feeder i X j;refine md (gC 113 11 (.pointer none) [v8,I a.dec.held,I a.dec.needs,.int .u8 a.dec.lo,.int .u8 a.dec.hi,I a.dec.bits,B a.seg.some,I a.seg.last,I a.seg.pict,I a.seg.conj,B a.seg.odd,.pointer none] 0 n A ⟨rfl,trivial⟩) ?_;rintro d0 e o;refine bn H fun S E H=>?_;obtain ⟨Z,p,x,D,a0⟩:=Rel.put_feed_Feeder o (i.mono e) (E':=[(Eb d 115 [v8,I a.dec.held,I a.dec.needs,.int .u8 a.dec.lo,.int .u8 a.dec.hi,I a.dec.bits,B a.seg.some,I a.seg.last,I a.seg.pict,I a.seg.conj,B a.seg.odd,.pointer none])]) E ⟨d,v8,(.pointer none),(tm j),rfl,(R.mono e),rfl⟩;refine wln<|W.region<|vv (Q d)<|Rs d 6 ?_;have q:=p.borrow 0 D rfl;refine bn H fun b N H=>cl (nq a.seg q N) ?_;rintro v29 z h ⟨s,rfl⟩;have t:=s.giveB 0 rfl;refine bn H fun l P H=>?_;obtain ⟨m,u,y,f0,b0⟩:=Rel.put_feed_Feeder t (x.mono h) (E':=[(Eb d 115 [v8,I a.dec.held,I a.dec.needs,.int .u8 a.dec.lo,.int .u8 a.dec.hi,I a.dec.bits,B b.some,I b.last,I b.pict,I b.conj,B b.odd,.pointer none])]) P ⟨d,v8,(.pointer none),(tm j),rfl,(R.mono (e.trans h)),rfl⟩;refine WL.nil ?_;cases H;exact RN z ⟨m,u,y,rfl⟩
 refine W.skip ?_;cases H;exact RN c0 ⟨G,n,i,rfl⟩
def dg (p0:bv) (p1:an):Option Bool:=
 if (!p0.some)=true then
 some false
 else
 ((bw (p1.Conj==1) (some (p0.conj==2))).bind fun a=>
 if a then
 some a
 else
 (bw p1.Pict (some (p0.pict==2))).bind fun c=>
 some c).bind fun e=>
 if e then
 some true
 else
 (fu p0.last p1.Break).bind fun b=>
 if (b==1)=true then
 some true
 else
 if (b==2)=true then
 (bw (p0.last==6) (some p0.odd)).bind fun d=>
 some d
 else
 some false
theorem nk {b:Nat}{r0_0:Value}{r0_1:Value}{r0_2:Value}{r0_3:Value}{r0_4:Value}{r0_5:Value}{r0_11:Value}(a:bv) (e:an) (O0:Own c0 G ((Eb b 115 [r0_0,r0_1,r0_2,r0_3,r0_4,r0_5,B a.some,I a.last,I a.pict,I a.conj,B a.odd,r0_11])::F)){r:Bool}(H:dg a e=some r): RU 252 #[.pointer (some ⟨b,6,none⟩),.agg #[I e.Break,B e.Pict,I e.Conj,I e.East]] c0 fun c v=>Own c G ((Eb b 115 [r0_0,r0_1,r0_2,r0_3,r0_4,r0_5,B a.some,I a.last,I a.pict,I a.conj,B a.odd,r0_11])::F)/\v=B r:=by
 unfold dg at H;refine en func252 rfl rfl<|sr<|me (bx 162 [I e.Break,B e.Pict,I e.Conj,I e.East] O0) ?_;rintro v5 s l4 ⟨p,rfl,q,M⟩;refine Ri false<|Rx<|sr<|vv (Qo b 6)<|Rs b 6<|vx (le1 6 u_4 (q.on 0 rfl))<|Ri (!a.some)<|RF H (fun h6 H=>?_) (fun h6 H=>?_)
 ·refine Ru false<|RD<|thr ?_;cases H;exact Rz s ⟨q,rfl⟩
 refine RG<|RM<|bn H fun P f d=>W.seqJ (Jn s fun c l=>Own c G ((Eb b 115 [r0_0,r0_1,r0_2,r0_3,r0_4,r0_5,B a.some,I a.last,I a.pict,I a.conj,B a.odd,r0_11])::F)/\l= [(0,.pointer (some ⟨b,6,none⟩)),(3,Q p),(10,B P)]) ?_ ?_
 ·refine W.seq<|bn f fun z h9 f=>W.join (Jn s fun c l=>Own c G ((Eb b 115 [r0_0,r0_1,r0_2,r0_3,r0_4,r0_5,B a.some,I a.last,I a.pict,I a.conj,B a.odd,r0_11])::F)/\l= [(0,.pointer (some ⟨b,6,none⟩)),(3,Q p),(10,B z)]) ?_ ?_
  ·clear f;refine W.region<|Rs p (0+2)<|vx (l1 u_3 (M 2 _ rfl))<|Ri (e.Conj==1) ?_;rcases bo (e.Conj==1) with j|j
   ·have R:=anT j h9;refine vb j<|wa (Qo b 6)<|wa (Qo b 6)<|wa (Qo b 9)<|wn<|vx (le1 9 u_3 (q.on 0 rfl))<|Rn (a.conj==2) ?_;cases R;exact Rk (a.conj==2)<|Ry s ⟨q,rfl⟩
   obtain rfl:=anF j h9;exact vb j<|pz<|pz<|ps<|Rk false<|Ry s ⟨q,rfl⟩
  rintro E N ⟨o,u0,_,rfl,y0,rfl,n,rfl⟩;refine nrm<|cn f (fun e0 f=>?_) (fun e0 f=>?_)
  ·refine RG ?_;cases f;exact jn o ⟨n,rfl⟩
  refine bn f fun A x f=>W.join (Jn o fun c l=>Own c G ((Eb b 115 [r0_0,r0_1,r0_2,r0_3,r0_4,r0_5,B a.some,I a.last,I a.pict,I a.conj,B a.odd,r0_11])::F)/\l= [(0,.pointer (some ⟨b,6,none⟩)),(3,Q p),(10,B A)]) ?_ ?_
  ·clear f;refine W.region<|Rs p (0+1)<|vx (l1 u_4 ((mm M) 1 _ rfl)) ?_;rcases bo e.Pict with k|k
   ·have S:=anT k x;refine vb k<|wa (Qo b 6)<|wa (Qo b 6)<|wa (Qo b 8)<|wn<|vx (le1 8 u_3 (n.on 0 rfl))<|Rn (a.pict==2) ?_;cases S;exact Rk (a.pict==2)<|Ry o ⟨n,rfl⟩
   obtain rfl:=anF k x;exact vb k<|pz<|pz<|ps<|Rk false<|Ry o ⟨n,rfl⟩
  rintro E N ⟨Z,v0,_,rfl,z0,rfl,U,rfl⟩;refine nrm ?_;cases f;exact jn Z ⟨U,rfl⟩
 rintro E N ⟨a0,w0,_,rfl,a1,rfl,t,rfl⟩;refine cn d (fun f0 d=>?_) (fun f0 d=>?_)
 ·refine Ru true<|RD<|RK ?_;cases d;exact Rz a0 ⟨t,rfl⟩
 refine W.skip<|RH<|W.seq<|W.seq<|rD [] (Kp G0 [(Eb b 115 [r0_0,r0_1,r0_2,r0_3,r0_4,r0_5,B a.some,I a.last,I a.pict,I a.conj,B a.odd,r0_11])]) t ?_;intro b0 c1 u;have l0:=(Kp.cons (u.on 0 rfl) Kp.nil0);refine ta 0 (.pointer (some ⟨b,6,none⟩))<|ta 1 (Qo b 6)<|ta 2 (Qo b 7)<|tkx 3 l0 (fun c' k0 hk=>le1 7 u_3 (hk.on 0 rfl)) (ta 4 (Q p)<|tx 5 (fun c' k0=>l1 u_3 ((mm M) 0 _ rfl))<|bn d fun i g0 d=>o1 6 (gc 6 (vu u a.last e.Break g0) ?_));rintro v44 h d1 ⟨g,rfl⟩;have m0:=(Kp.cons (g.on 0 rfl) Kp.nil0);refine ⟨.inr m0,dn (nrm<|W.block<|sr<|Rk (i==1)<|RF d (fun h0 d=>?_) (fun h0 d=>?_))⟩
 ·refine Ru true<|RD<|RK ?_;cases d;exact Rz h ⟨g,rfl⟩
 refine sr<|Rk (i==2)<|RF d (fun i0 d=>?_) (fun i0 d=>?_)
 ·refine W.seq<|bn d fun D y d=>W.join (Jn h fun c l=>Own c G ((Eb b 115 [r0_0,r0_1,r0_2,r0_3,r0_4,r0_5,B a.some,I a.last,I a.pict,I a.conj,B a.odd,r0_11])::F)/\l= [(4,B D)]) ?_ ?_
  ·clear d;refine W.region<|vv (Qo b 6)<|Rs b 7<|vx (le1 7 u_3 (g.on 0 rfl))<|Ri (a.last==6) ?_;rcases bo (a.last==6) with m|m
   ·have T:=anT m y;refine vb m<|wa (Qo b 6)<|wa (Qo b 6)<|wa (Qo b 10)<|wn<|vx (le1 10 u_4 (g.on 0 rfl)) ?_;cases T;exact Rk a.odd<|Ry h ⟨g,rfl⟩
   obtain rfl:=anF m y;exact vb m<|pz<|pz<|Rk false<|Ry h ⟨g,rfl⟩
  rintro E N ⟨d0,x0,_,rfl,e1,rfl,X,rfl⟩;refine nrm<|W.ret<|RK ?_;cases d;exact Rz d0 ⟨X,rfl⟩
 refine W.skip<|RH<|Ru false<|RD ?_;cases d;exact Rz h ⟨g,rfl⟩
def cX (p0:bv) (p1:an):Option Int:=
 if p1.Pict then
 some 1
 else
 (bw (p0.pict==1) (some (p1.Break==4))).bind fun a=>
 if a then
 some 1
 else
 (bw (p0.pict==1) (some (p1.Break==5))).bind fun b=>
 if b then
 some 2
 else
 some 0
theorem mp {b:Nat}{r0_0:Value}{r0_1:Value}{r0_2:Value}{r0_3:Value}{r0_4:Value}{r0_5:Value}{r0_11:Value}(a:bv) (d:an) (A:Own c0 G ((Eb b 115 [r0_0,r0_1,r0_2,r0_3,r0_4,r0_5,B a.some,I a.last,I a.pict,I a.conj,B a.odd,r0_11])::F)){r:Int}(H:cX a d=some r): RU 253 #[.pointer (some ⟨b,6,none⟩),.agg #[I d.Break,B d.Pict,I d.Conj,I d.East]] c0 fun c v=>Own c G ((Eb b 115 [r0_0,r0_1,r0_2,r0_3,r0_4,r0_5,B a.some,I a.last,I a.pict,I a.conj,B a.odd,r0_11])::F)/\v=I r:=by
 unfold cX at H;refine en func253 rfl rfl<|sr<|me (bx 162 [I d.Break,B d.Pict,I d.Conj,I d.East] A) ?_;rintro v5 k T ⟨j,rfl,i,s⟩;refine Ro 0<|Rx<|W.block<|sr<|Rs j (0+1)<|vx (l1 u_4 (s 1 _ rfl))<|Ri d.Pict<|RF H (fun E H=>?_) (fun E H=>?_)
 ·refine RA 1<|RD<|RK ?_;cases H;exact Rz k ⟨i,rfl⟩
 refine W.seq<|bn H fun p y H=>W.join (Jn k fun c l=>Own c G ((Eb b 115 [r0_0,r0_1,r0_2,r0_3,r0_4,r0_5,B a.some,I a.last,I a.pict,I a.conj,B a.odd,r0_11])::F)/\l= [(0,.pointer (some ⟨b,6,none⟩)),(3,Q j),(8,B p)]) ?_ ?_
 ·clear H;refine W.region<|vv (Qo b 6)<|Rs b 8<|vx (le1 8 u_3 (i.on 0 rfl))<|Ri (a.pict==1) ?_;rcases bo (a.pict==1) with h|h
  ·have z:=anT h y;refine vb h<|wa (Q j)<|wn<|vx (l1 u_3 (s 0 _ rfl))<|Rn (d.Break==4) ?_;cases z;exact Rk (d.Break==4)<|Ry k ⟨i,rfl⟩
  obtain rfl:=anF h y;exact vb h<|pz<|ps<|Rk false<|Ry k ⟨i,rfl⟩
 rintro D M ⟨g,N,_,rfl,R,rfl,f,rfl⟩;refine nrm<|cn H (fun u H=>?_) (fun u H=>?_)
 ·refine RA 1<|RD<|RK ?_;cases H;exact Rz g ⟨f,rfl⟩
 refine W.seq<|bn H fun q o H=>W.join (Jn g fun c l=>Own c G ((Eb b 115 [r0_0,r0_1,r0_2,r0_3,r0_4,r0_5,B a.some,I a.last,I a.pict,I a.conj,B a.odd,r0_11])::F)/\l= [(19,B q)]) ?_ ?_
 ·clear H;refine W.region<|vv (Qo b 6)<|Rs b 8<|vx (le1 8 u_3 (f.on 0 rfl))<|Ri (a.pict==1) ?_;rcases bo (a.pict==1) with e|e
  ·have t:=anT e o;refine vb e<|wa (Q j)<|wn<|vx (l1 u_3 ((mm s) 0 _ rfl))<|Rn (d.Break==5) ?_;cases t;exact Rk (d.Break==5)<|Ry g ⟨f,rfl⟩
  obtain rfl:=anF e o;exact vb e<|pz<|ps<|Rk false<|Ry g ⟨f,rfl⟩
 rintro D M ⟨n,P,_,rfl,S,rfl,m,rfl⟩;refine nrm<|cn H (fun x H=>?_) (fun x H=>?_)
 ·refine RA 2<|RD<|RK ?_;cases H;exact Rz n ⟨m,rfl⟩
 refine W.skip<|RH<|RA 0<|RD ?_;cases H;exact Rz n ⟨m,rfl⟩
def cN (p0:bv) (p1:an):Option Int:=
 if (p1.Conj==1)=true then
 some 1
 else
 if (p0.conj==0)=true then
 some 0
 else
 if (p1.Conj==2)=true then
 some 2
 else
 if (p1.Conj==3)=true then
 some p0.conj
 else
 some 0
theorem lW {b:Nat}{r0_0:Value}{r0_1:Value}{r0_2:Value}{r0_3:Value}{r0_4:Value}{r0_5:Value}{r0_11:Value}(d:bv) (a:an) (i:Own c0 G ((Eb b 115 [r0_0,r0_1,r0_2,r0_3,r0_4,r0_5,B d.some,I d.last,I d.pict,I d.conj,B d.odd,r0_11])::F)){r:Int}(H:cN d a=some r): RU 254 #[.pointer (some ⟨b,6,none⟩),.agg #[I a.Break,B a.Pict,I a.Conj,I a.East]] c0 fun c v=>Own c G ((Eb b 115 [r0_0,r0_1,r0_2,r0_3,r0_4,r0_5,B d.some,I d.last,I d.pict,I d.conj,B d.odd,r0_11])::F)/\v=I r:=by
 unfold cN at H;refine en func254 rfl rfl<|sr<|me (bx 162 [I a.Break,B a.Pict,I a.Conj,I a.East] i) ?_;rintro v5 f n ⟨g,rfl,e,h⟩;refine Ro 0<|Rx<|W.block<|sr<|Rs g (0+2)<|vx (l1 u_3 (h 2 _ rfl))<|Rk (a.Conj==1)<|RF H (fun j H=>?_) (fun j H=>?_)
 ·refine RA 1<|RD<|RK ?_;cases H;exact Rz f ⟨e,rfl⟩
 refine sr<|vv (Qo b 6)<|Rs b 9<|vx (le1 9 u_3 (e.on 0 rfl))<|Rk (d.conj==0)<|RF H (fun k H=>?_) (fun k H=>?_)
 ·refine RA 0<|RD<|RK ?_;cases H;exact Rz f ⟨e,rfl⟩
 refine sr<|Rs g (0+2)<|vx (l1 u_3 (h 2 _ rfl))<|Rk (a.Conj==2)<|RF H (fun l H=>?_) (fun l H=>?_)
 ·refine RA 2<|RD<|RK ?_;cases H;exact Rz f ⟨e,rfl⟩
 refine sr<|Rs g (0+2)<|vx (l1 u_3 (h 2 _ rfl))<|Rk (a.Conj==3)<|RF H (fun m H=>?_) (fun m H=>?_)
 ·refine sr<|vv (Qo b 6)<|Rs b 9<|vx (le1 9 u_3 (e.on 0 rfl))<|Ro d.conj<|RD<|RK ?_;cases H;exact Rz f ⟨e,rfl⟩
 refine W.skip<|RH<|RA 0<|RD ?_;cases H;exact Rz f ⟨e,rfl⟩
def cI (p0:bv) (p1:an):Option (bv×Bool):=
 if false then
 some (p0,false)
 else
 (dg p0 p1).bind fun d=>
 (cX p0 p1).bind fun e=>
 (cN p0 p1).bind fun f=>
 (bw (p1.Break==6) ((bw p0.some (some (p0.last==6))).bind fun b=>
 (bw b (some p0.odd)).bind fun c=>
 some (!c))).bind fun a=>
 some ((⟨true,p1.Break,e,f,a⟩:bv),d)
theorem nC {a:Nat}{r0_0:Value}{r0_1:Value}{r0_2:Value}{r0_3:Value}{r0_4:Value}{r0_5:Value}{r0_11:Value}(b:bv) (f:an) (O0:Own c0 G ((Eb a 115 [r0_0,r0_1,r0_2,r0_3,r0_4,r0_5,B b.some,I b.last,I b.pict,I b.conj,B b.odd,r0_11])::F)){r:bv×Bool}(H:cI b f=some r): RU 198 #[.pointer (some ⟨a,6,none⟩),.agg #[I f.Break,B f.Pict,I f.Conj,I f.East]] c0 fun c v=>Own c G ((Eb a 115 [r0_0,r0_1,r0_2,r0_3,r0_4,r0_5,B r.1.some,I r.1.last,I r.1.pict,I r.1.conj,B r.1.odd,r0_11])::F)/\v=B r.2:=by
 unfold cI at H;refine en func198 rfl rfl<|sr<|me (bx 162 [I f.Break,B f.Pict,I f.Conj,I f.East] O0) ?_;rintro v5 c4 l4 ⟨A,rfl,O2,o⟩;refine Ri false<|Rx<|sr<|Rs a 6<|Ri false<|wln<|W.cond (t:=false) (by kernel_rfl) (fun E=>?_) (fun E=>?_)
 ·cases E
 have H:=ie E H;refine RG<|sr<|Rs a 6<|vx (lN 162 o)<|bn H fun i h8 H=>cl (nk b f O2 h8) ?_;rintro v14 j1 n1 ⟨P,rfl⟩;refine Ri i<|Rx<|rD [] (Kp G0 []) P ?_;intro i0 q1 R;have f2:Kp G0 [] i0:=Kp.nil0;refine ta 0 (.pointer (some ⟨a,6,none⟩))<|ta 1 (Qo a 6)<|ta 2 (Qo a 6)<|tx 3 (fun c' z=>lN 162 (mm o))<|ta 5 (Qo a 6)<|tx 6 (fun c' z=>lN 162 (mm o))<|bn H fun d v0 H=>o1 4 (gc 4 (mp b f R v0) ?_);rintro v25 j0 s1 ⟨S,rfl⟩;have y0:Kp G0 [] j0:=Kp.nil0;refine ⟨.inr y0,bn H fun e w0 H=>o1 7 (gc 7 (lW b f S w0) ?_)⟩;rintro v34 k0 t1 ⟨T,rfl⟩;have z0:Kp G0 [] k0:=Kp.nil0;refine ⟨.inr z0,ta 8 (.pointer (some ⟨a,6,none⟩)) (ta 9 (Qo a 8)<|o1 10 (gD 10 (sC 3 8 (I d) [r0_0,r0_1,r0_2,r0_3,r0_4,r0_5,B b.some,I b.last,I d,I b.conj,B b.odd,r0_11] 0 T ⟨rfl,trivial⟩) ?_))⟩;rintro l0 u1 U;have a1:Kp G0 [] l0:=Kp.nil0;refine ⟨.inr a1,ta 11 (.pointer (some ⟨a,6,none⟩)) (ta 12 (Qo a 9)<|o1 13 (gD 13 (sC 3 9 (I e) [r0_0,r0_1,r0_2,r0_3,r0_4,r0_5,B b.some,I b.last,I d,I e,B b.odd,r0_11] 0 U ⟨rfl,trivial⟩) ?_))⟩;rintro p v1 h;have c1:Kp G0 [] p:=Kp.nil0;refine ⟨.inr c1,dn (RQ<|bn H fun n s H=>W.join (Jn p fun c l=>Own c G ((Eb a 115 [r0_0,r0_1,r0_2,r0_3,r0_4,r0_5,B b.some,I b.last,I d,I e,B n,r0_11])::F)/\l= [(0,.pointer (some ⟨a,6,none⟩)),(3,Q A),(5,B i)]) ?_ ?_)⟩
 ·clear H;refine W.region<|Rs a 6<|va (Q A)<|vx (l1 u_3 ((mm o) 0 _ rfl))<|Ri (f.Break==6) ?_;rcases bo (f.Break==6) with j|j
  ·have g:=anT j s;refine vb j<|wa (Qo a 6)<|wa (Qo a 6)<|wa (Qo a 6)<|wn<|vx (le1 6 u_4 (h.on 0 rfl))<|wn<|bn g fun h1 u g=>?_;rcases bo b.some with k|k
   ·have M:=anT k u;refine vb k<|wa (Qo a 6)<|wa (Qo a 6)<|wa (Qo a 7)<|wn<|vx (le1 7 u_3 (h.on 0 rfl))<|Rn (b.last==6)<|wn ?_;cases M;refine Ri (b.last==6)<|wn<|bn g fun D x g=>?_;rcases bo (b.last==6) with m|m
    ·have N:=anT m x;refine vb m<|wa (Qo a 6)<|wa (Qo a 6)<|wa (Qo a 10)<|wn<|vx (le1 10 u_4 (h.on 0 rfl))<|wn ?_;cases N;refine Ri b.odd<|Rn (!b.odd) ?_;cases g;refine Ri (!b.odd)<|Rs a 6<|Rs a 10<|md (sC 4 10 (B (!b.odd)) [r0_0,r0_1,r0_2,r0_3,r0_4,r0_5,B b.some,I b.last,I d,I e,B (!b.odd),r0_11] 0 h ⟨rfl,trivial⟩) ?_;rintro m0 w1 X;exact Ry m0 ⟨X,rfl⟩
    obtain rfl:=anF m x;refine vb m<|pz<|pz<|Rn false<|Rn (!false) ?_;cases g;refine Ri (!false)<|Rs a 6<|Rs a 10<|md (sC 4 10 (B (!false)) [r0_0,r0_1,r0_2,r0_3,r0_4,r0_5,B b.some,I b.last,I d,I e,B (!false),r0_11] 0 h ⟨rfl,trivial⟩) ?_;rintro o0 x1 Z;exact Ry o0 ⟨Z,rfl⟩
   obtain rfl:=anF k u;refine vb k<|pz<|pz<|ps<|Rn false<|wn<|bn g fun D x0 g=>?_;have y:false=false:=rfl;obtain rfl:=anF y x0;refine vb y<|pz<|pz<|Rn false<|Rn (!false) ?_;cases g;refine Ri (!false)<|Rs a 6<|Rs a 10<|md (sC 4 10 (B (!false)) [r0_0,r0_1,r0_2,r0_3,r0_4,r0_5,B b.some,I b.last,I d,I e,B (!false),r0_11] 0 h ⟨rfl,trivial⟩) ?_;rintro q0 y1 a0;exact Ry q0 ⟨a0,rfl⟩
  obtain rfl:=anF j s;refine vb j<|pz<|pz<|pz<|pz<|pz<|pz<|pz<|pz<|pz<|Ri false<|Rs a 6<|Rs a 10<|md (sC 4 10 (B false) [r0_0,r0_1,r0_2,r0_3,r0_4,r0_5,B b.some,I b.last,I d,I e,B false,r0_11] 0 h ⟨rfl,trivial⟩) ?_;rintro s0 z1 b0;exact Ry s0 ⟨b0,rfl⟩
 rintro e_ w_ ⟨k1,m1,_,rfl,b2,rfl,d0,rfl⟩;refine RQ<|rD [] (Kp G0 []) d0 ?_;intro t0 c2 e0;have g2:Kp G0 [] t0:=Kp.nil0;refine ta 0 (.pointer (some ⟨a,6,none⟩))<|ta 1 (Qo a 6)<|ta 2 (Q A)<|tx 3 (fun c' z=>l1 u_3 ((mm o) 0 _ rfl))<|ta 4 (Qo a 6)<|ta 5 (Qo a 6)<|o1 6 (gD 6 (sC 4 6 (B true) [r0_0,r0_1,r0_2,r0_3,r0_4,r0_5,B true,I b.last,I d,I e,B n,r0_11] 0 e0 ⟨rfl,trivial⟩) ?_);rintro u0 d2 f0;have d1:Kp G0 [] u0:=Kp.nil0;refine ⟨.inr d1,ta 7 (.pointer (some ⟨a,6,none⟩)) (ta 8 (Qo a 7)<|o1 9 (gD 9 (sC 3 7 (I f.Break) [r0_0,r0_1,r0_2,r0_3,r0_4,r0_5,B true,I f.Break,I d,I e,B n,r0_11] 0 f0 ⟨rfl,trivial⟩) ?_))⟩;rintro q e2 g0;have e1:Kp G0 [] q:=Kp.nil0;refine ⟨.inr e1,dn (nrm<|sr<|Rk i<|RD ?_)⟩;cases H;exact Rz q ⟨g0,rfl⟩
def gH (sg:Sto) (p0:Option Nat) (p1:Int):Option Sto:=
 (ir p1).bind fun s=>
 if s then
 (du sg p0).bind fun k=>
 (p0).bind fun r=>
 (k.feed_Feeder[r]?).bind fun n=>
 (qk k n.pen p1).bind fun p=>
 some p.1
 else
 (oQ p1).bind fun e=>
 (p0).bind fun h=>
 (sg.feed_Feeder[h]?).bind fun a=>
 (cI a.seg e).bind fun j=>
 (sg.set_feed_Feeder h (⟨a.pen,a.dec,j.1,a.open_⟩:bE)).bind fun b=>
 (bw j.2 (some (!a.open_.isNone))).bind fun l=>
 if l then
 (p0).bind fun m=>
 (b.feed_Feeder[m]?).bind fun i=>
 (dS b i.open_ i.pen p1 e).bind fun q=>
 some q.1
 else
 (p0).bind fun c=>
 (b.feed_Feeder[c]?).bind fun o=>
 (lM b o.pen p1 e).bind fun f=>
 (f.1.feed_Feeder[c]?).bind fun d=>
 (f.1.set_feed_Feeder c (⟨d.pen,d.dec,d.seg,f.2⟩:bE)).bind fun g=>
 some g
theorem tH (O0:Own c0 G F) (R0:Rel c0 sg G) (hG:Gl [3,7] c0) (p0:Option Nat) (f:Int){r:Sto}(U:Pt 4 c0 v1 p0) (H:gH sg p0 f=some r): RU 140 #[v1,J f] c0 fun c v=>∃G_:Gm,Own c G_ F/\Rel c r G_/\v= .tuple #[]:=by
 unfold gH at H;refine en func140 rfl rfl<|W.seq<|RB (J f)<|bn H fun f5 h3 H=>cl (pa O0 f h3) ?_;rintro v9 c8 N ⟨O5,rfl⟩;refine RF H (fun x2 H=>?_) (fun x2 H=>?_)
 ·refine RB v1<|bn H fun g5 y2 H=>cl (jC O5 R0.m p0 U.m y2) ?_;rintro v17 u4 l16 ⟨s4,g0,j0,rfl⟩;refine wln<|RB v1<|bn H fun a5 a3 H=>?_;obtain ⟨l0,rfl,z2⟩:=((U.mono (N.trans l16))).get a3;refine vv (Q l0)<|bn H fun z1 b3 H=>?_;obtain ⟨v22,v24,d3,c3,z4⟩:=Rel.open_feed_Feeder j0 b3 z2;refine vx (le1 0 AX (g0.gon d3 0 rfl))<|va (J f)<|bn H fun p4 e3 H=>cl (EV g0 j0 z1.pen f c3 e3) ?_;rintro v33 t2 b5 ⟨e2,i2,s2,rfl⟩;refine RD<|thr ?_;cases H;exact r0<|qq t2 ⟨e2,i2,s2,rfl⟩
 refine RG<|RB (J f)<|bn H fun a f3 H=>cl (yf O5 f f3) ?_;rintro v40 v4 s ⟨j2,rfl⟩;refine me (al 162 [I 0,B false,I 0,I 0] j2) ?_;rintro v44 w4 t ⟨h,rfl,k2⟩;refine md (sA 162 [I a.Break,B a.Pict,I a.Conj,I a.East] 0 k2 ⟨rfl,rfl,rfl,rfl,trivial⟩) ?_;rintro u2 u l2;refine Rx<|W.seq<|bn H fun f4 g3 H=>bn H fun d i3 H=>bn H fun g j3 H=>bn H fun P k3 H=>bn H fun k1 s0 H=>W.join (Jn u2 fun c l=>∃G_,Own c G_ ((Eb h 162 [I a.Break,B a.Pict,I a.Conj,I a.East])::F)/\l= [(0,v1),(1,J f),(4,Q h),(28,B k1)]/\Rel c P G_) ?_ ?_
 ·clear H;refine rD [4,9] (Kp G0 [(Eb h 162 [I a.Break,B a.Pict,I a.Conj,I a.East])]) l2 ?_;intro v2 Z h0;have w3:=(Kp.cons (h0.on 0 rfl) Kp.nil0);refine ta 0 v1 ?_;obtain ⟨j,rfl,t0⟩:=((U.mono (N.trans (s.trans (t.trans (u.trans Z)))))).get g3;refine ta 1 (Q j)<|ta 2 (Qo j 6)<|tkx 3 w3 (fun p i k=>leN 162 0 [I a.Break,B a.Pict,I a.Conj,I a.East] (k.on 0 rfl)) ?_;obtain ⟨v57,v59,m3,l3,u0⟩:=Rel.open_feed_Feeder (R0.mono (N.trans (s.trans (t.trans (u.trans Z))))) i3 t0;have n2:=h0.borrow 0 m3 rfl;refine o1 4 (gc 4 (nC d.seg a n2 j3) ?_);rintro c5 m0 a0 ⟨o2,rfl⟩;have p2:=o2.giveB 0 rfl;obtain ⟨f0,R,k0,n3,t4⟩:=Rel.put_feed_Feeder p2 (R0.mono (N.trans (s.trans (t.trans (u.trans (Z.trans a0)))))) (E':=[(Eb j 115 [v57,I d.dec.held,I d.dec.needs,.int .u8 d.dec.lo,.int .u8 d.dec.hi,I d.dec.bits,B g.1.some,I g.1.last,I g.1.pict,I g.1.conj,B g.1.odd,v59])]) k3 ⟨j,v57,v59,(tm t0),rfl,(l3.mono a0),(u0.mono a0)⟩;refine ⟨.inl rfl,?_⟩;rcases bo g.2 with q|q
  ·have g2:=anT q s0;refine AC.takeb 5 q rfl (by kernel_rfl) (by kernel_rfl) (fun p i=>(by kernel_rfl)) (ta 6 (Q j)<|ta 7 (Q j)<|ta 8 (Qo j 11)<|o1 9 (gl 9 (le1 11 underlying113 (R.gon n3 0 rfl)) (AC.take 10 (B (!d.open_.isNone)) rfl (by kernel_rfl) (by kernel_rfl) (fun p i=>(by rcases u0.m.cs with ⟨o0,q0⟩|⟨b_,o0,q0⟩ <;> (subst o0; rw [q0]; kernel_rfl))) ?_)));cases g2;exact ta 11 (B (!d.open_.isNone))<|dn (nrm<|jn m0 ⟨f0,R,rfl,k0⟩)
  obtain rfl:=anF q s0;exact AC.takeb 5 q rfl (by kernel_rfl) (by kernel_rfl) (fun p i=>(by kernel_rfl)) (tp 6<|tp 7<|tp 8<|tp 9<|tp 10<|ta 11 (B false)<|dn (nrm<|jn m0 ⟨f0,R,rfl,k0⟩))
 rintro e_ w_ ⟨x4,y4,_,rfl,w0,rfl,E,i0,rfl,M⟩;refine nrm<|cn H (fun o3 H=>?_) (fun o3 H=>?_)
 ·refine W.seq<|rD [10] (Kp E [(Eb h 162 [I a.Break,B a.Pict,I a.Conj,I a.East])]) i0 ?_;intro w2 x0 S;have e0:=(Kp.cons (S.on 0 rfl) (Kp.nil S));refine ta 0 v1<|bn H fun g4 q3 H=>?_;obtain ⟨o,rfl,p3⟩:=((U.mono (N.trans (s.trans (t.trans (u.trans (w0.trans x0))))))).get q3;refine ta 1 (Q o)<|ta 2 (Qo o 11)<|bn H fun b0 s3 H=>?_;obtain ⟨d5,e5,v0,t3,u3⟩:=Rel.open_feed_Feeder (M.mono x0) s3 p3;refine tkx 3 e0 (fun p i k=>le1 11 underlying113 (k.gon v0 0 rfl)) (ta 4 (Q o)<|ta 5 (Q o)<|ta 6 (Q o)<|tkx 7 e0 (fun p i k=>le1 0 AX (k.gon v0 0 rfl)) (ta 8 (J f)<|tkx 9 e0 (fun p i k=>leN 162 0 [I a.Break,B a.Pict,I a.Conj,I a.East] (k.on 0 rfl)) (bn H fun q4 v3 H=>o1 10 (gc 10 (sF S M.m (hG.m.le (by decide)) b0.open_ b0.pen f a u3 t3 v3) ?_))));rintro k4 h1 i4 ⟨f2,q2,f1,rfl⟩;refine ⟨.inl rfl,dn (nrm<|W.ret<|thr ?_)⟩;cases H;have z0:=q2.sD 1 [];exact r0<|qq h1 ⟨f2,z0,f1,rfl⟩
 refine RG<|rD [7,10] (Kp E [(Eb h 162 [I a.Break,B a.Pict,I a.Conj,I a.East])]) i0 ?_;intro i1 X x;have d0:=(Kp.cons (x.on 0 rfl) (Kp.nil x));refine ta 0 v1<|ta 1 v1<|bn H fun h4 m1 H=>?_;obtain ⟨e,rfl,y⟩:=((U.mono (N.trans (s.trans (t.trans (u.trans (w0.trans X))))))).get m1;refine ta 2 (Q e)<|ta 3 (Q e)<|bn H fun b2 n1 H=>?_;obtain ⟨l4,m4,s1,q1,b4⟩:=Rel.open_feed_Feeder (M.mono X) n1 y;refine tkx 4 d0 (fun p i k=>le1 0 AX (k.gon s1 0 rfl)) (ta 5 (J f)<|tkx 6 d0 (fun p i k=>leN 162 0 [I a.Break,B a.Pict,I a.Conj,I a.East] (k.on 0 rfl)) (bn H fun r4 t1 H=>o1 7 (gc 7 (yM x M.m (hG.m.le (by decide)) b2.pen f a q1 t1) ?_)));rintro n4 a4 j4 ⟨_,x3,a1,T,rfl,z⟩;refine ⟨.inl rfl,ta 8 (Q e) (ta 9 (Qo e 11) ?_)⟩;obtain ⟨n,rfl⟩:=(z).form;refine bn H fun b u1 H=>?_;obtain ⟨D,o4,x1,w1,c4⟩:=Rel.open_feed_Feeder T u1 (tm y);refine o1 10 (gD 10 (gC 113 11 (.pointer n) [D,I b.dec.held,I b.dec.needs,.int .u8 b.dec.lo,.int .u8 b.dec.hi,I b.dec.bits,B b.seg.some,I b.seg.last,I b.seg.pict,I b.seg.conj,B b.seg.odd,.pointer n] 0 a1 x1 ⟨z.one,trivial⟩) ?_);rintro j1 A b1;refine bn H fun d2 y1 H=>?_;obtain ⟨y0,c1,g1,d4,z3⟩:=Rel.put_feed_Feeder b1 (T.mono A) (E':=[(Eb e 115 [D,I b.dec.held,I b.dec.needs,.int .u8 b.dec.lo,.int .u8 b.dec.hi,I b.dec.bits,B b.seg.some,I b.seg.last,I b.seg.pict,I b.seg.conj,B b.seg.odd,.pointer n])]) y1 ⟨e,D,(.pointer n),(tm y),rfl,(w1.mono A),(z.mono A)⟩;refine ⟨.inl rfl,dn ?_⟩;cases H;have d1:=c1.sD 1 [];exact RN j1 ⟨y0,d1,g1,rfl⟩
def gE (sg:Sto) (p0:Option Nat) (p1:List Int):Option Sto:=
 (cm (σ:=Int×Sto) (τ:=Sto) (((p1.length:Int)-0).toNat+1) (fun a=>
 if decide (a.1<(p1.length:Int)) then
 (idx p1 a.1).bind fun d=>
 (gH a.2 p0 d).bind fun b=>
 some (.inl ((w64 (a.1+1)),b))
 else
 some (.inr a.2)) (0,sg)).bind fun c=>
 some c
theorem pB (S:Own c0 G F) (T:Rel c0 sg G) (hG:Gl [3,7] c0) (j:Option Nat) (d:List Int){r:Sto}(Z:Pt 4 c0 v1 j) (h:Sl (RI .i32) c0 v3 d) (H:gE sg j d=some r): RU 94 #[v1,v3] c0 fun c v=>∃G_:Gm,Own c G_ F/\Rel c r G_/\v= .tuple #[]:=by
 unfold gE at H;refine en func94 rfl rfl<|RB v3<|vx (ln 3 cD h)<|Ro 0<|wln<|W.block<|bn H fun i0 N p=>lp N (fun a=>Jn c0 fun c l=>∃G_,Own c G_ F/\l= [(0,v1),(6,v3),(7,I (d.length:Int)),(8,I a.1)]/\Rel c a.2 G_) (fun i ex e w=>ex= .exit 0/\(Jn c0 fun c l=>∃G_,Own c G_ F/\l= []/\Rel c i G_) e w) ?_ ?_ ?_
 ·clear p N;intro a j0 A R H;revert A R;rintro X w_ ⟨U,g8,_,rfl,l7,rfl,k,t,rfl,f⟩;refine sr<|Rj (a.1<(d.length:Int))<|Rx<|cn H (fun D H=>?_) (fun D H=>?_)
  ·refine RG<|RM<|sr<|bn H fun b g H=>?_;obtain ⟨b0,E,P⟩:=Sl.at (h.mono l7) (aP g);obtain rfl:=E;refine vx (ix cD h.m g)<|vx (l1 nB (P 0 _ rfl))<|va (J b)<|wln<|Rv v1<|va (J b)<|bn H fun e0 M H=>cl (tH t f (hG.m.le (by decide)) j b Z.m M) ?_;rintro v24 y g0 ⟨n,q,u,rfl⟩;refine WL.nil<|RH<|W.region<|Rq (a.1+1)<|WL.nil ?_;cases H;exact ⟨_,rfl,jn y ⟨n,q,rfl,u⟩⟩
  refine W.exit<|thx ?_;cases H;exact ⟨_,rfl,rfl,jn U ⟨k,t,rfl,f⟩⟩
 ·exact jn c0 ⟨G,S,rfl,T⟩
 rintro _ X w_ ⟨rfl,z,f0,_,rfl,h0,rfl,o,s,rfl,x⟩;refine bke ?_;cases p;exact RN z ⟨o,s,x,rfl⟩
def jX (p0:Int):Option Int:=
 ((bw (decide (p0>=240)) (some (decide (p0<=244)))).bind fun a=>
 if a then
 some ((w64 ((w64 ((w64 ((w64 (0+1))+1))+1))+1)))
 else
 (bw (decide (p0>=224)) (some (decide (p0<240)))).bind fun b=>
 if b then
 some ((w64 ((w64 ((w64 (0+1))+1))+1)))
 else
 (bw (decide (p0>=194)) (some (decide (p0<224)))).bind fun c=>
 if c then
 some ((w64 ((w64 (0+1))+1)))
 else
 if decide (p0<128) then
 some ((w64 (0+1)))
 else
 some 0).bind fun d=>
 some d
theorem qN (A:Own c0 G F) (a:Int){r:Int}(H:jX a=some r): RU 201 #[.int .u8 a] c0 fun c v=>Own c G F/\v=I r:=by
 unfold jX at H;refine en func201 rfl rfl<|RA 0<|wln<|RA 0<|wln<|bn H fun k b T=>W.seqJ (Jn c0 fun c l=>Own c G F/\l= [(3,I k)]) ?_ ?_
 ·refine W.block<|RM<|RM<|RM<|RM<|W.seq<|W.seq<|W.seq<|bn b fun q P b=>W.join (Jn c0 fun c l=>Own c G F/\l= [(0,.int .u8 a),(3,I 0),(4,B q)]) ?_ ?_
  ·clear b;refine Rv (.int .u8 a)<|Rj (a>=240) ?_;rcases bo (decide (a>=240)) with j|j
   ·have U:=anT j P;refine vb j<|wa (.int .u8 a)<|Rm (a<=244) ?_;cases U;exact vv (B (decide (a<=244)))<|Ry c0 ⟨A,rfl⟩
   obtain rfl:=anF j P;exact vb j<|pz<|Rk false<|Ry c0 ⟨A,rfl⟩
  rintro u x ⟨m,g7,_,rfl,l6,rfl,p,rfl⟩;refine nrm<|cn b (fun M b=>?_) (fun M b=>?_)
  ·refine W.exit<|thx<|thx<|RJ<|RC 0<|Rq (0+1)<|WL.nil<|RH<|W.region<|Rt (0+1)<|Rq ((w64 (0+1))+1)<|WL.nil<|RH<|W.region<|Rt ((w64 (0+1))+1)<|Rq ((w64 ((w64 (0+1))+1))+1)<|WL.nil<|RH<|sr<|Rt ((w64 ((w64 (0+1))+1))+1)<|Rq ((w64 ((w64 ((w64 (0+1))+1))+1))+1)<|wln<|W.exit<|RJ ?_;cases b;exact jn m ⟨p,rfl⟩
  refine RG<|W.seq<|W.seq<|bn b fun s n b=>W.join (Jn m fun c l=>Own c G F/\l= [(0,.int .u8 a),(3,I 0),(11,B s)]) ?_ ?_
  ·clear b;refine Rv (.int .u8 a)<|Rj (a>=224) ?_;rcases bo (decide (a>=224)) with d|d
   ·have y:=anT d n;refine vb d<|wa (.int .u8 a)<|Rm (a<240) ?_;cases y;exact vv (B (decide (a<240)))<|Ry m ⟨p,rfl⟩
   obtain rfl:=anF d n;exact vb d<|pz<|Rk false<|Ry m ⟨p,rfl⟩
  rintro u x ⟨f,X,_,rfl,l16,rfl,g,rfl⟩;refine nrm<|cn b (fun N b=>?_) (fun N b=>?_)
  ·refine W.exit<|thx<|thx<|bko rfl (thx<|RJ<|RC 0<|Rq (0+1)<|WL.nil<|RH<|W.region<|Rt (0+1)<|Rq ((w64 (0+1))+1)<|WL.nil<|RH<|sr<|Rt ((w64 (0+1))+1)<|Rq ((w64 ((w64 (0+1))+1))+1)<|wln<|W.exit<|RJ ?_);cases b;exact jn f ⟨g,rfl⟩
  refine RG<|W.seq<|W.seq<|bn b fun t o b=>W.join (Jn f fun c l=>Own c G F/\l= [(0,.int .u8 a),(3,I 0),(18,B t)]) ?_ ?_
  ·clear b;refine Rv (.int .u8 a)<|Rj (a>=194) ?_;rcases bo (decide (a>=194)) with e|e
   ·have z:=anT e o;refine vb e<|wa (.int .u8 a)<|Rm (a<224) ?_;cases z;exact vv (B (decide (a<224)))<|Ry f ⟨g,rfl⟩
   obtain rfl:=anF e o;exact vb e<|pz<|Rk false<|Ry f ⟨g,rfl⟩
  rintro u x ⟨i,Z,_,rfl,b0,rfl,h,rfl⟩;refine nrm<|cn b (fun R b=>?_) (fun R b=>?_)
  ·refine W.exit<|thx<|thx<|bko rfl (thx<|bko rfl (thx<|RJ<|RC 0<|Rq (0+1)<|WL.nil<|RH<|sr<|Rt (0+1)<|Rq ((w64 (0+1))+1)<|wln<|W.exit<|RJ ?_));cases b;exact jn i ⟨h,rfl⟩
  refine RG<|RB (.int .u8 a)<|vv (B (decide (a<128)))<|RF b (fun S b=>?_) (fun S b=>?_)
  ·refine W.exit<|thx<|bko rfl (thx<|bko rfl (thx<|bko rfl (thx<|RJ<|RA 0<|Rq (0+1)<|wln<|W.exit<|RJ ?_)));cases b;exact jn i ⟨h,rfl⟩
  refine RG<|W.exit<|bko rfl (thx<|bko rfl (thx<|bko rfl (thx<|bko rfl (thx<|RJ ?_))));cases b;exact jn i ⟨h,rfl⟩
 rintro u x ⟨E,a0,_,rfl,d0,rfl,D,rfl⟩;refine sr<|vv (I k)<|RD ?_;cases T;exact Rz E ⟨D,rfl⟩
def mV (p0:Int):Option Int:=
 (jX p0).bind fun a=>
 if (a==0)=true then
 some 0
 else
 if (a==1)=true then
 some (w64 p0)
 else
 (shn (w64 (7-a))).bind fun b=>
 some (fP .i64 (w64 p0) (w64 ((w64 (1*2 ^ (min b 64)))-1)))
theorem Av (j:Own c0 G F) (e:Int){r:Int}(H:mV e=some r): RU 202 #[.int .u8 e] c0 fun c v=>Own c G F/\v=I r:=by
 unfold mV at H;refine en func202 rfl rfl<|RA 0<|wln<|RB (.int .u8 e)<|bn H fun d k H=>cl (qN j e k) ?_;rintro v7 h n ⟨g,rfl⟩;refine Ro d<|wln<|RA d<|wln<|W.block<|sr<|Rk (d==0)<|RF H (fun l H=>?_) (fun l H=>?_)
 ·refine RA 0<|RD<|bkr ?_;cases H;exact Rz h ⟨g,rfl⟩
 refine sr<|Rk (d==1)<|RF H (fun m H=>?_) (fun m H=>?_)
 ·refine RB (.int .u8 e)<|Rq e<|RD<|bkr ?_;cases H;exact Rz h ⟨g,rfl⟩
 refine RB (.int .u8 e)<|Rt e<|Ro d<|Rt (7-d)<|bn H fun f i H=>vr (I (w64 (1*2 ^ (min f 64)))) (HI (k':= .i64) (a:=1) (b:=(w64 (7-d))) i (by kernel_rfl) _)<|Rt ((w64 (1*2 ^ (min f 64)))-1)<|vv (I (fP .i64 (w64 e) (w64 ((w64 (1*2 ^ (min f 64)))-1))))<|RD<|bkr ?_;cases H;exact Rz h ⟨g,rfl⟩
def kX (p0:Int):Option (Int×Int):=
 (jX p0).bind fun b=>
 if decide (b<2) then
 some (0,0)
 else
 (if (p0==224)=true then
 some (160,191)
 else
 if (p0==240)=true then
 some (144,191)
 else
 if (p0==244)=true then
 some (128,(IntKind.u8.wrap ((IntKind.u8.wrap (191-16))-32)))
 else
 if (p0==237)=true then
 some (128,(IntKind.u8.wrap (191-32)))
 else
 some (128,191)).bind fun a=>
 some (a.1,a.2)
theorem yp (p:Own c0 G F) (b:Int){r:Int×Int}(H:kX b=some r): RU 203 #[.int .u8 b] c0 fun c v=>Own c G F/\v= .tuple #[.int .u8 r.1,.int .u8 r.2]:=by
 unfold kX at H;refine en func203 rfl rfl<|sr<|vv (.int .u8 0)<|Rx<|RB (.int .u8 b)<|bn H fun o q H=>cl (qN p b q) ?_;rintro v7 e y ⟨f,rfl⟩;refine Rj (o<2)<|RF H (fun s H=>?_) (fun s H=>?_)
 ·refine sr<|vv (.int .u8 0)<|RD<|thr ?_;cases H;exact r2 (qq e ⟨f,rfl⟩)
 refine RG<|RB (.int .u8 128)<|va (.int .u8 191)<|wln<|bn H fun d a g=>W.seqJ (Jn e fun c l=>Own c G F/\l= [(2,.int .u8 d.1),(3,.int .u8 d.2)]) ?_ ?_
 ·refine RB (.int .u8 b)<|wln<|W.block<|RM<|RM<|RM<|RM<|W.seq<|W.seq<|sr<|Rk (b==224)<|RF a (fun j a=>?_) (fun j a=>?_)
  ·refine W.exit<|thx<|thx<|RJ<|RB (.int .u8 160)<|wln<|W.exit<|bko rfl (thx<|bko rfl (thx<|bko rfl (thx<|RJ ?_)));cases a;exact jn e ⟨f,rfl⟩
  refine RG<|W.seq<|sr<|Rk (b==240)<|RF a (fun k a=>?_) (fun k a=>?_)
  ·refine W.exit<|thx<|thx<|bko rfl (thx<|RJ<|RB (.int .u8 144)<|wln<|W.exit<|bko rfl (thx<|bko rfl (thx<|RJ ?_)));cases a;exact jn e ⟨f,rfl⟩
  refine RG<|W.seq<|sr<|Rk (b==244)<|RF a (fun m a=>?_) (fun m a=>?_)
  ·refine W.exit<|thx<|thx<|bko rfl (thx<|bko rfl (thx<|RJ<|Rv (.int .u8 191)<|vv (.int .u8 (IntKind.u8.wrap (191-16)))<|WL.nil<|RH<|RB (.int .u8 (IntKind.u8.wrap (191-16)))<|vv (.int .u8 (IntKind.u8.wrap ((IntKind.u8.wrap (191-16))-32)))<|wln<|W.exit<|RJ ?_));cases a;exact jn e ⟨f,rfl⟩
  refine RG<|sr<|Rk (b==237)<|RF a (fun n a=>?_) (fun n a=>?_)
  ·refine W.exit<|thx<|bko rfl (thx<|bko rfl (thx<|bko rfl (thx<|RJ<|RB (.int .u8 191)<|vv (.int .u8 (IntKind.u8.wrap (191-32)))<|wln<|W.exit<|RJ ?_)));cases a;exact jn e ⟨f,rfl⟩
  refine RG<|W.exit<|bko rfl (thx<|bko rfl (thx<|bko rfl (thx<|bko rfl (thx<|RJ ?_))));cases a;exact jn e ⟨f,rfl⟩
 rintro x z ⟨i,t,_,rfl,u,rfl,h,rfl⟩;refine RB (.int .u8 d.1)<|va (.int .u8 d.2)<|va (.int .u8 d.1)<|va (.int .u8 d.2)<|RD ?_;cases g;exact r2 (qq i ⟨h,rfl⟩)
def cv (p0:bD) (p1:Int):Option (bD×(List Int)):=
 (jX p1).bind fun a=>
 if (a==0)=true then
 some (p0,([65533]:List Int))
 else
 if (a==1)=true then
 some (p0,([(w32 p1)]:List Int))
 else
 (mV p1).bind fun c=>
 (kX p1).bind fun b=>
 some ((⟨1,(w64 (a-1)),b.1,b.2,c⟩:bD),([]:List Int))
theorem iY {a:Nat}{r0_0:Value}{r0_6:Value}{r0_7:Value}{r0_8:Value}{r0_9:Value}{r0_10:Value}{r0_11:Value}(f:bD) (g:Int) (T:Own c0 G ((Eb a 115 [r0_0,I f.held,I f.needs,.int .u8 f.lo,.int .u8 f.hi,I f.bits,r0_6,r0_7,r0_8,r0_9,r0_10,r0_11])::F)){r:bD×(List Int)}(H:cv f g=some r): RU 141 #[.pointer (some ⟨a,1,none⟩),.int .u8 g] c0 fun c v=>∃k S,Own c G (es true (RI .i32) k 21 S r.2::(Eb a 115 [r0_0,I r.1.held,I r.1.needs,.int .u8 r.1.lo,.int .u8 r.1.hi,I r.1.bits,r0_6,r0_7,r0_8,r0_9,r0_10,r0_11])::F)/\v=k/\OA (RI .i32) c k S r.2:=by
 unfold cv at H;refine en func141 rfl rfl<|RB Y<|Rx<|RB (.int .u8 g)<|bn H fun b X H=>cl (qN T g X) ?_;rintro v7 c6 l6 ⟨j,rfl⟩;refine Ro b<|wln<|RA b<|wln<|W.block<|sr<|Rk (b==0)<|RF H (fun Z H=>?_) (fun Z H=>?_)
 ·refine sr<|me (sl (RI .i32) 21 [[J 65533]] ([65533]:List Int) j ⟨rfl,trivial⟩) ?_;rintro v13 x h0 ⟨P,U,z⟩;refine va v13<|RD<|RK ?_;cases H;exact Rz x ⟨v13,P,U,rfl,z⟩
 refine sr<|Rk (b==1)<|RF H (fun A H=>?_) (fun A H=>?_)
 ·refine RB (.int .u8 g)<|va (J (w32 g))<|me (sl (RI .i32) 21 [[J (w32 g)]] ([(w32 g)]:List Int) j ⟨rfl,trivial⟩) ?_;rintro v19 y i0 ⟨R,l,D⟩;refine va v19<|RD<|RK ?_;cases H;exact Rz y ⟨v19,R,l,rfl,D⟩
 refine sr<|vv (Qo a 1)<|Rs a 1<|Ro b<|Rt (b-1)<|va (.int .u8 g)<|bn H fun h E H=>cl (Av j g E) ?_;rintro v26 a0 j0 ⟨m,rfl⟩;refine va (.pointer (some ⟨a,1,none⟩))<|Rs a 1<|md (sC 3 1 (I 1) [r0_0,I 1,I f.needs,.int .u8 f.lo,.int .u8 f.hi,I f.bits,r0_6,r0_7,r0_8,r0_9,r0_10,r0_11] 0 m ⟨rfl,trivial⟩) ?_;rintro b0 k0 n;refine va (.pointer (some ⟨a,1,none⟩))<|Rs a 2<|md (sC 3 2 (I (w64 (b-1))) [r0_0,I 1,I (w64 (b-1)),.int .u8 f.lo,.int .u8 f.hi,I f.bits,r0_6,r0_7,r0_8,r0_9,r0_10,r0_11] 0 n ⟨rfl,trivial⟩) ?_;rintro d0 l0 o;refine va (.pointer (some ⟨a,1,none⟩))<|Rs a 5<|md (sC 3 5 (I h) [r0_0,I 1,I (w64 (b-1)),.int .u8 f.lo,.int .u8 f.hi,I h,r0_6,r0_7,r0_8,r0_9,r0_10,r0_11] 0 o ⟨rfl,trivial⟩) ?_;rintro e0 m0 p;refine wln<|W.region<|vv (Qo a 1)<|va (.int .u8 g)<|bn H fun d M H=>cl (yp p g M) ?_;rintro v39 f0 o0 ⟨q,rfl⟩;refine va (.tuple #[.int .u8 d.1,.int .u8 d.2])<|va (.int .u8 d.1)<|va (.int .u8 d.2)<|Rs a 1<|Rs a 3<|md (sC 5 3 (.int .u8 d.1) [r0_0,I 1,I (w64 (b-1)),.int .u8 d.1,.int .u8 f.hi,I h,r0_6,r0_7,r0_8,r0_9,r0_10,r0_11] 0 q ⟨rfl,trivial⟩) ?_;rintro g0 q0 s;refine va (.pointer (some ⟨a,1,none⟩))<|Rs a 4<|md (sC 5 4 (.int .u8 d.2) [r0_0,I 1,I (w64 (b-1)),.int .u8 d.1,.int .u8 d.2,I h,r0_6,r0_7,r0_8,r0_9,r0_10,r0_11] 0 s ⟨rfl,trivial⟩) ?_;rintro i s0 t;refine WL.nil<|RH<|RB Y<|RD ?_;cases H;have N:OA (RI .i32) i Y [] []:=OA.nil (ba _);have u:=t.addHole (e:=es true (RI .i32) Y 21 [] ([]:List Int)) rfl;exact Rz i ⟨(Y),[],u,rfl,N⟩
def cF (p0:bD):Option Int:=
 if false then
 some 0
 else
 some p0.held
theorem nf {b:Nat}{r0_0:Value}{r0_6:Value}{r0_7:Value}{r0_8:Value}{r0_9:Value}{r0_10:Value}{r0_11:Value}(a:bD) (e:Own c0 G ((Eb b 115 [r0_0,I a.held,I a.needs,.int .u8 a.lo,.int .u8 a.hi,I a.bits,r0_6,r0_7,r0_8,r0_9,r0_10,r0_11])::F)){r:Int}(H:cF a=some r): RU 142 #[.pointer (some ⟨b,1,none⟩)] c0 fun c v=>Own c G ((Eb b 115 [r0_0,I a.held,I a.needs,.int .u8 a.lo,.int .u8 a.hi,I a.bits,r0_6,r0_7,r0_8,r0_9,r0_10,r0_11])::F)/\v=I r:=by
 unfold cF at H;refine en func142 rfl rfl<|RA 0<|Rx<|sr<|Rs b 1<|Ri false<|wln<|W.cond (t:=false) (by kernel_rfl) (fun d=>?_) (fun d=>?_)
 ·cases d
 have H:=ie d H;refine RG<|sr<|vv (Qo b 1)<|Rs b 1<|vx (le1 1 u_3 (e.on 0 rfl))<|Ro a.held<|RD ?_;cases H;exact Rz c0 ⟨e,rfl⟩
def bI (p0:bD):Option (bD×(List Int)):=
 (cF p0).bind fun a=>
 if (a==0)=true then
 some (p0,([]:List Int))
 else
 some ((⟨0,0,0,0,0⟩:bD),([65533]:List Int))
theorem iZ {a:Nat}{r0_0:Value}{r0_6:Value}{r0_7:Value}{r0_8:Value}{r0_9:Value}{r0_10:Value}{r0_11:Value}(b:bD) (q:Own c0 G ((Eb a 115 [r0_0,I b.held,I b.needs,.int .u8 b.lo,.int .u8 b.hi,I b.bits,r0_6,r0_7,r0_8,r0_9,r0_10,r0_11])::F)){r:bD×(List Int)}(H:bI b=some r): RU 96 #[.pointer (some ⟨a,1,none⟩)] c0 fun c v=>∃d p,Own c G (es true (RI .i32) d 21 p r.2::(Eb a 115 [r0_0,I r.1.held,I r.1.needs,.int .u8 r.1.lo,.int .u8 r.1.hi,I r.1.bits,r0_6,r0_7,r0_8,r0_9,r0_10,r0_11])::F)/\v=d/\OA (RI .i32) c d p r.2:=by
 unfold bI at H;refine en func96 rfl rfl<|RB Y<|Rx<|sr<|Rs a 1<|bn H fun o s H=>cl (nf b q s) ?_;rintro v8 k z ⟨i,rfl⟩;refine Ri (o==0)<|RF H (fun t H=>?_) (fun t H=>?_)
 ·refine RB Y<|RD<|thr ?_;cases H;have l:OA (RI .i32) k Y [] []:=OA.nil (ba _);have f:=i.addHole (e:=es true (RI .i32) Y 21 [] ([]:List Int)) rfl;exact Rz k ⟨(Y),[],f,rfl,l⟩
 refine RG<|sr<|Rs a 1<|va (.agg #[I 0,I 0,.int .u8 0,.int .u8 0,I 0])<|Rs a 1<|md (sB 110 1 [I 0,I 0,.int .u8 0,.int .u8 0,I 0] [r0_0,I 0,I 0,.int .u8 0,.int .u8 0,I 0,r0_6,r0_7,r0_8,r0_9,r0_10,r0_11] 0 i ⟨rfl,rfl,rfl,rfl,rfl,trivial⟩) ?_;rintro u x g;refine RO<|me (sl (RI .i32) 21 [[J 65533]] ([65533]:List Int) g ⟨rfl,trivial⟩) ?_;rintro v18 j y ⟨n,h,m⟩;refine va v18<|RD ?_;cases H;exact Rz j ⟨v18,n,h,rfl,m⟩
def de (p0:bD) (p1:Int):Option (bD×(List Int)):=
 if false then
 some (p0,([]:List Int))
 else
 if (p0.held==0)=true then
 (cv p0 p1).bind fun a=>
 some (a.1,a.2)
 else
 (orE (decide (p1<p0.lo)) (some (decide (p1>p0.hi)))).bind fun d=>
 if d then
 (bI p0).bind fun b=>
 (cv b.1 p1).bind fun c=>
 (app b.2 c.2).bind fun e=>
 some (c.1,e)
 else
 if decide ((w64 (p0.needs-1))>0) then
 some ((⟨(w64 (p0.held+1)),(w64 (p0.needs-1)),128,191,(gW .i64 (w64 (p0.bits*2 ^ 6)) (w64 (fP .u8 p1 63)))⟩:bD),([]:List Int))
 else
 some ((⟨0,0,0,0,0⟩:bD),([(w32 (gW .i64 (w64 (p0.bits*2 ^ 6)) (w64 (fP .u8 p1 63))))]:List Int))
theorem nc {a:Nat}{r0_0:Value}{r0_6:Value}{r0_7:Value}{r0_8:Value}{r0_9:Value}{r0_10:Value}{r0_11:Value}(b:bD) (d:Int) (h:Own c0 G ((Eb a 115 [r0_0,I b.held,I b.needs,.int .u8 b.lo,.int .u8 b.hi,I b.bits,r0_6,r0_7,r0_8,r0_9,r0_10,r0_11])::F)){r:bD×(List Int)}(H:de b d=some r): RU 95 #[.pointer (some ⟨a,1,none⟩),.int .u8 d] c0 fun c v=>∃x y2,Own c G (es true (RI .i32) x 21 y2 r.2::(Eb a 115 [r0_0,I r.1.held,I r.1.needs,.int .u8 r.1.lo,.int .u8 r.1.hi,I r.1.bits,r0_6,r0_7,r0_8,r0_9,r0_10,r0_11])::F)/\v=x/\OA (RI .i32) c x y2 r.2:=by
 unfold de at H;refine en func95 rfl rfl<|RB Y<|Rx<|W.block<|sr<|Rs a 1<|Rk false<|wln<|W.cond (t:=false) (by kernel_rfl) (fun s=>?_) (fun s=>?_)
 ·cases s
 have H:=ie s H;refine sr<|vv (Qo a 1)<|Rs a 1<|vx (le1 1 u_3 (h.on 0 rfl))<|Rk (b.held==0)<|RF H (fun h2 H=>?_) (fun h2 H=>?_)
 ·refine sr<|Rs a 1<|va (.int .u8 d)<|bn H fun z0 h4 H=>cl (iY b d h h4) ?_;rintro v5 X q1 ⟨_,u6,O9,rfl,h7⟩;refine va v5<|RD<|RK ?_;cases H;exact Rz X ⟨v5,u6,O9,rfl,h7⟩
 refine W.seq<|bn H fun q o H=>W.join (Jn c0 fun c l=>Own c G ((Eb a 115 [r0_0,I b.held,I b.needs,.int .u8 b.lo,.int .u8 b.hi,I b.bits,r0_6,r0_7,r0_8,r0_9,r0_10,r0_11])::F)/\l= [(0,.pointer (some ⟨a,1,none⟩)),(1,.int .u8 d),(18,B q)]) ?_ ?_
 ·clear H;refine Rv (.int .u8 d)<|vv (Qo a 1)<|Rs a 3<|vx (le1 3 underlying5 (h.on 0 rfl))<|Rj (d<b.lo) ?_;rcases bo (decide (d<b.lo)) with f|f
  ·obtain rfl:=orT f o;exact vb f<|pz<|pz<|pz<|Rk true<|Ry c0 ⟨h,rfl⟩
  have y:=orF f o;refine vb f<|wa (.int .u8 d)<|wa (Qo a 1)<|wa (Qo a 1)<|wa (Qo a 4)<|wn<|vx (le1 4 underlying5 (h.on 0 rfl))<|Rm (d>b.hi) ?_;cases y;exact vv (B (decide (d>b.hi)))<|Ry c0 ⟨h,rfl⟩
 rintro e_ w_ ⟨c1,n1,_,rfl,s1,rfl,i,rfl⟩;refine nrm<|cn H (fun b0 H=>?_) (fun b0 H=>?_)
 ·refine sr<|Rs a 1<|bn H fun u d0 H=>cl (iZ b i d0) ?_;rintro v26 d1 t1 ⟨_,g2,z,rfl,e0⟩;refine va (.pointer (some ⟨a,1,none⟩))<|va (.int .u8 d) ?_;have A:=z.sD 2 [1,0];refine bn H fun a1 f0 H=>cl (iY u.1 d A f0) ?_;rintro v37 e1 u1 ⟨_,i2,D,rfl,g0⟩;obtain ⟨f1,i0,v1,E,h0⟩:=D.frz 0 rfl g0;refine WL.gh i0 (bn H fun b1 j0 H=>me (ap (RI .i32) (J 0) 4 59 2 E e0.m h0 j0 cD) ?_);rintro v55 Z w1 ⟨q0,M,k0⟩;refine va v55<|RD<|RK ?_;cases H;have N:=M.sD 3 [2,1];exact Rz Z ⟨v55,q0,N,rfl,k0⟩
 refine W.skip<|RH<|sr<|vv (Qo a 1)<|Rs a 1<|Rs a 5<|vx (le1 5 u_3 (i.on 0 rfl))<|Rt (b.bits*2 ^ 6)<|va (.int .u8 d)<|va (.int .u8 (fP .u8 d 63))<|Rt (fP .u8 d 63)<|Ro (gW .i64 (w64 (b.bits*2 ^ 6)) (w64 (fP .u8 d 63)))<|Rs a 1<|Rs a 5<|md (sC 3 5 (I (gW .i64 (w64 (b.bits*2 ^ 6)) (w64 (fP .u8 d 63)))) [r0_0,I b.held,I b.needs,.int .u8 b.lo,.int .u8 b.hi,I (gW .i64 (w64 (b.bits*2 ^ 6)) (w64 (fP .u8 d 63))),r0_6,r0_7,r0_8,r0_9,r0_10,r0_11] 0 i ⟨rfl,trivial⟩) ?_;rintro g1 x1 P;refine RO<|vv (Qo a 1)<|Rs a 1<|Rs a 3<|md (sC 5 3 (.int .u8 128) [r0_0,I b.held,I b.needs,.int .u8 128,.int .u8 b.hi,I (gW .i64 (w64 (b.bits*2 ^ 6)) (w64 (fP .u8 d 63))),r0_6,r0_7,r0_8,r0_9,r0_10,r0_11] 0 P ⟨rfl,trivial⟩) ?_;rintro i1 z1 R;refine va (.pointer (some ⟨a,1,none⟩))<|Rs a 4<|md (sC 5 4 (.int .u8 191) [r0_0,I b.held,I b.needs,.int .u8 128,.int .u8 191,I (gW .i64 (w64 (b.bits*2 ^ 6)) (w64 (fP .u8 d 63))),r0_6,r0_7,r0_8,r0_9,r0_10,r0_11] 0 R ⟨rfl,trivial⟩) ?_;rintro j1 b2 j;refine RO<|vv (Qo a 1)<|Rs a 1<|vx (le1 1 u_3 (j.on 0 rfl))<|Rt (b.held+1)<|vv (Qo a 1)<|md (sC 3 1 (I (w64 (b.held+1))) [r0_0,I (w64 (b.held+1)),I b.needs,.int .u8 128,.int .u8 191,I (gW .i64 (w64 (b.bits*2 ^ 6)) (w64 (fP .u8 d 63))),r0_6,r0_7,r0_8,r0_9,r0_10,r0_11] 0 j ⟨rfl,trivial⟩) ?_;rintro k1 c2 k;refine RO<|vv (Qo a 1)<|Rs a 2<|vx (le1 2 u_3 (k.on 0 rfl))<|Rt (b.needs-1)<|Rs a 1<|Rs a 2<|md (sC 3 2 (I (w64 (b.needs-1))) [r0_0,I (w64 (b.held+1)),I (w64 (b.needs-1)),.int .u8 128,.int .u8 191,I (gW .i64 (w64 (b.bits*2 ^ 6)) (w64 (fP .u8 d 63))),r0_6,r0_7,r0_8,r0_9,r0_10,r0_11] 0 k ⟨rfl,trivial⟩) ?_;rintro n d2 g;refine Rx<|sr<|vv (Qo a 1)<|Rs a 2<|vx (le1 2 u_3 (g.on 0 rfl))<|Rj ((w64 (b.needs-1))>0)<|RF H (fun l0 H=>?_) (fun l0 H=>?_)
 ·refine RB Y<|RD<|thr ?_;cases H;have m0:OA (RI .i32) n Y [] []:=OA.nil (ba _);have S:=g.addHole (e:=es true (RI .i32) Y 21 [] ([]:List Int)) rfl;exact Rz n ⟨(Y),[],S,rfl,m0⟩
 refine RG<|sr<|vv (Qo a 1)<|Rs a 5<|vx (le1 5 u_3 (g.on 0 rfl))<|vv (J (w32 (gW .i64 (w64 (b.bits*2 ^ 6)) (w64 (fP .u8 d 63)))))<|RO<|Rs a 1<|va (.agg #[I 0,I 0,.int .u8 0,.int .u8 0,I 0])<|Rs a 1<|md (sB 110 1 [I 0,I 0,.int .u8 0,.int .u8 0,I 0] [r0_0,I 0,I 0,.int .u8 0,.int .u8 0,I 0,r0_6,r0_7,r0_8,r0_9,r0_10,r0_11] 0 g ⟨rfl,rfl,rfl,rfl,rfl,trivial⟩) ?_;rintro m1 e2 T;refine wln<|RB (J (w32 (gW .i64 (w64 (b.bits*2 ^ 6)) (w64 (fP .u8 d 63)))))<|me (sl (RI .i32) 21 [[J (w32 (gW .i64 (w64 (b.bits*2 ^ 6)) (w64 (fP .u8 d 63))))]] ([(w32 (gW .i64 (w64 (b.bits*2 ^ 6)) (w64 (fP .u8 d 63))))]:List Int) T ⟨rfl,trivial⟩) ?_;rintro p a0 f2 ⟨s0,U,o0⟩;refine va p<|RD ?_;cases H;exact Rz a0 ⟨p,s0,U,rfl,o0⟩
def gJ (sg:Sto) (p0:Option Nat) (p1:List Int):Option Sto:=
 if p0.isNone then
 some sg
 else
 (cm (σ:=Int×Sto) (τ:=Sto) (((p1.length:Int)-0).toNat+1) (fun b=>
 if decide (b.1<(p1.length:Int)) then
 (idx p1 b.1).bind fun f=>
 (p0).bind fun d=>
 (b.2.feed_Feeder[d]?).bind fun a=>
 (de a.dec f).bind fun e=>
 (b.2.set_feed_Feeder d (⟨a.pen,e.1,a.seg,a.open_⟩:bE)).bind fun c=>
 (gE c p0 e.2).bind fun g=>
 some (.inl ((w64 (b.1+1)),g))
 else
 some (.inr b.2)) (0,sg)).bind fun h=>
 some h
theorem tJ (M:Own c0 G F) (R0:Rel c0 sg G) (hG:Gl [3,7] c0) (j:Option Nat) (k:List Int){r:Sto}(t:Pt 4 c0 v1 j) (u:Sl (RI .u8) c0 v3 k) (H:gJ sg j k=some r): RU 52 #[v1,v3] c0 fun c v=>∃G_:Gm,Own c G_ F/\Rel c r G_/\v= .tuple #[]:=by
 unfold gJ at H;refine en func52 rfl rfl<|W.seq<|RB v1<|vr (B j.isNone) (by rcases (t).cs with ⟨p,s⟩|⟨b_,p,s⟩ <;> (subst p; rw [s]; kernel_rfl))<|RF H (fun h5 H=>?_) (fun h5 H=>?_)
 ·refine W.ret<|thr ?_;cases H;exact r0<|qq c0 ⟨G,M,R0,rfl⟩
 refine RG<|RB v3<|vx (ln 3 vN u)<|Ro 0<|wln<|W.block<|bn H fun y1 h6 E=>lp h6 (fun d=>Jn c0 fun c l=>∃G_,Own c G_ F/\l= [(0,v1),(8,v3),(9,I (k.length:Int)),(10,I d.1)]/\Rel c d.2 G_) (fun x ex e w=>ex= .exit 0/\(Jn c0 fun c l=>∃G_,Own c G_ F/\l= []/\Rel c x G_) e w) ?_ ?_ ?_
 ·clear E h6;intro d b2 i0 c1 H;revert i0 c1;rintro e_ w_ ⟨c8,g9,_,rfl,l8,rfl,z,n,rfl,h⟩;refine sr<|Rj (d.1<(k.length:Int))<|Rx<|cn H (fun j0 H=>?_) (fun j0 H=>?_)
  ·refine RG<|RM<|sr<|bn H fun f o H=>?_;obtain ⟨h1,k0,b1⟩:=Sl.at (u.mono l8) (aP o);obtain rfl:=k0;refine vx (ix vN u.m o)<|vx (l1 underlying5 (b1 0 _ rfl))<|va (.int .u8 f)<|wln<|W.region<|vv v1<|bn H fun g1 l0 H=>?_;obtain ⟨g,rfl,q⟩:=((t.mono l8)).get l0;refine va (Q g)<|Rs g 1<|va (.int .u8 f)<|bn H fun a m0 H=>?_;obtain ⟨v23,v25,s0,o0,q0⟩:=Rel.open_feed_Feeder h m0 q;have N:=n.borrow 0 s0 rfl;refine bn H fun b t0 H=>cl (nc a.dec f N t0) ?_;rintro v31 n1 i ⟨_,z1,P,rfl,u0⟩;have S:=P.sD 2 [1,0];have R:=S.giveB 0 rfl;refine bn H fun y v0 H=>?_;obtain ⟨k1,T,d0,t1,m1⟩:=Rel.put_feed_Feeder R (h.mono i) (E':=[(Eb g 115 [v23,I b.1.held,I b.1.needs,.int .u8 b.1.lo,.int .u8 b.1.hi,I b.1.bits,B a.seg.some,I a.seg.last,I a.seg.pict,I a.seg.conj,B a.seg.odd,v25])]) v0 ⟨g,v23,v25,(tm q),rfl,(o0.mono i),(q0.mono i)⟩;obtain ⟨q1,x0,u1,U,w0⟩:=T.frz 0 rfl u0;refine WL.gh x0 (bn H fun j1 y0 H=>cl (pB U d0.m (hG.m.le (by decide)) j b.2 t.m w0 y0) ?_);rintro v58 g0 w1 ⟨A,X,e0,rfl⟩;refine WL.nil<|RH<|W.region<|Rq (d.1+1)<|WL.nil ?_;cases H;refine ⟨_,rfl,?_⟩;have Z:=X.sD 1 [];exact jn g0 ⟨A,Z,rfl,e0⟩
  refine W.exit<|thx ?_;cases H;exact ⟨_,rfl,rfl,jn c8 ⟨z,n,rfl,h⟩⟩
 ·exact jn c0 ⟨G,M,rfl,R0⟩
 rintro _ e_ w_ ⟨rfl,h0,s1,_,rfl,x1,rfl,D,a0,rfl,f0⟩;refine bke ?_;cases E;exact RN h0 ⟨D,a0,f0,rfl⟩
def gI (sg:Sto) (p0:Option Nat):Option Sto:=
 if p0.isNone then
 some sg
 else
 (p0).bind fun c=>
 (sg.feed_Feeder[c]?).bind fun a=>
 (bI a.dec).bind fun d=>
 (sg.set_feed_Feeder c (⟨a.pen,d.1,a.seg,a.open_⟩:bE)).bind fun b=>
 (gE b p0 d.2).bind fun f=>
 (du f p0).bind fun e=>
 some e
theorem tI (l:Own c0 G F) (j:Rel c0 sg G) (hG:Gl [3,7] c0) (f:Option Nat){r:Sto}(g:Pt 4 c0 v1 f) (H:gI sg f=some r): RU 53 #[v1] c0 fun c v=>∃G_:Gm,Own c G_ F/\Rel c r G_/\v= .tuple #[]:=by
 unfold gI at H;refine en func53 rfl rfl<|W.seq<|RB v1<|vr (B f.isNone) (by rcases (g).cs with ⟨h,i⟩|⟨b_,h,i⟩ <;> (subst h; rw [i]; kernel_rfl))<|RF H (fun h3 H=>?_) (fun h3 H=>?_)
 ·refine W.ret<|thr ?_;cases H;exact r0<|qq c0 ⟨G,l,j,rfl⟩
 refine RG<|sr<|vv v1<|bn H fun s0 h6 H=>?_;obtain ⟨d,rfl,h5⟩:=(g).get h6;refine va (Q d)<|Rs d 1<|bn H fun a h7 H=>?_;obtain ⟨v8,v10,N,h9,M⟩:=Rel.open_feed_Feeder j h7 h5;have n:=l.borrow 0 N rfl;refine bn H fun b P H=>cl (iZ a.dec n P) ?_;rintro v16 l0 e ⟨_,w0,o,rfl,R⟩;have q:=o.sD 2 [1,0];have p:=q.giveB 0 rfl;refine bn H fun b0 S H=>?_;obtain ⟨i0,s,z,q0,k0⟩:=Rel.put_feed_Feeder p (j.mono e) (E':=[(Eb d 115 [v8,I b.1.held,I b.1.needs,.int .u8 b.1.lo,.int .u8 b.1.hi,I b.1.bits,B a.seg.some,I a.seg.last,I a.seg.pict,I a.seg.conj,B a.seg.odd,v10])]) S ⟨d,v8,v10,(tm h5),rfl,(h9.mono e),(M.mono e)⟩;obtain ⟨m0,U,t0,t,T⟩:=s.frz 0 rfl R;refine WL.gh U (bn H fun x0 X H=>cl (pB t z.m (hG.m.le (by decide)) f b.2 g.m T X) ?_);rintro v43 o0 u0 ⟨j0,u,A,rfl⟩;refine wln<|Rv (Q d)<|bn H fun h0 Z H=>cl (jC u A f g.m Z) ?_;rintro v50 E v0 ⟨k,x,D,rfl⟩;refine WL.nil ?_;cases H;have y:=x.sD 1 [];exact RN E ⟨k,y,D,rfl⟩
def om (p0:Int):Option Bool:=
 (bw (decide (p0>=2)) (some (decide (p0<=12)))).bind fun a=>
 some a
theorem B1 (d:Own c0 G F) (a:Int){r:Bool}(H:om a=some r): RU 102 #[I a] c0 fun c v=>Own c G F/\v=B r:=by
 unfold om at H;refine en func102 rfl rfl<|Ru false<|Rx<|bn H fun e f H=>W.join (Jn c0 fun c l=>Own c G F/\l= [(2,B e)]) ?_ ?_
 ·clear H;refine RC a<|Rj (a>=2) ?_;rcases bo (decide (a>=2)) with b|b
  ·have g:=anT b f;refine vb b<|wa (I a)<|Rm (a<=12) ?_;cases g;exact vv (B (decide (a<=12)))<|Ry c0 ⟨d,rfl⟩
  obtain rfl:=anF b f;exact vb b<|pz<|Rk false<|Ry c0 ⟨d,rfl⟩
 rintro j n ⟨i,k,_,rfl,m,rfl,h,rfl⟩;refine nrm<|W.ret ?_;cases H;exact Rz i ⟨h,rfl⟩
def lD (p0:aJ):Option Er:=
 (om p0.Kind).bind fun d=>
 if (!d)=true then
 some (Er.sent 3)
 else
 (bw (decide (p0.Kind<=4)) (some (p0.Kind != 2))).bind fun a=>
 (bw a ((orE (decide (p0.A<0)) (some (decide (p0.A>2)))).bind fun c=>
 some c)).bind fun b=>
 if b then
 some (Er.sent 7)
 else
 some Er.nil
theorem vB (S:Own c0 G F) (hG:Gl [3,7] c0) (a:aJ){r:Er}(h2:Sl (RI .u8) c0 v1 a.Bytes) (H:lD a=some r): RU 56 #[.agg #[I a.Kind,I a.A,I a.B,v1]] c0 fun c v=>∃R,Own c G F/\v=R/\RE 352 80 c R r:=by
 unfold lD at H;refine en func56 rfl rfl<|sr ?_;obtain ⟨U,X,Z,rfl⟩:=(h2).form;refine me (bx 52 [I a.Kind,I a.A,I a.B,.slice U X Z] S) ?_;rintro v10 c9 P ⟨i,rfl,T,k⟩;refine va (.nilIface)<|Rx<|W.block<|RB (Q i)<|vx (l1 u_3 (k 0 _ rfl))<|bn H fun u D H=>cl (B1 T a.Kind D) ?_;rintro v17 b l16 ⟨d,rfl⟩;refine Rk (!u)<|RF H (fun E H=>?_) (fun E H=>?_)
 ·refine sr ?_;obtain ⟨v19,o⟩:=(hG.mono (P.trans l16)).get 3 (by decide);refine vx (l1 tB o.im)<|va v19<|RD<|RK ?_;cases H;exact Rz b ⟨v19,d,rfl,o⟩
 refine W.seq<|bn H fun a0 p H=>bn H fun x j H=>W.join (Jn b fun c l=>Own c G F/\l= [(9,B x)]) ?_ ?_
 ·clear H;refine Rv (Q i)<|vx (l1 u_3 ((mm k) 0 _ rfl))<|Rj (a.Kind<=4) ?_;rcases bo (decide (a.Kind<=4)) with e|e
  ·have y:=anT e p;refine vb e<|wa (Q i)<|wn<|vx (l1 u_3 ((mm k) 0 _ rfl))<|Rn (a.Kind != 2) ?_;cases y;refine Ri (a.Kind != 2) ?_;rcases bo (a.Kind != 2) with f|f
   ·have h:=anT f j;refine vb f<|wa (Qo i (0+1))<|wn<|vx (l1 u_3 ((mm k) 1 _ rfl))<|Rm (a.A<0)<|wn<|bn h fun b0 q h=>?_;rcases bo (decide (a.A<0)) with g|g
    ·obtain rfl:=orT g q;refine vb g<|pz<|ps<|Rn true ?_;cases h;exact Rk true<|Ry b ⟨d,rfl⟩
    have z:=orF g q;refine vb g<|wa (Qo i (0+1))<|wn<|vx (l1 u_3 ((mm k) 1 _ rfl))<|Rm (a.A>2)<|wn ?_;cases z;refine Rj (a.A>2) ?_;cases h;exact vv (B (decide (a.A>2)))<|Ry b ⟨d,rfl⟩
   obtain rfl:=anF f j;exact vb f<|pz<|pz<|pz<|pz<|Rk false<|Ry b ⟨d,rfl⟩
  obtain rfl:=anF e p;refine vb e<|pz<|ps<|Ri false ?_;have s:false=false:=rfl;obtain rfl:=anF s j;exact vb s<|pz<|pz<|pz<|pz<|Rk false<|Ry b ⟨d,rfl⟩
 rintro e_ w_ ⟨n,e0,_,rfl,N,rfl,m,rfl⟩;refine nrm<|cn H (fun M H=>?_) (fun M H=>?_)
 ·refine sr ?_;obtain ⟨v38,t⟩:=(hG.mono (P.trans (l16.trans N))).get 7 (by decide);refine vx (l1 tB t.im)<|va v38<|RD<|RK ?_;cases H;exact Rz n ⟨v38,m,rfl,t⟩
 refine W.skip<|RH<|RB (.nilIface)<|RD ?_;cases H;exact Rz n ⟨.nilIface,m,rfl,rfl⟩
def jl (sg:Sto) (p0:Option Nat) (p1:aJ):Option Sto:=
 (p0).bind fun e=>
 (sg.place_Pen[e]?).bind fun b=>
 (bM sg b.G).bind fun f=>
 if (p1.Kind==10)=true then
 (kW sg b.G 0 f p1.A).bind fun i=>
 some i
 else
 if (p1.Kind==11)=true then
 (kz sg b.G 0 f p1.A).bind fun j=>
 some j
 else
 if (p1.Kind==8)=true then
 (kz sg b.G b.At.Row f p1.A).bind fun g=>
 (g.place_Pen[e]?).bind fun c=>
 (dG c.At).bind fun d=>
 (g.set_place_Pen e (⟨c.G,d,c.Auto⟩:bq)).bind fun a=>
 some a
 else
 if (p1.Kind==9)=true then
 (kW sg b.G b.At.Row f p1.A).bind fun h=>
 (h.place_Pen[e]?).bind fun c=>
 (dG c.At).bind fun d=>
 (h.set_place_Pen e (⟨c.G,d,c.Auto⟩:bq)).bind fun a=>
 some a
 else
 (dG b.At).bind fun d=>
 (sg.set_place_Pen e (⟨b.G,d,b.Auto⟩:bq)).bind fun a=>
 some a
theorem sX (O0:Own c0 G F) (s:Rel c0 sg G) (p0:Option Nat) (f:aJ){r:Sto}(h2:Pt 2 c0 v1 p0) (h4:Sl (RI .u8) c0 v3 f.Bytes) (H:jl sg p0 f=some r): RU 103 #[v1,.agg #[I f.Kind,I f.A,I f.B,v3]] c0 fun c v=>∃G_:Gm,Own c G_ F/\Rel c r G_/\v= .tuple #[]:=by
 unfold jl at H;refine en func103 rfl rfl<|sr ?_;obtain ⟨a5,a6,a7,rfl⟩:=(h4).form;refine me (bx 52 [I f.Kind,I f.A,I f.B,.slice a5 a6 a7] O0) ?_;rintro v12 q3 x ⟨t,rfl,O9,q⟩;refine wln<|RB v1<|bn H fun z3 y1 H=>?_;obtain ⟨a,rfl,l⟩:=((h2.mono x)).get y1;refine vv (Q a)<|bn H fun e z1 H=>?_;obtain ⟨v17,g,n⟩:=Rel.open_place_Pen (s.mono x) z1 l;refine vx (le1 0 jT (O9.gon g 0 rfl))<|bn H fun i b2 H=>cl (bH O9 s.m e.G n b2) ?_;rintro v26 s3 b0 ⟨k,rfl⟩;refine Ro i<|Rx<|RB (Q t)<|vx (l1 u_3 ((mm q) 0 _ rfl))<|wln<|W.block<|sr<|Rk (f.Kind==10)<|RF H (fun c2 H=>?_) (fun c2 H=>?_)
 ·refine W.seq<|rD [7] (Kp G []) k ?_;intro n1 a4 M;have u2:=(Kp.nil M);refine ta 0 (Q a)<|ta 1 (Q a)<|ta 2 (Q a)<|tkx 3 u2 (fun p h j=>le1 0 jT (j.gon g 0 rfl)) (ta 4 (I i)<|ta 5 (Qo t (0+1))<|tx 6 (fun p h=>l1 u_3 ((mm q) 1 _ rfl))<|bn H fun j3 d2 H=>o1 7 (gc 7 (sJ M s.m e.G 0 i f.A n.m d2) ?_));rintro v37 q1 b4 ⟨z0,c1,j1,rfl⟩;refine ⟨.inl rfl,dn (nrm<|W.ret<|RK ?_)⟩;cases H;exact r0<|qq q1 ⟨z0,c1,j1,rfl⟩
 refine sr<|Rk (f.Kind==11)<|RF H (fun e2 H=>?_) (fun e2 H=>?_)
 ·refine W.seq<|rD [7] (Kp G []) k ?_;intro s1 c4 N;have v2:=(Kp.nil N);refine ta 0 (Q a)<|ta 1 (Q a)<|ta 2 (Q a)<|tkx 3 v2 (fun p h j=>le1 0 jT (j.gon g 0 rfl)) (ta 4 (I i)<|ta 5 (Qo t (0+1))<|tx 6 (fun p h=>l1 u_3 ((mm q) 1 _ rfl))<|bn H fun k3 f2 H=>o1 7 (gc 7 (tW N s.m e.G 0 i f.A n.m f2) ?_));rintro v48 t1 d4 ⟨a1,d1,k1,rfl⟩;refine ⟨.inl rfl,dn (nrm<|W.ret<|RK ?_)⟩;cases H;exact r0<|qq t1 ⟨a1,d1,k1,rfl⟩
 refine sr<|Rk (f.Kind==8)<|RF H (fun g2 H=>?_) (fun g2 H=>?_)
 ·refine rD [12] (Kp G []) k ?_;intro u1 e4 P;have g0:=(Kp.nil P);refine ta 0 (Q a)<|ta 1 (Q a)<|ta 2 (Q a)<|tkx 3 g0 (fun p h j=>le1 0 jT (j.gon g 0 rfl)) (ta 4 (Q a)<|ta 5 (Q a)<|ta 6 (Qo a 1)<|ta 7 (Qo a 1)<|tkx 8 g0 (fun p h j=>le1 1 u_3 (j.gon g 0 rfl)) (ta 9 (I i)<|ta 10 (Qo t (0+1))<|tx 11 (fun p h=>l1 u_3 ((mm q) 1 _ rfl))<|bn H fun l3 i2 H=>o1 12 (gc 12 (tW P s.m e.G e.At.Row i f.A n.m i2) ?_)));rintro v59 t3 f4 ⟨n3,R,U,rfl⟩;refine ⟨.inl rfl,dn (RH<|W.region<|vv (Q a)<|va (Q a)<|Rs a 1<|bn H fun d j2 H=>?_)⟩;obtain ⟨D,Z,k2⟩:=Rel.open_place_Pen U j2 (tm l);refine vx (leN 29 1 [I d.At.Row,I d.At.Col,B d.At.Pending] (R.gon Z 0 rfl))<|bn H fun b l2 H=>cl (kp R d.At l2) ?_;rintro j4 u3 d0 ⟨e1,rfl⟩;refine va (Q a)<|Rs a 1<|md (gB 29 1 [I b.Row,I b.Col,B b.Pending] [D,I b.Row,I b.Col,B b.Pending,B d.Auto] 0 e1 Z ⟨rfl,rfl,rfl,trivial⟩) ?_;rintro w1 e0 f1;refine bn H fun o m2 H=>?_;obtain ⟨b1,g1,m1,y3,p3⟩:=Rel.put_place_Pen f1 (U.mono (d0.trans e0)) (E':=[(Eb a 73 [D,I b.Row,I b.Col,B b.Pending,B d.Auto])]) m2 ⟨a,D,(tm l),rfl,(k2.mono (d0.trans e0))⟩;refine WL.nil ?_;cases H;exact RN w1 ⟨b1,g1,m1,rfl⟩
 refine sr<|Rk (f.Kind==9)<|RF H (fun n2 H=>?_) (fun n2 H=>?_)
 ·refine rD [12] (Kp G []) k ?_;intro x1 g4 S;have h0:=(Kp.nil S);refine ta 0 (Q a)<|ta 1 (Q a)<|ta 2 (Q a)<|tkx 3 h0 (fun p h j=>le1 0 jT (j.gon g 0 rfl)) (ta 4 (Q a)<|ta 5 (Q a)<|ta 6 (Qo a 1)<|ta 7 (Qo a 1)<|tkx 8 h0 (fun p h j=>le1 1 u_3 (j.gon g 0 rfl)) (ta 9 (I i)<|ta 10 (Qo t (0+1))<|tx 11 (fun p h=>l1 u_3 ((mm q) 1 _ rfl))<|bn H fun m3 o2 H=>o1 12 (gc 12 (sJ S s.m e.G e.At.Row i f.A n.m o2) ?_)));rintro k4 w3 i4 ⟨o3,T,X,rfl⟩;refine ⟨.inl rfl,dn (RH<|W.region<|vv (Q a)<|va (Q a)<|Rs a 1<|bn H fun d p2 H=>?_)⟩;obtain ⟨E,a0,q2⟩:=Rel.open_place_Pen X p2 (tm l);refine vx (leN 29 1 [I d.At.Row,I d.At.Col,B d.At.Pending] (T.gon a0 0 rfl))<|bn H fun b s2 H=>cl (kp T d.At s2) ?_;rintro h3 x3 f0 ⟨i1,rfl⟩;refine va (Q a)<|Rs a 1<|md (gB 29 1 [I b.Row,I b.Col,B b.Pending] [E,I b.Row,I b.Col,B b.Pending,B d.Auto] 0 i1 a0 ⟨rfl,rfl,rfl,trivial⟩) ?_;rintro u0 u k0;refine bn H fun o w0 H=>?_;obtain ⟨i0,l0,s0,d3,x2⟩:=Rel.put_place_Pen k0 (X.mono (f0.trans u)) (E':=[(Eb a 73 [E,I b.Row,I b.Col,B b.Pending,B d.Auto])]) w0 ⟨a,E,(tm l),rfl,(q2.mono (f0.trans u))⟩;refine WL.nil ?_;cases H;exact RN u0 ⟨i0,l0,s0,rfl⟩
 refine W.skip<|RH<|W.region<|vv (Q a)<|va (Q a)<|Rs a 1<|vx (leN 29 1 [I e.At.Row,I e.At.Col,B e.At.Pending] (k.gon g 0 rfl))<|bn H fun b x0 H=>cl (kp k e.At x0) ?_;rintro i3 c3 y ⟨m0,rfl⟩;refine va (Q a)<|Rs a 1<|md (gB 29 1 [I b.Row,I b.Col,B b.Pending] [v17,I b.Row,I b.Col,B b.Pending,B e.Auto] 0 m0 g ⟨rfl,rfl,rfl,trivial⟩) ?_;rintro v0 z o0;refine bn H fun o y0 H=>?_;obtain ⟨j0,q0,t0,e3,y2⟩:=Rel.put_place_Pen o0 (s.mono (x.trans (b0.trans (y.trans z)))) (E':=[(Eb a 73 [v17,I b.Row,I b.Col,B b.Pending,B e.Auto])]) y0 ⟨a,v17,(tm l),rfl,(n.mono (b0.trans (y.trans z)))⟩;refine WL.nil ?_;cases H;exact RN v0 ⟨j0,q0,t0,rfl⟩
def mC (sg:Sto) (p0:Option Nat) (p1:Int):Option Sto:=
 (p0).bind fun f=>
 (sg.place_Pen[f]?).bind fun b=>
 (bz sg b.G b.At.Row).bind fun a=>
 if (p1==0)=true then
 (lS sg a b.At.Col).bind fun c=>
 some c
 else
 if (p1==1)=true then
 (mW sg a b.At.Col).bind fun d=>
 some d
 else
 (lc sg a).bind fun e=>
 some e
theorem wO (O0:Own c0 G F) (h:Rel c0 sg G) (hG:Gl [3,7] c0) (Z:Option Nat) (d:Int){r:Sto}(h2:Pt 2 c0 v1 Z) (H:mC sg Z d=some r): RU 150 #[v1,I d] c0 fun c v=>∃G_:Gm,Own c G_ F/\Rel c r G_/\v= .tuple #[]:=by
 unfold mC at H;refine en func150 rfl rfl<|W.seq<|rD [] (Kp G []) O0 ?_;intro c3 X q;have p5:=(Kp.nil q);refine ta 0 v1<|bn H fun o0 h8 H=>?_;obtain ⟨a,rfl,h7⟩:=((h2.mono X)).get h8;refine ta 1 (Q a)<|ta 2 (Q a)<|bn H fun g h9 H=>?_;obtain ⟨v10,f,E⟩:=Rel.open_place_Pen (h.mono X) h9 h7;refine tkx 3 p5 (fun c' U j=>le1 0 jT (j.gon f 0 rfl)) (ta 4 (Q a)<|ta 5 (Q a)<|ta 6 (Qo a 1)<|ta 7 (Qo a 1)<|tkx 8 p5 (fun c' U j=>le1 1 u_3 (j.gon f 0 rfl)) (bn H fun e M H=>o1 9 (gc 9 (dd q h.m g.G g.At.Row E M) ?_)));rintro v14 y q0 ⟨_,b,rfl,i⟩;have a0:=(Kp.nil b);refine ⟨.inr a0,ta 10 v14 (dn (nrm<|RA d<|wln<|W.block<|sr<|Rk (d==0)<|RF H (fun N H=>?_) (fun N H=>?_)))⟩
 ·refine Rv v14<|vv (Q a)<|Rs a 1<|Rs a 2<|vx (le1 2 u_3 (b.gon f 0 rfl))<|bn H fun k0 P H=>cl (yS b h.m (hG.m.le (by decide)) e g.At.Col i P) ?_;rintro v30 z s0 ⟨k,o,t,rfl⟩;refine WL.nil<|bkn ?_;cases H;exact RN z ⟨k,o,t,rfl⟩
 refine sr<|Rk (d==1)<|RF H (fun R H=>?_) (fun R H=>?_)
 ·refine Rv v14<|vv (Q a)<|Rs a 1<|Rs a 2<|vx (le1 2 u_3 (b.gon f 0 rfl))<|bn H fun l0 S H=>cl (Az b h.m (hG.m.le (by decide)) e g.At.Col i S) ?_;rintro v38 A t0 ⟨l,p,u,rfl⟩;refine WL.nil<|bkn ?_;cases H;exact RN A ⟨l,p,u,rfl⟩
 refine Rv v14<|bn H fun m0 T H=>cl (wN b h.m (hG.m.le (by decide)) e i T) ?_;rintro v45 D u0 ⟨n,s,x,rfl⟩;refine WL.nil<|bkn ?_;cases H;exact RN D ⟨n,s,x,rfl⟩
def nS (sg:Sto) (p0:Option Nat) (p1:Int):Option Sto:=
 (mC sg p0 p1).bind fun c=>
 (p0).bind fun b=>
 (c.place_Pen[b]?).bind fun p=>
 (bM c p.G).bind fun d=>
 (cm (σ:=Int×Sto) (τ:=Sto) ((d-0).toNat+1) (fun a=>
 if decide (a.1<d) then
 ((orE (p1==2) ((bw (p1==0) ((a.2.place_Pen[b]?).bind fun j=>
 some (decide (a.1>j.At.Row)))).bind fun f=>
 some f)).bind fun e=>
 (orE e ((bw (p1==1) ((a.2.place_Pen[b]?).bind fun k=>
 some (decide (a.1<k.At.Row)))).bind fun h=>
 some h)).bind fun g=>
 if g then
 (a.2.place_Pen[b]?).bind fun l=>
 (bz a.2 l.G a.1).bind fun m=>
 (lc a.2 m).bind fun n=>
 some n
 else
 some a.2).bind fun o=>
 some (.inl ((w64 (a.1+1)),o))
 else
 some (.inr a.2)) (0,c)).bind fun i=>
 some i
theorem yU (O0:Own c0 G F) (R0:Rel c0 sg G) (hG:Gl [3,7] c0) (p0:Option Nat) (f:Int){r:Sto}(h2:Pt 2 c0 v1 p0) (H:nS sg p0 f=some r): RU 151 #[v1,I f] c0 fun c v=>∃G_:Gm,Own c G_ F/\Rel c r G_/\v= .tuple #[]:=by
 unfold nS at H;refine en func151 rfl rfl<|RB v1<|Ro f<|bn H fun s3 h3 H=>cl (wO O0 R0 (hG.le (by decide)) p0 f h2 h3) ?_;rintro v9 c8 l8 ⟨G4,O5,R6,rfl⟩;refine wln<|RB v1<|bn H fun f3 j1 H=>?_;obtain ⟨b,rfl,n⟩:=((h2.mono l8)).get j1;refine vv (Q b)<|bn H fun l2 k1 H=>?_;obtain ⟨v14,n1,m1⟩:=Rel.open_place_Pen R6 k1 n;refine vx (le1 0 jT (O5.gon n1 0 rfl))<|bn H fun A q1 H=>cl (bH O5 R6 l2.G m1 q1) ?_;rintro v23 R g3 ⟨x0,rfl⟩;refine Ro 0<|wln<|W.block<|bn H fun v2 U T=>lp U (fun a=>Jn R fun c l=>∃G_,Own c G_ F/\l= [(0,Q b),(1,I f),(12,I A),(13,I a.1)]/\Rel c a.2 G_) (fun S ex e w=>ex= .exit 0/\(Jn R fun c l=>∃G_,Own c G_ F/\l= []/\Rel c S G_) e w) ?_ ?_ ?_
 ·clear T U;intro a t3 i1 m2 H;revert i1 m2;rintro e_ w_ ⟨i,y2,_,rfl,i3,rfl,D,g,rfl,j⟩;refine sr<|Rj (a.1<A)<|Rx<|cn H (fun t1 H=>?_) (fun t1 H=>?_)
  ·refine RG<|bn H fun t0 d w0=>W.seqJ (Jn i fun c l=>∃G_,Own c G_ F/\l= [(0,Q b),(1,I f),(12,I A),(13,I a.1)]/\Rel c t0 G_) ?_ ?_
   ·refine W.block<|sr<|vv (I a.1)<|Rx<|bn d fun q2 X d=>bn d fun j0 z d=>W.join (Jn i fun c l=>Own c D F/\l= [(0,Q b),(1,I f),(4,I a.1),(12,I A),(13,I a.1),(43,B j0)]) ?_ ?_
    ·clear d;refine RC f<|Ri (f==2) ?_;rcases bo (f==2) with o|o
     ·obtain rfl:=orT o X;refine vb o<|pz<|pz<|pz<|pz<|pz<|ps<|Ri true ?_;have Z:true=true:=rfl;obtain rfl:=orT Z z;exact vb Z<|pz<|pz<|pz<|pz<|pz<|ps<|Ri true<|Ry i ⟨g,rfl⟩
     have u:=orF o X;refine vb o<|wa (I f)<|Rn (f==0)<|wn<|bn u fun s2 a0 u=>?_;rcases bo (f==0) with p|p
     ·have E:=anT p a0;refine vb p<|wa (I a.1)<|wa (Q b)<|wa (Q b)<|wa (Qo b 1)<|wa (Qo b 1)<|wn<|bn E fun k u1 E=>?_;obtain ⟨v44,w1,c3⟩:=Rel.open_place_Pen j u1 (tm n);refine vx (le1 1 u_3 (g.gon w1 0 rfl))<|Rm (a.1>k.At.Row)<|wn ?_;cases E;refine Rj (a.1>k.At.Row) ?_;cases u;refine Rj (a.1>k.At.Row) ?_;rcases bo (decide (a.1>k.At.Row)) with q|q
      ·obtain rfl:=orT q z;exact vb q<|pz<|pz<|pz<|pz<|pz<|ps<|Ri true<|Ry i ⟨g,rfl⟩
      have x:=orF q z;refine vb q<|wa (I f)<|Rn (f==1)<|wn<|bn x fun k0 b0 x=>?_;rcases bo (f==1) with s|s
      ·have M:=anT s b0;refine vb s<|wa (I a.1)<|wa (Q b)<|wa (Q b)<|wa (Qo b 1)<|wa (Qo b 1)<|wn<|bn M fun h x1 M=>?_;obtain ⟨v53,y1,d3⟩:=Rel.open_place_Pen j x1 (tm n);refine vx (le1 1 u_3 (g.gon y1 0 rfl))<|Rm (a.1<h.At.Row)<|wn ?_;cases M;refine Rj (a.1<h.At.Row) ?_;cases x;exact Rj (a.1<h.At.Row)<|Ry i ⟨g,rfl⟩
      obtain rfl:=anF s b0;refine vb s<|pz<|pz<|pz<|ps<|Rn false ?_;cases x;exact Ri false<|Ry i ⟨g,rfl⟩
     obtain rfl:=anF p a0;refine vb p<|pz<|pz<|pz<|ps<|Rn false ?_;cases u;refine Ri false ?_;have d0:false=false:=rfl;have y:=orF d0 z;refine vb d0<|wa (I f)<|Rn (f==1)<|wn<|bn y fun k0 e0 y=>?_;rcases bo (f==1) with t|t
     ·have N:=anT t e0;refine vb t<|wa (I a.1)<|wa (Q b)<|wa (Q b)<|wa (Qo b 1)<|wa (Qo b 1)<|wn<|bn N fun h z1 N=>?_;obtain ⟨n3,b2,e3⟩:=Rel.open_place_Pen j z1 (tm n);refine vx (le1 1 u_3 (g.gon b2 0 rfl))<|Rm (a.1<h.At.Row)<|wn ?_;cases N;refine Rj (a.1<h.At.Row) ?_;cases y;exact Rj (a.1<h.At.Row)<|Ry i ⟨g,rfl⟩
     obtain rfl:=anF t e0;refine vb t<|pz<|pz<|pz<|ps<|Rn false ?_;cases y;exact Ri false<|Ry i ⟨g,rfl⟩
    rintro e_ w_ ⟨e1,z2,_,rfl,k2,rfl,P,rfl⟩;refine nrm<|cn d (fun c2 d=>?_) (fun c2 d=>?_)
    ·refine W.region<|vv (Q b)<|va (Q b)<|bn d fun m0 d2 d=>?_;obtain ⟨o3,f2,e2⟩:=Rel.open_place_Pen (j.mono k2) d2 (tm n);refine vx (le1 0 jT (P.gon f2 0 rfl))<|Ro a.1<|bn d fun s0 g2 d=>cl (dd P j.m m0.G a.1 e2 g2) ?_;rintro p3 x2 j3 ⟨_,z0,rfl,i2⟩;refine bn d fun w2 j2 d=>cl (wN z0 j.m (hG.m.le (by decide)) s0 i2 j2) ?_;rintro q3 f1 k3 ⟨u0,a1,c1,rfl⟩;refine WL.nil<|RH ?_;cases d;exact jn f1 ⟨u0,a1,rfl,c1⟩
    refine W.skip<|RH ?_;cases d;exact jn e1 ⟨D,P,rfl,j.m⟩
   rintro e_ w_ ⟨g1,a3,_,rfl,l3,rfl,v0,b1,rfl,d1⟩;refine W.region<|Rq (a.1+1)<|WL.nil ?_;cases w0;exact ⟨_,rfl,jn g1 ⟨v0,b1,rfl,d1⟩⟩
  refine W.exit<|thx ?_;cases H;exact ⟨_,rfl,rfl,jn i ⟨D,g,rfl,j⟩⟩
 ·exact jn R ⟨G4,x0,rfl,R6.m⟩
 rintro _ e_ w_ ⟨rfl,h1,b3,_,rfl,m3,rfl,f0,g0,rfl,h0⟩;refine bke ?_;cases T;exact RN h1 ⟨f0,g0,h0,rfl⟩
def ga (sg:Sto) (p0:Option Nat) (p1:aJ):Option Sto:=
 (p0).bind fun e=>
 (sg.place_Pen[e]?).bind fun a=>
 (bz sg a.G a.At.Row).bind fun c=>
 if (p1.Kind==2)=true then
 (cg sg a.G).bind fun f=>
 (bM sg a.G).bind fun g=>
 (ju p1.A p1.B f g).bind fun h=>
 (sg.set_place_Pen e (⟨a.G,h,a.Auto⟩:bq)).bind fun d=>
 some d
 else
 if (p1.Kind==3)=true then
 (mC sg p0 p1.A).bind fun i=>
 some i
 else
 if (p1.Kind==4)=true then
 (nS sg p0 p1.A).bind fun j=>
 some j
 else
 if (p1.Kind==5)=true then
 (kC sg c a.At.Col p1.A).bind fun k=>
 some k
 else
 if (p1.Kind==6)=true then
 (kU sg c a.At.Col p1.A).bind fun l=>
 some l
 else
 if (p1.Kind==7)=true then
 (kV sg c a.At.Col p1.A).bind fun m=>
 some m
 else
 if (p1.Kind==12)=true then
 (sg.set_place_Pen e (⟨a.G,a.At,p1.A != 0⟩:bq)).bind fun b=>
 some b
 else
 some sg
theorem AA (O0:Own c0 G F) (k:Rel c0 sg G) (hG:Gl [3,7] c0) (D:Option Nat) (b:aJ){r:Sto}(h2:Pt 2 c0 v1 D) (h4:Sl (RI .u8) c0 v3 b.Bytes) (H:ga sg D b=some r): RU 104 #[v1,.agg #[I b.Kind,I b.A,I b.B,v3]] c0 fun c v=>∃G_:Gm,Own c G_ F/\Rel c r G_/\v= .tuple #[]:=by
 unfold ga at H;refine en func104 rfl rfl<|sr ?_;obtain ⟨a5,a6,a7,rfl⟩:=(h4).form;refine me (bx 52 [I b.Kind,I b.A,I b.B,.slice a5 a6 a7] O0) ?_;rintro v12 e4 q ⟨n,rfl,O9,i⟩;refine Rx<|rD [] (Kp G []) O9 ?_;intro b2 s E;have e0:=(Kp.nil E);refine ta 0 v1<|bn H fun g4 n2 H=>?_;obtain ⟨a,rfl,x⟩:=((h2.mono (q.trans s))).get n2;refine ta 1 (Q a)<|ta 2 (Q a)<|bn H fun d o2 H=>?_;obtain ⟨v20,h,o⟩:=Rel.open_place_Pen (k.mono (q.trans s)) o2 x;refine tkx 3 e0 (fun l f j=>le1 0 jT (j.gon h 0 rfl)) (ta 4 (Q a)<|ta 5 (Q a)<|ta 6 (Qo a 1)<|ta 7 (Qo a 1)<|tkx 8 e0 (fun l f j=>le1 1 u_3 (j.gon h 0 rfl)) (bn H fun p p2 H=>o1 9 (gc 9 (dd E k.m d.G d.At.Row o p2) ?_)));rintro v24 U t ⟨_,g,rfl,y⟩;have d3:=(Kp.nil g);refine ⟨.inr d3,ta 10 v24 (dn (nrm<|RB (Q n)<|vx (l1 u_3 ((mm i) 0 _ rfl))<|wln<|W.block<|sr<|Rk (b.Kind==2)<|RF H (fun q2 H=>?_) (fun q2 H=>?_)))⟩
 ·refine rD [18] (Kp G []) g ?_;intro c2 X M;have f0:=(Kp.nil M);refine ta 0 (Q a)<|ta 1 (Qo n (0+1))<|tx 2 (fun l f=>l1 u_3 ((mm i) 1 _ rfl))<|ta 3 (Qo n (0+2))<|tx 4 (fun l f=>l1 u_3 ((mm i) 2 _ rfl))<|ta 5 (Q a)<|ta 6 (Q a)<|ta 7 (Q a)<|tkx 8 f0 (fun l f j=>le1 0 jT (j.gon h 0 rfl)) (ta 10 (Q a)<|ta 11 (Q a)<|ta 12 (Q a)<|tkx 13 f0 (fun l f j=>le1 0 jT (j.gon h 0 rfl)) (bn H fun f1 s2 H=>o1 9 (gc 9 (cU M k.m d.G o.m s2) ?_)));rintro v43 d2 Z ⟨N,rfl⟩;have e3:=(Kp.nil N);refine ⟨.inr e3,bn H fun g1 t2 H=>o1 14 (gc 14 (bH N k.m d.G o.m t2) ?_)⟩;rintro v51 e2 a0 ⟨P,rfl⟩;have f3:=(Kp.nil P);refine ⟨.inr f3,bn H fun e u2 H=>o1 15 (gc 15 (tZ P b.A b.B f1 g1 u2) ?_)⟩;rintro v59 f2 b0 ⟨R,rfl⟩;have g3:=(Kp.nil R);refine ⟨.inr g3,ta 16 (Q a) (ta 17 (Qo a 1)<|o1 18 (gD 18 (gB 29 1 [I e.Row,I e.Col,B e.Pending] [v20,I e.Row,I e.Col,B e.Pending,B d.Auto] 0 R h ⟨rfl,rfl,rfl,trivial⟩) ?_))⟩;rintro g2 d0 n1;refine bn H fun h1 v2 H=>?_;obtain ⟨i1,q1,w1,f4,d4⟩:=Rel.put_place_Pen n1 (k.mono (q.trans (s.trans (t.trans (X.trans (Z.trans (a0.trans (b0.trans d0)))))))) (E':=[(Eb a 73 [v20,I e.Row,I e.Col,B e.Pending,B d.Auto])]) v2 ⟨a,v20,(tm x),rfl,(o.mono (t.trans (X.trans (Z.trans (a0.trans (b0.trans d0))))))⟩;refine ⟨.inl rfl,dn (bkn ?_)⟩;cases H;exact RN g2 ⟨i1,q1,w1,rfl⟩
 refine sr<|Rk (b.Kind==3)<|RF H (fun w2 H=>?_) (fun w2 H=>?_)
 ·refine Rv (Q a)<|Rs n (0+1)<|vx (l1 u_3 ((mm i) 1 _ rfl))<|bn H fun y3 x2 H=>cl (wO g k.m (hG.m.le (by decide)) D b.A h2.m x2) ?_;rintro n4 i2 i4 ⟨j1,s1,x1,rfl⟩;refine WL.nil<|bkn ?_;cases H;exact RN i2 ⟨j1,s1,x1,rfl⟩
 refine sr<|Rk (b.Kind==4)<|RF H (fun y2 H=>?_) (fun y2 H=>?_)
 ·refine Rv (Q a)<|Rs n (0+1)<|vx (l1 u_3 ((mm i) 1 _ rfl))<|bn H fun z3 z2 H=>cl (yU g k.m (hG.m.le (by decide)) D b.A h2.m z2) ?_;rintro o4 j2 j4 ⟨k1,t1,y1,rfl⟩;refine WL.nil<|bkn ?_;cases H;exact RN j2 ⟨k1,t1,y1,rfl⟩
 refine sr<|Rk (b.Kind==5)<|RF H (fun a3 H=>?_) (fun a3 H=>?_)
 ·refine rD [8] (Kp G []) g ?_;intro k2 k4 S;have h3:=(Kp.nil S);refine ta 0 v24<|ta 1 (Q a)<|ta 2 (Q a)<|ta 3 (Qo a 1)<|ta 4 (Qo a 2)<|tkx 5 h3 (fun l f j=>le1 2 u_3 (j.gon h 0 rfl)) (ta 6 (Qo n (0+1))<|tx 7 (fun l f=>l1 u_3 ((mm i) 1 _ rfl))<|bn H fun a4 b3 H=>o1 8 (gc 8 (yT S k.m (hG.m.le (by decide)) p d.At.Col b.A y.m b3) ?_));rintro p4 l2 l4 ⟨m1,u1,z1,rfl⟩;refine ⟨.inl rfl,dn (bkn ?_)⟩;cases H;exact RN l2 ⟨m1,u1,z1,rfl⟩
 refine sr<|Rk (b.Kind==6)<|RF H (fun c3 H=>?_) (fun c3 H=>?_)
 ·refine rD [8] (Kp G []) g ?_;intro m2 m4 T;have i3:=(Kp.nil T);refine ta 0 v24<|ta 1 (Q a)<|ta 2 (Q a)<|ta 3 (Qo a 1)<|ta 4 (Qo a 2)<|tkx 5 i3 (fun l f j=>le1 2 u_3 (j.gon h 0 rfl)) (ta 6 (Qo n (0+1))<|tx 7 (fun l f=>l1 u_3 ((mm i) 1 _ rfl))<|bn H fun b4 x0 H=>o1 8 (gc 8 (yj T k.m (hG.m.le (by decide)) p d.At.Col b.A y.m x0) ?_));rintro w3 t0 s3 ⟨g0,j0,o0,rfl⟩;refine ⟨.inl rfl,dn (bkn ?_)⟩;cases H;exact RN t0 ⟨g0,j0,o0,rfl⟩
 refine sr<|Rk (b.Kind==7)<|RF H (fun y0 H=>?_) (fun y0 H=>?_)
 ·refine rD [8] (Kp G []) g ?_;intro u0 t3 u;have d1:=(Kp.nil u);refine ta 0 v24<|ta 1 (Q a)<|ta 2 (Q a)<|ta 3 (Qo a 1)<|ta 4 (Qo a 2)<|tkx 5 d1 (fun l f j=>le1 2 u_3 (j.gon h 0 rfl)) (ta 6 (Qo n (0+1))<|tx 7 (fun l f=>l1 u_3 ((mm i) 1 _ rfl))<|bn H fun c4 z0 H=>o1 8 (gc 8 (yk u k.m (hG.m.le (by decide)) p d.At.Col b.A y.m z0) ?_));rintro x3 v0 u3 ⟨h0,k0,q0,rfl⟩;refine ⟨.inl rfl,dn (bkn ?_)⟩;cases H;exact RN v0 ⟨h0,k0,q0,rfl⟩
 refine sr<|Rk (b.Kind==12)<|RF H (fun a1 H=>?_) (fun a1 H=>?_)
 ·refine Rv (Q a)<|Rs n (0+1)<|vx (l1 u_3 ((mm i) 1 _ rfl))<|Ri (b.A != 0)<|va (Q a)<|Rs a 4<|md (gC 4 4 (B (b.A != 0)) [v20,I d.At.Row,I d.At.Col,B d.At.Pending,B (b.A != 0)] 0 g h ⟨rfl,trivial⟩) ?_;rintro w0 z l0;refine bn H fun e1 b1 H=>?_;obtain ⟨i0,m0,s0,p3,l3⟩:=Rel.put_place_Pen l0 (k.mono (q.trans (s.trans (t.trans z)))) (E':=[(Eb a 73 [v20,I d.At.Row,I d.At.Col,B d.At.Pending,B (b.A != 0)])]) b1 ⟨a,v20,(tm x),rfl,(o.mono (t.trans z))⟩;refine WL.nil<|bkn ?_;cases H;exact RN w0 ⟨i0,m0,s0,rfl⟩
 refine W.skip<|bkn ?_;cases H;exact RN U ⟨G,g,k.m,rfl⟩
def qi (sg:Sto) (p0:Option Nat) (p1:aJ):Option (Sto×Er):=
 (lD p1).bind fun g=>
 if (!g.isNil)=true then
 some (sg,g)
 else
 (orE p0.isNone ((p0).bind fun i=>
 (sg.place_Pen[i]?).bind fun j=>
 some j.G.isNone)).bind fun h=>
 if h then
 some (sg,Er.nil)
 else
 (p0).bind fun d=>
 (sg.place_Pen[d]?).bind fun b=>
 (cg sg b.G).bind fun k=>
 (bM sg b.G).bind fun l=>
 (ej b.At k l).bind fun e=>
 (sg.set_place_Pen d (⟨b.G,e,b.Auto⟩:bq)).bind fun f=>
 (f.set_place_Pen d (⟨b.G,(⟨e.Row,e.Col,false⟩:ai),b.Auto⟩:bq)).bind fun a=>
 (if (p1.Kind==8)=true then
 (jl a p0 p1).bind fun c=>
 some c
 else
 if (p1.Kind==9)=true then
 (jl a p0 p1).bind fun c=>
 some c
 else
 (if (p1.Kind==10)=true then
 some (p1.Kind==10)
 else
 some (p1.Kind==11)).bind fun o=>
 if o then
 (jl a p0 p1).bind fun c=>
 some c
 else
 (ga a p0 p1).bind fun m=>
 some m).bind fun n=>
 some (n,Er.nil)
theorem ET (O0:Own c0 G F) (t:Rel c0 sg G) (hG:Gl [3,7] c0) (s:Option Nat) (e:aJ){r:Sto×Er}(u:Pt 2 c0 v1 s) (P:Sl (RI .u8) c0 v3 e.Bytes) (H:qi sg s e=some r): RU 57 #[v1,.agg #[I e.Kind,I e.A,I e.B,v3]] c0 fun c v=>∃y1,∃G_:Gm,Own c G_ F/\Rel c r.1 G_/\v=y1/\RE 352 80 c y1 r.2:=by
 unfold qi at H;refine en func57 rfl rfl<|sr ?_;obtain ⟨a5,a6,a7,rfl⟩:=(P).form;refine me (bx 52 [I e.Kind,I e.A,I e.B,.slice a5 a6 a7] O0) ?_;rintro v12 w4 p ⟨b8,rfl,O9,k⟩;refine va (.nilIface)<|Rx<|sr<|vx (lN 52 k)<|bn H fun x3 z2 H=>cl (vB O9 (hG.m.le (by decide)) e P.m z2) ?_;rintro v14 D q ⟨_,x,rfl,o0⟩;refine va v14<|wln<|RB v14<|vr (B (!x3.isNil)) (by rcases (o0).cs with ⟨h,i⟩|⟨b_,h,i⟩|⟨b_,h,i⟩ <;> (subst h; rw [i]; kernel_rfl))<|RF H (fun a3 H=>?_) (fun a3 H=>?_)
 ·refine sr<|vv v14<|RD<|thr ?_;cases H;exact Rz D ⟨v14,G,x,t.m,rfl,o0⟩
 refine RG<|W.seq<|W.seq<|bn H fun n1 q0 H=>W.join (Jn D fun c l=>Own c G F/\l= [(0,v1),(3,Q b8),(19,B n1)]) ?_ ?_
 ·clear H;refine Rv v1<|vr (B s.isNone) (by rcases u.m.cs with ⟨h,i⟩|⟨b_,h,i⟩ <;> (subst h; rw [i]; kernel_rfl)) ?_;rcases bo s.isNone with o|o
  ·obtain rfl:=orT o q0;exact vb o<|pz<|pz<|ps<|Ri true<|Ry D ⟨x,rfl⟩
  have n:=orF o q0;refine vb o<|wa v1<|wn<|bn n fun i4 c3 n=>?_;obtain ⟨m0,rfl,b3⟩:=((u.mono (p.trans q))).get c3;refine va (Q m0)<|wa (Q m0)<|wn<|bn n fun e0 d3 n=>?_;obtain ⟨v30,f3,e3⟩:=Rel.open_place_Pen (t.mono (p.trans q)) d3 b3;refine vx (le1 0 jT (x.gon f3 0 rfl))<|wn<|vr (B e0.G.isNone) (by rcases (e3).cs with ⟨h,i⟩|⟨b_,h,i⟩ <;> (subst h; rw [i]; kernel_rfl)) ?_;cases n;exact Ri e0.G.isNone<|Ry D ⟨x,rfl⟩
 rintro e_ w_ ⟨s2,y4,_,rfl,U,rfl,h0,rfl⟩;refine nrm<|cn H (fun g3 H=>?_) (fun g3 H=>?_)
 ·refine RB (.nilIface)<|RD<|thr ?_;cases H;exact Rz s2 ⟨.nilIface,G,h0,t.m,rfl,rfl⟩
 refine RG<|W.seq<|rD [18] (Kp G []) h0 ?_;intro t2 X i0;have f0:=(Kp.nil i0);refine ta 0 v1<|ta 1 v1<|bn H fun j4 h3 H=>?_;obtain ⟨a,rfl,S⟩:=((u.mono (p.trans (q.trans (U.trans X))))).get h3;refine ta 2 (Q a)<|ta 3 (Qo a 1)<|bn H fun d i3 H=>?_;obtain ⟨v47,N,M⟩:=Rel.open_place_Pen (t.mono (p.trans (q.trans (U.trans X)))) i3 S;refine tkx 4 f0 (fun c' s0 T=>leN 29 1 [I d.At.Row,I d.At.Col,B d.At.Pending] (T.gon N 0 rfl)) (ta 5 (Q a)<|ta 6 (Q a)<|ta 7 (Q a)<|tkx 8 f0 (fun c' s0 T=>le1 0 jT (T.gon N 0 rfl)) (ta 10 (Q a)<|ta 11 (Q a)<|ta 12 (Q a)<|tkx 13 f0 (fun c' s0 T=>le1 0 jT (T.gon N 0 rfl)) (bn H fun z1 j3 H=>o1 9 (gc 9 (cU i0 t.m d.G M j3) ?_))));rintro v56 u2 Z ⟨j0,rfl⟩;have s3:=(Kp.nil j0);refine ⟨.inr s3,bn H fun b2 k3 H=>o1 14 (gc 14 (bH j0 t.m d.G M.m k3) ?_)⟩;rintro c5 v2 a0 ⟨k0,rfl⟩;have t3:=(Kp.nil k0);refine ⟨.inr t3,bn H fun b l3 H=>o1 15 (gc 15 (ek k0 d.At z1 b2 l3) ?_)⟩;rintro d5 w2 b0 ⟨l0,rfl⟩;have u3:=(Kp.nil l0);refine ⟨.inr u3,ta 16 (Q a) (ta 17 (Qo a 1)<|o1 18 (gD 18 (gB 29 1 [I b.Row,I b.Col,B b.Pending] [v47,I b.Row,I b.Col,B b.Pending,B d.Auto] 0 l0 N ⟨rfl,rfl,rfl,trivial⟩) ?_))⟩;rintro x4 d0 k2;refine bn H fun e2 n3 H=>?_;obtain ⟨t4,l2,o2,m3,u4⟩:=Rel.put_place_Pen k2 (t.mono (p.trans (q.trans (U.trans (X.trans (Z.trans (a0.trans (b0.trans d0)))))))) (E':=[(Eb a 73 [v47,I b.Row,I b.Col,B b.Pending,B d.Auto])]) n3 ⟨a,v47,(tm S),rfl,(M.mono (Z.trans (a0.trans (b0.trans d0))))⟩;refine ⟨.inl rfl,dn (nrm<|sr<|vv (Q a)<|Rs a 1<|Rs a 3<|md (gC 4 3 (B false) [v47,I b.Row,I b.Col,B false,B d.Auto] 0 l2 m3 ⟨rfl,trivial⟩) ?_)⟩;rintro E t0 m2;refine bn H fun f2 o3 H=>?_;obtain ⟨g2,y,z,z4,v4⟩:=Rel.put_place_Pen m2 (o2.mono t0) (E':=[(Eb a 73 [v47,I b.Row,I b.Col,B false,B d.Auto])]) o3 ⟨a,v47,(tm S),rfl,(M.mono (Z.trans (a0.trans (b0.trans (d0.trans t0)))))⟩;refine wln<|bn H fun c2 f j2=>W.seqJ (Jn E fun c l=>∃G_,Own c G_ F/\l= []/\Rel c c2 G_) ?_ ?_
 ·refine RB (Q b8)<|vx (l1 u_3 ((mm k) 0 _ rfl))<|wln<|W.block<|RM<|RM<|W.block<|W.block<|W.seq<|W.seq<|sr<|Rk (e.Kind==8)<|RF f (fun p3 f=>?_) (fun p3 f=>?_)
  ·refine W.exit<|thx<|thx<|bke<|bkn<|RH<|RB (Q a)<|vx (lN 52 (mm k))<|bn f fun g0 q3 f=>cl (sX y z s e u.m P.m q3) ?_;rintro e5 x2 b5 ⟨i2,n2,p2,rfl⟩;refine wln<|W.exit<|bko rfl (thx<|RJ ?_);cases f;exact jn x2 ⟨i2,n2,rfl,p2⟩
  refine RG<|W.seq<|sr<|Rk (e.Kind==9)<|RF f (fun q1 f=>?_) (fun q1 f=>?_)
  ·refine W.exit<|thx<|thx<|bko rfl (bke<|RH<|RB (Q a)<|vx (lN 52 (mm k))<|bn f fun g0 s1 f=>cl (sX y z s e u.m P.m s1) ?_);rintro p4 i1 k4 ⟨u0,y0,c1,rfl⟩;refine wln<|W.exit<|bko rfl (thx<|RJ ?_);cases f;exact jn i1 ⟨u0,y0,rfl,c1⟩
  refine RG<|bn f fun d2 j g=>W.seqJ (Jn E fun c l=>Own c g2 F/\l= [(0,Q a),(3,Q b8),(48,B d2)]) ?_ ?_
  ·refine sr<|Rk (e.Kind==10)<|RF j (fun t1 j=>?_) (fun t1 j=>?_)
   ·refine RG ?_;cases j;exact jn E ⟨y,rfl⟩
   refine W.region<|Rk (e.Kind==11)<|wln ?_;cases j;exact jn E ⟨y,rfl⟩
  rintro e_ w_ ⟨e4,f4,_,rfl,l4,rfl,R,rfl⟩;refine cn g (fun u1 g=>?_) (fun u1 g=>?_)
  ·refine W.exit<|thx<|bko rfl (bko rfl (RJ<|RB (Q a)<|vx (lN 52 (mm k))<|bn g fun g0 w1 g=>cl (sX R z.m s e u.m P.m w1) ?_));rintro q4 j1 m4 ⟨v0,z0,d1,rfl⟩;refine wln<|W.exit<|bko rfl (thx<|RJ ?_);cases g;exact jn j1 ⟨v0,z0,rfl,d1⟩
  refine RG<|W.exit<|bko rfl (bko rfl (bko rfl (thx<|RJ<|RB (Q a)<|vx (lN 52 (mm k))<|bn g fun s4 x1 g=>cl (AA R z.m (hG.m.le (by decide)) s e u.m P.m x1) ?_)));rintro r4 k1 n4 ⟨w0,a1,e1,rfl⟩;refine wln<|W.exit<|RJ ?_;cases g;exact jn k1 ⟨w0,a1,rfl,e1⟩
 rintro e_ w_ ⟨m1,g4,_,rfl,o4,rfl,x0,b1,rfl,f1⟩;refine RB (.nilIface)<|RD ?_;cases j2;exact Rz m1 ⟨.nilIface,x0,b1,f1,rfl,rfl⟩
def gu (p0:ai) (p1:Int) (p2:Int):Option Bool:=
 (ej p0 p1 p2).bind fun a=>
 some (p0.Row==a.Row && (p0.Col==a.Col && (p0.Pending==a.Pending && true)))
theorem sY (l:Own c0 G F) (a:ai) (d:Int) (e:Int){r:Bool}(H:gu a d e=some r): RU 72 #[.agg #[I a.Row,I a.Col,B a.Pending],I d,I e] c0 fun c v=>Own c G F/\v=B r:=by
 unfold gu at H;refine en func72 rfl rfl<|sr<|me (bx 29 [I a.Row,I a.Col,B a.Pending] l) ?_;rintro v5 t u ⟨s,rfl,m,j⟩;refine Ri false<|Rx<|rD [] (Kp G0 []) m ?_;intro o x n;have y:Kp G0 [] o:=Kp.nil0;refine tx 0 (fun i g=>lN 29 (mm j))<|tx 1 (fun i g=>lN 29 (mm j))<|ta 2 (I d)<|ta 3 (I e)<|bn H fun b p H=>o1 4 (gc 4 (ek n a d e p) ?_);rintro v15 f q ⟨h,rfl⟩;have k:Kp G0 [] f:=Kp.nil0;refine ⟨.inr k,AC.take 5 (B (a.Row==b.Row && (a.Col==b.Col && (a.Pending==b.Pending && true)))) rfl (by kernel_rfl) (by kernel_rfl) (fun i g=>(A6 (T:=29) (xs:= #[I a.Row,I a.Col,B a.Pending]) (ys:= #[I b.Row,I b.Col,B b.Pending]) (r:=(a.Row==b.Row && (a.Col==b.Col && (a.Pending==b.Pending && true)))) underlying29 (by kernel_rfl) (by kernel_rfl) (EqP.int (by kernel_rfl) u_3 rfl rfl (EqP.int (by kernel_rfl) u_3 rfl rfl (EqP.bool (by kernel_rfl) u_4 rfl rfl EqP.nil))) (by kernel_rfl) _)) (ta 6 (B (a.Row==b.Row && (a.Col==b.Col && (a.Pending==b.Pending && true))))<|dn (nrm<|W.ret ?_))⟩;cases H;exact Rz f ⟨h,rfl⟩
def ji (sg:Sto) (p0:Int) (p1:Int):Option (Sto×(Option Nat)):=
 (og sg p0 p1).bind fun b=>
 (oX b.1 b.2).bind fun c=>
 (some (c.1.add_screen_Screen (⟨c.2,b.2⟩:eP))).bind fun a=>
 some (a,(some c.1.screen_Screen.length))
theorem qM (O0:Own c0 G F) (R0:Rel c0 sg G) (g:Int) (h:Int){r:Sto×(Option Nat)}(H:ji sg g h=some r): RU 10 #[I g,I h] c0 fun c v=>∃y1,∃G_:Gm,Own c G_ F/\Rel c r.1 G_/\eu G G_/\v=y1/\Pt 5 c y1 r.2:=by
 unfold ji at H;refine en func10 rfl rfl<|RB (.pointer none)<|wln<|RA g<|Ro h<|bn H fun n h1 H=>cl (BW O0 R0 g h h1) ?_;rintro v2 c8 l8 ⟨_,G4,O5,R6,a7,rfl,p⟩;have D:=(eu.refl _).trans a7;refine va v2<|wln<|RB v2<|bn H fun o R H=>cl (CR O5 R6 n.2 p R) ?_;rintro v12 j0 m ⟨_,i0,t,A,M,rfl,l⟩;have j:=D.trans M;refine va v2 ?_;obtain ⟨d,rfl⟩:=(l).form;obtain ⟨e,rfl⟩:=((p.mono m)).form;refine va (.agg #[.pointer d,.pointer e])<|me (al 67 [.pointer d,.pointer e] t) ?_;rintro v26 k0 f ⟨a,rfl,u⟩;have y:=u.sD 1 [0];refine bn H fun q S H=>?_;obtain ⟨k,s,T,o0,U,z,i,l0,X,N⟩:=Rel.new_screen_Screen (E:=[(Eb a 67 [.pointer d,.pointer e])]) (F:=F) (x:=(⟨o.2,n.2⟩:eP)) (b:=a) y (A.mono f) (fun c_ hle_=>⟨a,(.pointer d),(.pointer e),rfl,rfl,(l.mono (f.trans hle_)),(p.mono ((m.trans f).trans hle_))⟩);rw [aL S] at i;refine WL.gh T.1 ?_;have m0:=eu.nil j X;have P:=j.trans N;have Z:Pt 5 k (Q a) (some o.1.screen_Screen.length):=⟨a,rfl,U⟩;refine va (Q a)<|RD ?_;cases H;exact Rz k ⟨(Q a),s,z,i,P,rfl,Z⟩
def ig (sg:Sto) (p0:Option Nat) (p1:aJ):Option (Sto×Er):=
 if p0.isNone then
 some (sg,(Er.sent 4))
 else
 if (p1.Kind==0)=true then
 (p0).bind fun g=>
 (sg.screen_Screen[g]?).bind fun i=>
 (gJ sg i.Feeder p1.Bytes).bind fun o=>
 some (o,Er.nil)
 else
 if (p1.Kind==1)=true then
 (p0).bind fun h=>
 (sg.screen_Screen[h]?).bind fun j=>
 (gI sg j.Feeder).bind fun p=>
 some (p,Er.nil)
 else
 if (p1.Kind==13)=true then
 (p0).bind fun a=>
 (sg.screen_Screen[a]?).bind fun k=>
 (du sg k.Feeder).bind fun c=>
 (c.screen_Screen[a]?).bind fun l=>
 (lO c l.pen p1.A p1.B).bind fun q=>
 some (q,Er.nil)
 else
 (lD p1).bind fun d=>
 if (!d.isNil)=true then
 some (sg,d)
 else
 (p0).bind fun b=>
 (sg.screen_Screen[b]?).bind fun m=>
 (du sg m.Feeder).bind fun e=>
 (e.screen_Screen[b]?).bind fun n=>
 (qi e n.pen p1).bind fun f=>
 some (f.1,f.2)
theorem uv (O0:Own c0 G F) (d:Rel c0 sg G) (hG:Gl [3,4,7] c0) (p0:Option Nat) (a:aJ){r:Sto×Er}(t:Pt 5 c0 v1 p0) (z:Sl (RI .u8) c0 v3 a.Bytes) (H:ig sg p0 a=some r): RU 24 #[v1,.agg #[I a.Kind,I a.A,I a.B,v3]] c0 fun c v=>∃y1,∃G_:Gm,Own c G_ F/\Rel c r.1 G_/\v=y1/\RE 352 80 c y1 r.2:=by
 unfold ig at H;refine en func24 rfl rfl<|sr ?_;obtain ⟨a5,a6,a7,rfl⟩:=(z).form;refine me (bx 52 [I a.Kind,I a.A,I a.B,.slice a5 a6 a7] O0) ?_;rintro v12 s1 b ⟨y,rfl,l,h⟩;refine va (.nilIface)<|Rx<|RB v1<|vr (B p0.isNone) (by rcases t.m.cs with ⟨e,f⟩|⟨b_,e,f⟩ <;> (subst e; rw [f]; kernel_rfl))<|RF H (fun c2 H=>?_) (fun c2 H=>?_)
 ·refine sr ?_;obtain ⟨v14,S⟩:=(hG.mono b).get 4 (by decide);refine vx (l1 tB S.im)<|va v14<|RD<|thr ?_;cases H;exact Rz s1 ⟨v14,G,l,d.m,rfl,S⟩
 refine RG<|W.seq<|RB (Q y)<|vx (l1 u_3 (h 0 _ rfl))<|wln<|W.block<|sr<|Rk (a.Kind==0)<|RF H (fun d2 H=>?_) (fun d2 H=>?_)
 ·refine rD [6] (Kp G []) l ?_;intro t1 Z E;have i3:=(Kp.nil E);refine ta 0 v1<|bn H fun t3 f2 H=>?_;obtain ⟨P,rfl,e2⟩:=((t.mono (b.trans Z))).get f2;refine ta 1 (Q P)<|ta 2 (Q P)<|bn H fun u0 g2 H=>?_;obtain ⟨v24,v26,j2,i2,n4⟩:=Rel.open_screen_Screen (d.mono (b.trans Z)) g2 e2;refine tkx 3 i3 (fun n g u=>le1 0 Hw (u.gon j2 0 rfl)) (ta 4 (Qo y (0+3))<|tx 5 (fun n g=>l1 vN ((mm h) 3 _ rfl))<|bn H fun f4 k2 H=>o1 6 (gc 6 (tJ E d.m (hG.m.le (by decide)) u0.Feeder a.Bytes i2 z.m k2) ?_));rintro v35 u1 r4 ⟨d1,g1,k1,rfl⟩;refine ⟨.inl rfl,dn (RH<|RB (.nilIface)<|RD ?_)⟩;cases H;exact Rz u1 ⟨.nilIface,d1,g1,k1,rfl,rfl⟩
 refine sr<|Rk (a.Kind==1)<|RF H (fun l2 H=>?_) (fun l2 H=>?_)
 ·refine Rv v1<|bn H fun u3 n2 H=>?_;obtain ⟨R,rfl,m2⟩:=((t.mono b)).get n2;refine vv (Q R)<|bn H fun v0 o2 H=>?_;obtain ⟨v41,v43,q2,p2,o4⟩:=Rel.open_screen_Screen (d.mono b) o2 m2;refine vx (le1 0 Hw (l.gon q2 0 rfl))<|bn H fun g4 s2 H=>cl (tI l d.m (hG.m.le (by decide)) v0.Feeder p2 s2) ?_;rintro v52 w1 s4 ⟨e1,h1,m1,rfl⟩;refine WL.nil<|RH<|RB (.nilIface)<|RD ?_;cases H;exact Rz w1 ⟨.nilIface,e1,h1,m1,rfl,rfl⟩
 refine sr<|Rk (a.Kind==13)<|RF H (fun t2 H=>?_) (fun t2 H=>?_)
 ·refine RB v1<|bn H fun w3 u2 H=>?_;obtain ⟨i,rfl,T⟩:=((t.mono b)).get u2;refine vv (Q i)<|bn H fun w0 v2 H=>?_;obtain ⟨v58,v60,x2,w2,p4⟩:=Rel.open_screen_Screen (d.mono b) v2 T;refine vx (le1 0 Hw (l.gon x2 0 rfl))<|bn H fun i4 y2 H=>cl (jC l d.m w0.Feeder w2 y2) ?_;rintro v4 m4 t4 ⟨D,i1,N,rfl⟩;refine wln<|rD [8] (Kp D []) i1 ?_;intro x1 h3 M;have j3:=(Kp.nil M);refine ta 0 (Q i)<|ta 1 (Q i)<|ta 2 (Qo i 1)<|bn H fun x0 z2 H=>?_;obtain ⟨w4,x4,b3,q4,a3⟩:=Rel.open_screen_Screen (N.mono h3) z2 (tm T);refine tkx 3 j3 (fun n g u=>le1 1 AX (u.gon b3 0 rfl)) (ta 4 (Qo y (0+1))<|tx 5 (fun n g=>l1 u_3 ((mm h) 1 _ rfl))<|ta 6 (Qo y (0+2))<|tx 7 (fun n g=>l1 u_3 ((mm h) 2 _ rfl))<|bn H fun j4 c3 H=>o1 8 (gc 8 (yN M N.m (hG.m.le (by decide)) x0.pen a.A a.B a3 c3) ?_));rintro y4 z1 u4 ⟨f1,j1,n1,rfl⟩;refine ⟨.inl rfl,dn (RH<|RB (.nilIface)<|RD ?_)⟩;cases H;exact Rz z1 ⟨.nilIface,f1,j1,n1,rfl,rfl⟩
 refine W.seq<|sr<|vx (lN 52 h)<|bn H fun c1 d3 H=>cl (vB l (hG.m.le (by decide)) a z.m d3) ?_;rintro k b2 a0 ⟨_,q,rfl,U⟩;refine va k<|wln<|RB k<|vr (B (!c1.isNil)) (by rcases (U).cs with ⟨e,f⟩|⟨b_,e,f⟩|⟨b_,e,f⟩ <;> (subst e; rw [f]; kernel_rfl))<|RF H (fun e3 H=>?_) (fun e3 H=>?_)
 ·refine sr<|vv k<|RD<|thr<|RK ?_;cases H;exact Rz b2 ⟨k,G,q,d.m,rfl,U⟩
 refine RG<|RB v1<|bn H fun x3 f3 H=>?_;obtain ⟨j,rfl,X⟩:=((t.mono (b.trans a0))).get f3;refine vv (Q j)<|bn H fun y0 g3 H=>?_;obtain ⟨a4,b4,j0,i0,q3⟩:=Rel.open_screen_Screen (d.mono (b.trans a0)) g3 X;refine vx (le1 0 Hw (q.gon j0 0 rfl))<|bn H fun k4 k0 H=>cl (jC q d.m y0.Feeder i0 k0) ?_;rintro c4 p3 y3 ⟨o,d0,s,rfl⟩;refine Rx<|rD [5] (Kp o []) d0 ?_;intro g0 t0 p;have b1:=(Kp.nil p);refine ta 0 (Q j)<|ta 1 (Q j)<|ta 2 (Qo j 1)<|bn H fun z0 l0 H=>?_;obtain ⟨d4,e4,o0,s3,m0⟩:=Rel.open_screen_Screen (s.mono t0) l0 (tm X);refine tkx 3 b1 (fun n g u=>le1 1 AX (u.gon o0 0 rfl)) (tx 4 (fun n g=>lN 52 (mm h))<|bn H fun l4 q0 H=>o1 5 (gc 5 (ET p s.m (hG.m.le (by decide)) z0.pen a m0 z.m q0) ?_));rintro x h0 z3 ⟨_,b0,e0,f0,rfl,s0⟩;refine ⟨.inl rfl,ta 6 x (dn (nrm<|W.ret<|RK ?_))⟩;cases H;exact Rz h0 ⟨x,b0,e0,f0,rfl,s0⟩
def dJ (sg:Sto) (p0:Option Nat) (p1:List aJ):Option (Sto×Er):=
 (cm (σ:=Er×Int×Sto) (τ:=(Er×Sto)) (((p1.length:Int)-0).toNat+1) (fun a=>
 if decide (a.2.1<(p1.length:Int)) then
 ((idx p1 a.2.1).bind fun f=>
 (ig a.2.2 p0 f).bind fun b=>
 (bw (!b.2.isNil) (some a.1.isNil)).bind fun e=>
 if e then
 (jo a.2.1 b.2).bind fun g=>
 some (g,b.1)
 else
 some (a.1,b.1)).bind fun c=>
 some (.inl (c.1,(w64 (a.2.1+1)),c.2))
 else
 some (.inr (a.1,a.2.2))) (Er.nil,0,sg)).bind fun d=>
 some (d.2,d.1)
theorem oF (O0:Own c0 G F) (R0:Rel c0 sg G) (hG:Gl [3,4,7] c0) (p0:Option Nat) (j:List aJ){r:Sto×Er}(h2:Pt 5 c0 v1 p0) (Z:Sl cp c0 v3 j) (H:dJ sg p0 j=some r): RU 11 #[v1,v3] c0 fun c v=>∃y1,∃G_:Gm,Own c G_ F/\Rel c r.1 G_/\v=y1/\RE 352 80 c y1 r.2:=by
 unfold dJ at H;refine en func11 rfl rfl<|RB (.nilIface)<|wln<|RB (.nilIface)<|Rx<|RB v3<|vx (ln 3 wQ Z)<|Ro 0<|wln<|W.block<|bn H fun o2 h5 H6=>lp h5 (fun a=>Jn c0 fun c l=>∃v7 G_,Own c G_ F/\l= [(0,v1),(5,v7),(9,v3),(10,I (j.length:Int)),(11,I a.2.1)]/\Rel c a.2.2 G_/\RE 352 80 c v7 a.1) (fun u ex e w=>ex= .exit 0/\(Jn c0 fun c l=>∃v8 G_,Own c G_ F/\l= [(5,v8)]/\Rel c u.2 G_/\RE 352 80 c v8 u.1) e w) ?_ ?_ ?_
 ·clear H6 h5;intro a p2 a1 n1 H;revert a1 n1;rintro X w_ ⟨c9,d2,_,rfl,l9,rfl,v7,d0,y,rfl,M,s⟩;refine sr<|Rj (a.2.1<(j.length:Int))<|Rx<|cn H (fun b1 H=>?_) (fun b1 H=>?_)
  ·refine RG<|bn H fun x b g0=>W.seqJ (Jn c9 fun c l=>∃v19 G_,Own c G_ F/\l= [(0,v1),(5,v19),(9,v3),(10,I (j.length:Int)),(11,I a.2.1)]/\Rel c x.2 G_/\RE 352 80 c v19 x.1) ?_ ?_
   ·refine W.block<|RA a.2.1<|bn b fun d P b=>?_;obtain ⟨x1,c1,m1⟩:=Sl.at (Z.mono l9) (aP P);obtain ⟨v24,rfl,t⟩:=c1;refine vx (ix wQ Z.m P)<|vx (lN 52 m1)<|me (al 52 [I 0,I 0,I 0,Y] y) ?_;rintro v29 b2 k1 ⟨u0,rfl,j0⟩;refine Ro a.2.1 ?_;obtain ⟨n,o,p,rfl⟩:=((t.mono k1)).form;refine md (sA 52 [I d.Kind,I d.A,I d.B,.slice n o p] 0 j0 ⟨rfl,rfl,rfl,t.m.one,trivial⟩) ?_;rintro c2 i2 z;refine wln<|RB v1<|vx (leN 52 0 [I d.Kind,I d.A,I d.B,.slice n o p] (z.on 0 rfl))<|bn b fun i d1 b=>cl (uv z M.m (hG.m.le (by decide)) p0 d h2.m t.m d1) ?_;rintro v36 q j2 ⟨_,k,D,N,rfl,R⟩;refine va v36<|Rx<|bn b fun U S b=>W.join (Jn q fun c l=>Own c k ((Eb u0 52 [I d.Kind,I d.A,I d.B,.slice n o p])::F)/\l= [(0,v1),(5,v7),(6,I a.2.1),(8,v36),(9,v3),(10,I (j.length:Int)),(11,I a.2.1),(24,B U)]) ?_ ?_
    ·clear b;refine Rv v36<|vr (B (!i.2.isNil)) (by rcases (R).cs with ⟨f,g⟩|⟨T,f,g⟩|⟨T,f,g⟩ <;> (subst f; rw [g]; kernel_rfl)) ?_;rcases bo (!i.2.isNil) with h|h
     ·have h0:=anT h S;refine vb h<|wa v7<|wn<|vr (B a.1.isNil) (by rcases s.m.cs with ⟨f,g⟩|⟨T,f,g⟩|⟨T,f,g⟩ <;> (subst f; rw [g]; kernel_rfl)) ?_;cases h0;exact Ri a.1.isNil<|Ry q ⟨D,rfl⟩
     obtain rfl:=anF h S;exact vb h<|pz<|Ri false<|Ry q ⟨D,rfl⟩
    rintro X w_ ⟨v0,e2,_,rfl,k2,rfl,E,rfl⟩;refine nrm<|cn b (fun f1 b=>?_) (fun f1 b=>?_)
    ·refine RC a.2.1<|va v36<|bn b fun z1 g1 b=>cl (oy E a.2.1 i.2 R.m g1) ?_;rintro v55 w0 l2 ⟨_,k0,rfl,h1⟩;refine va v55<|WL.nil<|RH ?_;cases b;have l0:=k0.sD 1 [];exact jn w0 ⟨v55,k,l0,rfl,N.m,h1⟩
    refine W.skip<|RH ?_;cases b;have m0:=E.sD 1 [];exact jn v0 ⟨v7,k,m0,rfl,N.m,s.m⟩
   rintro X w_ ⟨x0,f2,_,rfl,m2,rfl,v19,e0,o0,rfl,s0,i1⟩;refine W.region<|Rq (a.2.1+1)<|WL.nil ?_;cases g0;exact ⟨_,rfl,jn x0 ⟨v19,e0,o0,rfl,s0,i1⟩⟩
  refine W.exit<|thx ?_;cases H;exact ⟨_,rfl,rfl,jn c9 ⟨v7,d0,y,rfl,M,s⟩⟩
 ·exact jn c0 ⟨.nilIface,G,O0,rfl,R0,rfl⟩
 rintro _ X w_ ⟨rfl,y0,g2,_,rfl,n2,rfl,v8,f0,q0,rfl,t0,j1⟩;refine RJ<|sr<|vv v8<|RD ?_;cases H6;exact Rz y0 ⟨v8,f0,q0,t0,rfl,j1⟩
def dh (sg:Sto) (p0:Option Nat):Option aH:=
 if p0.isNone then
 some (⟨0,0,([]:List ah),(⟨0,0,false⟩:ai),false⟩:aH)
 else
 (p0).bind fun b=>
 (sg.screen_Screen[b]?).bind fun d=>
 (d.pen).bind fun c=>
 (sg.place_Pen[c]?).bind fun a=>
 (cg sg a.G).bind fun e=>
 (bM sg a.G).bind fun f=>
 (jk sg a.G).bind fun g=>
 some (⟨e,f,g,a.At,a.Auto⟩:aH)
theorem jp (O0:Own c0 G F) (o:Rel c0 sg G) (U:Option Nat){r:aH}(h2:Pt 5 c0 v1 U) (H:dh sg U=some r): RU 13 #[v1] c0 fun c v=>∃X y2,Own c G (es true aN X 56 y2 r.Lines::F)/\v= .agg #[I r.Wide,I r.High,X,I r.At.Row,I r.At.Col,B r.At.Pending,B r.Auto]/\OA aN c X y2 r.Lines:=by
 unfold dh at H;refine en func13 rfl rfl<|sr<|me (al 31 [I 0,I 0,Y,I 0,I 0,B false,B false] O0) ?_;rintro v6 c5 T ⟨b3,rfl,y⟩;refine Rx<|RB v1<|vr (B U.isNone) (by rcases h2.m.cs with ⟨N,P⟩|⟨b_,N,P⟩ <;> (subst N; rw [P]; kernel_rfl))<|RF H (fun h7 H=>?_) (fun h7 H=>?_)
 ·refine RB (.agg #[I 0,I 0,Y,I 0,I 0,B false,B false])<|md (sA 31 [I 0,I 0,Y,I 0,I 0,B false,B false] 0 y ⟨rfl,rfl,rfl,rfl,rfl,rfl,rfl,trivial⟩) ?_;rintro S l9 O8;refine RD<|thr ?_;cases H;have g0:OA aN S Y [] []:=OA.nil (ba _);have z:=O8.addHole (e:=es true aN Y 56 [] ([]:List ah)) rfl;have Z:=z.sD 2 [0];exact uj (c:=S) (vs:=[I 0,I 0,Y,I 0,I 0,B false,B false]) rfl (by kernel_rfl) (by kernel_rfl) (by kernel_rfl) (z.on 1 rfl _ rfl).1 ⟨_,S,rfl,rfl,pt,(Y),[],Z,rfl,g0⟩
 refine RG<|RB v1<|bn H fun e1 i0 H=>?_;obtain ⟨b,rfl,h0⟩:=((h2.mono T)).get i0;refine va (Q b)<|Rs b 1<|bn H fun g1 j0 H=>?_;obtain ⟨v17,v19,q,i1,l0⟩:=Rel.open_screen_Screen (o.mono T) j0 h0;refine vx (le1 1 AX (y.gon q 0 rfl))<|bn H fun f1 o0 H=>?_;obtain ⟨d,rfl,m0⟩:=(l0).get o0;refine vv (Q d)<|bn H fun a q0 H=>?_;obtain ⟨v26,t,s⟩:=Rel.open_place_Pen (o.mono T) q0 m0;refine vx (le1 0 jT (y.gon t 0 rfl))<|va v26<|Rx<|rD [] (Kp G []) y ?_;intro b0 j1 A;have l:=(Kp.nil A);refine ta 0 v26<|ta 2 v26<|ta 4 v26<|ta 6 (Q b)<|ta 7 (Q b)<|ta 8 (Qo b 1)<|tkx 9 l (fun R x f=>le1 1 AX (f.gon q 0 rfl)) (ta 10 (Q d)<|ta 11 (Qo d 1)<|tkx 12 l (fun R x f=>leN 29 1 [I a.At.Row,I a.At.Col,B a.At.Pending] (f.gon t 0 rfl)) (ta 13 (Q b)<|ta 14 (Q b)<|ta 15 (Qo b 1)<|tkx 16 l (fun R x f=>le1 1 AX (f.gon q 0 rfl)) (ta 17 (Q d)<|ta 18 (Qo d 4)<|tkx 19 l (fun R x f=>le1 4 u_4 (f.gon t 0 rfl)) (bn H fun g s0 H=>o1 1 (gc 1 (cU A o.m a.G s.m s0) ?_)))));rintro v38 d0 k1 ⟨D,rfl⟩;have v0:=(Kp.nil D);refine ⟨.inr v0,bn H fun h t0 H=>o1 3 (gc 3 (bH D o.m a.G s.m t0) ?_)⟩;rintro v46 e0 m1 ⟨E,rfl⟩;have w0:=(Kp.nil E);refine ⟨.inr w0,bn H fun h1 u0 H=>o1 5 (gc 5 (vz E o.m a.G s.m u0) ?_)⟩;rintro v49 f0 n1 ⟨_,z0,M,rfl,u⟩;have x0:=(Kp.nil M);refine ⟨.inr x0,?_⟩;obtain ⟨i,j,k,rfl⟩:=(u).form;refine ta 20 (.agg #[I g,I h,.slice i j k,I a.At.Row,I a.At.Col,B a.At.Pending,B a.Auto])<|o1 21 (gD 21 (sA 31 [I g,I h,.slice i j k,I a.At.Row,I a.At.Col,B a.At.Pending,B a.Auto] 1 M ⟨rfl,rfl,(u).one,rfl,rfl,rfl,rfl,trivial⟩) ?_);rintro p p1 n;have y0:=(Kp.nil n);refine ⟨.inr y0,dn (nrm<|W.ret ?_)⟩;cases H;have a0:=n.sD 2 [0];exact uj (c:=p) (vs:=[I g,I h,.slice i j k,I a.At.Row,I a.At.Col,B a.At.Pending,B a.Auto]) rfl (by kernel_rfl) (by kernel_rfl) (by kernel_rfl) (n.on 1 rfl _ rfl).1 ⟨_,p,rfl,rfl,pt,(.slice i j k),z0,a0,rfl,u.m⟩
def gj (p0:aH) (p1:aH):Option Bool:=
 (bw (p0.Wide==p1.Wide) (some (p0.High==p1.High))).bind fun a=>
 (bw a (some (p0.At.Row==p1.At.Row && (p0.At.Col==p1.At.Col && (p0.At.Pending==p1.At.Pending && true))))).bind fun b=>
 (bw b (some (p0.Auto==p1.Auto))).bind fun c=>
 (bw c ((gn p0.Lines p1.Lines).bind fun e=>
 some e)).bind fun d=>
 some d
theorem sO (O0:Own c0 G F) (a:aH) (b:aH){r:Bool}(h2:Sl aN c0 v1 a.Lines) (h4:Sl aN c0 v3 b.Lines) (H:gj a b=some r): RU 12 #[.agg #[I a.Wide,I a.High,v1,I a.At.Row,I a.At.Col,B a.At.Pending,B a.Auto],.agg #[I b.Wide,I b.High,v3,I b.At.Row,I b.At.Col,B b.At.Pending,B b.Auto]] c0 fun c v=>Own c G F/\v=B r:=by
 unfold gj at H;refine en func12 rfl rfl<|sr ?_;obtain ⟨a5,a6,a7,rfl⟩:=(h2).form;refine me (bx 31 [I a.Wide,I a.High,.slice a5 a6 a7,I a.At.Row,I a.At.Col,B a.At.Pending,B a.Auto] O0) ?_;rintro v12 v0 j0 ⟨t,rfl,O9,o⟩;obtain ⟨a0,b0,d0,rfl⟩:=((h4.mono j0)).form;refine me (bx 31 [I b.Wide,I b.High,.slice a0 b0 d0,I b.At.Row,I b.At.Col,B b.At.Pending,B b.Auto] O9) ?_;rintro v20 f x0 ⟨e,rfl,d,p⟩;refine Ri false<|Rx<|bn H fun s0 y H=>bn H fun t0 u H=>bn H fun u0 q H=>bn H fun P g H=>W.join (Jn f fun c l=>Own c G F/\l= [(4,B P)]) ?_ ?_
 ·clear H;refine Rv (Q t)<|vx (l1 u_3 ((mm o) 0 _ rfl))<|va (Q e)<|vx (l1 u_3 (p 0 _ rfl))<|Ri (a.Wide==b.Wide) ?_;rcases bo (a.Wide==b.Wide) with h|h
  ·have R:=anT h y;refine vb h<|wa (Qo t (0+1))<|wn<|vx (l1 u_3 ((mm o) 1 _ rfl))<|wa (Qo e (0+1))<|wn<|vx (l1 u_3 (p 1 _ rfl))<|Rn (a.High==b.High) ?_;obtain rfl:=si R;refine Ri (a.High==b.High) ?_;rcases bo (a.High==b.High) with i|i
   ·have S:=anT i u;refine vb i<|wa (Qo t (0+3))<|wn<|vx (lN 29 (Bw (k:=3) (l:=[I a.At.Row,I a.At.Col,B a.At.Pending]) (mm o) rfl))<|wa (Qo e (0+3))<|wn<|vx (lN 29 (Bw (k:=3) (l:=[I b.At.Row,I b.At.Col,B b.At.Pending]) p rfl))<|wn<|vr (B (a.At.Row==b.At.Row && (a.At.Col==b.At.Col && (a.At.Pending==b.At.Pending && true)))) (A6 (T:=29) (xs:= #[I a.At.Row,I a.At.Col,B a.At.Pending]) (ys:= #[I b.At.Row,I b.At.Col,B b.At.Pending]) (r:=(a.At.Row==b.At.Row && (a.At.Col==b.At.Col && (a.At.Pending==b.At.Pending && true)))) underlying29 (by kernel_rfl) (by kernel_rfl) (EqP.int (by kernel_rfl) u_3 rfl rfl (EqP.int (by kernel_rfl) u_3 rfl rfl (EqP.bool (by kernel_rfl) u_4 rfl rfl EqP.nil))) (by kernel_rfl) _) ?_;obtain rfl:=si S;refine Ri (a.At.Row==b.At.Row && (a.At.Col==b.At.Col && (a.At.Pending==b.At.Pending && true))) ?_;rcases bo ((a.At.Row==b.At.Row && (a.At.Col==b.At.Col && (a.At.Pending==b.At.Pending && true)))) with j|j
    ·have U:=anT j q;refine vb j<|wa (Qo t (0+6))<|wn<|vx (l1 u_4 ((mm o) 6 _ rfl))<|wa (Qo e (0+6))<|wn<|vx (l1 u_4 (p 6 _ rfl))<|Rn (a.Auto==b.Auto) ?_;obtain rfl:=si U;refine Ri (a.Auto==b.Auto) ?_;rcases bo (a.Auto==b.Auto) with n|n
     ·have s:=anT n g;refine vb n<|wa (Qo t (0+2))<|wn<|vx (l1 gb ((mm o) 2 _ rfl))<|wa (Qo e (0+2))<|wn<|vx (l1 gb (p 2 _ rfl))<|wn<|bn s fun x h0 s=>cl (sP d a.Lines b.Lines h2.m h4.m h0) ?_;rintro v39 e0 y0 ⟨X,rfl⟩;obtain rfl:=si s;exact Rk x<|Ry e0 ⟨X,rfl⟩
     obtain rfl:=anF n g;exact vb n<|pz<|pz<|ps<|Rk false<|Ry f ⟨d,rfl⟩
    obtain rfl:=anF j q;refine vb j<|pz<|pz<|ps<|Ri false ?_;have z:false=false:=rfl;obtain rfl:=anF z g;exact vb z<|pz<|pz<|ps<|Rk false<|Ry f ⟨d,rfl⟩
   obtain rfl:=anF i u;refine vb i<|pz<|pz<|ps<|Ri false ?_;have A:false=false:=rfl;obtain rfl:=anF A q;refine vb A<|pz<|pz<|ps<|Ri false ?_;have D:false=false:=rfl;obtain rfl:=anF D g;exact vb D<|pz<|pz<|ps<|Rk false<|Ry f ⟨d,rfl⟩
  obtain rfl:=anF h y;refine vb h<|pz<|pz<|ps<|Ri false ?_;have E:false=false:=rfl;obtain rfl:=anF E u;refine vb E<|pz<|pz<|ps<|Ri false ?_;have M:false=false:=rfl;obtain rfl:=anF M q;refine vb M<|pz<|pz<|ps<|Ri false ?_;have N:false=false:=rfl;obtain rfl:=anF N g;exact vb N<|pz<|pz<|ps<|Rk false<|Ry f ⟨d,rfl⟩
 rintro e_ w_ ⟨f0,w0,_,rfl,z0,rfl,Z,rfl⟩;refine nrm<|W.ret ?_;obtain rfl:=si H;exact Rz f0 ⟨Z,rfl⟩
def fK (p0:List aJ):Option Bool:=
 (cm (σ:=Int×Int) (τ:=Bool ⊕ Unit) (((p0.length:Int)-0).toNat+1) (fun a=>
 (bw (decide (a.2<(p0.length:Int))) (some (decide (a.2<60)))).bind fun d=>
 if d then
 (idx p0 a.2).bind fun c=>
 (orE (decide ((w64 (a.1+(c.Bytes.length:Int)))>600)) ((idx p0 a.2).bind fun h=>
 (bw (h.Kind==13) ((idx p0 a.2).bind fun i=>
 some (decide (i.A>60)))).bind fun f=>
 (bw f ((idx p0 a.2).bind fun j=>
 some (decide (j.B>60)))).bind fun g=>
 some g)).bind fun e=>
 if e then
 some (.inr (.inl true))
 else
 some (.inl ((w64 (a.1+(c.Bytes.length:Int))),(w64 (a.2+1))))
 else
 some (.inr (.inr ()))) (0,0)).bind fun b=>
 match b with
 | .inl b=>
 some b
 | .inr b=>
 some (decide ((p0.length:Int)>50))
theorem rR (O0:Own c0 G F) (s:List aJ){r:Bool}(f:Sl cp c0 v1 s) (H:fK s=some r): RU 5 #[v1] c0 fun c v=>Own c G F/\v=B r:=by
 unfold fK at H;refine en func5 rfl rfl<|Ru false<|wln<|RA 0<|Rx<|RA 0<|wln<|W.block<|bn H fun y h3 H4=>lp h3 (fun a=>Jn c0 fun c l=>Own c G F/\l= [(0,v1),(3,I a.1),(4,I a.2)]) (fun t=>match t with|.inl x_=>(fun i1 ex e w=>ex= .ret/\(Jn c0 fun c l=>Own c G F/\l= [(2,B i1)]) e w) x_|.inr x_=>(fun t1 ex e w=>ex= .exit 0/\(Jn c0 fun c l=>Own c G F/\l= [(0,v1)]) e w) x_) ?_ ?_ ?_
 ·clear H4 h3;intro a g2 t0 j1 H;revert t0 j1;rintro D M ⟨c5,g6,_,rfl,E,rfl,O7,rfl⟩;refine W.seq<|W.seq<|bn H fun g0 R H=>W.join (Jn c5 fun c l=>Own c G F/\l= [(0,v1),(3,I a.1),(4,I a.2),(12,B g0)]) ?_ ?_
  ·clear H;refine RC a.2<|va v1<|vx (ln 3 wQ f.m)<|Rj (a.2<(s.length:Int)) ?_;rcases bo (decide (a.2<(s.length:Int))) with i|i
   ·have k0:=anT i R;refine vb i<|wa (I a.2)<|Rm (a.2<60) ?_;cases k0;exact Rj (a.2<60)<|Ry c5 ⟨O7,rfl⟩
   obtain rfl:=anF i R;exact vb i<|pz<|Ri false<|Ry c5 ⟨O7,rfl⟩
  rintro D M ⟨g,u1,_,rfl,q,rfl,h,rfl⟩;refine nrm<|cn H (fun v0 H=>?_) (fun v0 H=>?_)
  ·refine RG<|RM<|RA a.1<|va v1<|Ro a.2<|bn H fun d S H=>?_;obtain ⟨n1,w0,e1⟩:=Sl.at (f.mono (E.trans q)) (aP S);obtain ⟨v25,rfl,x0⟩:=w0;refine vx (ix wQ f.m S)<|Rs (sb v1) (so v1+a.2.toNat*4+3)<|vx (l1 vN (e1 3 _ rfl))<|vx (ln 3 vN x0)<|Rq (a.1+(d.Bytes.length:Int))<|Rx<|bn H fun h0 T H=>W.join (Jn g fun c l=>Own c G F/\l= [(0,v1),(3,I (w64 (a.1+(d.Bytes.length:Int)))),(4,I a.2),(48,B h0)]) ?_ ?_
   ·clear H;refine W.region<|Rt (a.1+(d.Bytes.length:Int))<|Rj ((w64 (a.1+(d.Bytes.length:Int)))>600) ?_;rcases bo (decide ((w64 (a.1+(d.Bytes.length:Int)))>600)) with j|j
    ·obtain rfl:=orT j T;exact vb j<|pz<|pz<|pz<|pz<|pz<|pz<|pz<|pz<|pz<|pz<|pz<|Ri true<|Ry g ⟨h,rfl⟩
    have b:=orF j T;refine vb j<|wa v1<|wa (I a.2)<|wn<|bn b fun z U b=>?_;obtain ⟨p1,z0,f1⟩:=Sl.at (f.mono (E.trans q)) (aP U);obtain ⟨v34,rfl,z1⟩:=z0;refine vx (ix wQ f.m U)<|wa (Qo (sb v1) (so v1+a.2.toNat*4))<|wn<|vx (l1 u_3 (f1 0 _ rfl))<|Rn (z.Kind==13)<|wn<|bn b fun m1 X b=>?_;rcases bo (z.Kind==13) with k|k
    ·have u:=anT k X;refine vb k<|wa v1<|wa (I a.2)<|wn<|bn u fun o Z u=>?_;obtain ⟨q1,a1,g1⟩:=Sl.at (f.mono (E.trans q)) (aP Z);obtain ⟨v43,rfl,b2⟩:=a1;refine vx (ix wQ f.m Z)<|wa (Qo (sb v1) (so v1+a.2.toNat*4+1))<|wn<|vx (l1 u_3 (g1 1 _ rfl))<|Rm (o.A>60)<|wn ?_;cases u;refine Rj (o.A>60)<|wn<|bn b fun i0 a0 b=>?_;rcases bo (decide (o.A>60)) with n|n
     ·have x:=anT n a0;refine vb n<|wa v1<|wa (I a.2)<|wn<|bn x fun p b0 x=>?_;obtain ⟨s1,b1,h1⟩:=Sl.at (f.mono (E.trans q)) (aP b0);obtain ⟨v52,rfl,c2⟩:=b1;refine vx (ix wQ f.m b0)<|wa (Qo (sb v1) (so v1+a.2.toNat*4+2))<|wn<|vx (l1 u_3 (h1 2 _ rfl))<|Rm (p.B>60)<|wn ?_;cases x;refine Rj (p.B>60) ?_;cases b;exact Rj (p.B>60)<|Ry g ⟨h,rfl⟩
     obtain rfl:=anF n a0;refine vb n<|pz<|pz<|pz<|Rn false ?_;cases b;exact Ri false<|Ry g ⟨h,rfl⟩
    obtain rfl:=anF k X;refine vb k<|pz<|pz<|pz<|Rn false<|wn<|bn b fun i0 c1 b=>?_;have d0:false=false:=rfl;obtain rfl:=anF d0 c1;refine vb d0<|pz<|pz<|pz<|Rn false ?_;cases b;exact Ri false<|Ry g ⟨h,rfl⟩
   rintro D M ⟨P,w1,_,rfl,d2,rfl,N,rfl⟩;refine nrm<|cn H (fun d1 H=>?_) (fun d1 H=>?_)
   ·refine Ru true<|RD<|RK ?_;cases H;exact ⟨_,rfl,⟨rfl,jn P ⟨N,rfl⟩⟩⟩
   refine W.skip<|RH<|RC a.2<|Rq (a.2+1)<|WL.nil ?_;cases H;exact ⟨_,rfl,jn P ⟨N,rfl⟩⟩
  refine W.exit<|thx ?_;cases H;exact ⟨_,rfl,rfl,jn g ⟨h,rfl⟩⟩
 ·exact jn c0 ⟨O0,rfl⟩
 rcases y with y|y
 ·intro u0; revert u0;rintro _ D M ⟨rfl,q0,x1,_,rfl,e2,rfl,l0,rfl⟩;refine RK ?_;cases H4;exact Rz q0 ⟨l0,rfl⟩
 rintro _ D M ⟨rfl,s0,y1,_,rfl,f2,rfl,o0,rfl⟩;refine RJ<|RB v1<|vx (ln 3 wQ f.m)<|vv (B (decide ((s.length:Int)>50)))<|RD ?_;cases H4;exact Rz s0 ⟨o0,rfl⟩
end Go.Proofs.YtkgjnbiiiifoaaaGreatDoor
namespace Go.Lt
open Go
def RER (S T:TypeId):Rp Er where
 size:=1
 cells:=fun c l x=>∃v,l= [v]/\RE S T c v x
 len:=fun h=>by obtain ⟨v,rfl,_⟩:=h; rfl
 one:=by
  rintro c l x ⟨v,rfl,h⟩ u hu
  rw [List.mem_singleton.1 hu]
  exact h.one
 mono:=fun k h=>by obtain ⟨v,rfl,h⟩:=h; exact ⟨v,rfl,h.lw k⟩
theorem Own.slE {P:Program}{c:Cx}{G:Gm}{F:List En}{ρ:Operand->Value}{o:Oper}{S T E:TypeId}{v:Value}{e:Er}(O:Own c G F) (h:RE S T c v e)
  (h0:v= .nilIface->(execOp ρ o).run P c.w= .ok (.value (.slice (some ⟨c.w.heap.size,0,none⟩) 1 1)) (c.w.alloc (.cells #[v] E)))
  (h1:∀t a,v= .iface t (.pointer a)->(execOp ρ o).run P c.w= .ok (.value (.slice (some ⟨c.w.heap.size,0,none⟩) 1 1)) (c.w.alloc (.cells #[v] E))):
  ∃v' c',(execOp ρ o).run P c.w= .ok (.value v') c'.w/\c.le c'/\∃vs,Own c' G (es true (RER S T) v' E vs [e]::F)/\OA (RER S T) c' v' vs [e]:=by
 refine Own.sl (R:=RER S T) (ls:=[[v]]) (vs:=[v]) (xs:=[e]) true O (ba _) rfl ⟨⟨v,rfl,h⟩,trivial⟩ (by rfl) ?_;rcases h.cs3 with hv|⟨t,a,hv⟩
 ·exact h0 hv
 ·exact h1 t a hv
end Go.Lt
