/- Parts of the proofs of MirrorRuns: the walk through the code, and plain Lean. No condition. -/
import Derived.Test.YtclmdpamofdoiaaGreatDoorMrA
import Derived.Test.YtclmdpamofdoiaaGreatDoorProg
import Derived.Test.YtclmdpamofdoiaaGreatDoorMrB
set_option linter.unusedVariables false
set_option linter.unusedSimpArgs false
namespace Go.Proofs.YtclmdpamofdoiaaGreatDoor
open Go Go.Lt
set_option maxRecDepth 10000
set_option linter.unusedVariables false
attribute [local irreducible] W WL AC
open Tryz
variable {c0:Cx}{G:Gm}{F:List En}{sg:Sto}{v1 v2 v3 v4 v5 v6 v7 v8 v9 v10 v11 v12 v13 v14 v15 v16 v17 v18 v19 v20 v21 v22 v23 v24 v25 v26 v27 v28 v29 v30 v31 v32 v33 v34 v35 v36 v37 v38 v39 v40 v41 v42 v43 v44 v45 v46 v47 v48 v49 v50 v51 v52 v53 v54 v55 v56 v57 v58 v59 v60:Value}
def jz:Option (List (Int×Int)):=
 some ([(13,13)]:List (Int×Int))
theorem rM (d:Own c0 G F){r:List (Int×Int)}(H:jz=some r): KP 286 #[] c0 fun c v=>∃a b,Own c G (es true bf a 342 b r::F)/\v=a/\OA bf c a b r:=by
 unfold jz at H;refine en func286 rfl rfl<|KE Y<|wln<|KE (III 13 13)<|me (sl bf 342 [[I 13,I 13]] ([(13,13)]:List (Int×Int)) d ⟨rfl,trivial⟩) ?_;rintro v5 f i ⟨h,e,g⟩;refine va v5<|KG ?_;cases H;exact KC f ⟨v5,h,e,rfl,g⟩
def jy:Option (List (Int×Int)):=
 some ([(10,10)]:List (Int×Int))
theorem rL (d:Own c0 G F){r:List (Int×Int)}(H:jy=some r): KP 287 #[] c0 fun c v=>∃a b,Own c G (es true bf a 342 b r::F)/\v=a/\OA bf c a b r:=by
 unfold jy at H;refine en func287 rfl rfl<|KE Y<|wln<|KE (III 10 10)<|me (sl bf 342 [[I 10,I 10]] ([(10,10)]:List (Int×Int)) d ⟨rfl,trivial⟩) ?_;rintro v5 f i ⟨h,e,g⟩;refine va v5<|KG ?_;cases H;exact KC f ⟨v5,h,e,rfl,g⟩
def jx:Option (List (Int×Int)):=
 some ([(0,9),(11,12),(14,31),(127,159),(173,173),(1564,1564),(6158,6158),(8203,8203),(8206,8207),(8232,8238),(8288,8303),(65279,65279),(65520,65531),(917504,917535),(917632,917759),(918000,921599)]:List (Int×Int))
theorem rK (d:Own c0 G F){r:List (Int×Int)}(H:jx=some r): KP 288 #[] c0 fun c v=>∃a b,Own c G (es true bf a 342 b r::F)/\v=a/\OA bf c a b r:=by
 unfold jx at H;refine en func288 rfl rfl<|KE Y<|wln<|KE (III 0 9)<|va (III 11 12)<|va (III 14 31)<|va (III 127 159)<|va (III 173 173)<|va (III 1564 1564)<|va (III 6158 6158)<|va (III 8203 8203)<|va (III 8206 8207)<|va (III 8232 8238)<|va (III 8288 8303)<|va (III 65279 65279)<|va (III 65520 65531)<|va (III 917504 917535)<|va (III 917632 917759)<|va (III 918000 921599)<|me (sl bf 342 [[I 0,I 9],[I 11,I 12],[I 14,I 31],[I 127,I 159],[I 173,I 173],[I 1564,I 1564],[I 6158,I 6158],[I 8203,I 8203],[I 8206,I 8207],[I 8232,I 8238],[I 8288,I 8303],[I 65279,I 65279],[I 65520,I 65531],[I 917504,I 917535],[I 917632,I 917759],[I 918000,I 921599]] ([(0,9),(11,12),(14,31),(127,159),(173,173),(1564,1564),(6158,6158),(8203,8203),(8206,8207),(8232,8238),(8288,8303),(65279,65279),(65520,65531),(917504,917535),(917632,917759),(918000,921599)]:List (Int×Int)) d ⟨rfl,rfl,rfl,rfl,rfl,rfl,rfl,rfl,rfl,rfl,rfl,rfl,rfl,rfl,rfl,rfl,trivial⟩) ?_;rintro v5 f i ⟨h,e,g⟩;refine va v5<|KG ?_;cases H;exact KC f ⟨v5,h,e,rfl,g⟩
def gI:List (Int×Int):=[(768,879),(1155,1161),(1425,1469),(1471,1471),(1473,1474),(1476,1477),(1479,1479),(1552,1562),(1611,1631),(1648,1648),(1750,1756),(1759,1764),(1767,1768),(1770,1773),(1809,1809),(1840,1866),(1958,1968),(2027,2035),(2070,2073),(2075,2083),(2259,2273),(2275,2306),(2362,2362),(2364,2364),(2369,2376),(2381,2381),(2385,2391),(2402,2403),(2433,2433),(2492,2492),(2494,2494),(2497,2500),(2509,2509),(2519,2519),(2530,2531),(2561,2562),(2620,2620),(2625,2626),(2631,2632),(2635,2637),(2748,2748),(2753,2757),(2765,2765),(2876,2876),(2878,2879),(2881,2884),(2893,2893),(2902,2903),(3132,3132),(3134,3136),(3142,3144),(3146,3149),(3276,3277),(3390,3390),(3393,3396),(3405,3405),(3633,3633),(3636,3642),(3655,3662),(3761,3761),(3764,3772),(3864,3865),(3953,3966),(4957,4959),(6832,6862),(7616,7679),(8204,8204),(8400,8432),(12330,12335),(12441,12442),(42607,42610),(64286,64286),(65024,65039),(65056,65071),(127995,127999),(917536,917631),(917760,917999)]
def jv:Option (List (Int×Int)):=
 some gI
theorem rJ (d:Own c0 G F){r:List (Int×Int)}(H:jv=some r): KP 289 #[] c0 fun c v=>∃a b,Own c G (es true bf a 342 b r::F)/\v=a/\OA bf c a b r:=by
 unfold jv at H;refine en func289 rfl rfl<|KE Y<|KN<|Ko (gI.map fun x=>III x.1 x.2)<|me (Own.sl (R:=bf) (E:=342) (ls:=gI.map (fun x=>[I x.1,I x.2])) (vs:=(gI.map (fun x=>[I x.1,I x.2])).flatten) (xs:=gI) true d (aO _) rfl (pS.map _ (fun _=>rfl) _) (by kernel_rfl) (by kernel_rfl)) ?_;rintro v5 f i ⟨h,e,g⟩;refine va v5<|KG ?_;cases H;exact KC f ⟨v5,h,e,rfl,g⟩
def ju:Option (List (Int×Int)):=
 some ([(8205,8205)]:List (Int×Int))
theorem rI (d:Own c0 G F){r:List (Int×Int)}(H:ju=some r): KP 290 #[] c0 fun c v=>∃a b,Own c G (es true bf a 342 b r::F)/\v=a/\OA bf c a b r:=by
 unfold ju at H;refine en func290 rfl rfl<|KE Y<|wln<|KE (III 8205 8205)<|me (sl bf 342 [[I 8205,I 8205]] ([(8205,8205)]:List (Int×Int)) d ⟨rfl,trivial⟩) ?_;rintro v5 f i ⟨h,e,g⟩;refine va v5<|KG ?_;cases H;exact KC f ⟨v5,h,e,rfl,g⟩
def jt:Option (List (Int×Int)):=
 some ([(127462,127487)]:List (Int×Int))
theorem rH (d:Own c0 G F){r:List (Int×Int)}(H:jt=some r): KP 291 #[] c0 fun c v=>∃a b,Own c G (es true bf a 342 b r::F)/\v=a/\OA bf c a b r:=by
 unfold jt at H;refine en func291 rfl rfl<|KE Y<|wln<|KE (III 127462 127487)<|me (sl bf 342 [[I 127462,I 127487]] ([(127462,127487)]:List (Int×Int)) d ⟨rfl,trivial⟩) ?_;rintro v5 f i ⟨h,e,g⟩;refine va v5<|KG ?_;cases H;exact KC f ⟨v5,h,e,rfl,g⟩
def js:Option (List (Int×Int)):=
 some ([(1536,1541),(1757,1757),(1807,1807),(2192,2193),(2274,2274),(3406,3406),(69821,69821),(69837,69837)]:List (Int×Int))
theorem rG (d:Own c0 G F){r:List (Int×Int)}(H:js=some r): KP 292 #[] c0 fun c v=>∃a b,Own c G (es true bf a 342 b r::F)/\v=a/\OA bf c a b r:=by
 unfold js at H;refine en func292 rfl rfl<|KE Y<|wln<|KE (III 1536 1541)<|va (III 1757 1757)<|va (III 1807 1807)<|va (III 2192 2193)<|va (III 2274 2274)<|va (III 3406 3406)<|va (III 69821 69821)<|va (III 69837 69837)<|me (sl bf 342 [[I 1536,I 1541],[I 1757,I 1757],[I 1807,I 1807],[I 2192,I 2193],[I 2274,I 2274],[I 3406,I 3406],[I 69821,I 69821],[I 69837,I 69837]] ([(1536,1541),(1757,1757),(1807,1807),(2192,2193),(2274,2274),(3406,3406),(69821,69821),(69837,69837)]:List (Int×Int)) d ⟨rfl,rfl,rfl,rfl,rfl,rfl,rfl,rfl,trivial⟩) ?_;rintro v5 f i ⟨h,e,g⟩;refine va v5<|KG ?_;cases H;exact KC f ⟨v5,h,e,rfl,g⟩
def gH:List (Int×Int):=[(2307,2307),(2363,2363),(2366,2368),(2377,2380),(2382,2383),(2434,2435),(2495,2496),(2503,2504),(2507,2508),(2563,2563),(2622,2624),(2691,2691),(2750,2752),(2761,2761),(2818,2819),(2880,2880),(2887,2888),(3073,3075),(3137,3140),(3330,3331),(3391,3392),(3398,3400),(3635,3635),(3763,3763),(3902,3903),(4155,4156)]
def jr:Option (List (Int×Int)):=
 some gH
theorem rF (d:Own c0 G F){r:List (Int×Int)}(H:jr=some r): KP 293 #[] c0 fun c v=>∃a b,Own c G (es true bf a 342 b r::F)/\v=a/\OA bf c a b r:=by
 unfold jr at H;refine en func293 rfl rfl<|KE Y<|KN<|Ko (gH.map fun x=>III x.1 x.2)<|me (Own.sl (R:=bf) (E:=342) (ls:=gH.map (fun x=>[I x.1,I x.2])) (vs:=(gH.map (fun x=>[I x.1,I x.2])).flatten) (xs:=gH) true d (aO _) rfl (pS.map _ (fun _=>rfl) _) (by kernel_rfl) (by kernel_rfl)) ?_;rintro v5 f i ⟨h,e,g⟩;refine va v5<|KG ?_;cases H;exact KC f ⟨v5,h,e,rfl,g⟩
def er (p0:List (Int×Int)) (p1:Int):Option Bool:=
 (cH (σ:=Int) (τ:=Bool ⊕ Unit) (((p0.length:Int)-0).toNat+1) (fun b=>
 if decide (b<(p0.length:Int)) then
 (idx p0 b).bind fun d=>
 (bL (decide ((w64 p1)>=d.1)) ((idx p0 b).bind fun e=>
 some (decide ((w64 p1)<=e.2)))).bind fun c=>
 if c then
 some (.inr (.inl true))
 else
 some (.inl ((w64 (b+1))))
 else
 some (.inr (.inr ()))) 0).bind fun a=>
 match a with
 | .inl a=>
 some a
 | .inr a=>
 some false
theorem kD (O0:Own c0 G F) (A:List (Int×Int)) (b:Int){r:Bool}(g:Sl bf c0 v1 A) (H:er A b=some r): KP 294 #[v1,J b] c0 fun c v=>Own c G F/\v=B r:=by
 unfold er at H;refine en func294 rfl rfl<|Ky false<|KA<|KD 0<|wln<|W.block<|bn H fun h h3 u=>lp h3 (fun a=>Jn c0 fun c l=>Own c G F/\l= [(0,v1),(1,J b),(5,I a)]) (fun t=>match t with|.inl E=>(fun g0 ex e w=>ex= .ret/\(Jn c0 fun c l=>Own c G F/\l= [(4,B g0)]) e w) E|.inr E=>(fun l0 ex e w=>ex= .exit 0/\(Jn c0 fun c l=>Own c G F/\l= []) e w) E) ?_ ?_ ?_
 ·clear u h3;intro a v0 S h0 H;revert S h0;rintro z D ⟨k,g6,_,rfl,l5,rfl,x,rfl⟩;refine W.seq<|KD a<|va v1<|vx (ln 3 xV g.m)<|Kr (a<(A.length:Int))<|KH H (fun U H=>?_) (fun U H=>?_)
  ·refine KI<|KM<|W.seq<|bn H fun i p H=>bn H fun y q H=>W.join (Jn k fun c l=>Own c G F/\l= [(0,v1),(1,J b),(5,I a),(29,B y)]) ?_ ?_
   ·clear H;refine Kz (J b)<|Kx b<|va v1<|Ku a ?_;obtain ⟨j0,X,e0⟩:=Sl.at (g.mono l5) (aS p);obtain rfl:=X;refine vx (ix xV g.m p)<|Kw (sb v1) (so v1+a.toNat*2)<|vx (l1 u_3 (e0 0 _ rfl))<|Kr ((w64 b)>=i.1) ?_;rcases bo (decide ((w64 b)>=i.1)) with d|d
    ·have f:=anT d q;refine vb d<|wa (J b)<|wa (I (w64 b))<|wa v1<|wa (I a)<|wn<|bn f fun j s f=>?_;obtain ⟨k0,Z,f0⟩:=Sl.at (g.mono l5) (aS s);obtain rfl:=Z;refine vx (ix xV g.m s)<|wa (Qo (sb v1) (so v1+a.toNat*2+1))<|wn<|vx (l1 u_3 (f0 1 _ rfl))<|Ks ((w64 b)<=j.2) ?_;cases f;exact Kr ((w64 b)<=j.2)<|KB k ⟨x,rfl⟩
    obtain rfl:=anF d q;exact vb d<|pz<|pz<|pz<|pz<|Kq false<|KB k ⟨x,rfl⟩
   rintro z D ⟨o,m0,_,rfl,s0,rfl,n,rfl⟩;refine nrm<|cn H (fun a0 H=>?_) (fun a0 H=>?_)
   ·refine Ky true<|KG<|KL ?_;cases H;exact ⟨_,rfl,⟨rfl,jn o ⟨n,rfl⟩⟩⟩
   refine W.skip<|KJ<|KF a<|Kv (a+1)<|WL.nil ?_;cases H;exact ⟨_,rfl,jn o ⟨n,rfl⟩⟩
  refine W.exit<|thx ?_;cases H;exact ⟨_,rfl,rfl,jn k ⟨x,rfl⟩⟩
 ·exact jn c0 ⟨O0,rfl⟩
 rcases h with h|h
 ·intro T; revert T;rintro _ z D ⟨rfl,P,o0,_,rfl,t0,rfl,M,rfl⟩;refine KL ?_;cases u;exact KC P ⟨M,rfl⟩
 rintro _ z D ⟨rfl,R,q0,_,rfl,u0,rfl,N,rfl⟩;refine KK<|Ky false<|KG ?_;cases u;exact KC R ⟨N,rfl⟩
def dQ (p0:Int):Option (Int×Int×Int):=
 (orE (decide ((w64 p0)<44032)) (some (decide ((w64 p0)>55203)))).bind fun e=>
 if e then
 some (0,0,0)
 else
 (cH (σ:=Int×Int) (τ:=(Int×Int×Int) ⊕ Unit) (((4370:Int)-4352).toNat+2) (fun d=>
 if decide (d.2<=4370) then
 (cH (σ:=Int×Int) (τ:=(Int×Int×Int) ⊕ Int) (((4469:Int)-4449).toNat+2) (fun a=>
 if decide (a.2<=4469) then
 if decide ((w64 p0)<(w64 (a.1+28))) then
 (if ((w64 ((w64 (4519+(w64 p0)))-a.1))==4519)=true then
 some 0
 else
 some ((w64 ((w64 (4519+(w64 p0)))-a.1)))).bind fun f=>
 some (.inr (.inl (d.2,a.2,f)))
 else
 some (.inl ((w64 (a.1+28)),(w64 (a.2+1))))
 else
 some (.inr (.inr a.1))) (d.1,4449)).bind fun b=>
 match b with
 | .inl b=>
 some (.inr (.inl b))
 | .inr b=>
 some (.inl (b,(w64 (d.2+1))))
 else
 some (.inr (.inr ()))) (44032,4352)).bind fun c=>
 match c with
 | .inl c=>
 some c
 | .inr c=>
 some (0,0,0)
theorem rN (T:Own c0 G F) (d:Int){r:Int×Int×Int}(H:dQ d=some r): KP 315 #[J d] c0 fun c v=>Own c G F/\v= .tuple #[I r.1,I r.2.1,I r.2.2]:=by
 unfold dQ at H;refine en func315 rfl rfl<|sr<|vv (I 0)<|Ku 0<|wln<|KE (J d)<|Kv d<|KA<|W.seq<|bn H fun R h1 H=>W.join (Jn c0 fun c l=>Own c G F/\l= [(5,I (w64 d)),(17,B R)]) ?_ ?_
 ·clear H;refine W.region<|Kx d<|Kr ((w64 d)<44032) ?_;rcases bo (decide ((w64 d)<44032)) with A|A
  ·obtain rfl:=orT A h1;exact vb A<|pz<|Kq true<|KB c0 ⟨T,rfl⟩
  have H3:=orF A h1;refine vb A<|wa (I (w64 d))<|Ks ((w64 d)>55203) ?_;cases H3;exact Kr ((w64 d)>55203)<|KB c0 ⟨T,rfl⟩
 rintro j n ⟨x,g5,_,rfl,l4,rfl,O6,rfl⟩;refine nrm<|cn H (fun k0 H=>?_) (fun k0 H=>?_)
 ·refine sr<|vv (I 0)<|Ku 0<|KG<|thr ?_;cases H;exact r3 (qq x ⟨O6,rfl⟩)
 refine KI<|KD 44032<|KA<|KD 4352<|wln<|W.block<|bn H fun k N s=>lp N (fun b=>Jn x fun c l=>Own c G F/\l= [(5,I (w64 d)),(6,I b.1),(7,I b.2)]) (fun t=>match t with|.inl o=>(fun f ex e w=>ex= .ret/\(Jn x fun c l=>Own c G F/\l= [(2,I f.1),(3,I f.2.1),(4,I f.2.2)]) e w) o|.inr o=>(fun t0 ex e w=>ex= .exit 0/\(Jn x fun c l=>Own c G F/\l= []) e w) o) ?_ ?_ ?_
 ·clear s N;intro b s0 y D H;revert y D;rintro j n ⟨h,v0,_,rfl,c1,rfl,M,rfl⟩;refine W.seq<|KD b.2<|Kr (b.2<=4370)<|KH H (fun l0 H=>?_) (fun l0 H=>?_)
  ·refine KI<|KM<|KD 4449<|wln<|W.block<|bn H fun m P u=>lp P (fun a=>Jn h fun c l=>Own c G F/\l= [(5,I (w64 d)),(6,I a.1),(7,I b.2),(8,I a.2)]) (fun t=>match t with|.inl o=>(fun f ex e w=>ex= .ret/\(Jn h fun c l=>Own c G F/\l= [(2,I f.1),(3,I f.2.1),(4,I f.2.2)]) e w) o|.inr o=>(fun E ex e w=>ex= .exit 2/\(Jn h fun c l=>Own c G F/\l= [(5,I (w64 d)),(6,I E),(7,I b.2)]) e w) o) ?_ ?_ ?_
   ·clear u P;intro a s0 y D H;revert y D;rintro j n ⟨i,w0,_,rfl,d1,rfl,q,rfl⟩;refine W.seq<|KD a.2<|Kr (a.2<=4469)<|KH H (fun m0 H=>?_) (fun m0 H=>?_)
    ·refine KI<|KM<|W.seq<|sr<|Kx d<|Ku a.1<|Kx (a.1+28)<|Kr ((w64 d)<(w64 (a.1+28)))<|KH H (fun o0 H=>?_) (fun o0 H=>?_)
     ·refine sr<|Kx d<|Kx (4519+(w64 d))<|Ku a.1<|Kv ((w64 (4519+(w64 d)))-a.1)<|wln<|bn H fun p g S=>W.seqJ (Jn i fun c l=>Own c G F/\l= [(7,I b.2),(8,I a.2),(9,I p)]) ?_ ?_
      ·refine sr<|Kx ((w64 (4519+(w64 d)))-a.1)<|Kq ((w64 ((w64 (4519+(w64 d)))-a.1))==4519)<|KH g (fun q0 g=>?_) (fun q0 g=>?_)
       ·refine KF 0<|wln ?_;cases g;exact jn i ⟨q,rfl⟩
       refine KI ?_;cases g;exact jn i ⟨q,rfl⟩
      rintro j n ⟨e0,x0,_,rfl,e1,rfl,U,rfl⟩;refine KD b.2<|Ku a.2<|Ku p<|Ku b.2<|Ku a.2<|Ku p<|KG<|thr<|KL ?_;cases S;exact ⟨_,rfl,⟨rfl,jn e0 ⟨U,rfl⟩⟩⟩
     refine KI<|KF a.1<|Kv (a.1+28)<|WL.nil<|KJ<|KF a.2<|Kv (a.2+1)<|WL.nil ?_;cases H;exact ⟨_,rfl,jn i ⟨q,rfl⟩⟩
    refine W.exit<|thx ?_;cases H;exact ⟨_,rfl,rfl,jn i ⟨q,rfl⟩⟩
   ·exact jn h ⟨M,rfl⟩
   rcases m with m|m
   ·intro z; revert z;rintro _ j n ⟨rfl,f0,y0,_,rfl,f1,rfl,X,rfl⟩;refine bkr<|KL ?_;cases u;exact ⟨_,rfl,⟨rfl,jn f0 ⟨X,rfl⟩⟩⟩
   rintro _ j n ⟨rfl,g0,z0,_,rfl,g1,rfl,Z,rfl⟩;refine bke<|KJ<|KF b.2<|Kv (b.2+1)<|WL.nil ?_;cases u;exact ⟨_,rfl,jn g0 ⟨Z,rfl⟩⟩
  refine W.exit<|thx ?_;cases H;exact ⟨_,rfl,rfl,jn h ⟨M,rfl⟩⟩
 ·exact jn x ⟨O6,rfl⟩
 rcases k with k|k
 ·intro z; revert z;rintro _ j n ⟨rfl,h0,a1,_,rfl,i1,rfl,a0,rfl⟩;refine KL ?_;cases s;exact r3 (qq h0 ⟨a0,rfl⟩)
 rintro _ j n ⟨rfl,i0,b1,_,rfl,j1,rfl,b0,rfl⟩;refine KK<|sr<|vv (I 0)<|Ku 0<|KG ?_;cases s;exact r3 (qq i0 ⟨b0,rfl⟩)
def eR (p0:Int):Option Int:=
 (bL (decide ((w64 p0)>=4352)) (some (decide ((w64 p0)<=4447)))).bind fun j=>
 (orE j ((bL (decide ((w64 p0)>=43360)) (some (decide ((w64 p0)<=43388)))).bind fun c=>
 some c)).bind fun b=>
 if b then
 some 9
 else
 (bL (decide ((w64 p0)>=4448)) (some (decide ((w64 p0)<=4519)))).bind fun d=>
 (orE d ((bL (decide ((w64 p0)>=55216)) (some (decide ((w64 p0)<=55238)))).bind fun f=>
 some f)).bind fun e=>
 if e then
 some 10
 else
 (bL (decide ((w64 p0)>=4520)) (some (decide ((w64 p0)<=4607)))).bind fun g=>
 (orE g ((bL (decide ((w64 p0)>=55243)) (some (decide ((w64 p0)<=55291)))).bind fun i=>
 some i)).bind fun h=>
 if h then
 some 11
 else
 (dQ p0).bind fun a=>
 if (a.1==0)=true then
 some 0
 else
 if (a.2.2==0)=true then
 some 12
 else
 some 13
theorem rO (z:Own c0 G F) (a:Int){r:Int}(H:eR a=some r): KP 295 #[J a] c0 fun c v=>Own c G F/\v=I r:=by
 unfold eR at H;refine en func295 rfl rfl<|KD 0<|wln<|KE (J a)<|Kv a<|KA<|W.seq<|bn H fun s1 h1 H=>bn H fun i0 h2 H=>W.join (Jn c0 fun c l=>Own c G F/\l= [(0,J a),(3,I (w64 a)),(22,B i0)]) ?_ ?_
 ·clear H;refine W.region<|Kx a<|Kr ((w64 a)>=4352) ?_;rcases bo (decide ((w64 a)>=4352)) with M|M
  ·have H4:=anT M h1;refine vb M<|wa (I (w64 a))<|Ks ((w64 a)<=4447) ?_;cases H4;refine Kr ((w64 a)<=4447) ?_;rcases bo (decide ((w64 a)<=4447)) with P|P
   ·obtain rfl:=orT P h2;exact vb P<|pz<|pz<|pz<|Kq true<|KB c0 ⟨z,rfl⟩
   have S:=orF P h2;refine vb P<|wa (I (w64 a))<|Ks ((w64 a)>=43360)<|wn<|bn S fun j0 h7 S=>?_;rcases bo (decide ((w64 a)>=43360)) with R|R
   ·have H9:=anT R h7;refine vb R<|wa (I (w64 a))<|Ks ((w64 a)<=43388)<|wn ?_;cases H9;refine Kr ((w64 a)<=43388) ?_;cases S;exact Kr ((w64 a)<=43388)<|KB c0 ⟨z,rfl⟩
   obtain rfl:=anF R h7;refine vb R<|pz<|Kt false ?_;cases S;exact Kq false<|KB c0 ⟨z,rfl⟩
  obtain rfl:=anF M h1;refine vb M<|pz<|Kq false ?_;have U:false=false:=rfl;have s:=orF U h2;refine vb U<|wa (I (w64 a))<|Ks ((w64 a)>=43360)<|wn<|bn s fun j0 X s=>?_;rcases bo (decide ((w64 a)>=43360)) with h|h
  ·have s0:=anT h X;refine vb h<|wa (I (w64 a))<|Ks ((w64 a)<=43388)<|wn ?_;cases s0;refine Kr ((w64 a)<=43388) ?_;cases s;exact Kr ((w64 a)<=43388)<|KB c0 ⟨z,rfl⟩
  obtain rfl:=anF h X;refine vb h<|pz<|Kt false ?_;cases s;exact Kq false<|KB c0 ⟨z,rfl⟩
 rintro e_ w_ ⟨d,t1,_,rfl,w1,rfl,f,rfl⟩;refine nrm<|cn H (fun c1 H=>?_) (fun c1 H=>?_)
 ·refine KD 9<|KG<|thr ?_;cases H;exact KC d ⟨f,rfl⟩
 refine KI<|W.seq<|W.seq<|bn H fun p1 Z H=>bn H fun k0 E H=>W.join (Jn d fun c l=>Own c G F/\l= [(0,J a),(3,I (w64 a)),(36,B k0)]) ?_ ?_
 ·clear H;refine W.region<|Kx a<|Kr ((w64 a)>=4448) ?_;rcases bo (decide ((w64 a)>=4448)) with i|i
  ·have t0:=anT i Z;refine vb i<|wa (I (w64 a))<|Ks ((w64 a)<=4519) ?_;cases t0;refine Kr ((w64 a)<=4519) ?_;rcases bo (decide ((w64 a)<=4519)) with j|j
   ·obtain rfl:=orT j E;exact vb j<|pz<|pz<|pz<|Kq true<|KB d ⟨f,rfl⟩
   have t:=orF j E;refine vb j<|wa (I (w64 a))<|Ks ((w64 a)>=55216)<|wn<|bn t fun l0 a0 t=>?_;rcases bo (decide ((w64 a)>=55216)) with k|k
   ·have u0:=anT k a0;refine vb k<|wa (I (w64 a))<|Ks ((w64 a)<=55238)<|wn ?_;cases u0;refine Kr ((w64 a)<=55238) ?_;cases t;exact Kr ((w64 a)<=55238)<|KB d ⟨f,rfl⟩
   obtain rfl:=anF k a0;refine vb k<|pz<|Kt false ?_;cases t;exact Kq false<|KB d ⟨f,rfl⟩
  obtain rfl:=anF i Z;refine vb i<|pz<|Kq false ?_;have b0:false=false:=rfl;have u:=orF b0 E;refine vb b0<|wa (I (w64 a))<|Ks ((w64 a)>=55216)<|wn<|bn u fun l0 d0 u=>?_;rcases bo (decide ((w64 a)>=55216)) with m|m
  ·have v0:=anT m d0;refine vb m<|wa (I (w64 a))<|Ks ((w64 a)<=55238)<|wn ?_;cases v0;refine Kr ((w64 a)<=55238) ?_;cases u;exact Kr ((w64 a)<=55238)<|KB d ⟨f,rfl⟩
  obtain rfl:=anF m d0;refine vb m<|pz<|Kt false ?_;cases u;exact Kq false<|KB d ⟨f,rfl⟩
 rintro e_ w_ ⟨e,u1,_,rfl,x1,rfl,g,rfl⟩;refine nrm<|cn H (fun d1 H=>?_) (fun d1 H=>?_)
 ·refine KD 10<|KG<|thr ?_;cases H;exact KC e ⟨g,rfl⟩
 refine KI<|W.seq<|W.seq<|bn H fun q1 e0 H=>bn H fun m0 N H=>W.join (Jn e fun c l=>Own c G F/\l= [(0,J a),(50,B m0)]) ?_ ?_
 ·clear H;refine W.region<|Kx a<|Kr ((w64 a)>=4520) ?_;rcases bo (decide ((w64 a)>=4520)) with n|n
  ·have w0:=anT n e0;refine vb n<|wa (I (w64 a))<|Ks ((w64 a)<=4607) ?_;cases w0;refine Kr ((w64 a)<=4607) ?_;rcases bo (decide ((w64 a)<=4607)) with o|o
   ·obtain rfl:=orT o N;exact vb o<|pz<|pz<|pz<|Kq true<|KB e ⟨g,rfl⟩
   have x:=orF o N;refine vb o<|wa (I (w64 a))<|Ks ((w64 a)>=55243)<|wn<|bn x fun o0 f0 x=>?_;rcases bo (decide ((w64 a)>=55243)) with p|p
   ·have x0:=anT p f0;refine vb p<|wa (I (w64 a))<|Ks ((w64 a)<=55291)<|wn ?_;cases x0;refine Kr ((w64 a)<=55291) ?_;cases x;exact Kr ((w64 a)<=55291)<|KB e ⟨g,rfl⟩
   obtain rfl:=anF p f0;refine vb p<|pz<|Kt false ?_;cases x;exact Kq false<|KB e ⟨g,rfl⟩
  obtain rfl:=anF n e0;refine vb n<|pz<|Kq false ?_;have g0:false=false:=rfl;have y:=orF g0 N;refine vb g0<|wa (I (w64 a))<|Ks ((w64 a)>=55243)<|wn<|bn y fun o0 h0 y=>?_;rcases bo (decide ((w64 a)>=55243)) with q|q
  ·have y0:=anT q h0;refine vb q<|wa (I (w64 a))<|Ks ((w64 a)<=55291)<|wn ?_;cases y0;refine Kr ((w64 a)<=55291) ?_;cases y;exact Kr ((w64 a)<=55291)<|KB e ⟨g,rfl⟩
  obtain rfl:=anF q h0;refine vb q<|pz<|Kt false ?_;cases y;exact Kq false<|KB e ⟨g,rfl⟩
 rintro e_ w_ ⟨z0,v1,_,rfl,y1,rfl,T,rfl⟩;refine nrm<|cn H (fun e1 H=>?_) (fun e1 H=>?_)
 ·refine KD 11<|KG<|thr ?_;cases H;exact KC z0 ⟨T,rfl⟩
 refine KI<|KE (J a)<|bn H fun b f1 H=>cl (rN T a f1) ?_;rintro b2 D z1 ⟨A,rfl⟩;refine va (.tuple #[I b.1,I b.2.1,I b.2.2])<|Ku b.1<|Ku b.2.1<|Ku b.2.2<|Ku b.1<|Ku b.2.1<|Ku b.2.2<|KA<|KD b.1<|Kq (b.1==0)<|KH H (fun i1 H=>?_) (fun i1 H=>?_)
 ·refine KD 0<|KG<|thr ?_;cases H;exact KC D ⟨A,rfl⟩
 refine KI<|W.seq<|KD b.2.2<|Kq (b.2.2==0)<|KH H (fun j1 H=>?_) (fun j1 H=>?_)
 ·refine KD 12<|KG<|thr ?_;cases H;exact KC D ⟨A,rfl⟩
 refine KI<|KD 13<|KG ?_;cases H;exact KC D ⟨A,rfl⟩
def iZ (p0:Int):Option Int:=
 (jz).bind fun d=>
 (jy).bind fun e=>
 (jx).bind fun f=>
 (jv).bind fun g=>
 (ju).bind fun h=>
 (jt).bind fun i=>
 (js).bind fun j=>
 (jr).bind fun c=>
 (cH (σ:=Int) (τ:=Int ⊕ Unit) (((([d,e,f,g,h,i,j,c]:List (List (Int×Int))).length:Int)-0).toNat+1) (fun b=>
 if (decide (b<(([d,e,f,g,h,i,j,c]:List (List (Int×Int))).length:Int)))=true then
 (idx ([d,e,f,g,h,i,j,c]:List (List (Int×Int))) b).bind fun k=>
 (er k p0).bind fun l=>
 if l then
 some (.inr (.inl (w64 (b+1))))
 else
 some (.inl ((w64 (b+1))))
 else
 some (.inr (.inr ()))) 0).bind fun a=>
 match a with
 | .inl a=>
 some a
 | .inr a=>
 (eR p0).bind fun m=>
 some m
theorem un (O0:Own c0 G F) (p0:Int){r:Int}(H:iZ p0=some r): KP 255 #[J p0] c0 fun c v=>Own c G F/\v=I r:=by
 unfold iZ at H;refine en func255 rfl rfl<|KD 0<|KN<|bn H fun x h1 H=>cl (rM O0 h1) ?_;rintro v2 c9 l9 ⟨_,u3,O6,rfl,h4⟩;refine bn H fun y x3 H=>cl (rL O6 x3) ?_;rintro v12 q5 q4 ⟨_,u1,g3,rfl,y3⟩;refine bn H fun z z3 H=>cl (rK g3 z3) ?_;rintro v22 r5 t1 ⟨_,v1,h3,rfl,a4⟩;refine bn H fun A b4 H=>cl (rJ h3 b4) ?_;rintro v32 s5 j1 ⟨_,w1,i3,rfl,c4⟩;refine bn H fun D d4 H=>cl (rI i3 d4) ?_;rintro v42 t5 b1 ⟨_,x1,j3,rfl,e4⟩;refine bn H fun E f4 H=>cl (rH j3 f4) ?_;rintro v52 u5 w0 ⟨_,y1,k3,rfl,g4⟩;refine bn H fun M i4 H=>cl (rG k3 i4) ?_;rintro c6 v5 u ⟨_,z1,l3,rfl,j4⟩;refine bn H fun h k4 H=>cl (rF l3 k4) ?_;rintro d6 w5 k ⟨_,b2,m3,rfl,l4⟩;obtain ⟨x5,m4,n,n3,m1⟩:=m3.frz 7 rfl (h4.mono (q4.trans (t1.trans (j1.trans (b1.trans (w0.trans (u.trans k)))))));refine WL.gh m4 ?_;obtain ⟨y5,n4,o,o3,n1⟩:=n3.frz 6 rfl (y3.mono (t1.trans (j1.trans (b1.trans (w0.trans (u.trans (k.trans n)))))));refine WL.gh n4 ?_;obtain ⟨z5,o4,p,p3,p1⟩:=o3.frz 5 rfl (a4.mono (j1.trans (b1.trans (w0.trans (u.trans (k.trans (n.trans o)))))));refine WL.gh o4 ?_;obtain ⟨a6,p4,q,q3,q1⟩:=p3.frz 4 rfl (c4.mono (b1.trans (w0.trans (u.trans (k.trans (n.trans (o.trans p)))))));refine WL.gh p4 ?_;obtain ⟨b6,o2,s,s3,s1⟩:=q3.frz 3 rfl (e4.mono (w0.trans (u.trans (k.trans (n.trans (o.trans (p.trans q)))))));refine WL.gh o2 ?_;obtain ⟨z4,p2,b,c2,e1⟩:=s3.frz 2 rfl (g4.mono (u.trans (k.trans (n.trans (o.trans (p.trans (q.trans s)))))));refine WL.gh p2 ?_;obtain ⟨a5,q2,d,d2,f1⟩:=c2.frz 1 rfl (j4.mono (k.trans (n.trans (o.trans (p.trans (q.trans (s.trans b)))))));refine WL.gh q2 ?_;obtain ⟨b5,s2,f,e2,g1⟩:=d2.frz 0 rfl (l4.mono (n.trans (o.trans (p.trans (q.trans (s.trans (b.trans d)))))));refine WL.gh s2 ?_;obtain ⟨N,P,R,rfl⟩:=((m1.mono (o.trans (p.trans (q.trans (s.trans (b.trans (d.trans f)))))))).form;obtain ⟨S,T,U,rfl⟩:=((n1.mono (p.trans (q.trans (s.trans (b.trans (d.trans f))))))).form;obtain ⟨X,Z,a0,rfl⟩:=((p1.mono (q.trans (s.trans (b.trans (d.trans f)))))).form;obtain ⟨b0,d0,e0,rfl⟩:=((q1.mono (s.trans (b.trans (d.trans f))))).form;obtain ⟨f0,g0,h0,rfl⟩:=((s1.mono (b.trans (d.trans f)))).form;obtain ⟨i0,j0,k0,rfl⟩:=((e1.mono (d.trans f))).form;obtain ⟨l0,m0,o0,rfl⟩:=((f1.mono f)).form;obtain ⟨q0,s0,t0,rfl⟩:=(g1).form;refine me (sl (RL bf) 333 [[.slice N P R],[.slice S T U],[.slice X Z a0],[.slice b0 d0 e0],[.slice f0 g0 h0],[.slice i0 j0 k0],[.slice l0 m0 o0],[.slice q0 s0 t0]] ([x,y,z,A,D,E,M,h]:List (List (Int×Int))) e2 ⟨⟨(.slice N P R),rfl,m1.m⟩,⟨(.slice S T U),rfl,n1.m⟩,⟨(.slice X Z a0),rfl,p1.m⟩,⟨(.slice b0 d0 e0),rfl,q1.m⟩,⟨(.slice f0 g0 h0),rfl,s1.m⟩,⟨(.slice i0 j0 k0),rfl,e1.m⟩,⟨(.slice l0 m0 o0),rfl,f1.m⟩,⟨(.slice q0 s0 t0),rfl,g1⟩,trivial⟩) ?_;rintro g u0 i5 ⟨k1,f2,v0⟩;refine va g<|KA<|KD 0<|wln<|W.block<|bn H fun a1 i1 i=>lp i1 (fun a=>Jn u0 fun c l=>Own c G (es true (RL bf) g 333 k1 ([x,y,z,A,D,E,M,h]:List (List (Int×Int)))::es false bf (.slice q0 s0 t0) 342 b2 h::es false bf (.slice l0 m0 o0) 342 z1 M::es false bf (.slice i0 j0 k0) 342 y1 E::es false bf (.slice f0 g0 h0) 342 x1 D::es false bf (.slice b0 d0 e0) 342 w1 A::es false bf (.slice X Z a0) 342 v1 z::es false bf (.slice S T U) 342 u1 y::es false bf (.slice N P R) 342 u3 x::F)/\l= [(0,J p0),(3,g),(4,I a)]) (fun t=>match t with|.inl x_=>(fun r4 ex e w=>ex= .ret/\(Jn u0 fun c l=>Own c G F/\l= [(2,I r4)]) e w) x_|.inr x_=>(fun w4 ex e w=>ex= .exit 0/\(Jn u0 fun c l=>Own c G (es true (RL bf) g 333 k1 ([x,y,z,A,D,E,M,h]:List (List (Int×Int)))::es false bf (.slice q0 s0 t0) 342 b2 h::es false bf (.slice l0 m0 o0) 342 z1 M::es false bf (.slice i0 j0 k0) 342 y1 E::es false bf (.slice f0 g0 h0) 342 x1 D::es false bf (.slice b0 d0 e0) 342 w1 A::es false bf (.slice X Z a0) 342 v1 z::es false bf (.slice S T U) 342 u1 y::es false bf (.slice N P R) 342 u3 x::F)/\l= [(0,J p0)]) e w) x_) ?_ ?_ ?_
 ·clear i i1;intro a e6 v3 u4 H;revert v3 u4;rintro e_ w_ ⟨l2,d5,_,rfl,a3,rfl,y0,rfl⟩;refine W.seq<|KD a<|va g<|vx (lnO 3 xU v0.m)<|Kr (a<(([x,y,z,A,D,E,M,h]:List (List (Int×Int))).length:Int))<|KH H (fun t2 H=>?_) (fun t2 H=>?_)
  ·refine KI<|KM<|KE g<|Ku a<|bn H fun e3 z0 H=>vx (ixO xU v0.m z0) ?_;obtain ⟨v4,u2,b3⟩:=OA.at (v0.mono a3) z0;obtain ⟨c3,rfl,w2⟩:=u2;refine vr c3 (rx (by kernel_rfl) (lM xV rfl (y0.on 0 rfl) (v0.m.blk z0) (at1 (j:=0) b3 rfl)))<|va (J p0)<|bn H fun p5 x2 H=>cl (kD y0 e3 p0 w2 x2) ?_;rintro n5 d1 j5 ⟨c1,rfl⟩;refine KH H (fun y2 H=>?_) (fun y2 H=>?_)
   ·refine KD a<|Kv (a+1)<|KG<|KL ?_;cases H;refine ⟨_,rfl,⟨rfl,?_⟩⟩;have g2:=c1.sD 9 [];exact jn d1 ⟨g2,rfl⟩
   refine W.skip<|KJ<|KF a<|Kv (a+1)<|WL.nil ?_;cases H;exact ⟨_,rfl,jn d1 ⟨c1,rfl⟩⟩
  refine W.exit<|thx ?_;cases H;exact ⟨_,rfl,rfl,jn l2 ⟨y0,rfl⟩⟩
 ·exact jn u0 ⟨f2,rfl⟩
 rcases a1 with a1|a1
 ·intro w3; revert w3;rintro _ e_ w_ ⟨rfl,m2,e5,_,rfl,k5,rfl,h2,rfl⟩;refine KL ?_;cases i;exact KC m2 ⟨h2,rfl⟩
 rintro _ e_ w_ ⟨rfl,c5,f5,_,rfl,l5,rfl,i2,rfl⟩;refine KK<|KE (J p0)<|bn i fun f3 z2 i=>cl (rO i2 p0 z2) ?_;rintro o5 n2 m5 ⟨j2,rfl⟩;refine Ku f3<|KG ?_;cases i;have k2:=j2.sD 9 [];exact KC n2 ⟨k2,rfl⟩
def ic:List (Int×Int):=[(169,169),(174,174),(8252,8252),(8265,8265),(8482,8482),(8505,8505),(8596,8601),(8617,8618),(8986,8987),(9000,9000),(9096,9096),(9167,9167),(9193,9203),(9208,9210),(9410,9410),(9642,9643),(9654,9654),(9664,9664),(9723,9726),(9728,9733),(9735,9746),(9748,9861),(9872,9989),(9992,10002),(10004,10004),(10006,10006),(10013,10013),(10017,10017),(10024,10024),(10035,10036),(10052,10052),(10055,10055),(10060,10060),(10062,10062),(10067,10069),(10071,10071),(10083,10087),(10133,10135),(10145,10145),(10160,10160),(10175,10175),(10548,10549),(11013,11015),(11035,11036),(11088,11088),(11093,11093),(12336,12336),(12349,12349),(12951,12951),(12953,12953),(126976,127231),(127245,127247),(127279,127279),(127340,127345),(127358,127359),(127374,127374),(127377,127386),(127405,127461),(127489,127503),(127514,127514),(127535,127535),(127538,127546),(127548,127551),(127561,127994),(128000,128317),(128326,128591),(128640,128767),(128884,128895),(128981,129023),(129036,129039),(129096,129103),(129114,129119),(129160,129167),(129198,129279),(129292,129338),(129340,129349),(129351,129791),(130048,131069)]
def jL:Option (List (Int×Int)):=
 some ic
theorem sQ (d:Own c0 G F){r:List (Int×Int)}(H:jL=some r): KP 296 #[] c0 fun c v=>∃a b,Own c G (es true bf a 342 b r::F)/\v=a/\OA bf c a b r:=by
 unfold jL at H;refine en func296 rfl rfl<|KE Y<|KN<|Ko (ic.map fun x=>III x.1 x.2)<|me (Own.sl (R:=bf) (E:=342) (ls:=ic.map (fun x=>[I x.1,I x.2])) (vs:=(ic.map (fun x=>[I x.1,I x.2])).flatten) (xs:=ic) true d (aO _) rfl (pS.map _ (fun _=>rfl) _) (by kernel_rfl) (by kernel_rfl)) ?_;rintro v5 f i ⟨h,e,g⟩;refine va v5<|KG ?_;cases H;exact KC f ⟨v5,h,e,rfl,g⟩
def iY (p0:Int):Option Bool:=
 (jL).bind fun a=>
 (er a p0).bind fun b=>
 some b
theorem um (l:Own c0 G F) (a:Int){r:Bool}(H:iY a=some r): KP 256 #[J a] c0 fun c v=>Own c G F/\v=B r:=by
 unfold iY at H;refine en func256 rfl rfl<|Ky false<|KN<|bn H fun j n H=>cl (sQ l n) ?_;rintro v2 t u ⟨_,x,m,rfl,o⟩;refine va (J a) ?_;obtain ⟨p,h,q,b,g⟩:=m.frz 0 rfl o;refine WL.gh h (bn H fun k i H=>cl (kD b j a g i) ?_);rintro v21 f s ⟨d,rfl⟩;refine Kq k<|KG ?_;cases H;have e:=d.sD 1 [];exact KC f ⟨e,rfl⟩
def gG:List (Int×Int):=[(2325,2361),(2392,2399),(2424,2431),(2453,2472),(2474,2480),(2482,2482),(2486,2489),(2524,2525),(2527,2527),(2544,2545),(2709,2728),(2730,2736),(2738,2739),(2741,2745),(2809,2809),(2837,2856),(2858,2864),(2866,2867),(2869,2873),(2908,2909),(2911,2911),(2929,2929),(3093,3112),(3114,3129),(3160,3162),(3349,3386)]
def jq:Option (List (Int×Int)):=
 some gG
theorem rC (d:Own c0 G F){r:List (Int×Int)}(H:jq=some r): KP 297 #[] c0 fun c v=>∃a b,Own c G (es true bf a 342 b r::F)/\v=a/\OA bf c a b r:=by
 unfold jq at H;refine en func297 rfl rfl<|KE Y<|KN<|Ko (gG.map fun x=>III x.1 x.2)<|me (Own.sl (R:=bf) (E:=342) (ls:=gG.map (fun x=>[I x.1,I x.2])) (vs:=(gG.map (fun x=>[I x.1,I x.2])).flatten) (xs:=gG) true d (aO _) rfl (pS.map _ (fun _=>rfl) _) (by kernel_rfl) (by kernel_rfl)) ?_;rintro v5 f i ⟨h,e,g⟩;refine va v5<|KG ?_;cases H;exact KC f ⟨v5,h,e,rfl,g⟩
def jp:Option (List (Int×Int)):=
 some ([(2381,2381),(2509,2509),(2765,2765),(2893,2893),(3149,3149),(3405,3405)]:List (Int×Int))
theorem rB (d:Own c0 G F){r:List (Int×Int)}(H:jp=some r): KP 298 #[] c0 fun c v=>∃a b,Own c G (es true bf a 342 b r::F)/\v=a/\OA bf c a b r:=by
 unfold jp at H;refine en func298 rfl rfl<|KE Y<|wln<|KE (III 2381 2381)<|va (III 2509 2509)<|va (III 2765 2765)<|va (III 2893 2893)<|va (III 3149 3149)<|va (III 3405 3405)<|me (sl bf 342 [[I 2381,I 2381],[I 2509,I 2509],[I 2765,I 2765],[I 2893,I 2893],[I 3149,I 3149],[I 3405,I 3405]] ([(2381,2381),(2509,2509),(2765,2765),(2893,2893),(3149,3149),(3405,3405)]:List (Int×Int)) d ⟨rfl,rfl,rfl,rfl,rfl,rfl,trivial⟩) ?_;rintro v5 f i ⟨h,e,g⟩;refine va v5<|KG ?_;cases H;exact KC f ⟨v5,h,e,rfl,g⟩
def jo:Option (List (Int×Int)):=
 some ([(768,879),(1155,1159),(1425,1469),(1552,1562),(1611,1631),(2364,2364),(2385,2388),(2492,2492),(2748,2748),(2876,2876),(3132,3132),(6832,6845),(7616,7679),(8205,8205),(8400,8412),(12330,12335),(12441,12442),(65056,65071)]:List (Int×Int))
theorem rA (d:Own c0 G F){r:List (Int×Int)}(H:jo=some r): KP 299 #[] c0 fun c v=>∃a b,Own c G (es true bf a 342 b r::F)/\v=a/\OA bf c a b r:=by
 unfold jo at H;refine en func299 rfl rfl<|KE Y<|wln<|KE (III 768 879)<|va (III 1155 1159)<|va (III 1425 1469)<|va (III 1552 1562)<|va (III 1611 1631)<|va (III 2364 2364)<|va (III 2385 2388)<|va (III 2492 2492)<|va (III 2748 2748)<|va (III 2876 2876)<|va (III 3132 3132)<|va (III 6832 6845)<|va (III 7616 7679)<|va (III 8205 8205)<|va (III 8400 8412)<|va (III 12330 12335)<|va (III 12441 12442)<|va (III 65056 65071)<|me (sl bf 342 [[I 768,I 879],[I 1155,I 1159],[I 1425,I 1469],[I 1552,I 1562],[I 1611,I 1631],[I 2364,I 2364],[I 2385,I 2388],[I 2492,I 2492],[I 2748,I 2748],[I 2876,I 2876],[I 3132,I 3132],[I 6832,I 6845],[I 7616,I 7679],[I 8205,I 8205],[I 8400,I 8412],[I 12330,I 12335],[I 12441,I 12442],[I 65056,I 65071]] ([(768,879),(1155,1159),(1425,1469),(1552,1562),(1611,1631),(2364,2364),(2385,2388),(2492,2492),(2748,2748),(2876,2876),(3132,3132),(6832,6845),(7616,7679),(8205,8205),(8400,8412),(12330,12335),(12441,12442),(65056,65071)]:List (Int×Int)) d ⟨rfl,rfl,rfl,rfl,rfl,rfl,rfl,rfl,rfl,rfl,rfl,rfl,rfl,rfl,rfl,rfl,rfl,rfl,trivial⟩) ?_;rintro v5 f i ⟨h,e,g⟩;refine va v5<|KG ?_;cases H;exact KC f ⟨v5,h,e,rfl,g⟩
def iX (p0:Int):Option Int:=
 (jq).bind fun c=>
 (jp).bind fun d=>
 (jo).bind fun e=>
 (cH (σ:=Int) (τ:=Int ⊕ Unit) (((([c,d,e]:List (List (Int×Int))).length:Int)-0).toNat+1) (fun b=>
 if (decide (b<(([c,d,e]:List (List (Int×Int))).length:Int)))=true then
 (idx ([c,d,e]:List (List (Int×Int))) b).bind fun f=>
 (er f p0).bind fun g=>
 if g then
 some (.inr (.inl (w64 (b+1))))
 else
 some (.inl ((w64 (b+1))))
 else
 some (.inr (.inr ()))) 0).bind fun a=>
 match a with
 | .inl a=>
 some a
 | .inr a=>
 some 0
theorem ul (O0:Own c0 G F) (E:Int){r:Int}(H:iX E=some r): KP 257 #[J E] c0 fun c v=>Own c G F/\v=I r:=by
 unfold iX at H;refine en func257 rfl rfl<|KD 0<|KN<|bn H fun b h1 H=>cl (rC O0 h1) ?_;rintro v2 c9 l9 ⟨_,u3,O6,rfl,h4⟩;refine bn H fun d a1 H=>cl (rB O6 a1) ?_;rintro v12 g2 p1 ⟨_,b0,h0,rfl,b1⟩;refine bn H fun f c1 H=>cl (rA h0 c1) ?_;rintro v22 h2 U ⟨_,d0,i0,rfl,d1⟩;obtain ⟨i2,e1,X,j0,P⟩:=i0.frz 2 rfl (h4.mono (p1.trans U));refine WL.gh e1 ?_;obtain ⟨j2,f1,Z,k0,R⟩:=j0.frz 1 rfl (b1.mono (U.trans X));refine WL.gh f1 ?_;obtain ⟨k2,g1,a0,l0,S⟩:=k0.frz 0 rfl (d1.mono (X.trans Z));refine WL.gh g1 ?_;obtain ⟨h,i,k,rfl⟩:=((P.mono (Z.trans a0))).form;obtain ⟨n,o,p,rfl⟩:=((R.mono a0)).form;obtain ⟨q,s,u,rfl⟩:=(S).form;refine me (sl (RL bf) 333 [[.slice h i k],[.slice n o p],[.slice q s u]] ([b,d,f]:List (List (Int×Int))) l0 ⟨⟨(.slice h i k),rfl,P.m⟩,⟨(.slice n o p),rfl,R.m⟩,⟨(.slice q s u),rfl,S⟩,trivial⟩) ?_;rintro v56 x o2 ⟨e0,m0,y⟩;refine va v56<|KA<|KD 0<|wln<|W.block<|bn H fun g T z=>lp T (fun a=>Jn x fun c l=>Own c G (es true (RL bf) v56 333 e0 ([b,d,f]:List (List (Int×Int)))::es false bf (.slice q s u) 342 d0 f::es false bf (.slice n o p) 342 b0 d::es false bf (.slice h i k) 342 u3 b::F)/\l= [(0,J E),(3,v56),(4,I a)]) (fun t=>match t with|.inl x_=>(fun t1 ex e w=>ex= .ret/\(Jn x fun c l=>Own c G F/\l= [(2,I t1)]) e w) x_|.inr x_=>(fun y1 ex e w=>ex= .exit 0/\(Jn x fun c l=>Own c G (es true (RL bf) v56 333 e0 ([b,d,f]:List (List (Int×Int)))::es false bf (.slice q s u) 342 d0 f::es false bf (.slice n o p) 342 b0 d::es false bf (.slice h i k) 342 u3 b::F)/\l= []) e w) x_) ?_ ?_ ?_
 ·clear z T;intro a u2 y0 x1 H;revert y0 x1;rintro e_ w_ ⟨u0,l2,_,rfl,q1,rfl,A,rfl⟩;refine W.seq<|KD a<|va v56<|vx (lnO 3 xU y.m)<|Kr (a<(([b,d,f]:List (List (Int×Int))).length:Int))<|KH H (fun i1 H=>?_) (fun i1 H=>?_)
  ·refine KI<|KM<|KE v56<|Ku a<|bn H fun g0 D H=>vx (ixO xU y.m D) ?_;obtain ⟨e2,j1,s1⟩:=OA.at (y.mono q1) D;obtain ⟨v1,rfl,k1⟩:=j1;refine vr v1 (rx (by kernel_rfl) (lM xV rfl (A.on 0 rfl) (y.m.blk D) (at1 (j:=0) s1 rfl)))<|va (J E)<|bn H fun f2 m1 H=>cl (kD A g0 E k1 m1) ?_;rintro t2 N p2 ⟨M,rfl⟩;refine KH H (fun n1 H=>?_) (fun n1 H=>?_)
   ·refine KD a<|Kv (a+1)<|KG<|KL ?_;cases H;refine ⟨_,rfl,⟨rfl,?_⟩⟩;have o0:=M.sD 4 [];exact jn N ⟨o0,rfl⟩
   refine W.skip<|KJ<|KF a<|Kv (a+1)<|WL.nil ?_;cases H;exact ⟨_,rfl,jn N ⟨M,rfl⟩⟩
  refine W.exit<|thx ?_;cases H;exact ⟨_,rfl,rfl,jn u0 ⟨A,rfl⟩⟩
 ·exact jn x ⟨m0,rfl⟩
 rcases g with g|g
 ·intro z0; revert z0;rintro _ e_ w_ ⟨rfl,v0,m2,_,rfl,q2,rfl,q0,rfl⟩;refine KL ?_;cases z;exact KC v0 ⟨q0,rfl⟩
 rintro _ e_ w_ ⟨rfl,w0,n2,_,rfl,s2,rfl,s0,rfl⟩;refine KK<|KD 0<|KG ?_;cases z;have t0:=s0.sD 4 [];exact KC w0 ⟨t0,rfl⟩
def ge:List (Int×Int):=[(4352,4447),(8986,8987),(9001,9002),(9193,9196),(9200,9200),(9203,9203),(9725,9726),(9748,9749),(9800,9811),(9855,9855),(9875,9875),(9889,9889),(9898,9899),(9917,9918),(9924,9925),(9934,9934),(9940,9940),(9962,9962),(9970,9971),(9973,9973),(9978,9978),(9981,9981),(9989,9989),(9994,9995),(10024,10024),(10060,10060),(10062,10062),(10067,10069),(10071,10071),(10133,10135),(10160,10160),(10175,10175),(11035,11036),(11088,11088),(11093,11093),(11904,11929),(11931,12019),(12032,12245),(12272,12287),(12289,12350),(12353,12438),(12441,12543),(12549,12591),(12593,12686),(12688,12771),(12784,12830),(12832,12871),(12880,19903),(19968,42124),(42128,42182),(43360,43388),(44032,55203),(63744,64255),(65040,65049),(65072,65106),(65108,65126),(65128,65131),(94176,94180),(94208,100343),(100352,101589),(110592,110882),(126980,126980),(127183,127183),(127374,127374),(127377,127386),(127488,127490),(127504,127547),(127552,127560),(127568,127569),(127584,127589),(127744,127776),(127789,127797),(127799,127868),(127870,127891),(127904,127946),(127951,127955),(127968,127984),(127988,127988),(127992,128062),(128064,128064),(128066,128252),(128255,128317),(128331,128334),(128336,128359),(128378,128378),(128405,128406),(128420,128420),(128507,128591),(128640,128709),(128716,128716),(128720,128722),(128725,128727),(128732,128735),(128747,128748),(128756,128764),(128992,129003),(129008,129008),(129292,129338),(129340,129349),(129351,129535),(129648,129660),(129664,129672),(129680,129725),(129727,129733),(129742,129755),(129760,129768),(129776,129784),(131072,196605),(196608,262141)]
def jm:Option (List (Int×Int)):=
 some ge
theorem ry (d:Own c0 G F){r:List (Int×Int)}(H:jm=some r): KP 300 #[] c0 fun c v=>∃a b,Own c G (es true bf a 342 b r::F)/\v=a/\OA bf c a b r:=by
 unfold jm at H;refine en func300 rfl rfl<|KE Y<|KN<|Ko (ge.map fun x=>III x.1 x.2)<|me (Own.sl (R:=bf) (E:=342) (ls:=ge.map (fun x=>[I x.1,I x.2])) (vs:=(ge.map (fun x=>[I x.1,I x.2])).flatten) (xs:=ge) true d (aO _) rfl (pS.map _ (fun _=>rfl) _) (by kernel_rfl) (by kernel_rfl)) ?_;rintro v5 f i ⟨h,e,g⟩;refine va v5<|KG ?_;cases H;exact KC f ⟨v5,h,e,rfl,g⟩
def jl:Option (List (Int×Int)):=
 some ([(12288,12288),(65281,65376),(65504,65510)]:List (Int×Int))
theorem ru (d:Own c0 G F){r:List (Int×Int)}(H:jl=some r): KP 301 #[] c0 fun c v=>∃a b,Own c G (es true bf a 342 b r::F)/\v=a/\OA bf c a b r:=by
 unfold jl at H;refine en func301 rfl rfl<|KE Y<|wln<|KE (III 12288 12288)<|va (III 65281 65376)<|va (III 65504 65510)<|me (sl bf 342 [[I 12288,I 12288],[I 65281,I 65376],[I 65504,I 65510]] ([(12288,12288),(65281,65376),(65504,65510)]:List (Int×Int)) d ⟨rfl,rfl,rfl,trivial⟩) ?_;rintro v5 f i ⟨h,e,g⟩;refine va v5<|KG ?_;cases H;exact KC f ⟨v5,h,e,rfl,g⟩
def jk:Option (List (Int×Int)):=
 some ([(8361,8361),(65377,65470),(65474,65479),(65482,65487),(65490,65495),(65498,65500),(65512,65518)]:List (Int×Int))
theorem rq (d:Own c0 G F){r:List (Int×Int)}(H:jk=some r): KP 302 #[] c0 fun c v=>∃a b,Own c G (es true bf a 342 b r::F)/\v=a/\OA bf c a b r:=by
 unfold jk at H;refine en func302 rfl rfl<|KE Y<|wln<|KE (III 8361 8361)<|va (III 65377 65470)<|va (III 65474 65479)<|va (III 65482 65487)<|va (III 65490 65495)<|va (III 65498 65500)<|va (III 65512 65518)<|me (sl bf 342 [[I 8361,I 8361],[I 65377,I 65470],[I 65474,I 65479],[I 65482,I 65487],[I 65490,I 65495],[I 65498,I 65500],[I 65512,I 65518]] ([(8361,8361),(65377,65470),(65474,65479),(65482,65487),(65490,65495),(65498,65500),(65512,65518)]:List (Int×Int)) d ⟨rfl,rfl,rfl,rfl,rfl,rfl,rfl,trivial⟩) ?_;rintro v5 f i ⟨h,e,g⟩;refine va v5<|KG ?_;cases H;exact KC f ⟨v5,h,e,rfl,g⟩
def iW (p0:Int):Option Int:=
 (jm).bind fun c=>
 (jl).bind fun d=>
 (jk).bind fun e=>
 (cH (σ:=Int) (τ:=Int ⊕ Unit) (((([c,d,e]:List (List (Int×Int))).length:Int)-0).toNat+1) (fun b=>
 if (decide (b<(([c,d,e]:List (List (Int×Int))).length:Int)))=true then
 (idx ([c,d,e]:List (List (Int×Int))) b).bind fun f=>
 (er f p0).bind fun g=>
 if g then
 some (.inr (.inl (w64 (b+1))))
 else
 some (.inl ((w64 (b+1))))
 else
 some (.inr (.inr ()))) 0).bind fun a=>
 match a with
 | .inl a=>
 some a
 | .inr a=>
 some 0
theorem uk (O0:Own c0 G F) (E:Int){r:Int}(H:iW E=some r): KP 258 #[J E] c0 fun c v=>Own c G F/\v=I r:=by
 unfold iW at H;refine en func258 rfl rfl<|KD 0<|KN<|bn H fun b h1 H=>cl (ry O0 h1) ?_;rintro v2 c9 l9 ⟨_,u3,O6,rfl,h4⟩;refine bn H fun d a1 H=>cl (ru O6 a1) ?_;rintro v12 g2 p1 ⟨_,b0,h0,rfl,b1⟩;refine bn H fun f c1 H=>cl (rq h0 c1) ?_;rintro v22 h2 U ⟨_,d0,i0,rfl,d1⟩;obtain ⟨i2,e1,X,j0,P⟩:=i0.frz 2 rfl (h4.mono (p1.trans U));refine WL.gh e1 ?_;obtain ⟨j2,f1,Z,k0,R⟩:=j0.frz 1 rfl (b1.mono (U.trans X));refine WL.gh f1 ?_;obtain ⟨k2,g1,a0,l0,S⟩:=k0.frz 0 rfl (d1.mono (X.trans Z));refine WL.gh g1 ?_;obtain ⟨h,i,k,rfl⟩:=((P.mono (Z.trans a0))).form;obtain ⟨n,o,p,rfl⟩:=((R.mono a0)).form;obtain ⟨q,s,u,rfl⟩:=(S).form;refine me (sl (RL bf) 333 [[.slice h i k],[.slice n o p],[.slice q s u]] ([b,d,f]:List (List (Int×Int))) l0 ⟨⟨(.slice h i k),rfl,P.m⟩,⟨(.slice n o p),rfl,R.m⟩,⟨(.slice q s u),rfl,S⟩,trivial⟩) ?_;rintro v56 x o2 ⟨e0,m0,y⟩;refine va v56<|KA<|KD 0<|wln<|W.block<|bn H fun g T z=>lp T (fun a=>Jn x fun c l=>Own c G (es true (RL bf) v56 333 e0 ([b,d,f]:List (List (Int×Int)))::es false bf (.slice q s u) 342 d0 f::es false bf (.slice n o p) 342 b0 d::es false bf (.slice h i k) 342 u3 b::F)/\l= [(0,J E),(3,v56),(4,I a)]) (fun t=>match t with|.inl x_=>(fun t1 ex e w=>ex= .ret/\(Jn x fun c l=>Own c G F/\l= [(2,I t1)]) e w) x_|.inr x_=>(fun y1 ex e w=>ex= .exit 0/\(Jn x fun c l=>Own c G (es true (RL bf) v56 333 e0 ([b,d,f]:List (List (Int×Int)))::es false bf (.slice q s u) 342 d0 f::es false bf (.slice n o p) 342 b0 d::es false bf (.slice h i k) 342 u3 b::F)/\l= []) e w) x_) ?_ ?_ ?_
 ·clear z T;intro a u2 y0 x1 H;revert y0 x1;rintro e_ w_ ⟨u0,l2,_,rfl,q1,rfl,A,rfl⟩;refine W.seq<|KD a<|va v56<|vx (lnO 3 xU y.m)<|Kr (a<(([b,d,f]:List (List (Int×Int))).length:Int))<|KH H (fun i1 H=>?_) (fun i1 H=>?_)
  ·refine KI<|KM<|KE v56<|Ku a<|bn H fun g0 D H=>vx (ixO xU y.m D) ?_;obtain ⟨e2,j1,s1⟩:=OA.at (y.mono q1) D;obtain ⟨v1,rfl,k1⟩:=j1;refine vr v1 (rx (by kernel_rfl) (lM xV rfl (A.on 0 rfl) (y.m.blk D) (at1 (j:=0) s1 rfl)))<|va (J E)<|bn H fun f2 m1 H=>cl (kD A g0 E k1 m1) ?_;rintro t2 N p2 ⟨M,rfl⟩;refine KH H (fun n1 H=>?_) (fun n1 H=>?_)
   ·refine KD a<|Kv (a+1)<|KG<|KL ?_;cases H;refine ⟨_,rfl,⟨rfl,?_⟩⟩;have o0:=M.sD 4 [];exact jn N ⟨o0,rfl⟩
   refine W.skip<|KJ<|KF a<|Kv (a+1)<|WL.nil ?_;cases H;exact ⟨_,rfl,jn N ⟨M,rfl⟩⟩
  refine W.exit<|thx ?_;cases H;exact ⟨_,rfl,rfl,jn u0 ⟨A,rfl⟩⟩
 ·exact jn x ⟨m0,rfl⟩
 rcases g with g|g
 ·intro z0; revert z0;rintro _ e_ w_ ⟨rfl,v0,m2,_,rfl,q2,rfl,q0,rfl⟩;refine KL ?_;cases z;exact KC v0 ⟨q0,rfl⟩
 rintro _ e_ w_ ⟨rfl,w0,n2,_,rfl,s2,rfl,s0,rfl⟩;refine KK<|KD 0<|KG ?_;cases z;have t0:=s0.sD 4 [];exact KC w0 ⟨t0,rfl⟩
def eq (p0:Int):Option ax:=
 (iZ p0).bind fun b=>
 (iY p0).bind fun c=>
 (iX p0).bind fun d=>
 (iW p0).bind fun a=>
 some (⟨b,c,d,a⟩:ax)
theorem pq (p:Own c0 G F) (a:Int){r:ax}(H:eq a=some r): KP 201 #[J a] c0 fun c v=>Own c G F/\v= .agg #[I r.Break,B r.Pict,I r.Conj,I r.East]:=by
 unfold eq at H;refine en func201 rfl rfl<|sr<|me (al 238 [I 0,B false,I 0,I 0] p) ?_;rintro v4 R S ⟨P,rfl,q⟩;refine wln<|KE (J a)<|bn H fun d t H=>cl (un q a t) ?_;rintro v11 u A ⟨s,rfl⟩;refine va (J a)<|bn H fun e m H=>cl (um s a m) ?_;rintro v18 x D ⟨i,rfl⟩;refine va (J a)<|bn H fun f n H=>cl (ul i a n) ?_;rintro v25 y E ⟨j,rfl⟩;refine va (J a)<|bn H fun b o H=>cl (uk j a o) ?_;rintro v32 z M ⟨k,rfl⟩;refine va (.agg #[I d,B e,I f,I b])<|md (sA 238 [I d,B e,I f,I b] 0 k ⟨rfl,rfl,rfl,rfl,trivial⟩) ?_;rintro h N g;refine KG ?_;cases H;have l:=g.sD 1 [];exact km (c:=h) (vs:=[I d,B e,I f,I b]) rfl (by kernel_rfl) (by kernel_rfl) (by kernel_rfl) (g.on 0 rfl _ rfl).1 ⟨_,h,rfl,rfl,pt,l,rfl⟩
def nf (p0:Int):Option Bool:=
 (if (p0==1)=true then
 some (p0==1)
 else
 if (p0==2)=true then
 some (p0==2)
 else
 some (p0==3)).bind fun c=>
 if c then
 some true
 else
 (if (p0==4)=true then
 some (p0==4)
 else
 some (p0==5)).bind fun a=>
 if a then
 some true
 else
 (if (p0==10)=true then
 some (p0==10)
 else
 some (p0==11)).bind fun b=>
 if b then
 some true
 else
 some false
theorem zx (o:Own c0 G F) (a:Int){r:Bool}(H:nf a=some r): KP 317 #[I a] c0 fun c v=>Own c G F/\v=B r:=by
 unfold nf at H;refine en func317 rfl rfl<|Ky false<|KA<|KD a<|wln<|W.block<|KM<|W.block<|W.block<|W.seq<|W.seq<|bn H fun E b i=>W.seqJ (Jn c0 fun c l=>Own c G F/\l= [(3,I a),(4,B E)]) ?_ ?_
 ·refine sr<|vv (B (a==1))<|KH b (fun M b=>?_) (fun M b=>?_)
  ·refine KI ?_;cases b;exact jn c0 ⟨o,rfl⟩
  refine sr<|vv (B (a==2))<|KH b (fun N b=>?_) (fun N b=>?_)
  ·refine KI ?_;cases b;exact jn c0 ⟨o,rfl⟩
  refine W.region<|vv (B (a==3))<|wln ?_;cases b;exact jn c0 ⟨o,rfl⟩
 rintro t D ⟨k,U,_,rfl,X,rfl,p,rfl⟩;refine cn i (fun u i=>?_) (fun u i=>?_)
 ·refine W.exit<|thx<|thx<|bke<|bkn<|KJ<|W.seq<|Ky true<|KG<|thr<|KL ?_;cases i;exact KC k ⟨p,rfl⟩
 refine KI<|W.seq<|bn i fun q d e=>W.seqJ (Jn k fun c l=>Own c G F/\l= [(3,I a),(8,B q)]) ?_ ?_
 ·refine sr<|vv (B (a==4))<|KH d (fun x d=>?_) (fun x d=>?_)
  ·refine KI ?_;cases d;exact jn k ⟨p,rfl⟩
  refine W.region<|vv (B (a==5))<|wln ?_;cases d;exact jn k ⟨p,rfl⟩
 rintro t D ⟨h,P,_,rfl,S,rfl,j,rfl⟩;refine cn e (fun y e=>?_) (fun y e=>?_)
 ·refine W.exit<|thx<|thx<|bko rfl (bke<|KJ<|W.seq<|Ky true<|KG<|thr<|KL ?_);cases e;exact KC h ⟨j,rfl⟩
 refine KI<|bn e fun s f g=>W.seqJ (Jn h fun c l=>Own c G F/\l= [(11,B s)]) ?_ ?_
 ·refine sr<|vv (B (a==10))<|KH f (fun z f=>?_) (fun z f=>?_)
  ·refine KI ?_;cases f;exact jn h ⟨j,rfl⟩
  refine W.region<|vv (B (a==11))<|wln ?_;cases f;exact jn h ⟨j,rfl⟩
 rintro t D ⟨n,R,_,rfl,T,rfl,m,rfl⟩;refine cn g (fun A g=>?_) (fun A g=>?_)
 ·refine W.exit<|thx<|bko rfl (bko rfl (KK<|W.seq<|Ky true<|KG<|thr<|KL ?_));cases g;exact KC n ⟨m,rfl⟩
 refine KI<|W.exit<|bko rfl (bko rfl (bko rfl (thx<|KK<|Ky false<|KG ?_)));cases g;exact KC n ⟨m,rfl⟩
def nW (p0:ax):Option Int:=
 (nf p0.Break).bind fun b=>
 if b then
 some 0
 else
 (orE (p0.East==1) (some (p0.East==2))).bind fun a=>
 if a then
 some 2
 else
 some 1
theorem xC (q:Own c0 G F) (a:ax){r:Int}(H:nW a=some r): KP 305 #[.agg #[I a.Break,B a.Pict,I a.Conj,I a.East]] c0 fun c v=>Own c G F/\v=I r:=by
 unfold nW at H;refine en func305 rfl rfl<|sr<|me (bx 238 [I a.Break,B a.Pict,I a.Conj,I a.East] q) ?_;rintro v5 z D ⟨i,rfl,s,k⟩;refine Ku 0<|KA<|W.block<|KE (Q i)<|vx (l1 u_3 (k 0 _ rfl))<|bn H fun p t H=>cl (zx s a.Break t) ?_;rintro v12 d x ⟨h,rfl⟩;refine Kq p<|KH H (fun n H=>?_) (fun n H=>?_)
 ·refine KD 0<|KG<|KL ?_;cases H;exact KC d ⟨h,rfl⟩
 refine W.seq<|bn H fun j g H=>W.join (Jn d fun c l=>Own c G F/\l= [(7,B j)]) ?_ ?_
 ·clear H;refine W.region<|Kw i (0+3)<|vx (l1 u_3 ((mm k) 3 _ rfl))<|Kq (a.East==1) ?_;rcases bo (a.East==1) with b|b
  ·obtain rfl:=orT b g;exact vb b<|pz<|ps<|vv (B true)<|KB d ⟨h,rfl⟩
  have m:=orF b g;refine vb b<|wa (Qo i (0+3))<|wn<|vx (l1 u_3 ((mm k) 3 _ rfl))<|Kt (a.East==2) ?_;cases m;exact vv (B (a.East==2))<|KB d ⟨h,rfl⟩
 rintro A E ⟨f,u,_,rfl,y,rfl,e,rfl⟩;refine nrm<|cn H (fun o H=>?_) (fun o H=>?_)
 ·refine KD 2<|KG<|KL ?_;cases H;exact KC f ⟨e,rfl⟩
 refine W.skip<|KJ<|KD 1<|KG ?_;cases H;exact KC f ⟨e,rfl⟩
def cy (p0:ba) (p1:Int) (p2:ax):Option Bool:=
 (nW p2).bind fun d=>
 if (d==2)=true then
 some true
 else
 if (!p0.some)=true then
 some false
 else
 (bL (p1==65039) (some p0.pict)).bind fun a=>
 (orE a (some p2.Pict)).bind fun b=>
 (orE b (some (p2.Break==6))).bind fun c=>
 some c
theorem lh {b:Nat}{r0_0:Value}{r0_1:Value}{r0_2:Value}{r0_3:Value}{r0_4:Value}{r0_5:Value}{r0_6:Value}{r0_7:Value}{r0_8:Value}{r0_9:Value}{r0_10:Value}{r0_11:Value}{r0_12:Value}{r0_13:Value}{r0_14:Value}{r0_15:Value}{r0_16:Value}{r0_17:Value}{r0_18:Value}{r0_19:Value}{r0_20:Value}(d:ba) (o:Int) (a:ax) (S:Own c0 G ((Eb b 338 [r0_0,r0_1,r0_2,r0_3,r0_4,r0_5,r0_6,r0_7,r0_8,r0_9,r0_10,r0_11,r0_12,r0_13,r0_14,r0_15,r0_16,r0_17,r0_18,r0_19,r0_20,B d.some,B d.pict,B d.wide])::F)){r:Bool}(H:cy d o a=some r): KP 265 #[.pointer (some ⟨b,21,none⟩),J o,.agg #[I a.Break,B a.Pict,I a.Conj,I a.East]] c0 fun c v=>Own c G ((Eb b 338 [r0_0,r0_1,r0_2,r0_3,r0_4,r0_5,r0_6,r0_7,r0_8,r0_9,r0_10,r0_11,r0_12,r0_13,r0_14,r0_15,r0_16,r0_17,r0_18,r0_19,r0_20,B d.some,B d.pict,B d.wide])::F)/\v=B r:=by
 unfold cy at H;refine en func265 rfl rfl<|sr<|me (bx 238 [I a.Break,B a.Pict,I a.Conj,I a.East] S) ?_;rintro v5 c4 l4 ⟨p,rfl,T,n⟩;refine Kq false<|KA<|W.block<|sr<|vx (lN 238 n)<|bn H fun u Z H=>cl (xC T a Z) ?_;rintro v12 e b0 ⟨f,rfl⟩;refine vv (B (u==2))<|KH H (fun P H=>?_) (fun P H=>?_)
 ·refine Ky true<|KG<|KL ?_;cases H;exact KC e ⟨f,rfl⟩
 refine sr<|vv (Qo b 21)<|Kw b 21<|vx (le1 21 u_4 (f.on 0 rfl))<|vv (B (!d.some))<|KH H (fun R H=>?_) (fun R H=>?_)
 ·refine Ky false<|KG<|KL ?_;cases H;exact KC e ⟨f,rfl⟩
 refine W.skip<|KJ<|W.seq<|bn H fun U q H=>bn H fun X m H=>bn H fun x g H=>W.join (Jn e fun c l=>Own c G ((Eb b 338 [r0_0,r0_1,r0_2,r0_3,r0_4,r0_5,r0_6,r0_7,r0_8,r0_9,r0_10,r0_11,r0_12,r0_13,r0_14,r0_15,r0_16,r0_17,r0_18,r0_19,r0_20,B d.some,B d.pict,B d.wide])::F)/\l= [(6,B x)]) ?_ ?_
 ·clear H;refine Kz (J o)<|Kq (o==65039) ?_;rcases bo (o==65039) with h|h
  ·have y:=anT h q;refine vb h<|wa (Qo b 21)<|wa (Qo b 21)<|wa (Qo b 22)<|wn<|vx (le1 22 u_4 (f.on 0 rfl)) ?_;cases y;refine Kq d.pict ?_;rcases bo d.pict with i|i
   ·obtain rfl:=orT i m;refine vb i<|pz<|Kq true ?_;have s:true=true:=rfl;obtain rfl:=orT s g;exact vb s<|pz<|ps<|vv (B true)<|KB e ⟨f,rfl⟩
   have z:=orF i m;refine vb i<|wa (Qo p (0+1))<|wn<|vx (l1 u_4 ((mm n) 1 _ rfl)) ?_;cases z;refine Kq a.Pict ?_;rcases bo a.Pict with j|j
   ·obtain rfl:=orT j g;exact vb j<|pz<|ps<|vv (B true)<|KB e ⟨f,rfl⟩
   have A:=orF j g;refine vb j<|wa (Q p)<|wn<|vx (l1 u_3 ((mm n) 0 _ rfl))<|Kt (a.Break==6) ?_;cases A;exact vv (B (a.Break==6))<|KB e ⟨f,rfl⟩
  obtain rfl:=anF h q;refine vb h<|pz<|pz<|Kq false ?_;have t:false=false:=rfl;have D:=orF t m;refine vb t<|wa (Qo p (0+1))<|wn<|vx (l1 u_4 ((mm n) 1 _ rfl)) ?_;cases D;refine Kq a.Pict ?_;rcases bo a.Pict with k|k
  ·obtain rfl:=orT k g;exact vb k<|pz<|ps<|vv (B true)<|KB e ⟨f,rfl⟩
  have E:=orF k g;refine vb k<|wa (Q p)<|wn<|vx (l1 u_3 ((mm n) 0 _ rfl))<|Kt (a.Break==6) ?_;cases E;exact vv (B (a.Break==6))<|KB e ⟨f,rfl⟩
 rintro e_ w_ ⟨N,a0,_,rfl,d0,rfl,M,rfl⟩;refine nrm<|W.ret ?_;cases H;exact KC N ⟨M,rfl⟩
def cm (p0:ba) (p1:Int) (p2:ax):Option (ba×Int):=
 if false then
 some (p0,1)
 else
 (orE p0.wide ((cy p0 p1 p2).bind fun b=>
 some b)).bind fun a=>
 if a then
 some ((⟨true,p2.Pict,a⟩:ba),2)
 else
 some ((⟨true,p2.Pict,a⟩:ba),1)
theorem lU {a:Nat}{r0_0:Value}{r0_1:Value}{r0_2:Value}{r0_3:Value}{r0_4:Value}{r0_5:Value}{r0_6:Value}{r0_7:Value}{r0_8:Value}{r0_9:Value}{r0_10:Value}{r0_11:Value}{r0_12:Value}{r0_13:Value}{r0_14:Value}{r0_15:Value}{r0_16:Value}{r0_17:Value}{r0_18:Value}{r0_19:Value}{r0_20:Value}(b:ba) (k:Int) (d:ax) (T:Own c0 G ((Eb a 338 [r0_0,r0_1,r0_2,r0_3,r0_4,r0_5,r0_6,r0_7,r0_8,r0_9,r0_10,r0_11,r0_12,r0_13,r0_14,r0_15,r0_16,r0_17,r0_18,r0_19,r0_20,B b.some,B b.pict,B b.wide])::F)){r:ba×Int}(H:cm b k d=some r): KP 215 #[.pointer (some ⟨a,21,none⟩),J k,.agg #[I d.Break,B d.Pict,I d.Conj,I d.East]] c0 fun c v=>Own c G ((Eb a 338 [r0_0,r0_1,r0_2,r0_3,r0_4,r0_5,r0_6,r0_7,r0_8,r0_9,r0_10,r0_11,r0_12,r0_13,r0_14,r0_15,r0_16,r0_17,r0_18,r0_19,r0_20,B r.1.some,B r.1.pict,B r.1.wide])::F)/\v=I r.2:=by
 unfold cm at H;refine en func215 rfl rfl<|sr<|me (bx 238 [I d.Break,B d.Pict,I d.Conj,I d.East] T) ?_;rintro v5 X l4 ⟨x,rfl,m,P⟩;refine Ku 0<|KA<|sr<|Kw a 21<|Kq false<|wln<|W.cond (t:=false) (by kernel_rfl) (fun n=>?_) (fun n=>?_)
 ·cases n
 have H:=ie n H;refine KI<|W.seq<|bn H fun e N H=>W.join (Jn X fun c l=>Own c G ((Eb a 338 [r0_0,r0_1,r0_2,r0_3,r0_4,r0_5,r0_6,r0_7,r0_8,r0_9,r0_10,r0_11,r0_12,r0_13,r0_14,r0_15,r0_16,r0_17,r0_18,r0_19,r0_20,B b.some,B b.pict,B e])::F)/\l= [(0,.pointer (some ⟨a,21,none⟩)),(5,Q x)]) ?_ ?_
 ·clear H;refine W.region<|vv (Qo a 21)<|Kw a 21<|Kw a 23<|vx (le1 23 u_4 (m.on 0 rfl)) ?_;rcases bo b.wide with j|j
  ·obtain rfl:=orT j N;refine vb j<|pz<|pz<|Kq true<|Kw a 21<|Kw a 23<|md (sC 4 23 (B true) [r0_0,r0_1,r0_2,r0_3,r0_4,r0_5,r0_6,r0_7,r0_8,r0_9,r0_10,r0_11,r0_12,r0_13,r0_14,r0_15,r0_16,r0_17,r0_18,r0_19,r0_20,B b.some,B b.pict,B true] 0 m ⟨rfl,trivial⟩) ?_;rintro y e0 U;exact KB y ⟨U,rfl⟩
  have g:=orF j N;refine vb j<|wa (Qo a 21)<|wa (J k)<|wn<|vx (lN 238 P)<|wn<|bn g fun f E g=>cl (lh b k d m E) ?_;rintro v19 Z f0 ⟨o,rfl⟩;obtain rfl:=si g;refine Kq f<|Kw a 21<|Kw a 23<|md (sC 4 23 (B f) [r0_0,r0_1,r0_2,r0_3,r0_4,r0_5,r0_6,r0_7,r0_8,r0_9,r0_10,r0_11,r0_12,r0_13,r0_14,r0_15,r0_16,r0_17,r0_18,r0_19,r0_20,B b.some,B b.pict,B f] 0 o ⟨rfl,trivial⟩) ?_;rintro z g0 p;exact KB z ⟨p,rfl⟩
 rintro e_ w_ ⟨a0,b0,_,rfl,h0,rfl,q,rfl⟩;refine nrm<|W.seq<|rD [] (Kp G0 []) q ?_;intro A i0 s;have l0:Kp G0 [] A:=Kp.nil0;refine ta 0 (.pointer (some ⟨a,21,none⟩))<|ta 1 (Qo a 21)<|ta 2 (Qo x (0+1))<|tx 3 (fun c' d0=>l1 u_4 ((mm P) 1 _ rfl))<|ta 4 (Qo a 21)<|ta 5 (Qo a 21)<|o1 6 (gD 6 (sC 4 21 (B true) [r0_0,r0_1,r0_2,r0_3,r0_4,r0_5,r0_6,r0_7,r0_8,r0_9,r0_10,r0_11,r0_12,r0_13,r0_14,r0_15,r0_16,r0_17,r0_18,r0_19,r0_20,B true,B b.pict,B e] 0 s ⟨rfl,trivial⟩) ?_);rintro D j0 u;have R:Kp G0 [] D:=Kp.nil0;refine ⟨.inr R,ta 7 (.pointer (some ⟨a,21,none⟩)) (ta 8 (Qo a 22)<|o1 9 (gD 9 (sC 4 22 (B d.Pict) [r0_0,r0_1,r0_2,r0_3,r0_4,r0_5,r0_6,r0_7,r0_8,r0_9,r0_10,r0_11,r0_12,r0_13,r0_14,r0_15,r0_16,r0_17,r0_18,r0_19,r0_20,B true,B d.Pict,B e] 0 u ⟨rfl,trivial⟩) ?_))⟩;rintro i k0 h;have S:Kp G0 [] i:=Kp.nil0;refine ⟨.inr S,dn (nrm<|W.seq<|sr<|vv (Qo a 21)<|Kw a 23<|vx (le1 23 u_4 (h.on 0 rfl))<|KH H (fun M H=>?_) (fun M H=>?_))⟩
 ·refine KD 2<|KG<|thr ?_;obtain rfl:=si H;exact KC i ⟨h,rfl⟩
 refine KI<|KD 1<|KG ?_;obtain rfl:=si H;exact KC i ⟨h,rfl⟩
def dt (p0:aP):Option Int:=
 if false then
 some 0
 else
 some p0.n
theorem lH {b:Nat}{r0_0:Value}{r0_1:Value}{r0_2:Value}{r0_3:Value}{r0_21:Value}{r0_22:Value}{r0_23:Value}(a:aP) (e:Own c0 G ((Eb b 338 (r0_0::r0_1::r0_2::r0_3::KO a.text [I a.n,r0_21,r0_22,r0_23]))::F)){r:Int}(H:dt a=some r): KP 318 #[.pointer (some ⟨b,4,none⟩)] c0 fun c v=>Own c G ((Eb b 338 (r0_0::r0_1::r0_2::r0_3::KO a.text [I a.n,r0_21,r0_22,r0_23]))::F)/\v=I r:=by
 unfold dt at H;refine en func318 rfl rfl<|KD 0<|KA<|sr<|Kw b 4<|Kq false<|wln<|W.cond (t:=false) (by kernel_rfl) (fun d=>?_) (fun d=>?_)
 ·cases d
 have H:=ie d H;refine KI<|sr<|vv (Qo b 4)<|Kw b 20<|vx (le1 20 u_3 (e.on 0 rfl))<|Ku a.n<|KG ?_;cases H;exact KC c0 ⟨e,rfl⟩
def bJ (p0:aP):Option Bool:=
 (dt p0).bind fun a=>
 some (a==16)
theorem gF {b:Nat}{r0_0:Value}{r0_1:Value}{r0_2:Value}{r0_3:Value}{r0_21:Value}{r0_22:Value}{r0_23:Value}(a:aP) (e:Own c0 G ((Eb b 338 (r0_0::r0_1::r0_2::r0_3::KO a.text [I a.n,r0_21,r0_22,r0_23]))::F)){r:Bool}(H:bJ a=some r): KP 306 #[.pointer (some ⟨b,4,none⟩)] c0 fun c v=>Own c G ((Eb b 338 (r0_0::r0_1::r0_2::r0_3::KO a.text [I a.n,r0_21,r0_22,r0_23]))::F)/\v=B r:=by
 unfold bJ at H;refine en func306 rfl rfl<|Ky false<|KN<|Kw b 4<|bn H fun d h H=>cl (lH a e h) ?_;rintro v8 g i ⟨f,rfl⟩;refine vv (B (d==16))<|KG ?_;cases H;exact KC g ⟨f,rfl⟩
def bq (p0:aP) (p1:Int):Option (aP×Bool):=
 (orE false ((bJ p0).bind fun c=>
 some c)).bind fun b=>
 if b then
 some (p0,false)
 else
 (idx (a16 p0.text) p0.n).bind fun d=>
 (some (zz p0.text p0.n p1)).bind fun a=>
 some ((⟨a,(w64 (p0.n+1))⟩:aP),true)
theorem lI {d:Nat}{r0_0:Value}{r0_1:Value}{r0_2:Value}{r0_3:Value}{r0_21:Value}{r0_22:Value}{r0_23:Value}(a:aP) (f:Int) (M:Own c0 G ((Eb d 338 (r0_0::r0_1::r0_2::r0_3::KO a.text [I a.n,r0_21,r0_22,r0_23]))::F)){r:aP×Bool}(H:bq a f=some r): KP 280 #[.pointer (some ⟨d,4,none⟩),J f] c0 fun c v=>Own c G ((Eb d 338 (r0_0::r0_1::r0_2::r0_3::KO r.1.text [I r.1.n,r0_21,r0_22,r0_23]))::F)/\v=B r.2:=by
 unfold bq at H;refine en func280 rfl rfl<|Ky false<|KA<|W.seq<|bn H fun u R H=>W.join (Jn c0 fun c l=>Own c G ((Eb d 338 (r0_0::r0_1::r0_2::r0_3::KO a.text [I a.n,r0_21,r0_22,r0_23]))::F)/\l= [(0,.pointer (some ⟨d,4,none⟩)),(1,J f),(10,B u)]) ?_ ?_
 ·clear H;refine W.region<|Kw d 4<|Kq false ?_;have y:false=false:=rfl;have m:=orF y R;refine vb y<|wa (Qo d 4)<|wn<|bn m fun E S m=>cl (gF a M S) ?_;rintro v11 p b0 ⟨N,rfl⟩;obtain rfl:=si m;exact Kq E<|KB p ⟨N,rfl⟩
 rintro e_ w_ ⟨q,a0,_,rfl,d0,rfl,g,rfl⟩;refine nrm<|cn H (fun x H=>?_) (fun x H=>?_)
 ·refine Ky false<|KG<|thr ?_;obtain rfl:=si H;exact KC q ⟨g,rfl⟩
 refine KI<|W.seq<|rD [9] (Kp G0 [(Eb d 338 (r0_0::r0_1::r0_2::r0_3::KO a.text [I a.n,r0_21,r0_22,r0_23]))]) g ?_;intro s e0 h;have D:=(Kp.cons (h.on 0 rfl) Kp.nil0);refine ta 0 (.pointer (some ⟨d,4,none⟩))<|ta 1 (Qo d 4)<|ta 2 (Qo d 4)<|ta 3 (Qo d 20)<|tkx 4 D (fun P A U=>le1 20 u_3 (U.on 0 rfl)) (ta 5 (J f)<|ta 6 (Qo d 4)<|ta 7 (Qo d 4)<|bn H fun X e H=>AC.take 8 (.pointer (some ⟨d,4+a.n.toNat*1,none⟩)) rfl (by kernel_rfl) (by kernel_rfl) (fun P A=>(rx (by kernel_rfl) (wQ (k:= .i64) BS (by kernel_rfl) (sq e).1 (sq e).2 _))) (bn H fun b z H=>o1 9 (gD 9 (Own.st (T:=21) (j:=4+a.n.toNat*1) (us:=[J f]) (nw:=(r0_0::r0_1::r0_2::r0_3::KO b [I a.n,r0_21,r0_22,r0_23])) (v:=J f) 0 h (by kernel_rfl) rfl rfl rfl rfl (by kernel_rfl) ⟨rfl,trivial⟩ (GY e (bM rfl)) (GP (k:= .i32) e z [r0_0,r0_1,r0_2,r0_3] [I a.n,r0_21,r0_22,r0_23])) ?_)));rintro Z f0 i;refine ⟨.inl rfl,dn (nrm<|sr<|vv (Qo d 4)<|Kw d 20<|vx (le1 20 u_3 (i.on 0 rfl))<|Kx (a.n+1)<|Kw d 4<|Kw d 20<|md (sC 3 20 (I (w64 (a.n+1))) (r0_0::r0_1::r0_2::r0_3::KO b [I (w64 (a.n+1)),r0_21,r0_22,r0_23]) 0 i ⟨rfl,trivial⟩) ?_)⟩;rintro t g0 o;refine wln<|Ky true<|KG ?_;obtain rfl:=si H;exact KC t ⟨o,rfl⟩
def fV (sg:Sto) (p0:Option Nat) (p1:Int) (p2:ax):Option (Sto×Int):=
 ((fO p1).bind fun h=>
 if (!h)=true then
 some 65533
 else
 some p1).bind fun g=>
 (p0).bind fun b=>
 (sg.widen_Cluster[b]?).bind fun a=>
 (bq a.text g).bind fun e=>
 (sg.set_widen_Cluster b (⟨a.at_,a.wide,e.1,a.gauge⟩:bp)).bind fun c=>
 (cm a.gauge g p2).bind fun f=>
 (c.set_widen_Cluster b (⟨a.at_,a.wide,e.1,f.1⟩:bp)).bind fun d=>
 some (d,f.2)
theorem oO (O0:Own c0 G F) (T:Rel c0 sg G) (p0:Option Nat) (m:Int) (f:ax){r:Sto×Int}(h2:Pt 3 c0 v1 p0) (H:fV sg p0 m f=some r): KP 307 #[v1,J m,.agg #[I f.Break,B f.Pict,I f.Conj,I f.East]] c0 fun c v=>∃G_:Gm,Own c G_ F/\Rel c r.1 G_/\v=I r.2:=by
 unfold fV at H;refine en func307 rfl rfl<|sr<|me (bx 238 [I f.Break,B f.Pict,I f.Conj,I f.East] O0) ?_;rintro v7 c6 s ⟨b3,rfl,O4,m5⟩;refine Ku 0<|wln<|bn H fun h i e=>W.seqJ (Jn c6 fun c l=>Own c G F/\l= [(0,v1),(1,J h),(5,Q b3)]) ?_ ?_
 ·refine KE (J m)<|bn i fun t0 a0 i=>cl (ph O4 m a0) ?_;rintro v16 p j1 ⟨o,rfl⟩;refine Kq (!t0)<|KH i (fun b0 i=>?_) (fun b0 i=>?_)
  ·refine Kz (J 65533)<|wln ?_;cases i;exact jn p ⟨o,rfl⟩
  refine KI ?_;cases i;exact jn p ⟨o,rfl⟩
 rintro e_ w_ ⟨e1,g1,_,rfl,k,rfl,y,rfl⟩;refine KE v1<|bn e fun z0 d0 e=>?_;obtain ⟨d,rfl,j⟩:=((h2.mono (s.trans k))).get d0;refine va (Q d)<|Kw d 4<|va (J h)<|bn e fun b e0 e=>?_;have f0:=Rel.open_widen_Cluster (T.mono (s.trans k)) e0 j;have z:=y.borrow 0 f0 rfl;refine bn e fun a g0 e=>cl (lI b.text h z g0) ?_;rintro v37 f1 l0 ⟨A,rfl⟩;have D:=A.giveB 0 rfl;refine bn e fun t i0 e=>?_;obtain ⟨b1,E,U,h0,c1⟩:=Rel.put_widen_Cluster D (T.mono (s.trans (k.trans l0))) (E':=[(Eb d 338 (I b.at_.Row::I b.at_.Col::B b.at_.Pending::I b.wide::KO a.1.text [I a.1.n,B b.gauge.some,B b.gauge.pict,B b.gauge.wide]))]) i0 ⟨d,(tm j),rfl⟩;refine KA<|rD [] (Kp G0 []) E ?_;intro Z m0 M;have k1:Kp G0 [] Z:=Kp.nil0;refine ta 0 (Q d)<|ta 1 (Q d)<|ta 2 (Qo d 21)<|ta 3 (J h)<|tx 4 (fun c' i1=>lN 238 (mm m5)) ?_;have N:=M.borrow 0 h0 rfl;refine bn e fun g j0 e=>o1 5 (gc 5 (lU b.gauge h f N j0) ?_);rintro v56 q o0 ⟨P,rfl⟩;have R:=P.giveB 0 rfl;refine bn e fun u k0 e=>?_;obtain ⟨x,S,X,h1,d1⟩:=Rel.put_widen_Cluster R (U.mono (m0.trans o0)) (E':=[(Eb d 338 (I b.at_.Row::I b.at_.Col::B b.at_.Pending::I b.wide::KO a.1.text [I a.1.n,B g.1.some,B g.1.pict,B g.1.wide]))]) k0 ⟨d,(tm j),rfl⟩;have s0:Kp G0 [] q:=Kp.nil0;refine ⟨.inr s0,ta 6 (I g.2) (dn (nrm<|W.ret ?_))⟩;cases e;exact KC q ⟨x,S,X,rfl⟩
def bI (p0:aP):Option (List Int):=
 if false then
 some ([]:List Int)
 else
 (slc (a16 p0.text) 0 p0.n).bind fun a=>
 (fM a).bind fun b=>
 some b
theorem gE {b:Nat}{r0_0:Value}{r0_1:Value}{r0_2:Value}{r0_3:Value}{r0_21:Value}{r0_22:Value}{r0_23:Value}(a:aP) (p:Own c0 G ((Eb b 338 (r0_0::r0_1::r0_2::r0_3::KO a.text [I a.n,r0_21,r0_22,r0_23]))::F)){r:List Int}(H:bI a=some r): KP 232 #[.pointer (some ⟨b,4,none⟩)] c0 fun c v=>∃h o,Own c G (es true (RI .i32) h 21 o r::(Eb b 338 (r0_0::r0_1::r0_2::r0_3::KO a.text [I a.n,r0_21,r0_22,r0_23]))::F)/\v=h/\OA (RI .i32) c h o r:=by
 unfold bI at H;refine en func232 rfl rfl<|KE Y<|KA<|sr<|Kw b 4<|Kq false<|wln<|W.cond (t:=false) (by kernel_rfl) (fun g=>?_) (fun g=>?_)
 ·cases g
 have H:=ie g H;refine KI<|W.seq<|rD [] (Kp G0 [(Eb b 338 (r0_0::r0_1::r0_2::r0_3::KO a.text [I a.n,r0_21,r0_22,r0_23]))]) p ?_;intro s M i;have y:=(Kp.cons (i.on 0 rfl) Kp.nil0);refine ta 0 (.pointer (some ⟨b,4,none⟩))<|ta 1 (Qo b 4)<|ta 2 (Qo b 4)<|ta 3 (Qo b 4)<|ta 4 (Qo b 4)<|ta 5 (Qo b 20)<|tkx 6 y (fun q l x=>le1 20 u_3 (x.on 0 rfl)) (bn H fun A d H=>AC.take 7 (.slice (some ⟨b,4,none⟩) a.n.toNat 16) rfl (by kernel_rfl) (by kernel_rfl) (fun q l=>(rx (by kernel_rfl) (zZ (k:= .i64) BS (by kernel_rfl) (oJ d).2.1 (oJ d).2.2.1 _))) (bn H fun D u H=>o1 8 (gc 8 (qT i rfl (zR d) (Dz (k:= .i32) d [r0_0,r0_1,r0_2,r0_3] [I a.n,r0_21,r0_22,r0_23]) u) ?_)));rintro v8 f E ⟨_,z,e,rfl,j⟩;have m:=(Kp.cons (e.on 1 rfl) Kp.nil0);refine ⟨.inr m,ta 9 v8 (dn (nrm<|W.ret ?_))⟩;cases H;exact KC f ⟨v8,z,e,rfl,j⟩
def mp (sg:Sto) (p0:Option Nat) (p1:Int) (p2:ax):Option (Sto×(Option Nat)):=
 (orE p0.isNone ((p0).bind fun k=>
 (sg.place_Pen[k]?).bind fun h=>
 some h.G.isNone)).bind fun j=>
 if j then
 some (sg,(none:Option Nat))
 else
 (some (sg.add_widen_Cluster (⟨(⟨0,0,false⟩:ai),0,(⟨(0,0,0,0,0,0,0,0,0,0,0,0,0,0,0,0),0⟩:aP),(⟨false,false,false⟩:ba)⟩:bp))).bind fun e=>
 (fV e (some sg.widen_Cluster.length) p1 p2).bind fun b=>
 (b.1.widen_Cluster[sg.widen_Cluster.length]?).bind fun a=>
 (b.1.set_widen_Cluster sg.widen_Cluster.length (⟨a.at_,b.2,a.text,a.gauge⟩:bp)).bind fun f=>
 (bI a.text).bind fun i=>
 (iq f p0 b.2 i).bind fun d=>
 (d.1.widen_Cluster[sg.widen_Cluster.length]?).bind fun c=>
 (d.1.set_widen_Cluster sg.widen_Cluster.length (⟨d.2,c.wide,c.text,c.gauge⟩:bp)).bind fun g=>
 some (g,(some sg.widen_Cluster.length))
theorem xN (O0:Own c0 G F) (R0:Rel c0 sg G) (hG:Gl [2,4] c0) (y:Option Nat) (z:Int) (g:ax){r:Sto×(Option Nat)}(h2:Pt 2 c0 v1 y) (H:mp sg y z g=some r): KP 268 #[v1,J z,.agg #[I g.Break,B g.Pict,I g.Conj,I g.East]] c0 fun c v=>∃y1,∃G_:Gm,Own c G_ F/\Rel c r.1 G_/\v=y1/\Pt 3 c y1 r.2:=by
 unfold mp at H;refine en func268 rfl rfl<|sr<|me (bx 238 [I g.Break,B g.Pict,I g.Conj,I g.East] O0) ?_;rintro v7 c6 l6 ⟨b3,rfl,O4,m5⟩;refine va (.pointer none)<|KA<|W.seq<|bn H fun m1 h8 H=>W.join (Jn c6 fun c l=>Own c G F/\l= [(0,v1),(1,J z),(5,Q b3),(16,B m1)]) ?_ ?_
 ·clear H;refine Kz v1<|vr (B y.isNone) (by rcases h2.m.cs with ⟨j,k⟩|⟨b_,j,k⟩ <;> (subst j; rw [k]; kernel_rfl)) ?_;rcases bo y.isNone with s|s
  ·obtain rfl:=orT s h8;exact vb s<|pz<|pz<|ps<|Kq true<|KB c6 ⟨O4,rfl⟩
  have i:=orF s h8;refine vb s<|wa v1<|wn<|bn i fun x3 q1 i=>?_;obtain ⟨T,rfl,n1⟩:=((h2.mono l6)).get q1;refine va (Q T)<|wa (Q T)<|wn<|bn i fun u s1 i=>?_;obtain ⟨v15,u1,t1⟩:=Rel.open_place_Pen (R0.mono l6) s1 n1;refine vx (le1 0 fm (O4.gon u1 0 rfl))<|wn<|vr (B u.G.isNone) (by rcases (t1).cs with ⟨j,k⟩|⟨b_,j,k⟩ <;> (subst j; rw [k]; kernel_rfl)) ?_;cases i;exact Kq u.G.isNone<|KB c6 ⟨O4,rfl⟩
 rintro e_ w_ ⟨f1,s3,_,rfl,q2,rfl,A,rfl⟩;refine nrm<|cn H (fun w1 H=>?_) (fun w1 H=>?_)
 ·refine KE (.pointer none)<|KG<|thr ?_;cases H;exact KC f1 ⟨(.pointer none),G,A,R0.m,rfl,rfl⟩
 refine KI<|KE (.agg #[I 0,I 0,B false,I 0,J 0,J 0,J 0,J 0,J 0,J 0,J 0,J 0,J 0,J 0,J 0,J 0,J 0,J 0,J 0,J 0,I 0,B false,B false,B false])<|me (al 338 [I 0,I 0,B false,I 0,J 0,J 0,J 0,J 0,J 0,J 0,J 0,J 0,J 0,J 0,J 0,J 0,J 0,J 0,J 0,J 0,I 0,B false,B false,B false] A) ?_;rintro v28 n3 s2 ⟨e,rfl,o0⟩;have q0:=o0.sD 1 [0];refine bn H fun j0 x1 H=>?_;obtain ⟨g1,h3,z1,y3,o,s0,P,t3,u3,k3⟩:=Rel.new_widen_Cluster (E:=[(Eb e 338 [I 0,I 0,B false,I 0,J 0,J 0,J 0,J 0,J 0,J 0,J 0,J 0,J 0,J 0,J 0,J 0,J 0,J 0,J 0,J 0,I 0,B false,B false,B false])]) (F:=F) (x:=(⟨(⟨0,0,false⟩:ai),0,(⟨(0,0,0,0,0,0,0,0,0,0,0,0,0,0,0,0),0⟩:aP),(⟨false,false,false⟩:ba)⟩:bp)) (b:=e) q0 (R0.mono (l6.trans (q2.trans s2))) (fun c_ hle_=>⟨e,rfl,rfl⟩);rw [bi x1] at P;refine WL.gh z1.1 ?_;have U:Pt 3 g1 (Q e) (some sg.widen_Cluster.length):=⟨e,rfl,o⟩;refine va (Q e)<|KN<|vv (Q e)<|va (J z)<|vx (lN 238 (mm m5))<|bn H fun h b2 H=>cl (oO s0 P (some sg.widen_Cluster.length) z g U b2) ?_;rintro v48 o3 t2 ⟨i3,t0,R,rfl⟩;refine va (Q e)<|Kw e 3<|bn H fun a c2 H=>?_;have d2:=Rel.open_widen_Cluster R c2 (tm o);refine md (gC 3 3 (I h.2) (I a.at_.Row::I a.at_.Col::B a.at_.Pending::I h.2::KO a.text.text [I a.text.n,B a.gauge.some,B a.gauge.pict,B a.gauge.wide]) 0 t0 d2 ⟨rfl,trivial⟩) ?_;rintro p3 X u0;refine bn H fun k0 e2 H=>?_;obtain ⟨p,v0,d1,q,l3⟩:=Rel.put_widen_Cluster u0 (R.mono X) (E':=[(Eb e 338 (I a.at_.Row::I a.at_.Col::B a.at_.Pending::I h.2::KO a.text.text [I a.text.n,B a.gauge.some,B a.gauge.pict,B a.gauge.wide]))]) e2 ⟨e,(tm o),rfl⟩;refine KA<|rD [10,13] (Kp p []) v0 ?_;intro h1 u2 D;have x2:=(Kp.nil D);refine ta 0 (Q e)<|ta 1 v1<|ta 2 (Q e)<|ta 3 (Q e)<|ta 4 (Qo e 3)<|tkx 5 x2 (fun c' w3 hk=>le1 3 u_3 (hk.gon q 0 rfl)) (ta 6 (Q e)<|ta 7 (Q e)<|ta 8 (Qo e 4) ?_);have w0:=D.borrow 0 q rfl;refine bn H fun i0 f2 H=>o1 9 (gc 9 (gE a.text w0 f2) ?_);rintro a4 i1 v2 ⟨_,z3,x0,rfl,g2⟩;have z0:=x0.sD 2 [1,0];have y0:=z0.giveB 0 rfl;have M:=Own.back y0 q rfl;have y2:=(Kp.nil M);refine ⟨.inr y2,?_⟩;obtain ⟨j1,k2,Z,N,i2⟩:=M.frz 0 rfl g2;have z2:=(Kp.nil N);refine AC.gh k2 Z (fun _=>z2) (bn H fun f l2 H=>o1 10 (gc 10 (oM N d1.m (hG.m.le (by decide)) y h.2 i0 h2.m i2 l2) ?_));rintro b4 q3 w2 ⟨j3,a1,S,rfl⟩;refine ⟨.inl rfl,ta 11 (Q e) (ta 12 (Q e)<|bn H fun d m2 H=>?_)⟩;have n2:=Rel.open_widen_Cluster S m2 (tm o);refine o1 13 (gD 13 (gB 29 0 [I f.2.Row,I f.2.Col,B f.2.Pending] (I f.2.Row::I f.2.Col::B f.2.Pending::I d.wide::KO d.text.text [I d.text.n,B d.gauge.some,B d.gauge.pict,B d.gauge.wide]) 0 a1 n2 ⟨rfl,rfl,rfl,trivial⟩) ?_);rintro k1 a0 b1;refine bn H fun l0 o2 H=>?_;obtain ⟨m0,c1,e1,v3,m3⟩:=Rel.put_widen_Cluster b1 (S.mono a0) (E':=[(Eb e 338 (I f.2.Row::I f.2.Col::B f.2.Pending::I d.wide::KO d.text.text [I d.text.n,B d.gauge.some,B d.gauge.pict,B d.gauge.wide]))]) o2 ⟨e,((t2.trans (X.trans (u2.trans (v2.trans (Z.trans (w2.trans a0)))))).t _ _ _ o),rfl⟩;refine ⟨.inl rfl,dn (nrm<|sr<|vv (Q e)<|KG ?_)⟩;cases H;have b0:=c1.sD 1 [];exact KC k1 ⟨(Q e),m0,b0,e1,rfl,U.m⟩
def ei (sg:Sto) (p0:Option Nat) (p1:Option Nat) (p2:Int) (p3:ax):Option (Sto×Bool):=
 (orE p0.isNone (some p1.isNone)).bind fun A=>
 (orE A ((p1).bind fun r=>
 (sg.place_Pen[r]?).bind fun u=>
 some u.G.isNone)).bind fun p=>
 (orE p ((p0).bind fun s=>
 (sg.widen_Cluster[s]?).bind fun h=>
 (bJ h.text).bind fun w=>
 some w)).bind fun q=>
 if q then
 some (sg,false)
 else
 (p0).bind fun b=>
 (sg.widen_Cluster[b]?).bind fun v=>
 (fV sg p0 p2 p3).bind fun d=>
 (d.1.widen_Cluster[b]?).bind fun c=>
 (d.1.set_widen_Cluster b (⟨c.at_,d.2,c.text,c.gauge⟩:bp)).bind fun a=>
 (if (d.2 != v.wide)=true then
 (p1).bind fun j=>
 (a.place_Pen[j]?).bind fun k=>
 (a.set_place_Pen j (⟨k.G,c.at_,k.Auto⟩:bv)).bind fun e=>
 (e.widen_Cluster[b]?).bind fun l=>
 (bI l.text).bind fun x=>
 (iq e p1 l.wide x).bind fun g=>
 (g.1.widen_Cluster[b]?).bind fun f=>
 (g.1.set_widen_Cluster b (⟨g.2,f.wide,f.text,f.gauge⟩:bp)).bind fun i=>
 some i
 else
 (p1).bind fun t=>
 (a.place_Pen[t]?).bind fun m=>
 (ci a m.G).bind fun y=>
 if decide (d.2<=y) then
 (bF a m.G c.at_.Row).bind fun n=>
 (pb a n c.at_.Col p2).bind fun o=>
 some o.1
 else
 some a).bind fun z=>
 some (z,true)
theorem sw (O0:Own c0 G F) (R0:Rel c0 sg G) (hG:Gl [2,4] c0) (p0:Option Nat) (p1:Option Nat) (Z:Int) (s:ax){r:Sto×Bool}(h2:Pt 3 c0 v1 p0) (h4:Pt 2 c0 v3 p1) (H:ei sg p0 p1 Z s=some r): KP 267 #[v1,v3,J Z,.agg #[I s.Break,B s.Pict,I s.Conj,I s.East]] c0 fun c v=>∃G_:Gm,Own c G_ F/\Rel c r.1 G_/\v=B r.2:=by
 unfold ei at H;refine en func267 rfl rfl<|sr<|me (bx 238 [I s.Break,B s.Pict,I s.Conj,I s.East] O0) ?_;rintro v9 c8 R ⟨b5,rfl,O6,m7⟩;refine Kq false<|KA<|W.seq<|bn H fun l7 c2 H=>bn H fun j6 x0 H=>bn H fun i3 d0 H=>W.join (Jn c8 fun c l=>Own c G F/\l= [(0,v1),(1,v3),(2,J Z),(7,Q b5),(28,B i3)]) ?_ ?_
 ·clear H;refine Kz v1<|vr (B p0.isNone) (by rcases h2.m.cs with ⟨h,i⟩|⟨b_,h,i⟩ <;> (subst h; rw [i]; kernel_rfl)) ?_;rcases bo p0.isNone with A|A
  ·obtain rfl:=orT A c2;refine vb A<|pz<|Kq true ?_;have d2:true=true:=rfl;obtain rfl:=orT d2 x0;refine vb d2<|pz<|pz<|ps<|Kq true ?_;have e2:true=true:=rfl;obtain rfl:=orT e2 d0;exact vb e2<|pz<|pz<|Kq true<|KB c8 ⟨O6,rfl⟩
  have m4:=orF A c2;refine vb A<|wa v3<|wn<|vr (B p1.isNone) (by rcases h4.m.cs with ⟨h,i⟩|⟨b_,h,i⟩ <;> (subst h; rw [i]; kernel_rfl)) ?_;obtain rfl:=si m4;refine Kq p1.isNone ?_;rcases bo p1.isNone with D|D
  ·obtain rfl:=orT D x0;refine vb D<|pz<|pz<|ps<|Kq true ?_;have f2:true=true:=rfl;obtain rfl:=orT f2 d0;exact vb f2<|pz<|pz<|Kq true<|KB c8 ⟨O6,rfl⟩
  have y:=orF D x0;refine vb D<|wa v3<|wn<|bn y fun n6 e5 y=>?_;obtain ⟨z1,rfl,d5⟩:=((h4.mono R)).get e5;refine va (Q z1)<|wa (Q z1)<|wn<|bn y fun U f5 y=>?_;obtain ⟨v24,h5,g5⟩:=Rel.open_place_Pen (R0.mono R) f5 d5;refine vx (le1 0 fm (O6.gon h5 0 rfl))<|wn<|vr (B U.G.isNone) (by rcases (g5).cs with ⟨h,i⟩|⟨b_,h,i⟩ <;> (subst h; rw [i]; kernel_rfl)) ?_;obtain rfl:=si y;refine Kq U.G.isNone ?_;rcases bo U.G.isNone with E|E
  ·obtain rfl:=orT E d0;exact vb E<|pz<|pz<|Kq true<|KB c8 ⟨O6,rfl⟩
  have k:=orF E d0;refine vb E<|wa v1<|wn<|bn k fun o6 j5 k=>?_;obtain ⟨b2,rfl,i5⟩:=((h2.mono R)).get j5;refine va (Q b2)<|wa (Qo b2 4)<|wn<|bn k fun h0 k5 k=>?_;have g2:=Rel.open_widen_Cluster (R0.mono R) k5 i5;have o4:=O6.borrow 0 g2 rfl;refine bn k fun f4 l5 k=>cl (gF h0.text o4 l5) ?_;rintro v42 y4 p7 ⟨p4,rfl⟩;have q4:=p4.giveB 0 rfl;have r4:=Own.back q4 g2 rfl;obtain rfl:=si k;exact Kq f4<|KB y4 ⟨r4,rfl⟩
 rintro e_ w_ ⟨z4,n7,_,rfl,e0,rfl,q0,rfl⟩;refine nrm<|cn H (fun m5 H=>?_) (fun m5 H=>?_)
 ·refine Ky false<|KG<|thr ?_;obtain rfl:=si H;exact KC z4 ⟨G,q0,R0.m,rfl⟩
 refine KI<|KE v1<|bn H fun p6 n5 H=>?_;obtain ⟨d,rfl,u⟩:=((h2.mono (R.trans e0))).get n5;refine va (Q d)<|Kw d 3<|bn H fun x o5 H=>?_;have p5:=Rel.open_widen_Cluster (R0.mono (R.trans e0)) o5 u;refine vx (le1 3 u_3 (q0.gon p5 0 rfl))<|Ku x.wide<|KN<|vv (Q d)<|va (J Z)<|vx (lN 238 (mm m7))<|bn H fun g q5 H=>cl (oO q0 R0.m p0 Z s h2.m q5) ?_;rintro q7 j7 f0 ⟨g7,s4,x1,rfl⟩;refine va (Q d)<|Kw d 3<|bn H fun a r5 H=>?_;have s5:=Rel.open_widen_Cluster x1 r5 (tm u);refine md (gC 3 3 (I g.2) (I a.at_.Row::I a.at_.Col::B a.at_.Pending::I g.2::KO a.text.text [I a.text.n,B a.gauge.some,B a.gauge.pict,B a.gauge.wide]) 0 s4 s5 ⟨rfl,trivial⟩) ?_;rintro a5 P t4;refine bn H fun j4 t5 H=>?_;obtain ⟨j,b0,o,M,h7⟩:=Rel.put_widen_Cluster t4 (x1.mono P) (E':=[(Eb d 338 (I a.at_.Row::I a.at_.Col::B a.at_.Pending::I g.2::KO a.text.text [I a.text.n,B a.gauge.some,B a.gauge.pict,B a.gauge.wide]))]) t5 ⟨d,(tm u),rfl⟩;refine wln<|bn H fun i4 e n4=>W.seqJ (Jn a5 fun c l=>∃G_,Own c G_ F/\l= []/\Rel c i4 G_) ?_ ?_
 ·refine W.block<|sr<|vv (Q d)<|Kw d 3<|vx (le1 3 u_3 (b0.gon M 0 rfl))<|Ku x.wide<|vv (B (g.2 != x.wide))<|KH e (fun u5 e=>?_) (fun u5 e=>?_)
  ·refine KE v3<|vv (Q d)<|va (Q d)<|vx (leN 29 0 [I a.at_.Row,I a.at_.Col,B a.at_.Pending] (b0.gon M 0 rfl))<|bn e fun q6 v5 e=>?_;obtain ⟨z,rfl,i2⟩:=((h4.mono (R.trans (e0.trans (f0.trans P))))).get v5;refine va (Q z)<|Kw z 1<|bn e fun h1 w5 e=>?_;obtain ⟨n1,y5,x5⟩:=Rel.open_place_Pen o w5 i2;refine md (gB 29 1 [I a.at_.Row,I a.at_.Col,B a.at_.Pending] [n1,I a.at_.Row,I a.at_.Col,B a.at_.Pending,B h1.Auto] 0 b0 y5 ⟨rfl,rfl,rfl,trivial⟩) ?_;rintro k7 g0 u4;refine bn e fun k4 z5 e=>?_;obtain ⟨a0,v4,y1,o7,i7⟩:=Rel.put_place_Pen u4 (o.mono g0) (E':=[(Eb z 126 [n1,I a.at_.Row,I a.at_.Col,B a.at_.Pending,B h1.Auto])]) z5 ⟨z,n1,(tm i2),rfl,(x5.mono g0)⟩;refine wln<|rD [10,13] (Kp a0 []) v4 ?_;intro c5 g1 w1;have c6:=(Kp.nil w1);refine ta 0 (Q d)<|ta 1 (Q z)<|ta 2 (Q d)<|ta 3 (Q d)<|ta 4 (Qo d 3)<|bn e fun i1 a6 e=>?_;have b1:=Rel.open_widen_Cluster (y1.mono g1) a6 (tm u);refine tkx 5 c6 (fun c' N q=>le1 3 u_3 (q.gon b1 0 rfl)) (ta 6 (Q d)<|ta 7 (Q d)<|ta 8 (Qo d 4) ?_);have w4:=w1.borrow 0 b1 rfl;refine bn e fun g4 b6 e=>o1 9 (gc 9 (gE i1.text w4 b6) ?_);rintro z6 a3 c1 ⟨_,y6,m2,rfl,j3⟩;have o2:=m2.sD 2 [1,0];have n2:=o2.giveB 0 rfl;have j0:=Own.back n2 b1 rfl;have b4:=(Kp.nil j0);refine ⟨.inr b4,?_⟩;obtain ⟨b3,l3,T,k0,k3⟩:=j0.frz 0 rfl j3;have c4:=(Kp.nil k0);refine AC.gh l3 T (fun _=>c4) (bn e fun f m3 e=>o1 10 (gc 10 (oM k0 y1.m (hG.m.le (by decide)) p1 i1.wide g4 h4.m k3 m3) ?_));rintro a7 i6 d1 ⟨e6,q2,u0,rfl⟩;refine ⟨.inl rfl,ta 11 (Q d) (ta 12 (Q d)<|bn e fun b n3 e=>?_)⟩;have o3:=Rel.open_widen_Cluster u0 n3 ((f0.trans (P.trans (g0.trans (g1.trans (c1.trans (T.trans d1)))))).t _ _ _ u);refine o1 13 (gD 13 (gB 29 0 [I f.2.Row,I f.2.Col,B f.2.Pending] (I f.2.Row::I f.2.Col::B f.2.Pending::I b.wide::KO b.text.text [I b.text.n,B b.gauge.some,B b.gauge.pict,B b.gauge.wide]) 0 q2 o3 ⟨rfl,rfl,rfl,trivial⟩) ?_);rintro c3 e1 s2;refine bn e fun l4 q3 e=>?_;obtain ⟨j2,t2,x2,m6,g6⟩:=Rel.put_widen_Cluster s2 (u0.mono e1) (E':=[(Eb d 338 (I f.2.Row::I f.2.Col::B f.2.Pending::I b.wide::KO b.text.text [I b.text.n,B b.gauge.some,B b.gauge.pict,B b.gauge.wide]))]) q3 ⟨d,((f0.trans (P.trans (g0.trans (g1.trans (c1.trans (T.trans (d1.trans e1))))))).t _ _ _ u),rfl⟩;refine ⟨.inl rfl,dn (KJ ?_)⟩;obtain rfl:=si e;have u2:=t2.sD 1 [];exact jn c3 ⟨j2,u2,rfl,x2⟩
  refine W.seq<|rD [] (Kp j []) b0 ?_;intro d3 f1 l0;have m1:=(Kp.nil l0);refine ta 0 (Q d)<|ta 1 (Q d)<|ta 2 (Qo d 3)<|tkx 3 m1 (fun c' N q=>le1 3 u_3 (q.gon M 0 rfl)) (ta 4 v3<|bn e fun r6 t3 e=>?_);obtain ⟨p,rfl,s3⟩:=((h4.mono (R.trans (e0.trans (f0.trans (P.trans f1)))))).get t3;refine ta 5 (Q p)<|ta 6 (Q p)<|bn e fun j1 u3 e=>?_;obtain ⟨b7,z0,y0⟩:=Rel.open_place_Pen (o.mono f1) u3 s3;refine tkx 7 m1 (fun c' N q=>le1 0 fm (q.gon z0 0 rfl)) (bn e fun q1 w3 e=>o1 8 (gc 8 (cK l0 o.m j1.G y0 w3) ?_));rintro c7 w0 s6 ⟨S,rfl⟩;have d4:=(Kp.nil S);refine ⟨.inr d4,ta 9 (B (decide (g.2<=q1))) (ta 10 (B (decide (g.2<=q1)))<|dn (nrm<|cn e (fun x3 e=>?_) (fun x3 e=>?_)))⟩
  ·refine rD [16] (Kp j []) S ?_;intro e3 t6 m0;have X:=(Kp.nil m0);refine ta 0 (Q p)<|ta 1 (Q p)<|ta 2 (Q p)<|tkx 3 X (fun c' N q=>le1 0 fm (q.gon z0 0 rfl)) (ta 4 (Q d)<|ta 5 (Q d)<|ta 6 (Q d)<|ta 7 (Q d)<|tkx 8 X (fun c' N q=>le1 0 u_3 (q.gon M 0 rfl)) (ta 10 (Q d)<|ta 11 (Q d)<|ta 12 (Q d)<|ta 13 (Qo d 1)<|tkx 14 X (fun c' N q=>le1 1 u_3 (q.gon M 0 rfl)) (ta 15 (J Z)<|bn e fun u1 y3 e=>o1 9 (gc 9 (dk m0 o.m j1.G a.at_.Row y0.m y3) ?_))));rintro d7 f3 u6 ⟨_,o0,rfl,z3⟩;have e4:=(Kp.nil o0);refine ⟨.inr e4,bn e fun d6 a4 e=>o1 16 (gc 16 (BI o0 o.m (hG.m.le (by decide)) u1 a.at_.Col Z z3 a4) ?_)⟩;rintro e7 g3 v6 ⟨k2,v2,y2,rfl⟩;refine ⟨.inl rfl,dn (KJ ?_)⟩;obtain rfl:=si e;exact jn g3 ⟨k2,v2,rfl,y2⟩
  refine W.skip<|KJ ?_;obtain rfl:=si e;exact jn w0 ⟨j,S,rfl,o.m⟩
 rintro e_ w_ ⟨h3,l6,_,rfl,w6,rfl,l2,w2,rfl,z2⟩;refine Ky true<|KG ?_;obtain rfl:=si n4;exact KC h3 ⟨l2,w2,z2,rfl⟩
def iV (p0:ax):Option Int:=
 (cH (σ:=Int) (τ:=Int ⊕ Unit) (((([1,2,3,4,5,10,11]:List Int).length:Int)-0).toNat+1) (fun b=>
 if decide (b<(([1,2,3,4,5,10,11]:List Int).length:Int)) then
 (idx ([1,2,3,4,5,10,11]:List Int) b).bind fun d=>
 if (p0.Break==d)=true then
 some (.inr (.inl 0))
 else
 some (.inl ((w64 (b+1))))
 else
 some (.inr (.inr ()))) 0).bind fun a=>
 match a with
 | .inl a=>
 some a
 | .inr a=>
 (orE (p0.East==1) (some (p0.East==2))).bind fun c=>
 if c then
 some 2
 else
 some 1
theorem uj (O0:Own c0 G F) (b:ax){r:Int}(H:iV b=some r): KP 261 #[.agg #[I b.Break,B b.Pict,I b.Conj,I b.East]] c0 fun c v=>Own c G F/\v=I r:=by
 unfold iV at H;refine en func261 rfl rfl<|sr<|me (bx 238 [I b.Break,B b.Pict,I b.Conj,I b.East] O0) ?_;rintro v5 c4 l4 ⟨h,rfl,O2,R⟩;refine Ku 0<|KN<|me (sl (RI .i64) 3 [[I 1],[I 2],[I 3],[I 4],[I 5],[I 10],[I 11]] ([1,2,3,4,5,10,11]:List Int) O2 ⟨rfl,rfl,rfl,rfl,rfl,rfl,rfl,trivial⟩) ?_;rintro v10 s l9 ⟨p,O6,u⟩;refine va v10<|KA<|KD 0<|wln<|W.block<|bn H fun o D a=>lp D (fun d=>Jn s fun c l=>Own c G (es true (RI .i64) v10 3 p ([1,2,3,4,5,10,11]:List Int)::F)/\l= [(1,Q h),(3,v10),(4,I d)]) (fun t=>match t with|.inl T=>(fun t0 ex e w=>ex= .ret/\(Jn s fun c l=>Own c G F/\l= [(2,I t0)]) e w) T|.inr T=>(fun a1 ex e w=>ex= .exit 0/\(Jn s fun c l=>Own c G (es true (RI .i64) v10 3 p ([1,2,3,4,5,10,11]:List Int)::F)/\l= [(1,Q h)]) e w) T) ?_ ?_ ?_
 ·clear a D;intro d j1 g0 u0 H;revert g0 u0;rintro P S ⟨e0,c1,_,rfl,m0,rfl,x,rfl⟩;refine W.seq<|KD d<|va v10<|vx (lnO 3 vh u.m)<|Kr (d<(([1,2,3,4,5,10,11]:List Int).length:Int))<|KH H (fun i0 H=>?_) (fun i0 H=>?_)
  ·refine KI<|KM<|W.seq<|rD [] (Kp G0 [es true (RI .i64) v10 3 p ([1,2,3,4,5,10,11]:List Int)]) x ?_;intro i o0 g;have s0:Kp G0 [es true (RI .i64) v10 3 p ([1,2,3,4,5,10,11]:List Int)] i:=(Kp.cons (g.on 0 rfl) Kp.nil0);refine ta 0 (Q h)<|tx 1 (fun c' M=>l1 u_3 ((mm R) 0 _ rfl))<|ta 2 v10<|ta 3 (I d)<|bn H fun q n H=>tx 4 (fun c' M=>ixO vh u.m n) ?_;obtain ⟨z0,j0,q0⟩:=OA.at (u.mono (m0.trans o0)) n;obtain rfl:=j0;refine AC.takeK 5 (I q) s0 rfl (by kernel_rfl) (by kernel_rfl) (by kernel_rfl) (fun c' M hk=>(rx (by kernel_rfl) (lM u_3 rfl (hk.on 0 rfl) (u.m.blk n) (at1 (j:=0) q0 rfl)))) (ta 6 (B (b.Break==q))<|dn (nrm<|cn H (fun k0 H=>?_) (fun k0 H=>?_)))
   ·refine KD 0<|KG<|KL ?_;cases H;refine ⟨_,rfl,⟨rfl,?_⟩⟩;have X:=g.sD 1 [];exact jn i ⟨X,rfl⟩
   refine W.skip<|KJ<|KF d<|Kv (d+1)<|WL.nil ?_;cases H;exact ⟨_,rfl,jn i ⟨g,rfl⟩⟩
  refine W.exit<|thx ?_;cases H;exact ⟨_,rfl,rfl,jn e0 ⟨x,rfl⟩⟩
 ·exact jn s ⟨O6,rfl⟩
 rcases o with o|o
 ·intro h0; revert h0;rintro _ P S ⟨rfl,f0,d1,_,rfl,g1,rfl,Z,rfl⟩;refine KL ?_;cases a;exact KC f0 ⟨Z,rfl⟩
 rintro _ P S ⟨rfl,k,e1,_,rfl,h1,rfl,y,rfl⟩;refine KK<|W.seq<|W.seq<|bn a fun N E a=>W.join (Jn k fun c l=>Own c G (es true (RI .i64) v10 3 p ([1,2,3,4,5,10,11]:List Int)::F)/\l= [(26,B N)]) ?_ ?_
 ·clear a;refine W.region<|Kw h (0+3)<|vx (l1 u_3 ((mm R) 3 _ rfl))<|Kq (b.East==1) ?_;rcases bo (b.East==1) with f|f
  ·obtain rfl:=orT f E;exact vb f<|pz<|ps<|Kq true<|KB k ⟨y,rfl⟩
  have U:=orF f E;refine vb f<|wa (Qo h (0+3))<|wn<|vx (l1 u_3 ((mm R) 3 _ rfl))<|Kt (b.East==2) ?_;cases U;exact Kq (b.East==2)<|KB k ⟨y,rfl⟩
 rintro P S ⟨A,f1,_,rfl,i1,rfl,z,rfl⟩;refine nrm<|cn a (fun l0 a=>?_) (fun l0 a=>?_)
 ·refine KD 2<|KG<|thr ?_;cases a;have a0:=z.sD 1 [];exact KC A ⟨a0,rfl⟩
 refine KI<|KD 1<|KG ?_;cases a;have b0:=z.sD 1 [];exact KC A ⟨b0,rfl⟩
def iA (p0:List Int) (p1:List ax):Option Int:=
 (cH (σ:=Int) (τ:=Int ⊕ Unit) (((p0.length:Int)-0).toNat+1) (fun a=>
 if decide (a<(p0.length:Int)) then
 (idx p1 a).bind fun h=>
 (iV h).bind fun i=>
 (orE (i==2) ((bL (decide (a>0)) ((idx p0 a).bind fun j=>
 (bL (j==65039) ((idx p1 (w64 (a-1))).bind fun k=>
 some k.Pict)).bind fun e=>
 (orE e ((idx p1 a).bind fun l=>
 some l.Pict)).bind fun f=>
 (orE f ((idx p1 a).bind fun m=>
 some (m.Break==6))).bind fun g=>
 some g)).bind fun d=>
 some d)).bind fun c=>
 if c then
 some (.inr (.inl 2))
 else
 some (.inl ((w64 (a+1))))
 else
 some (.inr (.inr ()))) 0).bind fun b=>
 match b with
 | .inl b=>
 some b
 | .inr b=>
 some 1
theorem tF (O0:Own c0 G F) (p0:List Int) (p1:List ax){r:Int}(h2:Sl (RI .i32) c0 v1 p0) (g:Sl cP c0 v3 p1) (H:iA p0 p1=some r): KP 211 #[v1,v3] c0 fun c v=>Own c G F/\v=I r:=by
 unfold iA at H;refine en func211 rfl rfl<|KD 0<|KA<|KD 0<|wln<|W.block<|bn H fun N h5 H6=>lp h5 (fun a=>Jn c0 fun c l=>Own c G F/\l= [(0,v1),(1,v3),(5,I a)]) (fun t=>match t with|.inl x_=>(fun k2 ex e w=>ex= .ret/\(Jn c0 fun c l=>Own c G F/\l= [(4,I k2)]) e w) x_|.inr x_=>(fun x2 ex e w=>ex= .exit 0/\(Jn c0 fun c l=>Own c G F/\l= []) e w) x_) ?_ ?_ ?_
 ·clear H6 h5;intro a e3 g1 l2 H;revert g1 l2;rintro e_ w_ ⟨c7,g8,_,rfl,x,rfl,O9,rfl⟩;refine W.seq<|KD a<|va v1<|vx (ln 3 cI h2.m)<|Kr (a<(p0.length:Int))<|KH H (fun i1 H=>?_) (fun i1 H=>?_)
  ·refine KI<|KM<|W.seq<|bn H fun z0 X H=>bn H fun P j1 H=>bn H fun s0 Z H=>W.join (Jn c7 fun c l=>Own c G F/\l= [(0,v1),(1,v3),(5,I a),(51,B s0)]) ?_ ?_
   ·clear H;refine Kz v3<|Ku a ?_;obtain ⟨p2,k1,b2⟩:=Sl.at (g.mono x) (aS X);obtain rfl:=k1;refine vx (ix lc g.m X)<|vx (lN 238 b2)<|cl (uj O9 z0 j1) ?_;rintro v25 i k ⟨h,rfl⟩;refine Kq (P==2) ?_;rcases bo (P==2) with n|n
    ·obtain rfl:=orT n Z;exact vb n<|pz<|pz<|pz<|pz<|pz<|pz<|pz<|pz<|pz<|pz<|pz<|pz<|pz<|pz<|pz<|pz<|Kq true<|KB i ⟨h,rfl⟩
    have f:=orF n Z;refine vb n<|wa (I a)<|Ks (a>0)<|wn<|bn f fun n2 a0 f=>?_;rcases bo (decide (a>0)) with o|o
    ·have b:=anT o a0;refine vb o<|wa v1<|wa (I a)<|wn<|bn b fun R b0 b=>?_;obtain ⟨q2,m1,c2⟩:=Sl.at (h2.mono (x.trans k)) (aS b0);obtain rfl:=m1;refine vx (ix cI h2.m b0)<|wn<|vx (l1 mj (c2 0 _ rfl))<|Kt (R==65039)<|wn<|bn b fun o2 d0 b=>?_;rcases bo (R==65039) with p|p
     ·have y:=anT p d0;refine vb p<|wa v3<|wa (I a)<|wa (I (w64 (a-1)))<|wn<|bn y fun S e0 y=>?_;obtain ⟨s2,n1,d2⟩:=Sl.at (g.mono (x.trans k)) (aS e0);obtain rfl:=n1;refine vx (ix lc g.m e0)<|wa (Qo (sb v3) (so v3+(w64 (a-1)).toNat*4+1))<|wn<|vx (l1 u_4 (d2 1 _ rfl))<|wn ?_;cases y;refine Kq S.Pict<|wn<|bn b fun t0 f0 b=>?_;rcases bo S.Pict with q|q
      ·obtain rfl:=orT q f0;refine vb q<|pz<|pz<|ps<|Kt true<|wn<|bn b fun M q1 b=>?_;have g0:true=true:=rfl;obtain rfl:=orT g0 q1;refine vb g0<|pz<|pz<|pz<|Kt true<|wn ?_;cases b;refine Kq true ?_;cases f;exact Kq true<|KB i ⟨h,rfl⟩
      have z:=orF q f0;refine vb q<|wa v3<|wa (I a)<|wn<|bn z fun j h0 z=>?_;obtain ⟨t2,s1,e2⟩:=Sl.at (g.mono (x.trans k)) (aS h0);obtain rfl:=s1;refine vx (ix lc g.m h0)<|wa (Qo (sb v3) (so v3+a.toNat*4+1))<|wn<|vx (l1 u_4 (e2 1 _ rfl))<|wn ?_;cases z;refine Kq j.Pict<|wn<|bn b fun M i0 b=>?_;rcases bo j.Pict with s|s
      ·obtain rfl:=orT s i0;refine vb s<|pz<|pz<|pz<|Kt true<|wn ?_;cases b;refine Kq true ?_;cases f;exact Kq true<|KB i ⟨h,rfl⟩
      have A:=orF s i0;refine vb s<|wa v3<|wa (I a)<|wn<|bn A fun d j0 A=>?_;obtain ⟨u2,u1,f2⟩:=Sl.at (g.mono (x.trans k)) (aS j0);obtain rfl:=u1;refine vx (ix lc g.m j0)<|wa (Qo (sb v3) (so v3+a.toNat*4))<|wn<|vx (l1 u_3 (f2 0 _ rfl))<|Kt (d.Break==6)<|wn ?_;cases A;refine Kq (d.Break==6)<|wn ?_;cases b;refine Kq (d.Break==6) ?_;cases f;exact Kq (d.Break==6)<|KB i ⟨h,rfl⟩
     obtain rfl:=anF p d0;refine vb p<|pz<|pz<|pz<|Kt false<|wn<|bn b fun t0 w1 b=>?_;have k0:false=false:=rfl;have D:=orF k0 w1;refine vb k0<|wa v3<|wa (I a)<|wn<|bn D fun j l0 D=>?_;obtain ⟨v2,x1,g2⟩:=Sl.at (g.mono (x.trans k)) (aS l0);obtain rfl:=x1;refine vx (ix lc g.m l0)<|wa (Qo (sb v3) (so v3+a.toNat*4+1))<|wn<|vx (l1 u_4 (g2 1 _ rfl))<|wn ?_;cases D;refine Kq j.Pict<|wn<|bn b fun M m0 b=>?_;rcases bo j.Pict with u|u
     ·obtain rfl:=orT u m0;refine vb u<|pz<|pz<|pz<|Kt true<|wn ?_;cases b;refine Kq true ?_;cases f;exact Kq true<|KB i ⟨h,rfl⟩
     have E:=orF u m0;refine vb u<|wa v3<|wa (I a)<|wn<|bn E fun d o0 E=>?_;obtain ⟨w2,y1,i2⟩:=Sl.at (g.mono (x.trans k)) (aS o0);obtain rfl:=y1;refine vx (ix lc g.m o0)<|wa (Qo (sb v3) (so v3+a.toNat*4))<|wn<|vx (l1 u_3 (i2 0 _ rfl))<|Kt (d.Break==6)<|wn ?_;cases E;refine Kq (d.Break==6)<|wn ?_;cases b;refine Kq (d.Break==6) ?_;cases f;exact Kq (d.Break==6)<|KB i ⟨h,rfl⟩
    obtain rfl:=anF o a0;refine vb o<|pz<|pz<|pz<|pz<|pz<|pz<|pz<|pz<|pz<|pz<|pz<|pz<|pz<|pz<|Kt false ?_;cases f;exact Kq false<|KB i ⟨h,rfl⟩
   rintro e_ w_ ⟨U,y2,_,rfl,b3,rfl,T,rfl⟩;refine nrm<|cn H (fun z1 H=>?_) (fun z1 H=>?_)
   ·refine KD 2<|KG<|KL ?_;cases H;exact ⟨_,rfl,⟨rfl,jn U ⟨T,rfl⟩⟩⟩
   refine W.skip<|KJ<|KF a<|Kv (a+1)<|WL.nil ?_;cases H;exact ⟨_,rfl,jn U ⟨T,rfl⟩⟩
  refine W.exit<|thx ?_;cases H;exact ⟨_,rfl,rfl,jn c7 ⟨O9,rfl⟩⟩
 ·exact jn c0 ⟨O0,rfl⟩
 rcases N with N|N
 ·intro h1; revert h1;rintro _ e_ w_ ⟨rfl,e1,z2,_,rfl,c3,rfl,a1,rfl⟩;refine KL ?_;cases H6;exact KC e1 ⟨a1,rfl⟩
 rintro _ e_ w_ ⟨rfl,f1,a3,_,rfl,d3,rfl,b1,rfl⟩;refine KK<|KD 1<|KG ?_;cases H6;exact KC f1 ⟨b1,rfl⟩
def mE:List (Int×Int×Int):=[(0,9,3),(10,10,2),(11,12,3),(13,13,1),(14,31,3),(127,159,3),(173,173,3),(768,879,4),(1155,1161,4),(1425,1469,4),(1471,1471,4),(1473,1474,4),(1476,1477,4),(1479,1479,4),(1536,1541,7),(1552,1562,4),(1564,1564,3),(1611,1631,4),(1648,1648,4),(1750,1756,4),(1757,1757,7),(1759,1764,4),(1767,1768,4),(1770,1773,4),(1807,1807,7),(1809,1809,4),(1840,1866,4),(1958,1968,4),(2027,2035,4),(2070,2073,4),(2075,2083,4),(2192,2193,7),(2259,2273,4),(2274,2274,7),(2275,2306,4),(2307,2307,8),(2362,2362,4),(2363,2363,8),(2364,2364,4),(2366,2368,8),(2369,2376,4),(2377,2380,8),(2381,2381,4),(2382,2383,8),(2385,2391,4),(2402,2403,4),(2433,2433,4),(2434,2435,8),(2492,2492,4),(2494,2494,4),(2495,2496,8),(2497,2500,4),(2503,2504,8),(2507,2508,8),(2509,2509,4),(2519,2519,4),(2530,2531,4),(2561,2562,4),(2563,2563,8),(2620,2620,4),(2622,2624,8),(2625,2626,4),(2631,2632,4),(2635,2637,4),(2691,2691,8),(2748,2748,4),(2750,2752,8),(2753,2757,4),(2761,2761,8),(2765,2765,4),(2818,2819,8),(2876,2876,4),(2878,2879,4),(2880,2880,8),(2881,2884,4),(2887,2888,8),(2893,2893,4),(2902,2903,4),(3073,3075,8),(3132,3132,4),(3134,3136,4),(3137,3140,8),(3142,3144,4),(3146,3149,4),(3276,3277,4),(3330,3331,8),(3390,3390,4),(3391,3392,8),(3393,3396,4),(3398,3400,8),(3405,3405,4),(3406,3406,7),(3633,3633,4),(3635,3635,8),(3636,3642,4),(3655,3662,4),(3761,3761,4),(3763,3763,8),(3764,3772,4),(3864,3865,4),(3902,3903,8),(3953,3966,4),(4155,4156,8),(4957,4959,4),(6158,6158,3),(6832,6862,4),(7616,7679,4),(8203,8203,3),(8204,8204,4),(8205,8205,5),(8206,8207,3),(8232,8238,3),(8288,8303,3),(8400,8432,4),(12330,12335,4),(12441,12442,4),(42607,42610,4),(64286,64286,4),(65024,65039,4),(65056,65071,4),(65279,65279,3),(65520,65531,3),(69821,69821,7),(69837,69837,7),(127462,127487,6),(127995,127999,4),(917504,917535,3),(917536,917631,4),(917632,917759,3),(917760,917999,4),(918000,921599,3)]
def ot:Option (List (Int×Int×Int)):=
 some mE
theorem AU (d:Own c0 G F){r:List (Int×Int×Int)}(H:ot=some r): KP 270 #[] c0 fun c v=>∃a b,Own c G (es true jA a 326 b r::F)/\v=a/\OA jA c a b r:=by
 unfold ot at H;refine en func270 rfl rfl<|KE Y<|KN<|Ko (mE.map fun x=>aN x.1 x.2.1 x.2.2)<|me (Own.sl (R:=jA) (E:=326) (ls:=mE.map (fun x=>[I x.1,I x.2.1,I x.2.2])) (vs:=(mE.map (fun x=>[I x.1,I x.2.1,I x.2.2])).flatten) (xs:=mE) true d (aO _) rfl (pS.map _ (fun _=>rfl) _) (by kernel_rfl) (by kernel_rfl)) ?_;rintro v5 f i ⟨h,e,g⟩;refine va v5<|KG ?_;cases H;exact KC f ⟨v5,h,e,rfl,g⟩
def pf (p0:Int) (q0_0:List (Int×Int×Int)) (q1_0:Int):Option Bool:=
 (idx q0_0 p0).bind fun a=>
 some (decide (a.2.1>=(w64 q1_0)))
theorem BJ {d:Nat}{e:Nat}(o:Own c0 G F) (b:Int) (q0_0:List (Int×Int×Int)) (q1_0:Int){r:Bool}(s:∀j u,([v2]:List Value)[j]? = some u->Im c0 d (0+j) u) (k:Sl jA c0 v2 q0_0) (t:∀j u,([J q1_0]:List Value)[j]? = some u->Im c0 e (0+j) u) (H:pf b q0_0 q1_0=some r): KP 272 #[I b,Q d,Q e] c0 fun c v=>Own c G F/\v=B r:=by
 unfold pf at H;refine en func272 rfl rfl<|Ky false<|KA<|rD [] (Kp G0 []) o ?_;intro h q p;have y:Kp G0 [] h:=Kp.nil0;refine tx 0 (fun g a=>l1 jB ((mm s) 0 _ rfl))<|ta 1 (I b)<|bn H fun f l H=>?_;obtain ⟨x,i,n⟩:=Sl.at (k.mono q) (aS l);obtain rfl:=i;refine tx 2 (fun g a=>ix jB k.m l)<|ta 3 (Qo (sb v2) (so v2+b.toNat*3+1))<|tx 4 (fun g a=>l1 u_3 ((mm n) 1 _ rfl))<|tx 5 (fun g a=>l1 mj ((mm t) 0 _ rfl))<|ta 6 (I (w64 q1_0))<|ta 7 (B (decide (f.2.1>=(w64 q1_0))))<|ta 8 (B (decide (f.2.1>=(w64 q1_0))))<|dn (nrm<|W.ret ?_);cases H;exact KC h ⟨p,rfl⟩
def iI (p0:Int) (p1:Int) (p2:Int):Option Bool:=
 (bL (decide (p0>=p1)) (some (decide (p0<=p2)))).bind fun a=>
 some a
theorem lG (f:Own c0 G F) (a:Int) (e:Int) (b:Int){r:Bool}(H:iI a e b=some r): KP 312 #[J a,J e,J b] c0 fun c v=>Own c G F/\v=B r:=by
 unfold iI at H;refine en func312 rfl rfl<|Ky false<|KA<|bn H fun g h H=>W.join (Jn c0 fun c l=>Own c G F/\l= [(6,B g)]) ?_ ?_
 ·clear H;refine Kz (J a)<|va (J e)<|Kr (a>=e) ?_;rcases bo (decide (a>=e)) with d|d
  ·have i:=anT d h;refine vb d<|wa (J a)<|wa (J b)<|Ks (a<=b) ?_;cases i;exact vv (B (decide (a<=b)))<|KB c0 ⟨f,rfl⟩
  obtain rfl:=anF d h;exact vb d<|pz<|ps<|vv (B false)<|KB c0 ⟨f,rfl⟩
 rintro m p ⟨k,n,_,rfl,o,rfl,j,rfl⟩;refine nrm<|W.ret ?_;cases H;exact KC k ⟨j,rfl⟩
def lf (p0:Int):Option Bool:=
 (iI p0 44032 55203).bind fun a=>
 some a
theorem uW (d:Own c0 G F) (a:Int){r:Bool}(H:lf a=some r): KP 313 #[J a] c0 fun c v=>Own c G F/\v=B r:=by
 unfold lf at H;refine en func313 rfl rfl<|Ky false<|wln<|KE (J a)<|bn H fun b g H=>cl (lG d a 44032 55203 g) ?_;rintro v7 f h ⟨e,rfl⟩;refine Kq b<|KG ?_;cases H;exact KC f ⟨e,rfl⟩
def ly (p0:Int):Option Int:=
 (iI p0 4352 4447).bind fun i=>
 (orE i ((iI p0 43360 43388).bind fun j=>
 some j)).bind fun h=>
 if h then
 some 9
 else
 (iI p0 4448 4519).bind fun c=>
 (orE c ((iI p0 55216 55238).bind fun d=>
 some d)).bind fun a=>
 if a then
 some 10
 else
 (iI p0 4520 4607).bind fun e=>
 (orE e ((iI p0 55243 55291).bind fun f=>
 some f)).bind fun b=>
 if b then
 some 11
 else
 (lf p0).bind fun g=>
 if (!g)=true then
 some 0
 else
 if (((w32 (p0-44032)).tmod 28)==0)=true then
 some 12
 else
 some 13
theorem xy (O0:Own c0 G F) (a:Int){r:Int}(H:ly a=some r): KP 273 #[J a] c0 fun c v=>Own c G F/\v=I r:=by
 unfold ly at H;refine en func273 rfl rfl<|KD 0<|KA<|W.block<|W.seq<|bn H fun w0 h1 H=>bn H fun e0 h2 H=>W.join (Jn c0 fun c l=>Own c G F/\l= [(0,J a),(3,B e0)]) ?_ ?_
 ·clear H;refine Kz (J a)<|cl (lG O0 a 4352 4447 h1) ?_;rintro v8 c7 l7 ⟨S,rfl⟩;rcases bo w0 with j|j
  ·obtain rfl:=orT j h2;exact vb j<|pz<|vv (B true)<|KB c7 ⟨S,rfl⟩
  have e:=orF j h2;refine vb j<|wa (J a)<|wn<|bn e fun A g0 e=>cl (lG S a 43360 43388 g0) ?_;rintro v17 U l16 ⟨P,rfl⟩;obtain rfl:=si e;exact vv (B A)<|KB U ⟨P,rfl⟩
 rintro e_ w_ ⟨u,a1,_,rfl,d1,rfl,o,rfl⟩;refine nrm<|cn H (fun i0 H=>?_) (fun i0 H=>?_)
 ·refine KD 9<|KG<|KL ?_;obtain rfl:=si H;exact KC u ⟨o,rfl⟩
 refine W.seq<|bn H fun M j0 H=>bn H fun D y H=>W.join (Jn u fun c l=>Own c G F/\l= [(0,J a),(10,B D)]) ?_ ?_
 ·clear H;refine Kz (J a)<|cl (lG o a 4448 4519 j0) ?_;rintro v32 X e1 ⟨p,rfl⟩;rcases bo M with b|b
  ·obtain rfl:=orT b y;exact vb b<|pz<|vv (B true)<|KB X ⟨p,rfl⟩
  have f:=orF b y;refine vb b<|wa (J a)<|wn<|bn f fun k k0 f=>cl (lG p a 55216 55238 k0) ?_;rintro v41 Z f1 ⟨R,rfl⟩;obtain rfl:=si f;exact vv (B k)<|KB Z ⟨R,rfl⟩
 rintro e_ w_ ⟨x,b1,_,rfl,g1,rfl,q,rfl⟩;refine nrm<|cn H (fun l0 H=>?_) (fun l0 H=>?_)
 ·refine KD 10<|KG<|KL ?_;obtain rfl:=si H;exact KC x ⟨q,rfl⟩
 refine W.seq<|bn H fun N m0 H=>bn H fun E z H=>W.join (Jn x fun c l=>Own c G F/\l= [(0,J a),(17,B E)]) ?_ ?_
 ·clear H;refine Kz (J a)<|cl (lG q a 4520 4607 m0) ?_;rintro v56 a0 i1 ⟨s,rfl⟩;rcases bo N with d|d
  ·obtain rfl:=orT d z;exact vb d<|pz<|vv (B true)<|KB a0 ⟨s,rfl⟩
  have g:=orF d z;refine vb d<|wa (J a)<|wn<|bn g fun m o0 g=>cl (lG s a 55243 55291 o0) ?_;rintro n1 b0 j1 ⟨T,rfl⟩;obtain rfl:=si g;exact vv (B m)<|KB b0 ⟨T,rfl⟩
 rintro e_ w_ ⟨d0,c1,_,rfl,k1,rfl,t,rfl⟩;refine nrm<|cn H (fun q0 H=>?_) (fun q0 H=>?_)
 ·refine KD 11<|KG<|KL ?_;obtain rfl:=si H;exact KC d0 ⟨t,rfl⟩
 refine KE (J a)<|bn H fun n s0 H=>cl (uW t a s0) ?_;rintro p1 i m1 ⟨h,rfl⟩;refine vv (B (!n))<|KH H (fun t0 H=>?_) (fun t0 H=>?_)
 ·refine KD 0<|KG<|KL ?_;obtain rfl:=si H;exact KC i ⟨h,rfl⟩
 refine KE (J a)<|va (J (w32 (a-44032)))<|va (J ((w32 (a-44032)).tmod 28))<|vv (B (((w32 (a-44032)).tmod 28)==0))<|KH H (fun u0 H=>?_) (fun u0 H=>?_)
 ·refine KD 12<|KG<|KL ?_;obtain rfl:=si H;exact KC i ⟨h,rfl⟩
 refine W.skip<|KJ<|KD 13<|KG ?_;obtain rfl:=si H;exact KC i ⟨h,rfl⟩
def ii (p0:Int) (p1_0_0:List (Int×Int×Int)) (p1_1_0:Int):Option Int:=
 (cH (σ:=Int×Int) (τ:=Int) ((p0-0).toNat+1) (fun a=>
 if decide (a.1<a.2) then
 (pf (w64 ((IntKind.u64.wrap (w64 (a.1+a.2))).fdiv (2 ^ 1))) p1_0_0 p1_1_0).bind fun b=>
 if (!b)=true then
 some (.inl ((w64 ((w64 ((IntKind.u64.wrap (w64 (a.1+a.2))).fdiv (2 ^ 1)))+1)),a.2))
 else
 some (.inl (a.1,(w64 ((IntKind.u64.wrap (w64 (a.1+a.2))).fdiv (2 ^ 1)))))
 else
 some (.inr a.1)) (0,p0)).bind fun c=>
 some c
theorem qs {b1_0:Nat}{b1_1:Nat}(A:Own c0 G F) (b:Int) (p1_0_0:List (Int×Int×Int)) (p1_1_0:Int){r:Int}(N:∀j u,([v2]:List Value)[j]? = some u->Im c0 b1_0 (0+j) u) (M:Sl jA c0 v2 p1_0_0) (P:∀j u,([J p1_1_0]:List Value)[j]? = some u->Im c0 b1_1 (0+j) u) (H:ii b p1_0_0 p1_1_0=some r): KP 271 #[I b,.func (.func 272) #[] #[Q b1_0,Q b1_1]] c0 fun c v=>Own c G F/\v=I r:=by
 unfold ii at H;refine en func271 rfl rfl<|KD 0<|wln<|KD b<|Ku 0<|Ku b<|KA<|W.block<|bn H fun g y k=>lp y (fun a=>Jn c0 fun c l=>Own c G F/\l= [(1,.func (.func 272) #[] #[Q b1_0,Q b1_1]),(5,I a.1),(6,I a.2)]) (fun h ex e w=>ex= .exit 0/\(Jn c0 fun c l=>Own c G F/\l= [(5,I h)]) e w) ?_ ?_ ?_
 ·clear k y;intro a X q z H;revert q z;rintro E R ⟨D,Z,_,rfl,l7,rfl,o,rfl⟩;refine W.seq<|KD a.1<|Ku a.2<|Kr (a.1<a.2)<|KH H (fun s H=>?_) (fun s H=>?_)
  ·refine KI<|W.block<|KD a.1<|Ku a.2<|Kx (a.1+a.2)<|va (.int .u64 (IntKind.u64.wrap (w64 (a.1+a.2))))<|va (.int .u64 ((IntKind.u64.wrap (w64 (a.1+a.2))).fdiv (2 ^ 1)))<|Kv ((IntKind.u64.wrap (w64 (a.1+a.2))).fdiv (2 ^ 1))<|wln<|KE (.func (.func 272) #[] #[Q b1_0,Q b1_1])<|Kx ((IntKind.u64.wrap (w64 (a.1+a.2))).fdiv (2 ^ 1))<|bn H fun i t H=>cl (BJ o (w64 ((IntKind.u64.wrap (w64 (a.1+a.2))).fdiv (2 ^ 1))) p1_0_0 p1_1_0 (mm N) M.m (mm P) t) ?_;rintro v20 f T ⟨d,rfl⟩;refine Kq (!i)<|KH H (fun x H=>?_) (fun x H=>?_)
   ·refine W.region<|Kx ((IntKind.u64.wrap (w64 (a.1+a.2))).fdiv (2 ^ 1))<|Kv ((w64 ((IntKind.u64.wrap (w64 (a.1+a.2))).fdiv (2 ^ 1)))+1)<|WL.nil<|bkn ?_;cases H;exact ⟨_,rfl,jn f ⟨d,rfl⟩⟩
   refine W.region<|Kv ((IntKind.u64.wrap (w64 (a.1+a.2))).fdiv (2 ^ 1))<|WL.nil<|bkn ?_;cases H;exact ⟨_,rfl,jn f ⟨d,rfl⟩⟩
  refine W.exit<|thx ?_;cases H;exact ⟨_,rfl,rfl,jn D ⟨o,rfl⟩⟩
 ·exact jn c0 ⟨A,rfl⟩
 rintro _ E R ⟨rfl,p,S,_,rfl,U,rfl,n,rfl⟩;refine KK<|sr<|vv (I g)<|KG ?_;cases k;exact KC p ⟨n,rfl⟩
def sv (p0:Int):Option Int:=
 (ot).bind fun a=>
 (ii (a.length:Int) a p0).bind fun b=>
 (bL (decide (b<(a.length:Int))) ((idx a b).bind fun d=>
 some (decide (d.1<=(w64 p0))))).bind fun c=>
 if c then
 (idx a b).bind fun e=>
 some e.2.2
 else
 (ly p0).bind fun f=>
 some f
theorem EQ (O0:Own c0 G F) (i:Int){r:Int}(H:sv i=some r): KP 227 #[J i] c0 fun c v=>Own c G F/\v=I r:=by
 unfold sv at H;refine en func227 rfl rfl<|sr<|me (bx 21 [J i] O0) ?_;rintro v5 c4 l4 ⟨b1,rfl,O2,R⟩;refine Ku 0<|KN<|bn H fun j h6 H=>cl (AU O2 h6) ?_;rintro v7 h1 p1 ⟨_,u8,U,rfl,s⟩;refine me (al 323 [Y] U) ?_;rintro v19 i1 E ⟨y,rfl,X⟩;obtain ⟨b,d,e,rfl⟩:=((s.mono E)).form;refine md (sC 323 0 (.slice b d e) [.slice b d e] 0 X ⟨s.m.one,trivial⟩) ?_;rintro j1 v0 t;refine KN<|vx (le1 0 jB (t.on 0 rfl))<|vx (lnO 3 jB s.m) ?_;obtain ⟨k1,l0,q1,Z,g⟩:=t.frz 1 rfl (s.mono (E.trans v0));refine WL.gh l0 ?_;obtain ⟨m1,m0,M,a0,n⟩:=Own.frzB 0 Z rfl;refine WL.gh m0 ?_;have b0:=a0.sD 2 [1];refine va (.func (.func 272) #[] #[Q y,Q b1])<|bn H fun a o0 H=>cl (qs b0 (j.length:Int) j i n g.m (mm R) o0) ?_;rintro v40 i0 N ⟨d0,rfl⟩;refine Ku a<|KA<|W.seq<|bn H fun P z H=>W.join (Jn i0 fun c l=>Own c G (es false jA (.slice b d e) 326 u8 j::F)/\l= [(1,Q b1),(3,Q y),(4,I a),(23,B P)]) ?_ ?_
 ·clear H;refine rD [] (Kp G0 []) d0 ?_;intro p w0 u;have t1:Kp G0 [] p:=Kp.nil0;refine ta 0 (I a)<|tx 1 (fun k f=>l1 jB ((mm n) 0 _ rfl))<|tx 2 (fun k f=>ln 3 jB g.m)<|ta 3 (B (decide (a<(j.length:Int)))) ?_;rcases bo (decide (a<(j.length:Int))) with h|h
  ·have o:=anT h z;refine bn o fun q A o=>AC.takeb 4 h rfl (by kernel_rfl) (by kernel_rfl) (fun k f=>(by kernel_rfl)) (tx 5 (fun k f=>l1 jB ((mm n) 0 _ rfl))<|ta 6 (I a) ?_);obtain ⟨e1,q0,y0⟩:=Sl.at (g.mono (M.trans (N.trans w0))) (aS A);obtain rfl:=q0;refine tx 7 (fun k f=>ix jB g.m A)<|ta 8 (Qo (sb (.slice b d e)) (so (.slice b d e)+a.toNat*3))<|tx 9 (fun k f=>l1 u_3 ((mm y0) 0 _ rfl))<|tx 10 (fun k f=>l1 mj ((mm R) 0 _ rfl))<|ta 11 (I (w64 i))<|ta 12 (B (decide (q.1<=(w64 i)))) ?_;cases o;exact ta 13 (B (decide (q.1<=(w64 i))))<|dn (nrm<|jn p ⟨u,rfl⟩)
  obtain rfl:=anF h z;exact AC.takeb 4 h rfl (by kernel_rfl) (by kernel_rfl) (fun k f=>(by kernel_rfl)) (tp 5<|tp 6<|tp 7<|tp 8<|tp 9<|tp 10<|tp 11<|tp 12<|ta 13 (B false)<|dn (nrm<|jn p ⟨u,rfl⟩))
 rintro e_ w_ ⟨j0,n1,_,rfl,x0,rfl,x,rfl⟩;refine nrm<|cn H (fun s0 H=>?_) (fun s0 H=>?_)
 ·refine sr<|vx (l1 jB ((mm n) 0 _ rfl))<|Ku a<|bn H fun S D H=>?_;obtain ⟨f1,t0,z0⟩:=Sl.at (g.mono (M.trans (N.trans x0))) (aS D);obtain rfl:=t0;refine vx (ix jB g.m D)<|Kw (sb (.slice b d e)) (so (.slice b d e)+a.toNat*3+2)<|vx (l1 u_3 (z0 2 _ rfl))<|Ku S.2.2<|KG<|thr ?_;cases H;have e0:=x.sD 1 [];exact KC j0 ⟨e0,rfl⟩
 refine KI<|sr<|vx (l1 mj ((mm R) 0 _ rfl))<|bn H fun T u0 H=>cl (xy x i u0) ?_;rintro u1 k0 s1 ⟨f0,rfl⟩;refine Ku T<|KG ?_;cases H;have g0:=f0.sD 1 [];exact KC k0 ⟨g0,rfl⟩
def oq (p0:Int) (q0_0:List (Int×Int)) (q1_0:Int):Option Bool:=
 (idx q0_0 p0).bind fun a=>
 some (decide (a.2>=q1_0))
theorem AQ {d:Nat}{e:Nat}(o:Own c0 G F) (b:Int) (q0_0:List (Int×Int)) (q1_0:Int){r:Bool}(s:∀j u,([v2]:List Value)[j]? = some u->Im c0 d (0+j) u) (k:Sl tv c0 v2 q0_0) (t:∀j u,([J q1_0]:List Value)[j]? = some u->Im c0 e (0+j) u) (H:oq b q0_0 q1_0=some r): KP 275 #[I b,Q d,Q e] c0 fun c v=>Own c G F/\v=B r:=by
 unfold oq at H;refine en func275 rfl rfl<|Ky false<|KA<|rD [] (Kp G0 []) o ?_;intro h q p;have y:Kp G0 [] h:=Kp.nil0;refine tx 0 (fun g a=>l1 vR ((mm s) 0 _ rfl))<|ta 1 (I b)<|bn H fun f l H=>?_;obtain ⟨x,i,n⟩:=Sl.at (k.mono q) (aS l);obtain rfl:=i;refine tx 2 (fun g a=>ix vR k.m l)<|ta 3 (Qo (sb v2) (so v2+b.toNat*2+1))<|tx 4 (fun g a=>l1 mj ((mm n) 1 _ rfl))<|tx 5 (fun g a=>l1 mj ((mm t) 0 _ rfl))<|ta 6 (B (decide (f.2>=q1_0)))<|ta 7 (B (decide (f.2>=q1_0)))<|dn (nrm<|W.ret ?_);cases H;exact KC h ⟨p,rfl⟩
def mD:List (Int×Int):=[(169,169),(174,174),(8252,8252),(8265,8265),(8482,8482),(8505,8505),(8596,8601),(8617,8618),(8986,8987),(9000,9000),(9096,9096),(9167,9167),(9193,9203),(9208,9210),(9410,9410),(9642,9643),(9654,9654),(9664,9664),(9723,9726),(9728,9733),(9735,9746),(9748,9861),(9872,9989),(9992,10002),(10004,10004),(10006,10006),(10013,10013),(10017,10017),(10024,10024),(10035,10036),(10052,10052),(10055,10055),(10060,10060),(10062,10062),(10067,10069),(10071,10071),(10083,10087),(10133,10135),(10145,10145),(10160,10160),(10175,10175),(10548,10549),(11013,11015),(11035,11036),(11088,11088),(11093,11093),(12336,12336),(12349,12349),(12951,12951),(12953,12953),(126976,127231),(127245,127247),(127279,127279),(127340,127345),(127358,127359),(127374,127374),(127377,127386),(127405,127461),(127489,127503),(127514,127514),(127535,127535),(127538,127546),(127548,127551),(127561,127994),(128000,128317),(128326,128591),(128640,128767),(128884,128895),(128981,129023),(129036,129039),(129096,129103),(129114,129119),(129160,129167),(129198,129279),(129292,129338),(129340,129349),(129351,129791),(130048,131069)]
def mX:Option (List (Int×Int)):=
 some mD
theorem zo (d:Own c0 G F){r:List (Int×Int)}(H:mX=some r): KP 274 #[] c0 fun c v=>∃a b,Own c G (es true tv a 329 b r::F)/\v=a/\OA tv c a b r:=by
 unfold mX at H;refine en func274 rfl rfl<|KE Y<|KN<|Ko (mD.map fun x=>JII x.1 x.2)<|me (Own.sl (R:=tv) (E:=329) (ls:=mD.map (fun x=>[J x.1,J x.2])) (vs:=(mD.map (fun x=>[J x.1,J x.2])).flatten) (xs:=mD) true d (aO _) rfl (pS.map _ (fun _=>rfl) _) (by kernel_rfl) (by kernel_rfl)) ?_;rintro v5 f i ⟨h,e,g⟩;refine va v5<|KG ?_;cases H;exact KC f ⟨v5,h,e,rfl,g⟩
def gL (p0:Int) (p1_0_0:List (Int×Int)) (p1_1_0:Int):Option Int:=
 (cH (σ:=Int×Int) (τ:=Int) ((p0-0).toNat+1) (fun a=>
 if decide (a.1<a.2) then
 (oq (w64 ((IntKind.u64.wrap (w64 (a.1+a.2))).fdiv (2 ^ 1))) p1_0_0 p1_1_0).bind fun b=>
 if (!b)=true then
 some (.inl ((w64 ((w64 ((IntKind.u64.wrap (w64 (a.1+a.2))).fdiv (2 ^ 1)))+1)),a.2))
 else
 some (.inl (a.1,(w64 ((IntKind.u64.wrap (w64 (a.1+a.2))).fdiv (2 ^ 1)))))
 else
 some (.inr a.1)) (0,p0)).bind fun c=>
 some c
theorem pK {b1_0:Nat}{b1_1:Nat}(A:Own c0 G F) (b:Int) (p1_0_0:List (Int×Int)) (p1_1_0:Int){r:Int}(N:∀j u,([v2]:List Value)[j]? = some u->Im c0 b1_0 (0+j) u) (M:Sl tv c0 v2 p1_0_0) (P:∀j u,([J p1_1_0]:List Value)[j]? = some u->Im c0 b1_1 (0+j) u) (H:gL b p1_0_0 p1_1_0=some r): KP 271 #[I b,.func (.func 275) #[] #[Q b1_0,Q b1_1]] c0 fun c v=>Own c G F/\v=I r:=by
 unfold gL at H;refine en func271 rfl rfl<|KD 0<|wln<|KD b<|Ku 0<|Ku b<|KA<|W.block<|bn H fun g y k=>lp y (fun a=>Jn c0 fun c l=>Own c G F/\l= [(1,.func (.func 275) #[] #[Q b1_0,Q b1_1]),(5,I a.1),(6,I a.2)]) (fun h ex e w=>ex= .exit 0/\(Jn c0 fun c l=>Own c G F/\l= [(5,I h)]) e w) ?_ ?_ ?_
 ·clear k y;intro a X q z H;revert q z;rintro E R ⟨D,Z,_,rfl,l7,rfl,o,rfl⟩;refine W.seq<|KD a.1<|Ku a.2<|Kr (a.1<a.2)<|KH H (fun s H=>?_) (fun s H=>?_)
  ·refine KI<|W.block<|KD a.1<|Ku a.2<|Kx (a.1+a.2)<|va (.int .u64 (IntKind.u64.wrap (w64 (a.1+a.2))))<|va (.int .u64 ((IntKind.u64.wrap (w64 (a.1+a.2))).fdiv (2 ^ 1)))<|Kv ((IntKind.u64.wrap (w64 (a.1+a.2))).fdiv (2 ^ 1))<|wln<|KE (.func (.func 275) #[] #[Q b1_0,Q b1_1])<|Kx ((IntKind.u64.wrap (w64 (a.1+a.2))).fdiv (2 ^ 1))<|bn H fun i t H=>cl (AQ o (w64 ((IntKind.u64.wrap (w64 (a.1+a.2))).fdiv (2 ^ 1))) p1_0_0 p1_1_0 (mm N) M.m (mm P) t) ?_;rintro v20 f T ⟨d,rfl⟩;refine Kq (!i)<|KH H (fun x H=>?_) (fun x H=>?_)
   ·refine W.region<|Kx ((IntKind.u64.wrap (w64 (a.1+a.2))).fdiv (2 ^ 1))<|Kv ((w64 ((IntKind.u64.wrap (w64 (a.1+a.2))).fdiv (2 ^ 1)))+1)<|WL.nil<|bkn ?_;cases H;exact ⟨_,rfl,jn f ⟨d,rfl⟩⟩
   refine W.region<|Kv ((IntKind.u64.wrap (w64 (a.1+a.2))).fdiv (2 ^ 1))<|WL.nil<|bkn ?_;cases H;exact ⟨_,rfl,jn f ⟨d,rfl⟩⟩
  refine W.exit<|thx ?_;cases H;exact ⟨_,rfl,rfl,jn D ⟨o,rfl⟩⟩
 ·exact jn c0 ⟨A,rfl⟩
 rintro _ E R ⟨rfl,p,S,_,rfl,U,rfl,n,rfl⟩;refine KK<|sr<|vv (I g)<|KG ?_;cases k;exact KC p ⟨n,rfl⟩
def qg (p0:Int):Option Bool:=
 (mX).bind fun a=>
 (gL (a.length:Int) a p0).bind fun b=>
 (bL (decide (b<(a.length:Int))) ((idx a b).bind fun d=>
 some (decide (d.1<=p0)))).bind fun c=>
 some c
theorem Dl (O0:Own c0 G F) (j:Int){r:Bool}(H:qg j=some r): KP 228 #[J j] c0 fun c v=>Own c G F/\v=B r:=by
 unfold qg at H;refine en func228 rfl rfl<|sr<|me (bx 21 [J j] O0) ?_;rintro v5 c4 l4 ⟨b1,rfl,O2,m3⟩;refine Kq false<|KN<|bn H fun h h6 H=>cl (zo O2 h6) ?_;rintro v7 u0 a1 ⟨_,u8,D,rfl,s⟩;refine me (al 327 [Y] D) ?_;rintro v19 v0 z ⟨U,rfl,E⟩;obtain ⟨d,e,f,rfl⟩:=((s.mono z)).form;refine md (sC 327 0 (.slice d e f) [.slice d e f] 0 E ⟨s.m.one,trivial⟩) ?_;rintro w0 f0 t;refine KN<|vx (le1 0 vR (t.on 0 rfl))<|vx (lnO 3 vR s.m) ?_;obtain ⟨x0,a0,c1,M,n⟩:=t.frz 1 rfl (s.mono (z.trans f0));refine WL.gh a0 ?_;obtain ⟨y0,b0,g0,N,q⟩:=Own.frzB 0 M rfl;refine WL.gh b0 ?_;have P:=N.sD 2 [1];refine va (.func (.func 275) #[] #[Q U,Q b1])<|bn H fun a d0 H=>cl (pK P (h.length:Int) h j q n.m (mm m3) d0) ?_;rintro v40 X h0 ⟨R,rfl⟩;refine Ku a<|KA<|bn H fun A x H=>W.join (Jn X fun c l=>Own c G (es false tv (.slice d e f) 329 u8 h::F)/\l= [(2,B A)]) ?_ ?_
 ·clear H;refine rD [] (Kp G0 []) R ?_;intro p i0 u;have e1:Kp G0 [] p:=Kp.nil0;refine ta 0 (I a)<|tx 1 (fun i b=>l1 vR ((mm q) 0 _ rfl))<|tx 2 (fun i b=>ln 3 vR n.m)<|ta 3 (B (decide (a<(h.length:Int)))) ?_;rcases bo (decide (a<(h.length:Int))) with g|g
  ·have o:=anT g x;refine bn o fun k y o=>AC.takeb 4 g rfl (by kernel_rfl) (by kernel_rfl) (fun i b=>(by kernel_rfl)) (tx 5 (fun i b=>l1 vR ((mm q) 0 _ rfl))<|ta 6 (I a) ?_);obtain ⟨s0,e0,k0⟩:=Sl.at (n.mono (g0.trans (h0.trans i0))) (aS y);obtain rfl:=e0;refine tx 7 (fun i b=>ix vR n.m y)<|ta 8 (Qo (sb (.slice d e f)) (so (.slice d e f)+a.toNat*2))<|tx 9 (fun i b=>l1 mj ((mm k0) 0 _ rfl))<|tx 10 (fun i b=>l1 mj ((mm m3) 0 _ rfl))<|ta 11 (B (decide (k.1<=j))) ?_;cases o;exact ta 12 (B (decide (k.1<=j)))<|ta 13 (B (decide (k.1<=j)))<|dn (nrm<|jn p ⟨u,rfl⟩)
  obtain rfl:=anF g x;exact AC.takeb 4 g rfl (by kernel_rfl) (by kernel_rfl) (fun i b=>(by kernel_rfl)) (tp 5<|tp 6<|tp 7<|tp 8<|tp 9<|tp 10<|tp 11<|ta 12 (B false)<|ta 13 (B false)<|dn (nrm<|jn p ⟨u,rfl⟩))
 rintro e_ w_ ⟨Z,z0,_,rfl,d1,rfl,S,rfl⟩;refine nrm<|W.ret ?_;cases H;have T:=S.sD 1 [];exact KC Z ⟨T,rfl⟩
def oy (p0:Int) (q0_0:List (Int×Int×Int)) (q1_0:Int):Option Bool:=
 (idx q0_0 p0).bind fun a=>
 some (decide (a.2.1>=(w64 q1_0)))
theorem AY {d:Nat}{e:Nat}(o:Own c0 G F) (b:Int) (q0_0:List (Int×Int×Int)) (q1_0:Int){r:Bool}(s:∀j u,([v2]:List Value)[j]? = some u->Im c0 d (0+j) u) (k:Sl jA c0 v2 q0_0) (t:∀j u,([J q1_0]:List Value)[j]? = some u->Im c0 e (0+j) u) (H:oy b q0_0 q1_0=some r): KP 277 #[I b,Q d,Q e] c0 fun c v=>Own c G F/\v=B r:=by
 unfold oy at H;refine en func277 rfl rfl<|Ky false<|KA<|rD [] (Kp G0 []) o ?_;intro h q p;have y:Kp G0 [] h:=Kp.nil0;refine tx 0 (fun g a=>l1 jB ((mm s) 0 _ rfl))<|ta 1 (I b)<|bn H fun f l H=>?_;obtain ⟨x,i,n⟩:=Sl.at (k.mono q) (aS l);obtain rfl:=i;refine tx 2 (fun g a=>ix jB k.m l)<|ta 3 (Qo (sb v2) (so v2+b.toNat*3+1))<|tx 4 (fun g a=>l1 u_3 ((mm n) 1 _ rfl))<|tx 5 (fun g a=>l1 mj ((mm t) 0 _ rfl))<|ta 6 (I (w64 q1_0))<|ta 7 (B (decide (f.2.1>=(w64 q1_0))))<|ta 8 (B (decide (f.2.1>=(w64 q1_0))))<|dn (nrm<|W.ret ?_);cases H;exact KC h ⟨p,rfl⟩
def mF:List (Int×Int×Int):=[(768,879,3),(1155,1159,3),(1425,1469,3),(1552,1562,3),(1611,1631,3),(2325,2361,1),(2364,2364,3),(2381,2381,2),(2385,2388,3),(2392,2399,1),(2424,2431,1),(2453,2472,1),(2474,2480,1),(2482,2482,1),(2486,2489,1),(2492,2492,3),(2509,2509,2),(2524,2525,1),(2527,2527,1),(2544,2545,1),(2709,2728,1),(2730,2736,1),(2738,2739,1),(2741,2745,1),(2748,2748,3),(2765,2765,2),(2809,2809,1),(2837,2856,1),(2858,2864,1),(2866,2867,1),(2869,2873,1),(2876,2876,3),(2893,2893,2),(2908,2909,1),(2911,2911,1),(2929,2929,1),(3093,3112,1),(3114,3129,1),(3132,3132,3),(3149,3149,2),(3160,3162,1),(3349,3386,1),(3405,3405,2),(6832,6845,3),(7616,7679,3),(8205,8205,3),(8400,8412,3),(12330,12335,3),(12441,12442,3),(65056,65071,3)]
def nb:Option (List (Int×Int×Int)):=
 some mF
theorem zu (d:Own c0 G F){r:List (Int×Int×Int)}(H:nb=some r): KP 276 #[] c0 fun c v=>∃a b,Own c G (es true jA a 326 b r::F)/\v=a/\OA jA c a b r:=by
 unfold nb at H;refine en func276 rfl rfl<|KE Y<|KN<|Ko (mF.map fun x=>aN x.1 x.2.1 x.2.2)<|me (Own.sl (R:=jA) (E:=326) (ls:=mF.map (fun x=>[I x.1,I x.2.1,I x.2.2])) (vs:=(mF.map (fun x=>[I x.1,I x.2.1,I x.2.2])).flatten) (xs:=mF) true d (aO _) rfl (pS.map _ (fun _=>rfl) _) (by kernel_rfl) (by kernel_rfl)) ?_;rintro v5 f i ⟨h,e,g⟩;refine va v5<|KG ?_;cases H;exact KC f ⟨v5,h,e,rfl,g⟩
def gN (p0:Int) (p1_0_0:List (Int×Int×Int)) (p1_1_0:Int):Option Int:=
 (cH (σ:=Int×Int) (τ:=Int) ((p0-0).toNat+1) (fun a=>
 if decide (a.1<a.2) then
 (oy (w64 ((IntKind.u64.wrap (w64 (a.1+a.2))).fdiv (2 ^ 1))) p1_0_0 p1_1_0).bind fun b=>
 if (!b)=true then
 some (.inl ((w64 ((w64 ((IntKind.u64.wrap (w64 (a.1+a.2))).fdiv (2 ^ 1)))+1)),a.2))
 else
 some (.inl (a.1,(w64 ((IntKind.u64.wrap (w64 (a.1+a.2))).fdiv (2 ^ 1)))))
 else
 some (.inr a.1)) (0,p0)).bind fun c=>
 some c
theorem pM {b1_0:Nat}{b1_1:Nat}(A:Own c0 G F) (b:Int) (p1_0_0:List (Int×Int×Int)) (p1_1_0:Int){r:Int}(N:∀j u,([v2]:List Value)[j]? = some u->Im c0 b1_0 (0+j) u) (M:Sl jA c0 v2 p1_0_0) (P:∀j u,([J p1_1_0]:List Value)[j]? = some u->Im c0 b1_1 (0+j) u) (H:gN b p1_0_0 p1_1_0=some r): KP 271 #[I b,.func (.func 277) #[] #[Q b1_0,Q b1_1]] c0 fun c v=>Own c G F/\v=I r:=by
 unfold gN at H;refine en func271 rfl rfl<|KD 0<|wln<|KD b<|Ku 0<|Ku b<|KA<|W.block<|bn H fun g y k=>lp y (fun a=>Jn c0 fun c l=>Own c G F/\l= [(1,.func (.func 277) #[] #[Q b1_0,Q b1_1]),(5,I a.1),(6,I a.2)]) (fun h ex e w=>ex= .exit 0/\(Jn c0 fun c l=>Own c G F/\l= [(5,I h)]) e w) ?_ ?_ ?_
 ·clear k y;intro a X q z H;revert q z;rintro E R ⟨D,Z,_,rfl,l7,rfl,o,rfl⟩;refine W.seq<|KD a.1<|Ku a.2<|Kr (a.1<a.2)<|KH H (fun s H=>?_) (fun s H=>?_)
  ·refine KI<|W.block<|KD a.1<|Ku a.2<|Kx (a.1+a.2)<|va (.int .u64 (IntKind.u64.wrap (w64 (a.1+a.2))))<|va (.int .u64 ((IntKind.u64.wrap (w64 (a.1+a.2))).fdiv (2 ^ 1)))<|Kv ((IntKind.u64.wrap (w64 (a.1+a.2))).fdiv (2 ^ 1))<|wln<|KE (.func (.func 277) #[] #[Q b1_0,Q b1_1])<|Kx ((IntKind.u64.wrap (w64 (a.1+a.2))).fdiv (2 ^ 1))<|bn H fun i t H=>cl (AY o (w64 ((IntKind.u64.wrap (w64 (a.1+a.2))).fdiv (2 ^ 1))) p1_0_0 p1_1_0 (mm N) M.m (mm P) t) ?_;rintro v20 f T ⟨d,rfl⟩;refine Kq (!i)<|KH H (fun x H=>?_) (fun x H=>?_)
   ·refine W.region<|Kx ((IntKind.u64.wrap (w64 (a.1+a.2))).fdiv (2 ^ 1))<|Kv ((w64 ((IntKind.u64.wrap (w64 (a.1+a.2))).fdiv (2 ^ 1)))+1)<|WL.nil<|bkn ?_;cases H;exact ⟨_,rfl,jn f ⟨d,rfl⟩⟩
   refine W.region<|Kv ((IntKind.u64.wrap (w64 (a.1+a.2))).fdiv (2 ^ 1))<|WL.nil<|bkn ?_;cases H;exact ⟨_,rfl,jn f ⟨d,rfl⟩⟩
  refine W.exit<|thx ?_;cases H;exact ⟨_,rfl,rfl,jn D ⟨o,rfl⟩⟩
 ·exact jn c0 ⟨A,rfl⟩
 rintro _ E R ⟨rfl,p,S,_,rfl,U,rfl,n,rfl⟩;refine KK<|sr<|vv (I g)<|KG ?_;cases k;exact KC p ⟨n,rfl⟩
def qm (p0:Int):Option Int:=
 (nb).bind fun a=>
 (gN (a.length:Int) a p0).bind fun b=>
 (orE (b==(a.length:Int)) ((idx a b).bind fun d=>
 some (decide (d.1>(w64 p0))))).bind fun c=>
 if c then
 some 0
 else
 (idx a b).bind fun e=>
 some e.2.2
theorem Dp (O0:Own c0 G F) (k:Int){r:Int}(H:qm k=some r): KP 229 #[J k] c0 fun c v=>Own c G F/\v=I r:=by
 unfold qm at H;refine en func229 rfl rfl<|sr<|me (bx 21 [J k] O0) ?_;rintro v5 c4 l4 ⟨b1,rfl,O2,m3⟩;refine Ku 0<|KN<|bn H fun i h6 H=>cl (zu O2 h6) ?_;rintro v7 d1 j1 ⟨_,u8,T,rfl,s⟩;refine me (al 323 [Y] T) ?_;rintro v19 e1 M ⟨y,rfl,U⟩;obtain ⟨b,d,e,rfl⟩:=((s.mono M)).form;refine md (sC 323 0 (.slice b d e) [.slice b d e] 0 U ⟨s.m.one,trivial⟩) ?_;rintro f1 m0 t;refine KN<|vx (le1 0 jB (t.on 0 rfl))<|vx (lnO 3 jB s.m) ?_;obtain ⟨g1,g0,k1,X,g⟩:=t.frz 1 rfl (s.mono (M.trans m0));refine WL.gh g0 ?_;obtain ⟨h1,h0,N,Z,n⟩:=Own.frzB 0 X rfl;refine WL.gh h0 ?_;have a0:=Z.sD 2 [1];refine va (.func (.func 277) #[] #[Q y,Q b1])<|bn H fun a i0 H=>cl (pM a0 (i.length:Int) i k n g.m (mm m3) i0) ?_;rintro v40 f0 P ⟨b0,rfl⟩;refine Ku a<|KA<|W.seq<|bn H fun R A H=>W.join (Jn f0 fun c l=>Own c G (es false jA (.slice b d e) 326 u8 i::F)/\l= [(3,Q y),(4,I a),(23,B R)]) ?_ ?_
 ·clear H;refine rD [] (Kp G0 []) b0 ?_;intro p o0 u;have m1:Kp G0 [] p:=Kp.nil0;refine ta 0 (I a)<|tx 1 (fun j f=>l1 jB ((mm n) 0 _ rfl))<|tx 2 (fun j f=>ln 3 jB g.m)<|ta 3 (B (a==(i.length:Int))) ?_;rcases bo (a==(i.length:Int)) with h|h
  ·obtain rfl:=orT h A;exact AC.takeb 4 h rfl (by kernel_rfl) (by kernel_rfl) (fun j f=>(by kernel_rfl)) (tp 5<|tp 6<|tp 7<|tp 8<|tp 9<|tp 10<|tp 11<|tp 12<|ta 13 (B true)<|dn (nrm<|jn p ⟨u,rfl⟩))
  have o:=orF h A;refine bn o fun q D o=>AC.takeb 4 h rfl (by kernel_rfl) (by kernel_rfl) (fun j f=>(by kernel_rfl)) (tx 5 (fun j f=>l1 jB ((mm n) 0 _ rfl))<|ta 6 (I a) ?_);obtain ⟨z0,j0,t0⟩:=Sl.at (g.mono (N.trans (P.trans o0))) (aS D);obtain rfl:=j0;refine tx 7 (fun j f=>ix jB g.m D)<|ta 8 (Qo (sb (.slice b d e)) (so (.slice b d e)+a.toNat*3))<|tx 9 (fun j f=>l1 u_3 ((mm t0) 0 _ rfl))<|tx 10 (fun j f=>l1 mj ((mm m3) 0 _ rfl))<|ta 11 (I (w64 k))<|ta 12 (B (decide (q.1>(w64 k)))) ?_;cases o;exact ta 13 (B (decide (q.1>(w64 k))))<|dn (nrm<|jn p ⟨u,rfl⟩)
 rintro e_ w_ ⟨z,i1,_,rfl,q0,rfl,x,rfl⟩;refine nrm<|cn H (fun k0 H=>?_) (fun k0 H=>?_)
 ·refine KD 0<|KG<|thr ?_;cases H;have d0:=x.sD 1 [];exact KC z ⟨d0,rfl⟩
 refine KI<|sr<|vx (l1 jB ((mm n) 0 _ rfl))<|Ku a<|bn H fun S E H=>?_;obtain ⟨a1,l0,u0⟩:=Sl.at (g.mono (N.trans (P.trans q0))) (aS E);obtain rfl:=l0;refine vx (ix jB g.m E)<|Kw (sb (.slice b d e)) (so (.slice b d e)+a.toNat*3+2)<|vx (l1 u_3 (u0 2 _ rfl))<|Ku S.2.2<|KG ?_;cases H;have e0:=x.sD 1 [];exact KC z ⟨e0,rfl⟩
def ow (p0:Int) (q0_0:List (Int×Int×Int)) (q1_0:Int):Option Bool:=
 (idx q0_0 p0).bind fun a=>
 some (decide (a.2.1>=(w64 q1_0)))
theorem AW {d:Nat}{e:Nat}(o:Own c0 G F) (b:Int) (q0_0:List (Int×Int×Int)) (q1_0:Int){r:Bool}(s:∀j u,([v2]:List Value)[j]? = some u->Im c0 d (0+j) u) (k:Sl jA c0 v2 q0_0) (t:∀j u,([J q1_0]:List Value)[j]? = some u->Im c0 e (0+j) u) (H:ow b q0_0 q1_0=some r): KP 279 #[I b,Q d,Q e] c0 fun c v=>Own c G F/\v=B r:=by
 unfold ow at H;refine en func279 rfl rfl<|Ky false<|KA<|rD [] (Kp G0 []) o ?_;intro h q p;have y:Kp G0 [] h:=Kp.nil0;refine tx 0 (fun g a=>l1 jB ((mm s) 0 _ rfl))<|ta 1 (I b)<|bn H fun f l H=>?_;obtain ⟨x,i,n⟩:=Sl.at (k.mono q) (aS l);obtain rfl:=i;refine tx 2 (fun g a=>ix jB k.m l)<|ta 3 (Qo (sb v2) (so v2+b.toNat*3+1))<|tx 4 (fun g a=>l1 u_3 ((mm n) 1 _ rfl))<|tx 5 (fun g a=>l1 mj ((mm t) 0 _ rfl))<|ta 6 (I (w64 q1_0))<|ta 7 (B (decide (f.2.1>=(w64 q1_0))))<|ta 8 (B (decide (f.2.1>=(w64 q1_0))))<|dn (nrm<|W.ret ?_);cases H;exact KC h ⟨p,rfl⟩
def lJ:List (Int×Int×Int):=[(4352,4447,1),(8361,8361,3),(8986,8987,1),(9001,9002,1),(9193,9196,1),(9200,9200,1),(9203,9203,1),(9725,9726,1),(9748,9749,1),(9800,9811,1),(9855,9855,1),(9875,9875,1),(9889,9889,1),(9898,9899,1),(9917,9918,1),(9924,9925,1),(9934,9934,1),(9940,9940,1),(9962,9962,1),(9970,9971,1),(9973,9973,1),(9978,9978,1),(9981,9981,1),(9989,9989,1),(9994,9995,1),(10024,10024,1),(10060,10060,1),(10062,10062,1),(10067,10069,1),(10071,10071,1),(10133,10135,1),(10160,10160,1),(10175,10175,1),(11035,11036,1),(11088,11088,1),(11093,11093,1),(11904,11929,1),(11931,12019,1),(12032,12245,1),(12272,12287,1),(12288,12288,2),(12289,12350,1),(12353,12438,1),(12441,12543,1),(12549,12591,1),(12593,12686,1),(12688,12771,1),(12784,12830,1),(12832,12871,1),(12880,19903,1),(19968,42124,1),(42128,42182,1),(43360,43388,1),(44032,55203,1),(63744,64255,1),(65040,65049,1),(65072,65106,1),(65108,65126,1),(65128,65131,1),(65281,65376,2),(65377,65470,3),(65474,65479,3),(65482,65487,3),(65490,65495,3),(65498,65500,3),(65504,65510,2),(65512,65518,3),(94176,94180,1),(94208,100343,1),(100352,101589,1),(110592,110882,1),(126980,126980,1),(127183,127183,1),(127374,127374,1),(127377,127386,1),(127488,127490,1),(127504,127547,1),(127552,127560,1),(127568,127569,1),(127584,127589,1),(127744,127776,1),(127789,127797,1),(127799,127868,1),(127870,127891,1),(127904,127946,1),(127951,127955,1),(127968,127984,1),(127988,127988,1),(127992,128062,1),(128064,128064,1),(128066,128252,1),(128255,128317,1),(128331,128334,1),(128336,128359,1),(128378,128378,1),(128405,128406,1),(128420,128420,1),(128507,128591,1),(128640,128709,1),(128716,128716,1),(128720,128722,1),(128725,128727,1),(128732,128735,1),(128747,128748,1),(128756,128764,1),(128992,129003,1),(129008,129008,1),(129292,129338,1),(129340,129349,1),(129351,129535,1),(129648,129660,1),(129664,129672,1),(129680,129725,1),(129727,129733,1),(129742,129755,1),(129760,129768,1),(129776,129784,1),(131072,196605,1),(196608,262141,1)]
def na:Option (List (Int×Int×Int)):=
 some lJ
theorem zt (d:Own c0 G F){r:List (Int×Int×Int)}(H:na=some r): KP 278 #[] c0 fun c v=>∃a b,Own c G (es true jA a 326 b r::F)/\v=a/\OA jA c a b r:=by
 unfold na at H;refine en func278 rfl rfl<|KE Y<|KN<|Ko (lJ.map fun x=>aN x.1 x.2.1 x.2.2)<|me (Own.sl (R:=jA) (E:=326) (ls:=lJ.map (fun x=>[I x.1,I x.2.1,I x.2.2])) (vs:=(lJ.map (fun x=>[I x.1,I x.2.1,I x.2.2])).flatten) (xs:=lJ) true d (aO _) rfl (pS.map _ (fun _=>rfl) _) (by kernel_rfl) (by kernel_rfl)) ?_;rintro v5 f i ⟨h,e,g⟩;refine va v5<|KG ?_;cases H;exact KC f ⟨v5,h,e,rfl,g⟩
def gM (p0:Int) (p1_0_0:List (Int×Int×Int)) (p1_1_0:Int):Option Int:=
 (cH (σ:=Int×Int) (τ:=Int) ((p0-0).toNat+1) (fun a=>
 if decide (a.1<a.2) then
 (ow (w64 ((IntKind.u64.wrap (w64 (a.1+a.2))).fdiv (2 ^ 1))) p1_0_0 p1_1_0).bind fun b=>
 if (!b)=true then
 some (.inl ((w64 ((w64 ((IntKind.u64.wrap (w64 (a.1+a.2))).fdiv (2 ^ 1)))+1)),a.2))
 else
 some (.inl (a.1,(w64 ((IntKind.u64.wrap (w64 (a.1+a.2))).fdiv (2 ^ 1)))))
 else
 some (.inr a.1)) (0,p0)).bind fun c=>
 some c
theorem pL {b1_0:Nat}{b1_1:Nat}(A:Own c0 G F) (b:Int) (p1_0_0:List (Int×Int×Int)) (p1_1_0:Int){r:Int}(N:∀j u,([v2]:List Value)[j]? = some u->Im c0 b1_0 (0+j) u) (M:Sl jA c0 v2 p1_0_0) (P:∀j u,([J p1_1_0]:List Value)[j]? = some u->Im c0 b1_1 (0+j) u) (H:gM b p1_0_0 p1_1_0=some r): KP 271 #[I b,.func (.func 279) #[] #[Q b1_0,Q b1_1]] c0 fun c v=>Own c G F/\v=I r:=by
 unfold gM at H;refine en func271 rfl rfl<|KD 0<|wln<|KD b<|Ku 0<|Ku b<|KA<|W.block<|bn H fun g y k=>lp y (fun a=>Jn c0 fun c l=>Own c G F/\l= [(1,.func (.func 279) #[] #[Q b1_0,Q b1_1]),(5,I a.1),(6,I a.2)]) (fun h ex e w=>ex= .exit 0/\(Jn c0 fun c l=>Own c G F/\l= [(5,I h)]) e w) ?_ ?_ ?_
 ·clear k y;intro a X q z H;revert q z;rintro E R ⟨D,Z,_,rfl,l7,rfl,o,rfl⟩;refine W.seq<|KD a.1<|Ku a.2<|Kr (a.1<a.2)<|KH H (fun s H=>?_) (fun s H=>?_)
  ·refine KI<|W.block<|KD a.1<|Ku a.2<|Kx (a.1+a.2)<|va (.int .u64 (IntKind.u64.wrap (w64 (a.1+a.2))))<|va (.int .u64 ((IntKind.u64.wrap (w64 (a.1+a.2))).fdiv (2 ^ 1)))<|Kv ((IntKind.u64.wrap (w64 (a.1+a.2))).fdiv (2 ^ 1))<|wln<|KE (.func (.func 279) #[] #[Q b1_0,Q b1_1])<|Kx ((IntKind.u64.wrap (w64 (a.1+a.2))).fdiv (2 ^ 1))<|bn H fun i t H=>cl (AW o (w64 ((IntKind.u64.wrap (w64 (a.1+a.2))).fdiv (2 ^ 1))) p1_0_0 p1_1_0 (mm N) M.m (mm P) t) ?_;rintro v20 f T ⟨d,rfl⟩;refine Kq (!i)<|KH H (fun x H=>?_) (fun x H=>?_)
   ·refine W.region<|Kx ((IntKind.u64.wrap (w64 (a.1+a.2))).fdiv (2 ^ 1))<|Kv ((w64 ((IntKind.u64.wrap (w64 (a.1+a.2))).fdiv (2 ^ 1)))+1)<|WL.nil<|bkn ?_;cases H;exact ⟨_,rfl,jn f ⟨d,rfl⟩⟩
   refine W.region<|Kv ((IntKind.u64.wrap (w64 (a.1+a.2))).fdiv (2 ^ 1))<|WL.nil<|bkn ?_;cases H;exact ⟨_,rfl,jn f ⟨d,rfl⟩⟩
  refine W.exit<|thx ?_;cases H;exact ⟨_,rfl,rfl,jn D ⟨o,rfl⟩⟩
 ·exact jn c0 ⟨A,rfl⟩
 rintro _ E R ⟨rfl,p,S,_,rfl,U,rfl,n,rfl⟩;refine KK<|sr<|vv (I g)<|KG ?_;cases k;exact KC p ⟨n,rfl⟩
def ql (p0:Int):Option Int:=
 (na).bind fun a=>
 (gM (a.length:Int) a p0).bind fun b=>
 (orE (b==(a.length:Int)) ((idx a b).bind fun d=>
 some (decide (d.1>(w64 p0))))).bind fun c=>
 if c then
 some 0
 else
 (idx a b).bind fun e=>
 some e.2.2
theorem Do (O0:Own c0 G F) (k:Int){r:Int}(H:ql k=some r): KP 230 #[J k] c0 fun c v=>Own c G F/\v=I r:=by
 unfold ql at H;refine en func230 rfl rfl<|sr<|me (bx 21 [J k] O0) ?_;rintro v5 c4 l4 ⟨b1,rfl,O2,m3⟩;refine Ku 0<|KN<|bn H fun i h6 H=>cl (zt O2 h6) ?_;rintro v7 d1 j1 ⟨_,u8,T,rfl,s⟩;refine me (al 323 [Y] T) ?_;rintro v19 e1 M ⟨y,rfl,U⟩;obtain ⟨b,d,e,rfl⟩:=((s.mono M)).form;refine md (sC 323 0 (.slice b d e) [.slice b d e] 0 U ⟨s.m.one,trivial⟩) ?_;rintro f1 m0 t;refine KN<|vx (le1 0 jB (t.on 0 rfl))<|vx (lnO 3 jB s.m) ?_;obtain ⟨g1,g0,k1,X,g⟩:=t.frz 1 rfl (s.mono (M.trans m0));refine WL.gh g0 ?_;obtain ⟨h1,h0,N,Z,n⟩:=Own.frzB 0 X rfl;refine WL.gh h0 ?_;have a0:=Z.sD 2 [1];refine va (.func (.func 279) #[] #[Q y,Q b1])<|bn H fun a i0 H=>cl (pL a0 (i.length:Int) i k n g.m (mm m3) i0) ?_;rintro v40 f0 P ⟨b0,rfl⟩;refine Ku a<|KA<|W.seq<|bn H fun R A H=>W.join (Jn f0 fun c l=>Own c G (es false jA (.slice b d e) 326 u8 i::F)/\l= [(3,Q y),(4,I a),(23,B R)]) ?_ ?_
 ·clear H;refine rD [] (Kp G0 []) b0 ?_;intro p o0 u;have m1:Kp G0 [] p:=Kp.nil0;refine ta 0 (I a)<|tx 1 (fun j f=>l1 jB ((mm n) 0 _ rfl))<|tx 2 (fun j f=>ln 3 jB g.m)<|ta 3 (B (a==(i.length:Int))) ?_;rcases bo (a==(i.length:Int)) with h|h
  ·obtain rfl:=orT h A;exact AC.takeb 4 h rfl (by kernel_rfl) (by kernel_rfl) (fun j f=>(by kernel_rfl)) (tp 5<|tp 6<|tp 7<|tp 8<|tp 9<|tp 10<|tp 11<|tp 12<|ta 13 (B true)<|dn (nrm<|jn p ⟨u,rfl⟩))
  have o:=orF h A;refine bn o fun q D o=>AC.takeb 4 h rfl (by kernel_rfl) (by kernel_rfl) (fun j f=>(by kernel_rfl)) (tx 5 (fun j f=>l1 jB ((mm n) 0 _ rfl))<|ta 6 (I a) ?_);obtain ⟨z0,j0,t0⟩:=Sl.at (g.mono (N.trans (P.trans o0))) (aS D);obtain rfl:=j0;refine tx 7 (fun j f=>ix jB g.m D)<|ta 8 (Qo (sb (.slice b d e)) (so (.slice b d e)+a.toNat*3))<|tx 9 (fun j f=>l1 u_3 ((mm t0) 0 _ rfl))<|tx 10 (fun j f=>l1 mj ((mm m3) 0 _ rfl))<|ta 11 (I (w64 k))<|ta 12 (B (decide (q.1>(w64 k)))) ?_;cases o;exact ta 13 (B (decide (q.1>(w64 k))))<|dn (nrm<|jn p ⟨u,rfl⟩)
 rintro e_ w_ ⟨z,i1,_,rfl,q0,rfl,x,rfl⟩;refine nrm<|cn H (fun k0 H=>?_) (fun k0 H=>?_)
 ·refine KD 0<|KG<|thr ?_;cases H;have d0:=x.sD 1 [];exact KC z ⟨d0,rfl⟩
 refine KI<|sr<|vx (l1 jB ((mm n) 0 _ rfl))<|Ku a<|bn H fun S E H=>?_;obtain ⟨a1,l0,u0⟩:=Sl.at (g.mono (N.trans (P.trans q0))) (aS E);obtain rfl:=l0;refine vx (ix jB g.m E)<|Kw (sb (.slice b d e)) (so (.slice b d e)+a.toNat*3+2)<|vx (l1 u_3 (u0 2 _ rfl))<|Ku S.2.2<|KG ?_;cases H;have e0:=x.sD 1 [];exact KC z ⟨e0,rfl⟩
def pa (p0:Int):Option ax:=
 (sv p0).bind fun b=>
 (qg p0).bind fun c=>
 (qm p0).bind fun d=>
 (ql p0).bind fun a=>
 some (⟨b,c,d,a⟩:ax)
theorem xr (p:Own c0 G F) (a:Int){r:ax}(H:pa a=some r): KP 174 #[J a] c0 fun c v=>Own c G F/\v= .agg #[I r.Break,B r.Pict,I r.Conj,I r.East]:=by
 unfold pa at H;refine en func174 rfl rfl<|sr<|me (al 238 [I 0,B false,I 0,I 0] p) ?_;rintro v4 R S ⟨P,rfl,q⟩;refine wln<|KE (J a)<|bn H fun d t H=>cl (EQ q a t) ?_;rintro v11 u A ⟨s,rfl⟩;refine va (J a)<|bn H fun e m H=>cl (Dl s a m) ?_;rintro v18 x D ⟨i,rfl⟩;refine va (J a)<|bn H fun f n H=>cl (Dp i a n) ?_;rintro v25 y E ⟨j,rfl⟩;refine va (J a)<|bn H fun b o H=>cl (Do j a o) ?_;rintro v32 z M ⟨k,rfl⟩;refine va (.agg #[I d,B e,I f,I b])<|md (sA 238 [I d,B e,I f,I b] 0 k ⟨rfl,rfl,rfl,rfl,trivial⟩) ?_;rintro h N g;refine KG ?_;cases H;have l:=g.sD 1 [];exact km (c:=h) (vs:=[I d,B e,I f,I b]) rfl (by kernel_rfl) (by kernel_rfl) (by kernel_rfl) (g.on 0 rfl _ rfl).1 ⟨_,h,rfl,rfl,pt,l,rfl⟩
def fD (p0:List Int) (p1:Int):Option Bool:=
 (idx p0 0).bind fun c=>
 (idx ([0,0,192,224,240]:List Int) p1).bind fun d=>
 (orE (decide ((w64 ((w64 c)-d))<0)) ((idx ([0,128,32,16,8]:List Int) p1).bind fun l=>
 some (decide ((w64 ((w64 c)-d))>=l)))).bind fun j=>
 if j then
 some false
 else
 (cH (σ:=Int×Int×Int) (τ:=Bool ⊕ (Int×Int)) ((p1-1).toNat+1) (fun a=>
 if decide (a.2.2<p1) then
 if decide (a.2.2<(p0.length:Int)) then
 (idx p0 a.2.2).bind fun e=>
 (orE (decide ((w64 ((w64 e)-128))<0)) (some (decide ((w64 ((w64 e)-128))>63)))).bind fun k=>
 if k then
 some (.inr (.inl false))
 else
 some (.inl ((w64 ((w64 (a.1*64))+(w64 ((w64 e)-128)))),(w64 ((w64 ((w64 ((w64 (a.2.1*64))+63))-63))+(w64 ((w64 e)-128)))),(w64 (a.2.2+1))))
 else
 some (.inl ((w64 (a.1*64)),(w64 ((w64 (a.2.1*64))+63)),(w64 (a.2.2+1))))
 else
 some (.inr (.inr (a.1,a.2.1)))) ((w64 ((w64 c)-d)),(w64 ((w64 c)-d)),1)).bind fun b=>
 match b with
 | .inl b=>
 some b
 | .inr b=>
 (idx ([0,0,128,2048,65536]:List Int) p1).bind fun f=>
 (idx ([0,127,2047,65535,1114111]:List Int) p1).bind fun g=>
 (bL (decide ((aK b.1 f)<=(aE b.2 g))) ((orE (decide ((aK b.1 f)<55296)) (some (decide ((aE b.2 g)>57343)))).bind fun i=>
 some i)).bind fun h=>
 some h
theorem sR (O0:Own c0 G F) (p0:List Int) (n:Int){r:Bool}(Z:Sl (RI .u8) c0 v1 p0) (H:fD p0 n=some r): KP 163 #[v1,I n] c0 fun c v=>Own c G F/\v=B r:=by
 unfold fD at H;refine en func163 rfl rfl<|Ky false<|KN<|me (sl (RI .i64) 3 [[I 0],[I 0],[I 192],[I 224],[I 240]] ([0,0,192,224,240]:List Int) O0 ⟨rfl,rfl,rfl,rfl,rfl,trivial⟩) ?_;rintro v7 c6 l6 ⟨z,O3,h5⟩;refine va v7<|KN<|me (sl (RI .i64) 3 [[I 0],[I 128],[I 32],[I 16],[I 8]] ([0,128,32,16,8]:List Int) O3 ⟨rfl,rfl,rfl,rfl,rfl,trivial⟩) ?_;rintro v12 o3 i0 ⟨u9,O8,X⟩;refine va v12<|KA<|rD [] (Kp G0 [es true (RI .i64) v7 3 z ([0,0,192,224,240]:List Int)]) O8 ?_;intro N R E;have w2:Kp G0 [es true (RI .i64) v7 3 z ([0,0,192,224,240]:List Int)] N:=(Kp.cons (E.on 1 rfl) Kp.nil0);refine ta 0 v1<|bn H fun f u0 H=>?_;obtain ⟨i3,z1,p2⟩:=Sl.at (Z.mono (l6.trans (i0.trans R))) (aS u0);obtain rfl:=z1;refine tx 1 (fun c' h0=>ix iN Z.m u0)<|tx 2 (fun c' h0=>l1 u_5 ((mm p2) 0 _ rfl))<|ta 3 (I (w64 f))<|ta 4 v7<|ta 5 (I n)<|bn H fun h a0 H=>tx 6 (fun c' h0=>ixO vh h5.m a0) ?_;obtain ⟨j3,b2,q2⟩:=OA.at (h5.mono (i0.trans R)) a0;obtain rfl:=b2;refine AC.takeK 7 (I h) w2 rfl (by kernel_rfl) (by kernel_rfl) (by kernel_rfl) (fun c' h0 hk=>(rx (by kernel_rfl) (lM u_3 rfl (hk.on 0 rfl) (h5.m.blk a0) (at1 (j:=0) q2 rfl)))) (ta 8 (I (w64 ((w64 f)-h)))<|ta 9 (I (w64 ((w64 f)-h)))<|dn (nrm<|W.seq<|W.seq<|bn H fun f1 v0 H=>W.join (Jn N fun c l=>Own c G (es true (RI .i64) v12 3 u9 ([0,128,32,16,8]:List Int)::es true (RI .i64) v7 3 z ([0,0,192,224,240]:List Int)::F)/\l= [(0,v1),(1,I n),(7,I (w64 ((w64 f)-h))),(34,B f1)]) ?_ ?_))
 ·clear H;refine W.region<|Kx ((w64 f)-h)<|Kr ((w64 ((w64 f)-h))<0) ?_;rcases bo (decide ((w64 ((w64 f)-h))<0)) with s|s
  ·obtain rfl:=orT s v0;exact vb s<|pz<|pz<|pz<|Kq true<|KB N ⟨E,rfl⟩
  have T:=orF s v0;refine vb s<|wa (I (w64 ((w64 f)-h)))<|wa v12<|wa (I n)<|wn<|bn T fun A b0 T=>vx (ixO vh X.m b0)<|wn ?_;obtain ⟨k3,c2,s2⟩:=OA.at (X.mono R) b0;obtain rfl:=c2;refine vr (I A) (rx (by kernel_rfl) (lM u_3 rfl (E.on 0 rfl) (X.m.blk b0) (at1 (j:=0) s2 rfl)))<|Ks ((w64 ((w64 f)-h))>=A) ?_;cases T;exact Kr ((w64 ((w64 f)-h))>=A)<|KB N ⟨E,rfl⟩
 rintro U w_ ⟨p,s3,_,rfl,l2,rfl,q0,rfl⟩;refine nrm<|cn H (fun d2 H=>?_) (fun d2 H=>?_)
 ·refine Ky false<|KG<|thr ?_;cases H;have n1:=q0.sD 2 [];exact KC p ⟨n1,rfl⟩
 refine KI<|sr<|Kv ((w64 f)-h)<|Kv ((w64 f)-h)<|KA<|KD 1<|wln<|W.block<|bn H fun b w0 k=>lp w0 (fun a=>Jn p fun c l=>Own c G (es true (RI .i64) v12 3 u9 ([0,128,32,16,8]:List Int)::es true (RI .i64) v7 3 z ([0,0,192,224,240]:List Int)::F)/\l= [(0,v1),(1,I n),(8,I a.1),(9,I a.2.1),(10,I a.2.2)]) (fun t=>match t with|.inl x_=>(fun x2 ex e w=>ex= .ret/\(Jn p fun c l=>Own c G F/\l= [(4,B x2)]) e w) x_|.inr x_=>(fun S ex e w=>ex= .exit 0/\(Jn p fun c l=>Own c G (es true (RI .i64) v12 3 u9 ([0,128,32,16,8]:List Int)::es true (RI .i64) v7 3 z ([0,0,192,224,240]:List Int)::F)/\l= [(1,I n),(8,I S.1),(9,I S.2)]) e w) x_) ?_ ?_ ?_
 ·clear k w0;intro a b4 x1 a3 H;revert x1 a3;rintro U w_ ⟨q,t3,_,rfl,m2,rfl,M,rfl⟩;refine W.seq<|KD a.2.2<|Ku n<|Kr (a.2.2<n)<|KH H (fun e2 H=>?_) (fun e2 H=>?_)
  ·refine KI<|KM<|KD a.1<|Kv (a.1*64)<|wln<|KD a.2.1<|Kx (a.2.1*64)<|Kv ((w64 (a.2.1*64))+63)<|wln<|KD a.2.2<|va v1<|vx (ln 3 iN Z.m)<|Kr (a.2.2<(p0.length:Int))<|KH H (fun f2 H=>?_) (fun f2 H=>?_)
   ·refine KE v1<|Ku a.2.2<|bn H fun d x0 H=>?_;obtain ⟨l3,g2,t2⟩:=Sl.at (Z.mono (l6.trans (i0.trans (R.trans (l2.trans m2))))) (aS x0);obtain rfl:=g2;refine vx (ix iN Z.m x0)<|vx (l1 u_5 (t2 0 _ rfl))<|Kx d<|Kv ((w64 d)-128)<|KA<|W.seq<|bn H fun g1 y0 H=>W.join (Jn q fun c l=>Own c G (es true (RI .i64) v12 3 u9 ([0,128,32,16,8]:List Int)::es true (RI .i64) v7 3 z ([0,0,192,224,240]:List Int)::F)/\l= [(0,v1),(1,I n),(8,I (w64 (a.1*64))),(9,I (w64 ((w64 (a.2.1*64))+63))),(10,I a.2.2),(11,I (w64 ((w64 d)-128))),(62,B g1)]) ?_ ?_
    ·clear H;refine W.region<|Kx ((w64 d)-128)<|Kr ((w64 ((w64 d)-128))<0) ?_;rcases bo (decide ((w64 ((w64 d)-128))<0)) with u|u
     ·obtain rfl:=orT u y0;exact vb u<|pz<|Kq true<|KB q ⟨M,rfl⟩
     have k1:=orF u y0;refine vb u<|wa (I (w64 ((w64 d)-128)))<|Ks ((w64 ((w64 d)-128))>63) ?_;cases k1;exact Kr ((w64 ((w64 d)-128))>63)<|KB q ⟨M,rfl⟩
    rintro U w_ ⟨t0,u3,_,rfl,x3,rfl,s0,rfl⟩;refine nrm<|cn H (fun i2 H=>?_) (fun i2 H=>?_)
    ·refine Ky false<|KG<|thr<|KL ?_;cases H;refine ⟨_,rfl,⟨rfl,?_⟩⟩;have q1:=s0.sD 2 [];exact jn t0 ⟨q1,rfl⟩
    refine KI<|sr<|Kx (a.1*64)<|Kx ((w64 d)-128)<|Kv ((w64 (a.1*64))+(w64 ((w64 d)-128)))<|wln<|W.region<|Kx ((w64 (a.2.1*64))+63)<|Kx ((w64 ((w64 (a.2.1*64))+63))-63)<|Kx ((w64 d)-128)<|Kv ((w64 ((w64 ((w64 (a.2.1*64))+63))-63))+(w64 ((w64 d)-128)))<|WL.nil<|KJ<|KF a.2.2<|Kv (a.2.2+1)<|WL.nil ?_;cases H;exact ⟨_,rfl,jn t0 ⟨s0,rfl⟩⟩
   refine W.skip<|KJ<|KF a.2.2<|Kv (a.2.2+1)<|WL.nil ?_;cases H;exact ⟨_,rfl,jn q ⟨M,rfl⟩⟩
  refine W.exit<|thx ?_;cases H;exact ⟨_,rfl,rfl,jn q ⟨M,rfl⟩⟩
 ·exact jn p ⟨q0,rfl⟩
 rcases b with b|b
 ·intro y1; revert y1;rintro _ U w_ ⟨rfl,w1,v3,_,rfl,y3,rfl,s1,rfl⟩;refine KL ?_;cases k;exact KC w1 ⟨s1,rfl⟩
 rintro _ U w_ ⟨rfl,p3,w3,_,rfl,z3,rfl,t1,rfl⟩;refine KK<|sr<|me (sl (RI .i64) 3 [[I 0],[I 0],[I 128],[I 2048],[I 65536]] ([0,0,128,2048,65536]:List Int) t1 ⟨rfl,rfl,rfl,rfl,rfl,trivial⟩) ?_;rintro k0 q3 a4 ⟨y2,u1,d0⟩;refine va k0<|KN<|me (sl (RI .i64) 3 [[I 0],[I 127],[I 2047],[I 65535],[I 1114111]] ([0,127,2047,65535,1114111]:List Int) u1 ⟨rfl,rfl,rfl,rfl,rfl,trivial⟩) ?_;rintro l0 P o2 ⟨z2,o,e0⟩;refine va l0<|wln<|KD b.1<|va k0<|Ku n<|bn k fun i f0 k=>vx (ixO vh d0.m f0) ?_;obtain ⟨m3,j2,u2⟩:=OA.at (d0.mono o2) f0;obtain rfl:=j2;refine vr (I i) (rx (by kernel_rfl) (lM u_3 rfl (o.on 1 rfl) (d0.m.blk f0) (at1 (j:=0) u2 rfl)))<|vv (I (aK b.1 i))<|wln<|KD b.2<|va l0<|Ku n<|bn k fun g g0 k=>vx (ixO vh e0 g0) ?_;obtain ⟨n3,k2,v2⟩:=OA.at e0 g0;obtain rfl:=k2;refine vr (I g) (rx (by kernel_rfl) (lM u_3 rfl (o.on 0 rfl) (e0.blk g0) (at1 (j:=0) v2 rfl)))<|vv (I (aE b.2 g))<|KA<|bn k fun o0 z0 k=>W.join (Jn P fun c l=>Own c G (es true (RI .i64) l0 3 z2 ([0,127,2047,65535,1114111]:List Int)::es true (RI .i64) k0 3 y2 ([0,0,128,2048,65536]:List Int)::es true (RI .i64) v12 3 u9 ([0,128,32,16,8]:List Int)::es true (RI .i64) v7 3 z ([0,0,192,224,240]:List Int)::F)/\l= [(4,B o0)]) ?_ ?_
 ·clear k;refine KF (aK b.1 i)<|Ku (aE b.2 g)<|Kr ((aK b.1 i)<=(aE b.2 g)) ?_;rcases bo (decide ((aK b.1 i)<=(aE b.2 g))) with x|x
  ·have D:=anT x z0;refine vb x<|wa (I (aK b.1 i))<|Ks ((aK b.1 i)<55296)<|wn<|bn D fun b3 a1 D=>?_;rcases bo (decide ((aK b.1 i)<55296)) with y|y
   ·obtain rfl:=orT y a1;refine vb y<|pz<|Kt true ?_;cases D;exact vv (B true)<|KB P ⟨o,rfl⟩
   have m1:=orF y a1;refine vb y<|wa (I (aE b.2 g))<|Ks ((aE b.2 g)>57343)<|wn ?_;cases m1;refine Kr ((aE b.2 g)>57343) ?_;cases D;exact vv (B (decide ((aE b.2 g)>57343)))<|KB P ⟨o,rfl⟩
  obtain rfl:=anF x z0;exact vb x<|pz<|pz<|pz<|vv (B false)<|KB P ⟨o,rfl⟩
 rintro U w_ ⟨e1,f3,_,rfl,h3,rfl,b1,rfl⟩;refine nrm<|W.ret ?_;cases k;have c1:=b1.sD 4 [];exact KC e1 ⟨c1,rfl⟩
def bV (p0:List Int):Option Int:=
 (cH (σ:=Int) (τ:=Int ⊕ Unit) (((4:Int)-1).toNat+2) (fun a=>
 if decide (a<=4) then
 (bL (decide ((p0.length:Int)>=1)) (some (decide ((p0.length:Int)<=a)))).bind fun c=>
 (bL c ((fD p0 a).bind fun e=>
 some e)).bind fun d=>
 if d then
 some (.inr (.inl a))
 else
 some (.inl ((w64 (a+1))))
 else
 some (.inr (.inr ()))) 1).bind fun b=>
 match b with
 | .inl b=>
 some b
 | .inr b=>
 some 0
theorem iG (O0:Own c0 G F) (f:List Int){r:Int}(y:Sl (RI .u8) c0 v1 f) (H:bV f=some r): KP 105 #[v1] c0 fun c v=>Own c G F/\v=I r:=by
 unfold bV at H;refine en func105 rfl rfl<|KD 0<|KA<|KD 1<|wln<|W.block<|bn H fun i h3 s=>lp h3 (fun a=>Jn c0 fun c l=>Own c G F/\l= [(0,v1),(3,I a)]) (fun t=>match t with|.inl A=>(fun e0 ex e w=>ex= .ret/\(Jn c0 fun c l=>Own c G F/\l= [(2,I e0)]) e w) A|.inr A=>(fun i0 ex e w=>ex= .exit 0/\(Jn c0 fun c l=>Own c G F/\l= []) e w) A) ?_ ?_ ?_
 ·clear s h3;intro a t0 U f0 H;revert U f0;rintro x z ⟨k,g6,_,rfl,l5,rfl,j,rfl⟩;refine W.seq<|KD a<|Kr (a<=4)<|KH H (fun Z H=>?_) (fun Z H=>?_)
  ·refine KI<|KM<|W.seq<|bn H fun h0 p H=>bn H fun u h H=>W.join (Jn k fun c l=>Own c G F/\l= [(0,v1),(3,I a),(21,B u)]) ?_ ?_
   ·clear H;refine Kz v1<|vx (ln 3 iN y.m)<|Kr ((f.length:Int)>=1) ?_;rcases bo (decide ((f.length:Int)>=1)) with b|b
    ·have E:=anT b p;refine vb b<|wa v1<|wn<|vx (ln 3 iN y.m)<|wa (I a)<|Ks ((f.length:Int)<=a) ?_;obtain rfl:=si E;refine Kr ((f.length:Int)<=a) ?_;rcases bo (decide ((f.length:Int)<=a)) with d|d
     ·have g:=anT d h;refine vb d<|wa v1<|wa (I a)<|wn<|bn g fun D a0 g=>cl (sR j f a y.m a0) ?_;rintro v24 R m0 ⟨M,rfl⟩;obtain rfl:=si g;exact Kq D<|KB R ⟨M,rfl⟩
     obtain rfl:=anF d h;exact vb d<|pz<|ps<|Kq false<|KB k ⟨j,rfl⟩
    obtain rfl:=anF b p;refine vb b<|pz<|pz<|Kq false ?_;have q:false=false:=rfl;obtain rfl:=anF q h;exact vb q<|pz<|ps<|Kq false<|KB k ⟨j,rfl⟩
   rintro x z ⟨o,j0,_,rfl,o0,rfl,n,rfl⟩;refine nrm<|cn H (fun d0 H=>?_) (fun d0 H=>?_)
   ·refine sr<|vv (I a)<|KG<|KL ?_;obtain rfl:=si H;exact ⟨_,rfl,⟨rfl,jn o ⟨n,rfl⟩⟩⟩
   refine W.skip<|KJ<|KF a<|Kv (a+1)<|WL.nil ?_;obtain rfl:=si H;exact ⟨_,rfl,jn o ⟨n,rfl⟩⟩
  refine W.exit<|thx ?_;obtain rfl:=si H;exact ⟨_,rfl,rfl,jn k ⟨j,rfl⟩⟩
 ·exact jn c0 ⟨O0,rfl⟩
 rcases i with i|i
 ·intro X; revert X;rintro _ x z ⟨rfl,S,k0,_,rfl,q0,rfl,N,rfl⟩;refine KL ?_;obtain rfl:=si s;exact KC S ⟨N,rfl⟩
 rintro _ x z ⟨rfl,T,l0,_,rfl,s0,rfl,P,rfl⟩;refine KK<|KD 0<|KG ?_;obtain rfl:=si s;exact KC T ⟨P,rfl⟩
def eU (p0:List Int):Option Int:=
 (idx p0 0).bind fun e=>
 (idx ([0,0,192,224,240]:List Int) (p0.length:Int)).bind fun c=>
 (cH (σ:=Int×Int) (τ:=Int) (((p0.length:Int)-1).toNat+1) (fun a=>
 if decide (a.2<(p0.length:Int)) then
 (idx p0 a.2).bind fun d=>
 some (.inl ((w64 ((w64 ((w64 (a.1*64))+(w64 d)))-128)),(w64 (a.2+1))))
 else
 some (.inr a.1)) ((w64 ((w64 e)-c)),1)).bind fun b=>
 some (w32 b)
theorem nN (O0:Own c0 G F) (E:List Int){r:Int}(h:Sl (RI .u8) c0 v1 E) (H:eU E=some r): KP 164 #[v1] c0 fun c v=>Own c G F/\v=J r:=by
 unfold eU at H;refine en func164 rfl rfl<|KE (J 0)<|KN<|me (sl (RI .i64) 3 [[I 0],[I 0],[I 192],[I 224],[I 240]] ([0,0,192,224,240]:List Int) O0 ⟨rfl,rfl,rfl,rfl,rfl,trivial⟩) ?_;rintro v7 c6 l6 ⟨q,O3,A⟩;refine va v7<|KA<|rD [] (Kp G0 [es true (RI .i64) v7 3 q ([0,0,192,224,240]:List Int)]) O3 ?_;intro o D P;have g0:Kp G0 [es true (RI .i64) v7 3 q ([0,0,192,224,240]:List Int)] o:=(Kp.cons (P.on 0 rfl) Kp.nil0);refine ta 0 v1<|bn H fun k x H=>?_;obtain ⟨m0,T,d0⟩:=Sl.at (h.mono (l6.trans D)) (aS x);obtain rfl:=T;refine tx 1 (fun n g=>ix iN h.m x)<|tx 2 (fun n g=>l1 u_5 ((mm d0) 0 _ rfl))<|ta 3 (I (w64 k))<|ta 4 v7<|ta 5 v1<|tx 6 (fun n g=>ln 3 iN h.m)<|bn H fun f i H=>tx 7 (fun n g=>ixO vh A.m i) ?_;obtain ⟨o0,U,e0⟩:=OA.at (A.mono D) i;obtain rfl:=U;refine AC.takeK 8 (I f) g0 rfl (by kernel_rfl) (by kernel_rfl) (by kernel_rfl) (fun n g hk=>(rx (by kernel_rfl) (lM u_3 rfl (hk.on 0 rfl) (A.m.blk i) (at1 (j:=0) e0 rfl)))) (ta 9 (I (w64 ((w64 k)-f)))<|ta 10 (I (w64 ((w64 k)-f)))<|dn (nrm<|W.seq<|KD 1<|wln<|W.block<|bn H fun d y s=>lp y (fun a=>Jn o fun c l=>Own c G (es true (RI .i64) v7 3 q ([0,0,192,224,240]:List Int)::F)/\l= [(0,v1),(4,I a.1),(5,I a.2)]) (fun p ex e w=>ex= .exit 0/\(Jn o fun c l=>Own c G (es true (RI .i64) v7 3 q ([0,0,192,224,240]:List Int)::F)/\l= [(4,I p)]) e w) ?_ ?_ ?_))
 ·clear s y;intro a w0 S h0 H;revert S h0;rintro e_ w_ ⟨u,t0,_,rfl,a0,rfl,t,rfl⟩;refine W.seq<|KD a.2<|va v1<|vx (ln 3 iN h.m)<|Kr (a.2<(E.length:Int))<|KH H (fun X H=>?_) (fun X H=>?_)
  ·refine KI<|KM<|KF a.1<|Kx (a.1*64)<|va v1<|Ku a.2<|bn H fun b z H=>?_;obtain ⟨q0,Z,f0⟩:=Sl.at (h.mono (l6.trans (D.trans a0))) (aS z);obtain rfl:=Z;refine vx (ix iN h.m z)<|vx (l1 u_5 (f0 0 _ rfl))<|Kx b<|Kx ((w64 (a.1*64))+(w64 b))<|Kv ((w64 ((w64 (a.1*64))+(w64 b)))-128)<|WL.nil<|KJ<|KF a.2<|Kv (a.2+1)<|WL.nil ?_;cases H;exact ⟨_,rfl,jn u ⟨t,rfl⟩⟩
  refine W.exit<|thx ?_;cases H;exact ⟨_,rfl,rfl,jn u ⟨t,rfl⟩⟩
 ·exact jn o ⟨P,rfl⟩
 rintro _ e_ w_ ⟨rfl,R,u0,_,rfl,v0,rfl,M,rfl⟩;refine KK<|KD d<|vv (J (w32 d))<|KG ?_;cases s;have N:=M.sD 1 [];exact KC R ⟨N,rfl⟩
def kg (p0:List Int) (p1:Int):Option ((List Int)×(List Int)):=none
theorem qx (g:Own c0 G F) (b:List Int) (d:Int){r:(List Int)×(List Int)}(h:Sl (RI .u8) c0 v1 b) (H:kg b d=some r):
  KP 106 #[v1,.int .u8 d] c0 fun c v=>∃a e f,Own c G (es true (RI .i32) a 21 e r.1::F)/\v= .tuple #[a,f]/\OA (RI .i32) c a e r.1/\Sl (RI .u8) c f r.2:=by
 unfold kg at H
 cases H
def dZ (p0:List Int) (p1:Int):Option ((List Int)×(List Int)):=
 (app ([]:List Int) p0).bind fun g=>
 (app g ([p1]:List Int)).bind fun b=>
 (bV b).bind fun a=>
 (bL (decide (a>0)) (some (decide (a>(b.length:Int))))).bind fun d=>
 if d then
 some (([]:List Int),b)
 else
 if decide (a>0) then
 (eU b).bind fun e=>
 some (([e]:List Int),([]:List Int))
 else
 if ((p0.length:Int)==0)=true then
 some (([65533]:List Int),([]:List Int))
 else
 (kg ([]:List Int) p1).bind fun c=>
 (app ([65533]:List Int) c.1).bind fun f=>
 some (f,c.2)
theorem qw (O0:Own c0 G F) (P:List Int) (d:Int){r:(List Int)×(List Int)}(h2:Sl (RI .u8) c0 v1 P) (H:dZ P d=some r): KP 106 #[v1,.int .u8 d] c0 fun c v=>∃R y2 y3,Own c G (es true (RI .i32) R 21 y2 r.1::F)/\v= .tuple #[R,y3]/\OA (RI .i32) c R y2 r.1/\Sl (RI .u8) c y3 r.2:=by
 unfold dZ at H;refine en func106 rfl rfl<|sr<|vv Y<|KN<|me (sl (RI .u8) 5 [] ([]:List Int) O0 trivial) ?_;rintro v7 c6 l6 ⟨u4,O3,h5⟩;refine va v1<|bn H fun o3 h8 H=>me (ap (RI .u8) (.int .u8 0) 1 107 0 O3 h5 h2.m h8 tL) ?_;rintro v13 n2 z2 ⟨i3,O9,o0⟩;refine va (.int .u8 d)<|me (sl (RI .u8) 5 [[.int .u8 d]] ([d]:List Int) O9 ⟨rfl,trivial⟩) ?_;rintro v18 o2 a3 ⟨u1,T,q0⟩;obtain ⟨p2,u0,b3,U,t0⟩:=T.frz 0 rfl q0;refine WL.gh u0 (bn H fun h v0 H=>me (ap (RI .u8) (.int .u8 0) 1 107 1 U o0.m t0 v0 tL) ?_);rintro v28 q2 c3 ⟨w1,X,i⟩;refine va v28<|wln<|KE v28 ?_;obtain ⟨s2,x0,u,Z,w0⟩:=X.frz 1 rfl i;refine WL.gh x0 (bn H fun a y0 H=>cl (iG Z h w0 y0) ?_);rintro v39 k x ⟨p,rfl⟩;refine Ku a<|KA<|W.seq<|bn H fun M t H=>W.join (Jn k fun c l=>Own c G (es false (RI .u8) v18 5 u1 ([d]:List Int)::es false (RI .u8) v28 5 w1 h::F)/\l= [(0,v1),(1,.int .u8 d),(6,v28),(7,I a),(25,B M)]) ?_ ?_
 ·clear H;refine KF a<|Kr (a>0) ?_;rcases bo (decide (a>0)) with g|g
  ·have S:=anT g t;refine vb g<|wa (I a)<|wa v28<|wn<|vx (lnO 3 tL i.m)<|Ks (a>(h.length:Int)) ?_;cases S;exact Kr (a>(h.length:Int))<|KB k ⟨p,rfl⟩
  obtain rfl:=anF g t;exact vb g<|pz<|pz<|Kq false<|KB k ⟨p,rfl⟩
 rintro e_ w_ ⟨s,x2,_,rfl,y,rfl,f,rfl⟩;refine nrm<|cn H (fun z0 H=>?_) (fun z0 H=>?_)
 ·refine KE v28<|va Y<|va v28<|KG<|thr ?_;cases H;have a1:OA (RI .i32) s Y [] []:=OA.nil (aO _);have q:=f.addHole (e:=es true (RI .i32) Y 21 [] ([]:List Int)) rfl;have b1:=q.slf 2 rfl (i.mono (u.trans (x.trans y)));have a0:=q.sD 3 [0];exact r2 (qq s ⟨(Y),[],v28,a0,rfl,a1,b1⟩)
 refine KI<|W.seq<|KD a<|Kr (a>0)<|KH H (fun c1 H=>?_) (fun c1 H=>?_)
 ·refine KE v28 ?_;have d1:=f.slf 1 rfl (i.mono (u.trans (x.trans y)));refine bn H fun o e1 H=>cl (nN f h d1 e1) ?_;rintro l3 t2 d3 ⟨b0,rfl⟩;refine me (sl (RI .i32) 21 [[J o]] ([o]:List Int) b0 ⟨rfl,trivial⟩) ?_;rintro z l0 e3 ⟨x1,d0,f1⟩;refine va z<|va Y<|KG<|thr ?_;cases H;have e0:=d0.sD 3 [0];exact r2 (qq l0 ⟨z,x1,(Y),e0,rfl,f1,(Sl.nl _ _)⟩)
 refine KI<|W.seq<|KE v1<|vx (ln 3 tL h2.m)<|Kq ((P.length:Int)==0)<|KH H (fun g1 H=>?_) (fun g1 H=>?_)
 ·refine sr<|me (sl (RI .i32) 21 [[J 65533]] ([65533]:List Int) f ⟨rfl,trivial⟩) ?_;rintro A m0 f3 ⟨z1,f0,h1⟩;refine va A<|va Y<|KG<|thr ?_;cases H;have g0:=f0.sD 3 [0];exact r2 (qq m0 ⟨A,z1,(Y),g0,rfl,h1,(Sl.nl _ _)⟩)
 refine KI<|KE (.int .u8 d)<|bn H fun l2 i1 H=>cl (qx f ([]:List Int) d (Sl.nl _ _) i1) ?_;rintro m3 u2 g3 ⟨j,j3,b,h0,rfl,j1,k1⟩;refine va (.tuple #[j,b])<|va j<|va b<|va j<|va b<|KN<|me (sl (RI .i32) 21 [[J 65533]] ([65533]:List Int) h0 ⟨rfl,trivial⟩) ?_;rintro n3 v2 t1 ⟨k3,i0,m1⟩;refine va j ?_;obtain ⟨w2,q1,h3,j0,n1⟩:=i0.frz 1 rfl (j1.mono t1);refine WL.gh q1 (bn H fun m2 s1 H=>me (ap (RI .i32) (J 0) 4 32 0 j0 m1.m n1 s1 cI) ?_);rintro n E k2 ⟨b2,k0,N⟩;refine va b<|va n<|va b<|KG ?_;cases H;have D:=k0.sD 4 [0];exact r2 (qq E ⟨n,b2,b,D,rfl,N,k1.m⟩)
def hU (p0:List Int) (p1:Int):Option ((List Int)×(List Int)):=
 (app ([]:List Int) p0).bind fun g=>
 (app g ([p1]:List Int)).bind fun b=>
 (bV b).bind fun a=>
 (bL (decide (a>0)) (some (decide (a>(b.length:Int))))).bind fun d=>
 if d then
 some (([]:List Int),b)
 else
 if decide (a>0) then
 (eU b).bind fun e=>
 some (([e]:List Int),([]:List Int))
 else
 if ((p0.length:Int)==0)=true then
 some (([65533]:List Int),([]:List Int))
 else
 (dZ ([]:List Int) p1).bind fun c=>
 (app ([65533]:List Int) c.1).bind fun f=>
 some (f,c.2)
theorem sS (O0:Own c0 G F) (P:List Int) (d:Int){r:(List Int)×(List Int)}(h2:Sl (RI .u8) c0 v1 P) (H:hU P d=some r): KP 106 #[v1,.int .u8 d] c0 fun c v=>∃R y2 y3,Own c G (es true (RI .i32) R 21 y2 r.1::F)/\v= .tuple #[R,y3]/\OA (RI .i32) c R y2 r.1/\Sl (RI .u8) c y3 r.2:=by
 unfold hU at H;refine en func106 rfl rfl<|sr<|vv Y<|KN<|me (sl (RI .u8) 5 [] ([]:List Int) O0 trivial) ?_;rintro v7 c6 l6 ⟨u4,O3,h5⟩;refine va v1<|bn H fun o3 h8 H=>me (ap (RI .u8) (.int .u8 0) 1 107 0 O3 h5 h2.m h8 tL) ?_;rintro v13 n2 z2 ⟨i3,O9,o0⟩;refine va (.int .u8 d)<|me (sl (RI .u8) 5 [[.int .u8 d]] ([d]:List Int) O9 ⟨rfl,trivial⟩) ?_;rintro v18 o2 a3 ⟨u1,T,q0⟩;obtain ⟨p2,u0,b3,U,t0⟩:=T.frz 0 rfl q0;refine WL.gh u0 (bn H fun h v0 H=>me (ap (RI .u8) (.int .u8 0) 1 107 1 U o0.m t0 v0 tL) ?_);rintro v28 q2 c3 ⟨w1,X,i⟩;refine va v28<|wln<|KE v28 ?_;obtain ⟨s2,x0,u,Z,w0⟩:=X.frz 1 rfl i;refine WL.gh x0 (bn H fun a y0 H=>cl (iG Z h w0 y0) ?_);rintro v39 k x ⟨p,rfl⟩;refine Ku a<|KA<|W.seq<|bn H fun M t H=>W.join (Jn k fun c l=>Own c G (es false (RI .u8) v18 5 u1 ([d]:List Int)::es false (RI .u8) v28 5 w1 h::F)/\l= [(0,v1),(1,.int .u8 d),(6,v28),(7,I a),(25,B M)]) ?_ ?_
 ·clear H;refine KF a<|Kr (a>0) ?_;rcases bo (decide (a>0)) with g|g
  ·have S:=anT g t;refine vb g<|wa (I a)<|wa v28<|wn<|vx (lnO 3 tL i.m)<|Ks (a>(h.length:Int)) ?_;cases S;exact Kr (a>(h.length:Int))<|KB k ⟨p,rfl⟩
  obtain rfl:=anF g t;exact vb g<|pz<|pz<|Kq false<|KB k ⟨p,rfl⟩
 rintro e_ w_ ⟨s,x2,_,rfl,y,rfl,f,rfl⟩;refine nrm<|cn H (fun z0 H=>?_) (fun z0 H=>?_)
 ·refine KE v28<|va Y<|va v28<|KG<|thr ?_;cases H;have a1:OA (RI .i32) s Y [] []:=OA.nil (aO _);have q:=f.addHole (e:=es true (RI .i32) Y 21 [] ([]:List Int)) rfl;have b1:=q.slf 2 rfl (i.mono (u.trans (x.trans y)));have a0:=q.sD 3 [0];exact r2 (qq s ⟨(Y),[],v28,a0,rfl,a1,b1⟩)
 refine KI<|W.seq<|KD a<|Kr (a>0)<|KH H (fun c1 H=>?_) (fun c1 H=>?_)
 ·refine KE v28 ?_;have d1:=f.slf 1 rfl (i.mono (u.trans (x.trans y)));refine bn H fun o e1 H=>cl (nN f h d1 e1) ?_;rintro l3 t2 d3 ⟨b0,rfl⟩;refine me (sl (RI .i32) 21 [[J o]] ([o]:List Int) b0 ⟨rfl,trivial⟩) ?_;rintro z l0 e3 ⟨x1,d0,f1⟩;refine va z<|va Y<|KG<|thr ?_;cases H;have e0:=d0.sD 3 [0];exact r2 (qq l0 ⟨z,x1,(Y),e0,rfl,f1,(Sl.nl _ _)⟩)
 refine KI<|W.seq<|KE v1<|vx (ln 3 tL h2.m)<|Kq ((P.length:Int)==0)<|KH H (fun g1 H=>?_) (fun g1 H=>?_)
 ·refine sr<|me (sl (RI .i32) 21 [[J 65533]] ([65533]:List Int) f ⟨rfl,trivial⟩) ?_;rintro A m0 f3 ⟨z1,f0,h1⟩;refine va A<|va Y<|KG<|thr ?_;cases H;have g0:=f0.sD 3 [0];exact r2 (qq m0 ⟨A,z1,(Y),g0,rfl,h1,(Sl.nl _ _)⟩)
 refine KI<|KE (.int .u8 d)<|bn H fun l2 i1 H=>cl (qw f ([]:List Int) d (Sl.nl _ _) i1) ?_;rintro m3 u2 g3 ⟨j,j3,b,h0,rfl,j1,k1⟩;refine va (.tuple #[j,b])<|va j<|va b<|va j<|va b<|KN<|me (sl (RI .i32) 21 [[J 65533]] ([65533]:List Int) h0 ⟨rfl,trivial⟩) ?_;rintro n3 v2 t1 ⟨k3,i0,m1⟩;refine va j ?_;obtain ⟨w2,q1,h3,j0,n1⟩:=i0.frz 1 rfl (j1.mono t1);refine WL.gh q1 (bn H fun m2 s1 H=>me (ap (RI .i32) (J 0) 4 32 0 j0 m1.m n1 s1 cI) ?_);rintro n E k2 ⟨b2,k0,N⟩;refine va b<|va n<|va b<|KG ?_;cases H;have D:=k0.sD 4 [0];exact r2 (qq E ⟨n,b2,b,D,rfl,N,k1.m⟩)
def eu (p0:List Int) (p1:List Int):Option ((List Int)×(List Int)):=
 (cH (σ:=(List Int)×(List Int)×Int) (τ:=((List Int)×(List Int))) (((p1.length:Int)-0).toNat+1) (fun a=>
 if decide (a.2.2<(p1.length:Int)) then
 (idx p1 a.2.2).bind fun d=>
 (hU a.1 d).bind fun b=>
 (app a.2.1 b.1).bind fun e=>
 some (.inl (b.2,e,(w64 (a.2.2+1))))
 else
 some (.inr (a.1,a.2.1))) (p0,([]:List Int),0)).bind fun c=>
 some (c.2,c.1)
theorem oH (O0:Own c0 G F) (p0:List Int) (n:List Int){r:(List Int)×(List Int)}(h2:Sl (RI .u8) c0 v1 p0) (k:Sl (RI .u8) c0 v3 n) (H:eu p0 n=some r): KP 65 #[v1,v3] c0 fun c v=>∃p y2 y3,Own c G (es true (RI .i32) p 21 y2 r.1::F)/\v= .tuple #[p,y3]/\OA (RI .i32) c p y2 r.1/\Sl (RI .u8) c y3 r.2:=by
 unfold eu at H;refine en func65 rfl rfl<|sr<|vv Y<|wln<|KE Y<|KA<|KD 0<|wln<|W.block<|bn H fun f1 h5 q=>lp h5 (fun a=>Jn c0 fun c l=>∃v7 f v9,Own c G (es true (RI .i32) v7 21 f a.2.1::F)/\l= [(0,v9),(1,v3),(6,v7),(7,I a.2.2)]/\OA (RI .i32) c v7 f a.2.1/\Sl (RI .u8) c v9 a.1) (fun b ex e w=>ex= .exit 0/\(Jn c0 fun c l=>∃v10 d v12,Own c G (es true (RI .i32) v10 21 d b.2::F)/\l= [(0,v12),(6,v10)]/\OA (RI .i32) c v10 d b.2/\Sl (RI .u8) c v12 b.1) e w) ?_ ?_ ?_
 ·clear q h5;intro a h1 M k0 H;revert M k0;rintro e_ w_ ⟨A,z0,_,rfl,g0,rfl,v7,f,v9,g,rfl,h,i⟩;refine W.seq<|KD a.2.2<|va v3<|vx (ln 3 iN k.m)<|Kr (a.2.2<(n.length:Int))<|KH H (fun N H=>?_) (fun N H=>?_)
  ·refine KI<|KM<|KE Y<|wln<|KE v9<|va v3<|Ku a.2.2<|bn H fun o j H=>?_;obtain ⟨t0,P,h0⟩:=Sl.at (k.mono g0) (aS j);obtain rfl:=P;refine vx (ix iN k.m j)<|vx (l1 u_5 (h0 0 _ rfl))<|bn H fun v0 R H=>cl (sS g a.1 o i R) ?_;rintro v37 x0 b1 ⟨v27,g1,v30,s,rfl,S,T⟩;refine va (.tuple #[v27,v30])<|va v27<|va v30<|va v27<|va v30<|wln<|Kz v7<|va v27 ?_;obtain ⟨y0,X,c1,t,U⟩:=s.frz 0 rfl S;refine WL.gh X (bn H fun w0 Z H=>me (ap (RI .i32) (J 0) 4 32 1 t h.m U Z cI) ?_);rintro v47 D d1 ⟨j0,u,a0⟩;refine va v47<|WL.nil<|KJ<|KF a.2.2<|Kv (a.2.2+1)<|WL.nil ?_;cases H;refine ⟨_,rfl,?_⟩;have x:=u.sD 2 [1];exact jn D ⟨v47,j0,v30,x,rfl,a0,T.m⟩
  refine W.exit<|thx ?_;cases H;exact ⟨_,rfl,rfl,jn A ⟨v7,f,v9,g,rfl,h,i⟩⟩
 ·have d0:OA (RI .i32) c0 Y [] []:=OA.nil (aO _);have y:=O0.addHole (e:=es true (RI .i32) Y 21 [] ([]:List Int)) rfl;exact jn c0 ⟨(Y),[],v1,y,rfl,d0,h2⟩
 rintro _ e_ w_ ⟨rfl,E,a1,_,rfl,e1,rfl,v10,d,v12,z,rfl,e0,f0⟩;refine KK<|KE v10<|va v12<|va v10<|va v12<|KG ?_;cases q;exact r2 (qq E ⟨v10,d,v12,z,rfl,e0,f0⟩)
def iB (p0:List Int):Option (List bZ):=
 (cH (σ:=(List bZ)×Int) (τ:=(List bZ)) (((p0.length:Int)-0).toNat+1) (fun a=>
 if decide (a.2<(p0.length:Int)) then
 (cH (σ:=Int) (τ:=Int) (((p0.length:Int)-(w64 (a.2+0))).toNat+1) (fun c=>
 (bL (decide ((w64 (a.2+c))<(p0.length:Int))) ((slc p0 a.2 (w64 ((w64 (a.2+c))+1))).bind fun h=>
 (bV h).bind fun i=>
 some (decide (i>0)))).bind fun g=>
 if g then
 (slc p0 a.2 (w64 (a.2+(w64 (c+1))))).bind fun j=>
 (bV j).bind fun k=>
 if (k==(w64 (c+1)))=true then
 some (.inr ((w64 (c+1))))
 else
 some (.inl ((w64 (c+1))))
 else
 some (.inr c)) 0).bind fun b=>
 (if decide (b>0) then
 (slc p0 a.2 (w64 (a.2+b))).bind fun l=>
 (eu ([]:List Int) l).bind fun e=>
 if ((e.2.length:Int)==0)=true then
 (idx e.1 0).bind fun m=>
 some (m,b,(w64 (a.2+b)),false)
 else
 some (65533,(aK b 1),(aE (w64 ((w64 (a.2+b))+1)) (p0.length:Int)),true)
 else
 some (65533,(aK b 1),(w64 (a.2+1)),true)).bind fun d=>
 (app a.1 ([(⟨d.1,a.2,d.2.1,d.2.2.1,d.2.2.2⟩:bZ)]:List bZ)).bind fun f=>
 some (.inl (f,(w64 (a.2+d.2.1))))
 else
 some (.inr a.1)) (([]:List bZ),0)).bind fun n=>
 some n
theorem tG (O0:Own c0 G F) (n:List Int){r:List bZ}(u:Sl (RI .u8) c0 v1 n) (H:iB n=some r): KP 64 #[v1] c0 fun c v=>∃y1 y2,Own c G (es true bw y1 106 y2 r::F)/\v=y1/\OA bw c y1 y2 r:=by
 unfold iB at H;refine en func64 rfl rfl<|KE Y<|wln<|KE Y<|wln<|KD 0<|KA<|W.block<|bn H fun p4 h3 H4=>lp h3 (fun a=>Jn c0 fun c l=>∃v5 o,Own c G (es true bw v5 106 o a.1::F)/\l= [(0,v1),(3,v5),(4,I a.2)]/\OA bw c v5 o a.1) (fun P ex e w=>ex= .exit 0/\(Jn c0 fun c l=>∃v7 u8,Own c G (es true bw v7 106 u8 P::F)/\l= [(3,v7)]/\OA bw c v7 u8 P) e w) ?_ ?_ ?_
 ·clear H4 h3;intro a m3 E T H;revert E T;rintro D S ⟨X,h4,_,rfl,l9,rfl,v5,o,d0,rfl,l0⟩;refine W.seq<|KD a.2<|va v1<|vx (ln 3 iN u.m)<|Kr (a.2<(n.length:Int))<|KH H (fun i2 H=>?_) (fun i2 H=>?_)
  ·refine KI<|W.block<|KD 0<|KA<|W.block<|bn H fun b m0 b0=>lp m0 (fun f=>Jn X fun c l=>Own c G (es true bw v5 106 o a.1::F)/\l= [(0,v1),(3,v5),(4,I a.2),(5,I f)]) (fun Z ex e w=>ex= .exit 2/\(Jn X fun c l=>Own c G (es true bw v5 106 o a.1::F)/\l= [(0,v1),(3,v5),(4,I a.2),(5,I Z)]) e w) ?_ ?_ ?_
   ·clear b0 m0;intro f m3 E T H;revert E T;rintro D S ⟨i0,i4,_,rfl,q0,rfl,e0,rfl⟩;refine W.seq<|W.seq<|bn H fun z0 o0 H=>W.join (Jn i0 fun c l=>Own c G (es true bw v5 106 o a.1::F)/\l= [(0,v1),(3,v5),(4,I a.2),(5,I f),(29,B z0)]) ?_ ?_
    ·clear H;refine KF a.2<|Ku f<|Kx (a.2+f)<|va v1<|vx (ln 3 iN u.m)<|Kr ((w64 (a.2+f))<(n.length:Int)) ?_;rcases bo (decide ((w64 (a.2+f))<(n.length:Int))) with i|i
     ·have h:=anT i o0;refine vb i<|wa v1<|wa (I a.2)<|wa (I a.2)<|wa (I f)<|wa (I (w64 (a.2+f)))<|wa (I (w64 ((w64 (a.2+f))+1)))<|wn<|bn h fun j1 j2 h=>?_;obtain ⟨v29,l2,m2⟩:=wx (k:= .i64) (k':= .i64) iN (by kernel_rfl) (u.mono (l9.trans q0)) j2;refine vr v29 (rx (by kernel_rfl) (l2 _))<|wn<|bn h fun U n2 h=>cl (iG e0 j1 m2 n2) ?_;rintro v38 d2 l4 ⟨t1,rfl⟩;refine Ks (U>0) ?_;cases h;exact Kr (U>0)<|KB d2 ⟨t1,rfl⟩
     obtain rfl:=anF i o0;exact vb i<|pz<|pz<|pz<|pz<|ps<|Kq false<|KB i0 ⟨e0,rfl⟩
    rintro D S ⟨e2,j4,_,rfl,e3,rfl,f0,rfl⟩;refine nrm<|cn H (fun o2 H=>?_) (fun o2 H=>?_)
    ·refine KI<|W.block<|KD f<|Kv (f+1)<|wln<|KE v1<|vv (I a.2)<|Kx (f+1)<|Kx (a.2+(w64 (f+1)))<|bn H fun k1 p2 H=>?_;obtain ⟨v47,q2,s2⟩:=wx (k:= .i64) (k':= .i64) iN (by kernel_rfl) (u.mono (l9.trans (q0.trans e3))) p2;refine vr v47 (rx (by kernel_rfl) (q2 _))<|bn H fun m1 t2 H=>cl (iG f0 k1 s2 t2) ?_;rintro v56 j0 m4 ⟨g0,rfl⟩;refine Kx (f+1)<|Kq (m1==(w64 (f+1)))<|KH H (fun u2 H=>?_) (fun u2 H=>?_)
     ·refine W.exit<|bko rfl ?_;cases H;exact ⟨_,rfl,rfl,jn j0 ⟨g0,rfl⟩⟩
     refine W.skip<|bkn ?_;cases H;exact ⟨_,rfl,jn j0 ⟨g0,rfl⟩⟩
    refine W.exit<|thx ?_;cases H;exact ⟨_,rfl,rfl,jn e2 ⟨f0,rfl⟩⟩
   ·exact jn X ⟨d0,rfl⟩
   rintro _ D S ⟨rfl,e4,k4,_,rfl,f3,rfl,u1,rfl⟩;refine KK<|KD a.2<|Ku b<|Ku (aK b 1)<|Ku a.2<|Kx (a.2+1)<|va (.agg #[J 65533,I a.2,I (aK b 1),I (w64 (a.2+1)),B true])<|me (al 106 [J 0,I 0,I 0,I 0,B false] u1) ?_;rintro r4 f4 g3 ⟨q,rfl,w1⟩;refine md (sA 106 [J 65533,I a.2,I (aK b 1),I (w64 (a.2+1)),B true] 0 w1 ⟨rfl,rfl,rfl,rfl,rfl,trivial⟩) ?_;rintro k0 i3 h0;refine wln<|bn b0 fun d g x=>W.seqJ (Jn k0 fun c l=>Own c G ((Eb q 106 [J d.1,I a.2,I d.2.1,I d.2.2.1,B d.2.2.2])::es true bw v5 106 o a.1::F)/\l= [(0,v1),(3,v5),(4,I a.2),(6,Q q)]) ?_ ?_
   ·refine KD b<|Kr (b>0)<|KH g (fun v2 g=>?_) (fun v2 g=>?_)
    ·refine KE v1<|vv (I a.2)<|Ku b<|Kx (a.2+b)<|bn g fun n1 w2 g=>?_;obtain ⟨l3,x2,z2⟩:=wx (k:= .i64) (k':= .i64) iN (by kernel_rfl) (u.mono (l9.trans (f3.trans (g3.trans i3)))) w2;refine vr l3 (rx (by kernel_rfl) (x2 _))<|bn g fun p1 a3 g=>cl (oH h0 ([]:List Int) n1 (Sl.nl _ _) z2 a3) ?_;rintro s4 g4 n4 ⟨s,q4,t,x1,rfl,M,b3⟩;refine va (.tuple #[s,t])<|va s<|va t<|va s<|va t<|wln<|KD a.2<|Ku b<|Kx (a.2+b)<|Kx ((w64 (a.2+b))+1)<|va v1<|vx (ln 3 iN u.m)<|Ku (aE (w64 ((w64 (a.2+b))+1)) (n.length:Int))<|Kw q 3<|md (sC 3 3 (I (aE (w64 ((w64 (a.2+b))+1)) (n.length:Int))) [J 65533,I a.2,I (aK b 1),I (aE (w64 ((w64 (a.2+b))+1)) (n.length:Int)),B true] 1 x1 ⟨rfl,trivial⟩) ?_;rintro f2 j3 A;refine wln<|KE t<|vx (ln 3 tL b3.m)<|Kq ((p1.2.length:Int)==0)<|KH g (fun c3 g=>?_) (fun c3 g=>?_)
     ·refine Kz s<|bn g fun p N g=>vx (ixO cI M.m N) ?_;obtain ⟨b4,d3,k3⟩:=OA.at (M.mono j3) N;obtain rfl:=d3;refine vr (J p) (rx (by kernel_rfl) (lM mj rfl (A.on 0 rfl) (M.m.blk N) (at1 (j:=0) k3 rfl)))<|Ku a.2<|Ku b<|Ku a.2<|Ku b<|Kx (a.2+b)<|va (.agg #[J p,I a.2,I b,I (w64 (a.2+b)),B false])<|md (sA 106 [J p,I a.2,I b,I (w64 (a.2+b)),B false] 1 A ⟨rfl,rfl,rfl,rfl,rfl,trivial⟩) ?_;rintro g2 o4 z1;refine wln ?_;cases g;have b2:=z1.sD 3 [1,2];exact jn g2 ⟨b2,rfl⟩
     refine KI ?_;cases g;have c2:=A.sD 3 [1,2];exact jn f2 ⟨c2,rfl⟩
    refine KI ?_;cases g;exact jn k0 ⟨h0,rfl⟩
   rintro D S ⟨q3,u3,_,rfl,w3,rfl,y,rfl⟩;refine KE v5<|vx (leN 106 0 [J d.1,I a.2,I d.2.1,I d.2.2.1,B d.2.2.2] (y.on 0 rfl))<|me (sl bw 106 [[J d.1,I a.2,I d.2.1,I d.2.2.1,B d.2.2.2]] ([(⟨d.1,a.2,d.2.1,d.2.2.1,d.2.2.2⟩:bZ)]:List bZ) y ⟨rfl,trivial⟩) ?_;rintro d4 s3 x3 ⟨c4,s0,a1⟩;obtain ⟨t3,c1,y3,t0,b1⟩:=s0.frz 0 rfl a1;refine WL.gh c1 (bn x fun o3 d1 x=>me (ap bw (.agg #[J 0,I 0,I 0,I 0,B false]) 40 103 2 t0 l0.m b1 d1 xX) ?_);rintro R x0 z3 ⟨i1,z,e1⟩;refine va R<|wln<|KF a.2<|Kw q 2<|vx (le1 2 u_3 (z.on 1 rfl))<|Kv (a.2+d.2.1)<|WL.nil<|bkn ?_;cases x;refine ⟨_,rfl,?_⟩;have u0:=z.sD 3 [2];exact jn x0 ⟨R,i1,u0,rfl,e1⟩
  refine W.exit<|thx ?_;cases H;exact ⟨_,rfl,rfl,jn X ⟨v5,o,d0,rfl,l0⟩⟩
 ·have f1:OA bw c0 Y [] []:=OA.nil (aO _);have v0:=O0.addHole (e:=es true bw Y 106 [] ([]:List bZ)) rfl;exact jn c0 ⟨(Y),[],v0,rfl,f1⟩
 rintro _ D S ⟨rfl,y0,v3,_,rfl,a4,rfl,v7,u8,w0,rfl,g1⟩;refine KK<|sr<|vv v7<|KG ?_;cases H4;exact KC y0 ⟨v7,u8,w0,rfl,g1⟩
def gn (p0:List Int):Option (List ax):=
 (cH (σ:=(List ax)×Int) (τ:=(List ax)) (((p0.length:Int)-0).toNat+1) (fun a=>
 if decide (a.2<(p0.length:Int)) then
 (idx p0 a.2).bind fun b=>
 (eq b).bind fun c=>
 (app a.1 ([c]:List ax)).bind fun d=>
 some (.inl (d,(w64 (a.2+1))))
 else
 some (.inr a.1)) (([]:List ax),0)).bind fun e=>
 some e
theorem rn (O0:Own c0 G F) (n:List Int){r:List ax}(k:Sl (RI .i32) c0 v1 n) (H:gn n=some r): KP 132 #[v1] c0 fun c v=>∃p y2,Own c G (es true cP p 238 y2 r::F)/\v=p/\OA cP c p y2 r:=by
 unfold gn at H;refine en func132 rfl rfl<|KE Y<|wln<|KE Y<|KA<|KD 0<|wln<|W.block<|bn H fun c1 S q=>lp S (fun a=>Jn c0 fun c l=>∃v5 f,Own c G (es true cP v5 238 f a.1::F)/\l= [(0,v1),(3,v5),(4,I a.2)]/\OA cP c v5 f a.1) (fun d ex e w=>ex= .exit 0/\(Jn c0 fun c l=>∃v7 g,Own c G (es true cP v7 238 g d::F)/\l= [(3,v7)]/\OA cP c v7 g d) e w) ?_ ?_ ?_
 ·clear q S;intro a e1 M g0 H;revert M g0;rintro e_ w_ ⟨c9,v0,_,rfl,l9,rfl,v5,f,h,rfl,i⟩;refine W.seq<|KD a.2<|va v1<|vx (ln 3 cI k.m)<|Kr (a.2<(n.length:Int))<|KH H (fun N H=>?_) (fun N H=>?_)
  ·refine KI<|KM<|Kz v5<|va v1<|Ku a.2<|bn H fun o j H=>?_;obtain ⟨m0,P,e0⟩:=Sl.at (k.mono l9) (aS j);obtain rfl:=P;refine vx (ix cI k.m j)<|vx (l1 mj (e0 0 _ rfl))<|bn H fun b R H=>cl (pq h o R) ?_;rintro v27 s0 x0 ⟨s,rfl⟩;refine me (sl cP 238 [[I b.Break,B b.Pict,I b.Conj,I b.East]] ([b]:List ax) s ⟨rfl,trivial⟩) ?_;rintro v32 t0 y0 ⟨d1,t,T⟩;obtain ⟨u0,X,z0,u,U⟩:=t.frz 0 rfl T;refine WL.gh X (bn H fun q0 Z H=>me (ap cP (.agg #[I 0,B false,I 0,I 0]) 32 191 1 u i.m U Z lc) ?_);rintro v42 D a1 ⟨f0,x,a0⟩;refine va v42<|WL.nil<|KJ<|KF a.2<|Kv (a.2+1)<|WL.nil ?_;cases H;refine ⟨_,rfl,?_⟩;have y:=x.sD 2 [1];exact jn D ⟨v42,f0,y,rfl,a0⟩
  refine W.exit<|thx ?_;cases H;exact ⟨_,rfl,rfl,jn c9 ⟨v5,f,h,rfl,i⟩⟩
 ·have b0:OA cP c0 Y [] []:=OA.nil (aO _);have z:=O0.addHole (e:=es true cP Y 238 [] ([]:List ax)) rfl;exact jn c0 ⟨(Y),[],z,rfl,b0⟩
 rintro _ e_ w_ ⟨rfl,E,w0,_,rfl,b1,rfl,v7,g,A,rfl,d0⟩;refine KK<|sr<|vv v7<|KG ?_;cases q;exact KC E ⟨v7,g,A,rfl,d0⟩
def lx:Option (List ByteArray):=
 some ([(⟨#[48,48,48,48,49,49,48,48,49,48,48,48,48,48]⟩:ByteArray),(⟨#[48,48,49,48,48,48,48,48,48,48,48,48,48,48]⟩:ByteArray),(⟨#[48,48,48,48,48,48,48,48,48,48,48,48,48,48]⟩:ByteArray),(⟨#[48,48,48,48,48,48,48,48,48,48,48,48,48,48]⟩:ByteArray),(⟨#[50,48,48,48,49,49,48,48,49,48,48,48,48,48]⟩:ByteArray),(⟨#[50,48,48,48,49,49,48,48,49,48,48,48,48,48]⟩:ByteArray),(⟨#[48,48,48,48,49,49,50,48,49,48,48,48,48,48]⟩:ByteArray),(⟨#[49,48,48,48,49,49,49,49,49,49,49,49,49,49]⟩:ByteArray),(⟨#[48,48,48,48,49,49,48,48,49,48,48,48,48,48]⟩:ByteArray),(⟨#[48,48,48,48,49,49,48,48,49,49,49,48,49,49]⟩:ByteArray),(⟨#[48,48,48,48,49,49,48,48,49,48,49,49,48,48]⟩:ByteArray),(⟨#[48,48,48,48,49,49,48,48,49,48,48,49,48,48]⟩:ByteArray),(⟨#[48,48,48,48,49,49,48,48,49,48,49,49,48,48]⟩:ByteArray),(⟨#[48,48,48,48,49,49,48,48,49,48,48,49,48,48]⟩:ByteArray)]:List ByteArray)
theorem sO (d:Own c0 G F){r:List ByteArray}(H:lx=some r): KP 259 #[] c0 fun c v=>∃a b,Own c G (es true RS a 9 b r::F)/\v=a/\OA RS c a b r:=by
 unfold lx at H;refine en func259 rfl rfl<|KE Y<|KN<|me (sl RS 9 [[.string (⟨#[48,48,48,48,49,49,48,48,49,48,48,48,48,48]⟩:ByteArray)],[.string (⟨#[48,48,49,48,48,48,48,48,48,48,48,48,48,48]⟩:ByteArray)],[.string (⟨#[48,48,48,48,48,48,48,48,48,48,48,48,48,48]⟩:ByteArray)],[.string (⟨#[48,48,48,48,48,48,48,48,48,48,48,48,48,48]⟩:ByteArray)],[.string (⟨#[50,48,48,48,49,49,48,48,49,48,48,48,48,48]⟩:ByteArray)],[.string (⟨#[50,48,48,48,49,49,48,48,49,48,48,48,48,48]⟩:ByteArray)],[.string (⟨#[48,48,48,48,49,49,50,48,49,48,48,48,48,48]⟩:ByteArray)],[.string (⟨#[49,48,48,48,49,49,49,49,49,49,49,49,49,49]⟩:ByteArray)],[.string (⟨#[48,48,48,48,49,49,48,48,49,48,48,48,48,48]⟩:ByteArray)],[.string (⟨#[48,48,48,48,49,49,48,48,49,49,49,48,49,49]⟩:ByteArray)],[.string (⟨#[48,48,48,48,49,49,48,48,49,48,49,49,48,48]⟩:ByteArray)],[.string (⟨#[48,48,48,48,49,49,48,48,49,48,48,49,48,48]⟩:ByteArray)],[.string (⟨#[48,48,48,48,49,49,48,48,49,48,49,49,48,48]⟩:ByteArray)],[.string (⟨#[48,48,48,48,49,49,48,48,49,48,48,49,48,48]⟩:ByteArray)]] ([(⟨#[48,48,48,48,49,49,48,48,49,48,48,48,48,48]⟩:ByteArray),(⟨#[48,48,49,48,48,48,48,48,48,48,48,48,48,48]⟩:ByteArray),(⟨#[48,48,48,48,48,48,48,48,48,48,48,48,48,48]⟩:ByteArray),(⟨#[48,48,48,48,48,48,48,48,48,48,48,48,48,48]⟩:ByteArray),(⟨#[50,48,48,48,49,49,48,48,49,48,48,48,48,48]⟩:ByteArray),(⟨#[50,48,48,48,49,49,48,48,49,48,48,48,48,48]⟩:ByteArray),(⟨#[48,48,48,48,49,49,50,48,49,48,48,48,48,48]⟩:ByteArray),(⟨#[49,48,48,48,49,49,49,49,49,49,49,49,49,49]⟩:ByteArray),(⟨#[48,48,48,48,49,49,48,48,49,48,48,48,48,48]⟩:ByteArray),(⟨#[48,48,48,48,49,49,48,48,49,49,49,48,49,49]⟩:ByteArray),(⟨#[48,48,48,48,49,49,48,48,49,48,49,49,48,48]⟩:ByteArray),(⟨#[48,48,48,48,49,49,48,48,49,48,48,49,48,48]⟩:ByteArray),(⟨#[48,48,48,48,49,49,48,48,49,48,49,49,48,48]⟩:ByteArray),(⟨#[48,48,48,48,49,49,48,48,49,48,48,49,48,48]⟩:ByteArray)]:List ByteArray) d ⟨rfl,rfl,rfl,rfl,rfl,rfl,rfl,rfl,rfl,rfl,rfl,rfl,rfl,rfl,trivial⟩) ?_;rintro v5 f i ⟨h,e,g⟩;refine va v5<|KG ?_;cases H;exact KC f ⟨v5,h,e,rfl,g⟩
def dr (p0:Int) (p1:Int):Option Int:=
 ((orE (decide (p0<0)) (some (decide (p0>13)))).bind fun f=>
 if f then
 some 0
 else
 some p0).bind fun g=>
 ((orE (decide (p1<0)) (some (decide (p1>13)))).bind fun a=>
 if a then
 some 0
 else
 some p1).bind fun e=>
 (lx).bind fun b=>
 (idx b g).bind fun c=>
 (Hg c e).bind fun d=>
 some (w64 ((w64 d)-48))
theorem sP (N:Own c0 G F) (e:Int) (d:Int){r:Int}(H:dr e d=some r): KP 202 #[I e,I d] c0 fun c v=>Own c G F/\v=I r:=by
 unfold dr at H;refine en func202 rfl rfl<|KD 0<|wln<|bn H fun m g H2=>W.seqJ (Jn c0 fun c l=>Own c G F/\l= [(0,I m),(1,I d)]) ?_ ?_
 ·refine W.seq<|bn g fun X h3 g=>W.join (Jn c0 fun c l=>Own c G F/\l= [(0,I e),(1,I d),(10,B X)]) ?_ ?_
  ·clear g;refine KF e<|Kr (e<0) ?_;rcases bo (decide (e<0)) with n|n
   ·obtain rfl:=orT n h3;exact vb n<|pz<|Kq true<|KB c0 ⟨N,rfl⟩
   have H5:=orF n h3;refine vb n<|wa (I e)<|Ks (e>13) ?_;cases H5;exact Kr (e>13)<|KB c0 ⟨N,rfl⟩
  rintro A D ⟨U,g7,_,rfl,l6,rfl,S,rfl⟩;refine nrm<|cn g (fun Z g=>?_) (fun Z g=>?_)
  ·refine KF 0<|wln ?_;cases g;exact jn U ⟨S,rfl⟩
  refine KI ?_;cases g;exact jn U ⟨S,rfl⟩
 rintro A D ⟨i,m0,_,rfl,s0,rfl,s,rfl⟩;refine bn H2 fun q a b=>W.seqJ (Jn i fun c l=>Own c G F/\l= [(0,I m),(1,I q)]) ?_ ?_
 ·refine W.seq<|bn a fun z y a=>W.join (Jn i fun c l=>Own c G F/\l= [(0,I m),(1,I d),(16,B z)]) ?_ ?_
  ·clear a;refine KF d<|Kr (d<0) ?_;rcases bo (decide (d<0)) with h|h
   ·obtain rfl:=orT h y;exact vb h<|pz<|Kq true<|KB i ⟨s,rfl⟩
   have M:=orF h y;refine vb h<|wa (I d)<|Ks (d>13) ?_;cases M;exact Kr (d>13)<|KB i ⟨s,rfl⟩
  rintro A D ⟨x,o0,_,rfl,t0,rfl,t,rfl⟩;refine nrm<|cn a (fun b0 a=>?_) (fun b0 a=>?_)
  ·refine KF 0<|wln ?_;cases a;exact jn x ⟨t,rfl⟩
  refine KI ?_;cases a;exact jn x ⟨t,rfl⟩
 rintro A D ⟨l0,q0,_,rfl,u0,rfl,P,rfl⟩;refine sr<|bn b fun k0 d0 b=>cl (sO P d0) ?_;rintro v38 T v0 ⟨_,w0,u,rfl,o⟩;refine Ku m<|bn b fun E p b=>vx (ixO underlying315 o p) ?_;obtain ⟨j0,e0,g0⟩:=OA.at o p;obtain rfl:=e0;refine vr (.string E) (rx (by kernel_rfl) (lM underlying9 rfl (u.on 0 rfl) (o.blk p) (at1 (j:=0) g0 rfl)))<|Ku q<|bn b fun f f0 b=>vr (.int .u8 f) (rx (by kernel_rfl) (Bk (k:= .i64) underlying9 f0 _))<|Kx f<|Kv ((w64 f)-48)<|KG ?_;cases b;have R:=u.sD 1 [];exact KC T ⟨R,rfl⟩
def eX (p0:List ax) (p1:Int):Option Bool:=
 (idx p0 p1).bind fun i=>
 if (i.Conj != 1)=true then
 some false
 else
 (cH (σ:=Int×Int) (τ:=Bool ⊕ Unit) (((w64 (p1-1))-0).toNat+2) (fun a=>
 if decide (a.2>=0) then
 (idx p0 a.2).bind fun d=>
 if (d.Conj==1)=true then
 some (.inr (.inl (decide (a.1>0))))
 else
 ((idx p0 a.2).bind fun e=>
 if (e.Conj==2)=true then
 some ((w64 (a.1+1)))
 else
 some a.1).bind fun h=>
 (idx p0 a.2).bind fun f=>
 (bL (f.Conj != 2) ((idx p0 a.2).bind fun g=>
 some (g.Conj != 3))).bind fun c=>
 if c then
 some (.inr (.inl false))
 else
 some (.inl (h,(w64 (a.2-1))))
 else
 some (.inr (.inr ()))) (0,(w64 (p1-1)))).bind fun b=>
 match b with
 | .inl b=>
 some b
 | .inr b=>
 some false
theorem pP (O0:Own c0 G F) (p0:List ax) (j:Int){r:Bool}(f:Sl cP c0 v1 p0) (H:eX p0 j=some r): KP 203 #[v1,I j] c0 fun c v=>Own c G F/\v=B r:=by
 unfold eX at H;refine en func203 rfl rfl<|Ky false<|KA<|KE v1<|Ku j<|bn H fun d1 h3 H=>?_;obtain ⟨z1,h5,m6⟩:=Sl.at f (aS h3);obtain rfl:=h5;refine vx (ix lc f h3)<|Kw (sb v1) (so v1+j.toNat*4+2)<|vx (l1 u_3 (m6 2 _ rfl))<|Kq (d1.Conj != 1)<|KH H (fun h7 H=>?_) (fun h7 H=>?_)
 ·refine Ky false<|KG<|thr ?_;cases H;exact KC c0 ⟨O0,rfl⟩
 refine KI<|KD 0<|KA<|KD j<|Kv (j-1)<|wln<|W.block<|bn H fun i h8 T=>lp h8 (fun a=>Jn c0 fun c l=>Own c G F/\l= [(0,v1),(5,I a.1),(6,I a.2)]) (fun t=>match t with|.inl X=>(fun b1 ex e w=>ex= .ret/\(Jn c0 fun c l=>Own c G F/\l= [(4,B b1)]) e w) X|.inr X=>(fun e1 ex e w=>ex= .exit 0/\(Jn c0 fun c l=>Own c G F/\l= []) e w) X) ?_ ?_ ?_
 ·clear T h8;intro a b2 h0 c1 H;revert h0 c1;rintro x y ⟨g,n1,_,rfl,n,rfl,k,rfl⟩;refine W.seq<|KD a.2<|Kr (a.2>=0)<|KH H (fun j0 H=>?_) (fun j0 H=>?_)
  ·refine KI<|KM<|W.seq<|KE v1<|Ku a.2<|bn H fun Z E H=>?_;obtain ⟨h1,k0,w0⟩:=Sl.at (f.mono n) (aS E);obtain rfl:=k0;refine vx (ix lc f.m E)<|Kw (sb v1) (so v1+a.2.toNat*4+2)<|vx (l1 u_3 (w0 2 _ rfl))<|Kq (Z.Conj==1)<|KH H (fun l0 H=>?_) (fun l0 H=>?_)
   ·refine KD a.1<|vv (B (decide (a.1>0)))<|KG<|thr<|KL ?_;cases H;exact ⟨_,rfl,⟨rfl,jn g ⟨k,rfl⟩⟩⟩
   refine KI<|bn H fun u d b=>W.seqJ (Jn g fun c l=>Own c G F/\l= [(0,v1),(5,I u),(6,I a.2)]) ?_ ?_
   ·refine KE v1<|Ku a.2<|bn d fun a0 M d=>?_;obtain ⟨i1,m0,x0⟩:=Sl.at (f.mono n) (aS M);obtain rfl:=m0;refine vx (ix lc f.m M)<|Kw (sb v1) (so v1+a.2.toNat*4+2)<|vx (l1 u_3 (x0 2 _ rfl))<|Kq (a0.Conj==2)<|KH d (fun o0 d=>?_) (fun o0 d=>?_)
    ·refine KF a.1<|Kv (a.1+1)<|wln ?_;cases d;exact jn g ⟨k,rfl⟩
    refine KI ?_;cases d;exact jn g ⟨k,rfl⟩
   rintro x y ⟨p,q1,_,rfl,S,rfl,z,rfl⟩;refine W.seq<|bn b fun q N b=>bn b fun U P b=>W.join (Jn p fun c l=>Own c G F/\l= [(0,v1),(5,I u),(6,I a.2),(48,B U)]) ?_ ?_
   ·clear b;refine Kz v1<|Ku a.2 ?_;obtain ⟨j1,s0,y0⟩:=Sl.at (f.mono (n.trans S)) (aS N);obtain rfl:=s0;refine vx (ix lc f.m N)<|Kw (sb v1) (so v1+a.2.toNat*4+2)<|vx (l1 u_3 (y0 2 _ rfl))<|Kq (q.Conj != 2) ?_;rcases bo (q.Conj != 2) with h|h
    ·have o:=anT h P;refine vb h<|wa v1<|wa (I a.2)<|wn<|bn o fun s R o=>?_;obtain ⟨k1,t0,z0⟩:=Sl.at (f.mono (n.trans S)) (aS R);obtain rfl:=t0;refine vx (ix lc f.m R)<|wa (Qo (sb v1) (so v1+a.2.toNat*4+2))<|wn<|vx (l1 u_3 (z0 2 _ rfl))<|Kt (s.Conj != 3) ?_;cases o;exact Kq (s.Conj != 3)<|KB p ⟨z,rfl⟩
    obtain rfl:=anF h P;exact vb h<|pz<|pz<|pz<|Kq false<|KB p ⟨z,rfl⟩
   rintro x y ⟨D,s1,_,rfl,w1,rfl,A,rfl⟩;refine nrm<|cn b (fun u0 b=>?_) (fun u0 b=>?_)
   ·refine Ky false<|KG<|KL ?_;cases b;exact ⟨_,rfl,⟨rfl,jn D ⟨A,rfl⟩⟩⟩
   refine W.skip<|KJ<|KF a.2<|Kv (a.2-1)<|WL.nil ?_;cases b;exact ⟨_,rfl,jn D ⟨A,rfl⟩⟩
  refine W.exit<|thx ?_;cases H;exact ⟨_,rfl,rfl,jn g ⟨k,rfl⟩⟩
 ·exact jn c0 ⟨O0,rfl⟩
 rcases i with i|i
 ·intro i0; revert i0;rintro _ x y ⟨rfl,f0,t1,_,rfl,x1,rfl,d0,rfl⟩;refine KL ?_;cases T;exact KC f0 ⟨d0,rfl⟩
 rintro _ x y ⟨rfl,g0,u1,_,rfl,y1,rfl,e0,rfl⟩;refine KK<|Ky false<|KG ?_;cases T;exact KC g0 ⟨e0,rfl⟩
def fC (p0:List ax) (p1:Int):Option Bool:=
 (idx p0 p1).bind fun j=>
 (orE (!j.Pict) (some (decide (p1<2)))).bind fun i=>
 (orE i ((idx p0 (w64 (p1-1))).bind fun e=>
 some (e.Break != 5))).bind fun c=>
 (orE c ((idx p0 (w64 (p1-1))).bind fun f=>
 some f.Pict)).bind fun d=>
 if d then
 some false
 else
 (cH (σ:=Int) (τ:=Bool ⊕ Unit) (((w64 (p1-2))-0).toNat+2) (fun b=>
 if decide (b>=0) then
 (idx p0 b).bind fun g=>
 if g.Pict then
 some (.inr (.inl true))
 else
 (idx p0 b).bind fun h=>
 if (h.Break != 4)=true then
 some (.inr (.inl false))
 else
 some (.inl ((w64 (b-1))))
 else
 some (.inr (.inr ()))) ((w64 (p1-2)))).bind fun a=>
 match a with
 | .inl a=>
 some a
 | .inr a=>
 some false
theorem qv (u:Own c0 G F) (p0:List ax) (b:Int){r:Bool}(d:Sl cP c0 v1 p0) (H:fC p0 b=some r): KP 204 #[v1,I b] c0 fun c v=>Own c G F/\v=B r:=by
 unfold fC at H;refine en func204 rfl rfl<|Ky false<|KA<|W.seq<|bn H fun U h3 H=>bn H fun u1 h4 H=>bn H fun i1 h5 H=>bn H fun X x H=>W.join (Jn c0 fun c l=>Own c G F/\l= [(0,v1),(1,I b),(32,B X)]) ?_ ?_
 ·clear H;refine Kz v1<|Ku b ?_;obtain ⟨d2,h8,m9⟩:=Sl.at d (aS h3);obtain rfl:=h8;refine vx (ix lc d h3)<|Kw (sb v1) (so v1+b.toNat*4+1)<|vx (l1 u_4 (m9 1 _ rfl))<|Kq (!U.Pict) ?_;rcases bo (!U.Pict) with g|g
  ·obtain rfl:=orT g h4;refine vb g<|pz<|Kq true ?_;have z:true=true:=rfl;obtain rfl:=orT z h5;refine vb z<|pz<|pz<|pz<|ps<|Kq true ?_;have A:true=true:=rfl;obtain rfl:=orT A x;exact vb A<|pz<|pz<|pz<|Kq true<|KB c0 ⟨u,rfl⟩
  have g0:=orF g h4;refine vb g<|wa (I b)<|Ks (b<2) ?_;cases g0;refine Kr (b<2) ?_;rcases bo (decide (b<2)) with h|h
  ·obtain rfl:=orT h h5;refine vb h<|pz<|pz<|pz<|ps<|Kq true ?_;have D:true=true:=rfl;obtain rfl:=orT D x;exact vb D<|pz<|pz<|pz<|Kq true<|KB c0 ⟨u,rfl⟩
  have p:=orF h h5;refine vb h<|wa v1<|wa (I b)<|wa (I (w64 (b-1)))<|wn<|bn p fun k E p=>?_;obtain ⟨k1,o0,a1⟩:=Sl.at d (aS E);obtain rfl:=o0;refine vx (ix lc d E)<|wa (Qo (sb v1) (so v1+(w64 (b-1)).toNat*4))<|wn<|vx (l1 u_3 (a1 0 _ rfl))<|Kt (k.Break != 5) ?_;cases p;refine Kq (k.Break != 5) ?_;rcases bo (k.Break != 5) with i|i
  ·obtain rfl:=orT i x;exact vb i<|pz<|pz<|pz<|Kq true<|KB c0 ⟨u,rfl⟩
  have q:=orF i x;refine vb i<|wa v1<|wa (I b)<|wa (I (w64 (b-1)))<|wn<|bn q fun e0 M q=>?_;obtain ⟨m1,q0,b1⟩:=Sl.at d (aS M);obtain rfl:=q0;refine vx (ix lc d M)<|wa (Qo (sb v1) (so v1+(w64 (b-1)).toNat*4+1))<|wn<|vx (l1 u_4 (b1 1 _ rfl)) ?_;cases q;exact Kq e0.Pict<|KB c0 ⟨u,rfl⟩
 rintro Z w_ ⟨f,w1,_,rfl,S,rfl,y,rfl⟩;refine nrm<|cn H (fun t0 H=>?_) (fun t0 H=>?_)
 ·refine Ky false<|KG<|thr ?_;cases H;exact KC f ⟨y,rfl⟩
 refine KI<|W.seq<|KD b<|Kv (b-2)<|wln<|W.block<|bn H fun j N s=>lp N (fun a=>Jn f fun c l=>Own c G F/\l= [(0,v1),(5,I a)]) (fun t=>match t with|.inl x_=>(fun f1 ex e w=>ex= .ret/\(Jn f fun c l=>Own c G F/\l= [(4,B f1)]) e w) x_|.inr x_=>(fun h1 ex e w=>ex= .exit 0/\(Jn f fun c l=>Own c G F/\l= []) e w) x_) ?_ ?_ ?_
 ·clear s N;intro a e2 l0 g1 H;revert l0 g1;rintro Z w_ ⟨o,x1,_,rfl,T,rfl,n,rfl⟩;refine W.seq<|KD a<|Kr (a>=0)<|KH H (fun v0 H=>?_) (fun v0 H=>?_)
  ·refine KI<|KM<|W.seq<|KE v1<|Ku a<|bn H fun t1 P H=>?_;obtain ⟨n1,w0,c1⟩:=Sl.at (d.mono (S.trans T)) (aS P);obtain rfl:=w0;refine vx (ix lc d.m P)<|Kw (sb v1) (so v1+a.toNat*4+1)<|vx (l1 u_4 (c1 1 _ rfl))<|KH H (fun x0 H=>?_) (fun x0 H=>?_)
   ·refine Ky true<|KG<|thr<|KL ?_;cases H;exact ⟨_,rfl,⟨rfl,jn o ⟨n,rfl⟩⟩⟩
   refine KI<|KE v1<|Ku a<|bn H fun f0 R H=>?_;obtain ⟨q1,y0,d1⟩:=Sl.at (d.mono (S.trans T)) (aS R);obtain rfl:=y0;refine vx (ix lc d.m R)<|Kw (sb v1) (so v1+a.toNat*4)<|vx (l1 u_3 (d1 0 _ rfl))<|Kq (f0.Break != 4)<|KH H (fun z0 H=>?_) (fun z0 H=>?_)
   ·refine Ky false<|KG<|KL ?_;cases H;exact ⟨_,rfl,⟨rfl,jn o ⟨n,rfl⟩⟩⟩
   refine W.skip<|KJ<|KF a<|Kv (a-1)<|WL.nil ?_;cases H;exact ⟨_,rfl,jn o ⟨n,rfl⟩⟩
  refine W.exit<|thx ?_;cases H;exact ⟨_,rfl,rfl,jn o ⟨n,rfl⟩⟩
 ·exact jn f ⟨y,rfl⟩
 rcases j with j|j
 ·intro m0; revert m0;rintro _ Z w_ ⟨rfl,j0,y1,_,rfl,b2,rfl,h0,rfl⟩;refine KL ?_;cases s;exact KC j0 ⟨h0,rfl⟩
 rintro _ Z w_ ⟨rfl,k0,z1,_,rfl,c2,rfl,i0,rfl⟩;refine KK<|Ky false<|KG ?_;cases s;exact KC k0 ⟨i0,rfl⟩
def eQ (p0:List ax) (p1:Int):Option Bool:=
 (orE (decide (p1<1)) (some (decide (p1>=(p0.length:Int))))).bind fun n=>
 if n then
 some false
 else
 (idx p0 (w64 (p1-1))).bind fun h=>
 (idx p0 p1).bind fun i=>
 (dr h.Break i.Break).bind fun b=>
 (orE (b==1) ((eX p0 p1).bind fun j=>
 some j)).bind fun c=>
 (orE c ((fC p0 p1).bind fun k=>
 some k)).bind fun d=>
 if d then
 some true
 else
 (orE (b != 2) ((idx p0 p1).bind fun l=>
 some (l.Break != 6))).bind fun e=>
 if e then
 some false
 else
 (cH (σ:=Int×Int) (τ:=Int) (((w64 (p1-1))-0).toNat+2) (fun a=>
 (bL (decide (a.2>=0)) ((idx p0 a.2).bind fun m=>
 some (m.Break==6))).bind fun f=>
 if f then
 some (.inl ((w64 (a.1+1)),(w64 (a.2-1))))
 else
 some (.inr a.1)) (0,(w64 (p1-1)))).bind fun g=>
 some ((g.tmod 2)==1)
theorem rp (O0:Own c0 G F) (q:List ax) (b:Int){r:Bool}(f:Sl cP c0 v1 q) (H:eQ q b=some r): KP 133 #[v1,I b] c0 fun c v=>Own c G F/\v=B r:=by
 unfold eQ at H;refine en func133 rfl rfl<|Ky false<|KA<|W.seq<|bn H fun m1 h3 H=>W.join (Jn c0 fun c l=>Own c G F/\l= [(0,v1),(1,I b),(15,B m1)]) ?_ ?_
 ·clear H;refine KF b<|Kr (b<1) ?_;rcases bo (decide (b<1)) with M|M
  ·obtain rfl:=orT M h3;exact vb M<|pz<|pz<|Kq true<|KB c0 ⟨O0,rfl⟩
  have H5:=orF M h3;refine vb M<|wa (I b)<|wa v1<|wn<|vx (ln 3 lc f)<|Ks (b>=(q.length:Int)) ?_;obtain rfl:=si H5;exact Kr (b>=(q.length:Int))<|KB c0 ⟨O0,rfl⟩
 rintro D P ⟨c6,g7,_,rfl,U,rfl,O8,rfl⟩;refine nrm<|cn H (fun q1 H=>?_) (fun q1 H=>?_)
 ·refine Ky false<|KG<|thr ?_;obtain rfl:=si H;exact KC c6 ⟨O8,rfl⟩
 refine KI<|W.seq<|rD [] (Kp G0 []) O8 ?_;intro h1 p d1;have f3:Kp G0 [] h1:=Kp.nil0;refine ta 0 v1<|ta 1 (I b)<|ta 2 (I (w64 (b-1)))<|bn H fun z0 h0 H=>?_;obtain ⟨s2,s1,i2⟩:=Sl.at (f.mono (U.trans p)) (aS h0);obtain rfl:=s1;refine tx 3 (fun c' N=>ix lc f.m h0)<|ta 4 (Qo (sb v1) (so v1+(w64 (b-1)).toNat*4))<|tx 5 (fun c' N=>l1 u_3 ((mm i2) 0 _ rfl))<|ta 6 v1<|ta 7 (I b)<|bn H fun a1 i0 H=>?_;obtain ⟨t2,t1,j2⟩:=Sl.at (f.mono (U.trans p)) (aS i0);obtain rfl:=t1;refine tx 8 (fun c' N=>ix lc f.m i0)<|ta 9 (Qo (sb v1) (so v1+b.toNat*4))<|tx 10 (fun c' N=>l1 u_3 ((mm j2) 0 _ rfl))<|bn H fun d u1 H=>o1 11 (gc 11 (sP d1 z0.Break a1.Break u1) ?_);rintro v30 z t0 ⟨a0,rfl⟩;have m2:Kp G0 [] z:=Kp.nil0;refine ⟨.inr m2,ta 12 (I d) (dn (nrm<|W.seq<|W.seq<|bn H fun q2 j0 H=>bn H fun w0 E H=>W.join (Jn z fun c l=>Own c G F/\l= [(0,v1),(1,I b),(5,I d),(39,B w0)]) ?_ ?_))⟩
 ·clear H;refine KF d<|Kq (d==1) ?_;rcases bo (d==1) with h|h
  ·obtain rfl:=orT h j0;refine vb h<|pz<|ps<|Kq true ?_;have k0:true=true:=rfl;obtain rfl:=orT k0 E;exact vb k0<|pz<|ps<|Kq true<|KB z ⟨a0,rfl⟩
  have s:=orF h j0;refine vb h<|wa v1<|wa (I b)<|wn<|bn s fun R x1 s=>cl (pP a0 q b f.m x1) ?_;rintro v43 i1 b3 ⟨b0,rfl⟩;obtain rfl:=si s;refine Kq R ?_;rcases bo R with i|i
  ·obtain rfl:=orT i E;exact vb i<|pz<|ps<|Kq true<|KB i1 ⟨b0,rfl⟩
  have t:=orF i E;refine vb i<|wa v1<|wa (I b)<|wn<|bn t fun b1 y1 t=>cl (qv b0 q b f.m y1) ?_;rintro v52 j1 c3 ⟨e1,rfl⟩;obtain rfl:=si t;exact Kq b1<|KB j1 ⟨e1,rfl⟩
 rintro D P ⟨n,w2,_,rfl,u0,rfl,y,rfl⟩;refine nrm<|cn H (fun z1 H=>?_) (fun z1 H=>?_)
 ·refine Ky true<|KG<|thr ?_;obtain rfl:=si H;exact KC n ⟨y,rfl⟩
 refine KI<|W.seq<|W.seq<|bn H fun x0 l0 H=>W.join (Jn n fun c l=>Own c G F/\l= [(0,v1),(1,I b),(49,B x0)]) ?_ ?_
 ·clear H;refine KF d<|Kq (d != 2) ?_;rcases bo (d != 2) with j|j
  ·obtain rfl:=orT j l0;exact vb j<|pz<|pz<|pz<|Kq true<|KB n ⟨y,rfl⟩
  have u:=orF j l0;refine vb j<|wa v1<|wa (I b)<|wn<|bn u fun S m0 u=>?_;obtain ⟨u2,b2,k2⟩:=Sl.at (f.mono (U.trans (p.trans (t0.trans u0)))) (aS m0);obtain rfl:=b2;refine vx (ix lc f.m m0)<|wa (Qo (sb v1) (so v1+b.toNat*4))<|wn<|vx (l1 u_3 (k2 0 _ rfl))<|Kt (S.Break != 6) ?_;obtain rfl:=si u;exact Kq (S.Break != 6)<|KB n ⟨y,rfl⟩
 rintro D P ⟨o,x2,_,rfl,f2,rfl,d0,rfl⟩;refine nrm<|cn H (fun c2 H=>?_) (fun c2 H=>?_)
 ·refine Ky false<|KG<|thr ?_;obtain rfl:=si H;exact KC o ⟨d0,rfl⟩
 refine KI<|KD 0<|KA<|KD b<|Kv (b-1)<|wln<|W.block<|bn H fun g o0 Z=>lp o0 (fun a=>Jn o fun c l=>Own c G F/\l= [(0,v1),(6,I a.1),(7,I a.2)]) (fun X ex e w=>ex= .exit 0/\(Jn o fun c l=>Own c G F/\l= [(6,I X)]) e w) ?_ ?_ ?_
 ·clear Z o0;intro a g3 n1 n2 H;revert n1 n2;rintro D P ⟨A,y2,_,rfl,g2,rfl,e0,rfl⟩;refine W.seq<|W.seq<|bn H fun y0 q0 H=>W.join (Jn A fun c l=>Own c G F/\l= [(0,v1),(6,I a.1),(7,I a.2),(61,B y0)]) ?_ ?_
  ·clear H;refine KF a.2<|Kr (a.2>=0) ?_;rcases bo (decide (a.2>=0)) with k|k
   ·have x:=anT k q0;refine vb k<|wa v1<|wa (I a.2)<|wn<|bn x fun T s0 x=>?_;obtain ⟨v2,d2,l2⟩:=Sl.at (f.mono (U.trans (p.trans (t0.trans (u0.trans (f2.trans g2)))))) (aS s0);obtain rfl:=d2;refine vx (ix lc f.m s0)<|wa (Qo (sb v1) (so v1+a.2.toNat*4))<|wn<|vx (l1 u_3 (l2 0 _ rfl))<|Kt (T.Break==6) ?_;obtain rfl:=si x;exact Kq (T.Break==6)<|KB A ⟨e0,rfl⟩
   obtain rfl:=anF k q0;exact vb k<|pz<|pz<|pz<|Kq false<|KB A ⟨e0,rfl⟩
  rintro D P ⟨g0,z2,_,rfl,d3,rfl,f0,rfl⟩;refine nrm<|cn H (fun e2 H=>?_) (fun e2 H=>?_)
  ·refine KI<|KM<|KF a.1<|Kv (a.1+1)<|WL.nil<|KJ<|KF a.2<|Kv (a.2-1)<|WL.nil ?_;obtain rfl:=si H;exact ⟨_,rfl,jn g0 ⟨f0,rfl⟩⟩
  refine W.exit<|thx ?_;obtain rfl:=si H;exact ⟨_,rfl,rfl,jn g0 ⟨f0,rfl⟩⟩
 ·exact jn o ⟨d0,rfl⟩
 rintro _ D P ⟨rfl,k1,a3,_,rfl,e3,rfl,g1,rfl⟩;refine KK<|KD g<|Ku (g.tmod 2)<|vv (B ((g.tmod 2)==1))<|KG ?_;obtain rfl:=si Z;exact KC k1 ⟨g1,rfl⟩
def fS (p0:List Int):Option (List Int):=
 (gn p0).bind fun b=>
 (cH (σ:=(List Int)×Int) (τ:=(List Int)) (((b.length:Int)-0).toNat+1) (fun a=>
 if decide (a.2<(b.length:Int)) then
 ((eQ b a.2).bind fun d=>
 if (!d)=true then
 (app a.1 ([a.2]:List Int)).bind fun e=>
 some e
 else
 some a.1).bind fun f=>
 some (.inl (f,(w64 (a.2+1))))
 else
 some (.inr a.1)) (([]:List Int),0)).bind fun c=>
 some c
theorem qM (O0:Own c0 G F) (x:List Int){r:List Int}(h2:Sl (RI .i32) c0 v1 x) (H:fS x=some r): KP 85 #[v1] c0 fun c v=>∃A y2,Own c G (es true (RI .i64) A 3 y2 r::F)/\v=A/\OA (RI .i64) c A y2 r:=by
 unfold fS at H;refine en func85 rfl rfl<|KE Y<|wln<|KE Y<|wln<|KE v1<|bn H fun f h3 H=>cl (rn O0 x h2 h3) ?_;rintro v4 k q1 ⟨_,y,O8,rfl,u⟩;refine va v4<|KA<|KD 0<|wln<|W.block<|bn H fun g1 t p=>lp t (fun a=>Jn k fun c l=>∃v15 d,Own c G (es true (RI .i64) v15 3 d a.1::es false cP v4 238 y f::F)/\l= [(3,v15),(4,v4),(5,I a.2)]/\OA (RI .i64) c v15 d a.1) (fun g ex e w=>ex= .exit 0/\(Jn k fun c l=>∃v17 h,Own c G (es true (RI .i64) v17 3 h g::es false cP v4 238 y f::F)/\l= [(3,v17)]/\OA (RI .i64) c v17 h g) e w) ?_ ?_ ?_
 ·clear p t;intro a d2 g0 a1 H;revert g0 a1;rintro e_ w_ ⟨s,k1,_,rfl,x0,rfl,v15,d,j,rfl,n⟩;refine W.seq<|KD a.2<|va v4<|vx (lnO 3 lc u.m)<|Kr (a.2<(f.length:Int))<|KH H (fun h0 H=>?_) (fun h0 H=>?_)
  ·refine KI<|bn H fun o b D=>W.seqJ (Jn s fun c l=>∃v29 i,Own c G (es true (RI .i64) v29 3 i o::es false cP v4 238 y f::F)/\l= [(3,v29),(4,v4),(5,I a.2)]/\OA (RI .i64) c v29 i o) ?_ ?_
   ·refine W.block<|KE v4<|Ku a.2 ?_;have i0:=j.slf 1 rfl (u.mono x0);refine bn b fun z j0 b=>cl (rp j f a.2 i0 j0) ?_;rintro v38 Z s1 ⟨q,rfl⟩;refine Kq (!z)<|KH b (fun k0 b=>?_) (fun k0 b=>?_)
    ·refine Kz v15<|Ku a.2<|me (sl (RI .i64) 3 [[I a.2]] ([a.2]:List Int) q ⟨rfl,trivial⟩) ?_;rintro v44 i1 t1 ⟨c2,E,l0⟩;obtain ⟨j1,o0,u1,M,m0⟩:=E.frz 0 rfl l0;refine WL.gh o0 (bn b fun h1 q0 b=>me (ap (RI .i64) (I 0) 8 89 1 M n.m m0 q0 vh) ?_);rintro v54 a0 w1 ⟨y0,N,s0⟩;refine va v54<|WL.nil<|KJ ?_;cases b;have P:=N.sD 3 [1,2];exact jn a0 ⟨v54,y0,P,rfl,s0⟩
    refine W.skip<|KJ ?_;cases b;exact jn Z ⟨v15,d,q,rfl,n.m⟩
   rintro e_ w_ ⟨b0,m1,_,rfl,x1,rfl,v29,i,R,rfl,t0⟩;refine KF a.2<|Kv (a.2+1)<|WL.nil ?_;cases D;exact ⟨_,rfl,jn b0 ⟨v29,i,R,rfl,t0⟩⟩
  refine W.exit<|thx ?_;cases H;exact ⟨_,rfl,rfl,jn s ⟨v15,d,j,rfl,n⟩⟩
 ·have u0:OA (RI .i64) k Y [] []:=OA.nil (aO _);have S:=O8.addHole (e:=es true (RI .i64) Y 3 [] ([]:List Int)) rfl;obtain ⟨d0,v0,z1,T,p1⟩:=S.frz 1 rfl u;exact ⟨d0,_,_,v0.symm,pt,us,(Y),[],T,rfl,u0.m⟩
 rintro _ e_ w_ ⟨rfl,e0,n1,_,rfl,b2,rfl,v17,h,U,rfl,w0⟩;refine KK<|sr<|vv v17<|KG ?_;cases p;have X:=U.sD 2 [0];exact KC e0 ⟨v17,h,X,rfl,w0⟩
def eW (p0:List Int):Option (List (List Int)):=
 (fS p0).bind fun i=>
 (app i ([(p0.length:Int)]:List Int)).bind fun b=>
 (cH (σ:=(List (List Int))×Int) (τ:=(List (List Int))) (((b.length:Int)-(w64 (0+1))).toNat+1) (fun a=>
 if decide ((w64 (a.2+1))<(b.length:Int)) then
 (idx b a.2).bind fun d=>
 (idx b (w64 (a.2+1))).bind fun e=>
 (slc p0 d e).bind fun f=>
 (app ([]:List Int) f).bind fun g=>
 (app a.1 ([g]:List (List Int))).bind fun h=>
 some (.inl (h,(w64 (a.2+1))))
 else
 some (.inr a.1)) (([]:List (List Int)),0)).bind fun c=>
 some c
theorem pO (O0:Own c0 G F) (g:List Int){r:List (List Int)}(h2:Sl (RI .i32) c0 v1 g) (H:eW g=some r): KP 40 #[v1] c0 fun c v=>∃y1 y2,Own c G (es true (RL (RI .i32)) y1 32 y2 r::F)/\v=y1/\OA (RL (RI .i32)) c y1 y2 r:=by
 unfold eW at H;refine en func40 rfl rfl<|KE Y<|wln<|KE Y<|wln<|KE v1<|bn H fun c4 h3 H=>cl (qM O0 g h2 h3) ?_;rintro v4 m3 g2 ⟨_,u5,O8,rfl,h6⟩;refine va v1<|vx (ln 3 cI h2.m)<|me (sl (RI .i64) 3 [[I (g.length:Int)]] ([(g.length:Int)]:List Int) O8 ⟨rfl,trivial⟩) ?_;rintro v17 n3 l16 ⟨e0,s0,g1⟩;obtain ⟨o3,i1,i2,t0,h1⟩:=s0.frz 0 rfl g1;refine WL.gh i1 (bn H fun b j1 H=>me (ap (RI .i64) (I 0) 8 89 1 t0 h6.m h1 j1 vh) ?_);rintro v27 h j2 ⟨d,u0,f⟩;refine va v27<|KA<|KD 0<|wln<|W.block<|bn H fun i3 Z y=>lp Z (fun a=>Jn h fun c l=>∃v30 o,Own c G (es true (RL (RI .i32)) v30 32 o a.1::es false (RI .i64) v17 3 e0 ([(g.length:Int)]:List Int)::es true (RI .i64) v27 3 d b::F)/\l= [(0,v1),(3,v30),(4,v27),(5,I a.2)]/\OA (RL (RI .i32)) c v30 o a.1) (fun n ex e w=>ex= .exit 0/\(Jn h fun c l=>∃v32 p,Own c G (es true (RL (RI .i32)) v32 32 p n::es false (RI .i64) v17 3 e0 ([(g.length:Int)]:List Int)::es true (RI .i64) v27 3 d b::F)/\l= [(3,v32)]/\OA (RL (RI .i32)) c v32 p n) e w) ?_ ?_ ?_
 ·clear y Z;intro a d4 f1 w2 H;revert f1 w2;rintro e_ w_ ⟨x0,p3,_,rfl,t,rfl,v30,o,z,rfl,a0⟩;refine W.seq<|KD a.2<|Kx (a.2+1)<|va v27<|vx (lnO 3 vh f.m)<|Kr ((w64 (a.2+1))<(b.length:Int))<|KH H (fun k1 H=>?_) (fun k1 H=>?_)
  ·refine KI<|KM<|rD [] (Kp G0 [es true (RI .i64) v27 3 d b]) z ?_;intro y0 u A;have d0:=(Kp.cons (A.on 2 rfl) Kp.nil0);refine ta 0 v30<|ta 2 v1<|ta 3 v27<|ta 4 (I a.2)<|bn H fun l0 q H=>tx 5 (fun x i=>ixO vh f.m q) ?_;obtain ⟨f3,m1,m2⟩:=OA.at (f.mono (t.trans u)) q;obtain rfl:=m1;refine AC.takeK 6 (I l0) d0 rfl (by kernel_rfl) (by kernel_rfl) (by kernel_rfl) (fun x i hk=>(rx (by kernel_rfl) (lM u_3 rfl (hk.on 0 rfl) (f.m.blk q) (at1 (j:=0) m2 rfl)))) (ta 7 v27<|ta 8 (I a.2)<|ta 9 (I (w64 (a.2+1)))<|bn H fun m0 s H=>tx 10 (fun x i=>ixO vh f.m s) ?_);obtain ⟨g3,n1,n2⟩:=OA.at (f.mono (t.trans u)) s;obtain rfl:=n1;refine AC.takeK 11 (I m0) d0 rfl (by kernel_rfl) (by kernel_rfl) (by kernel_rfl) (fun x i hk=>(rx (by kernel_rfl) (lM u_3 rfl (hk.on 0 rfl) (f.m.blk s) (at1 (j:=0) n2 rfl)))) (bn H fun k3 p1 H=>?_);obtain ⟨v54,q1,s1⟩:=wx (k:= .i64) (k':= .i64) cI (by kernel_rfl) (h2.mono (g2.trans (l16.trans (i2.trans (j2.trans (t.trans u)))))) p1;refine AC.take 12 v54 rfl (by kernel_rfl) (by kernel_rfl) (fun x i=>(rx (by kernel_rfl) (q1 _))) (o1 1 (gm 1 (sl (RI .i32) 21 [] ([]:List Int) A trivial) ?_));rintro z3 z0 q3 ⟨w3,D,t1⟩;have o2:=(Kp.cons (D.on 3 rfl) Kp.nil0);refine ⟨.inr o2,bn H fun o0 u1 H=>o1 13 (gm 13 (ap (RI .i32) (J 0) 4 32 0 D t1 s1.m u1 cI) ?_)⟩;rintro a4 a1 s3 ⟨x3,E,w1⟩;have p2:=(Kp.cons (E.on 3 rfl) Kp.nil0);refine ⟨.inr p2,?_⟩;obtain ⟨b1,x1,k2,M,b0⟩:=E.frz 0 rfl w1;have q2:=(Kp.cons (M.on 3 rfl) Kp.nil0);refine AC.gh x1 k2 (fun _=>q2) ?_;obtain ⟨S,T,U,rfl⟩:=(b0).form;refine o1 14 (gm 14 (sl (RL (RI .i32)) 32 [[.slice S T U]] ([o0]:List (List Int)) M ⟨⟨(.slice S T U),rfl,b0⟩,trivial⟩) ?_);rintro b4 c1 t3 ⟨y3,N,z1⟩;have s2:=(Kp.cons (N.on 4 rfl) Kp.nil0);refine ⟨.inr s2,?_⟩;obtain ⟨d1,c2,l2,P,b2⟩:=N.frz 0 rfl z1;have t2:=(Kp.cons (P.on 4 rfl) Kp.nil0);refine AC.gh c2 l2 (fun _=>t2) (bn H fun l3 d2 H=>o1 15 (gm 15 (ap (RL (RI .i32)) Y 24 25 2 P a0.m b2 d2 py) ?_));rintro f0 X u3 ⟨v2,R,e2⟩;have u2:=(Kp.cons (R.on 4 rfl) Kp.nil0);refine ⟨.inr u2,ta 16 f0 (dn (KJ<|KF a.2<|Kv (a.2+1)<|WL.nil ?_))⟩;cases H;refine ⟨_,rfl,?_⟩;have v0:=R.sD 5 [2,3,4];exact jn X ⟨f0,v2,v0,rfl,e2⟩
  refine W.exit<|thx ?_;cases H;exact ⟨_,rfl,rfl,jn x0 ⟨v30,o,z,rfl,a0⟩⟩
 ·have f2:OA (RL (RI .i32)) h Y [] []:=OA.nil (aO _);have w0:=u0.addHole (e:=es true (RL (RI .i32)) Y 32 [] ([]:List (List Int))) rfl;exact jn h ⟨(Y),[],w0,rfl,f2⟩
 rintro _ e_ w_ ⟨rfl,e1,c3,_,rfl,v3,rfl,v32,p,g0,rfl,i0⟩;refine KK<|sr<|vv v32<|KG ?_;cases y;have h0:=g0.sD 3 [0];exact KC e1 ⟨v32,p,h0,rfl,i0⟩
def eP (p0:List Int):Option (List Int):=
 (slc p0 0 (aE (p0.length:Int) 16)).bind fun a=>
 (app ([]:List Int) a).bind fun b=>
 some b
theorem nM (n:Own c0 G F) (a:List Int){r:List Int}(j:Sl (RI .i32) c0 v1 a) (H:eP a=some r): KP 130 #[v1] c0 fun c v=>∃b l,Own c G (es true (RI .i32) b 21 l r::F)/\v=b/\OA (RI .i32) c b l r:=by
 unfold eP at H;refine en func130 rfl rfl<|KE Y<|KN<|me (sl (RI .i32) 21 [] ([]:List Int) n trivial) ?_;rintro v7 x s ⟨y,o,p⟩;refine vv v1<|vx (ln 3 cI j.m)<|Ku (aE (a.length:Int) 16)<|bn H fun t q H=>?_;obtain ⟨v9,f,g⟩:=rZ (k':= .i64) cI (by kernel_rfl) (j.mono s) q;refine vr v9 (rx (by kernel_rfl) (f _))<|bn H fun u h H=>me (ap (RI .i32) (J 0) 4 32 0 o p g h cI) ?_;rintro v17 e l16 ⟨k,d,i⟩;refine va v17<|KG ?_;cases H;exact KC e ⟨v17,k,d,rfl,i⟩
def kw (p0:List Int):Option Int:=
 (cH (σ:=(List ax)×Int) (τ:=(List ax)) (((p0.length:Int)-0).toNat+1) (fun a=>
 if decide (a.2<(p0.length:Int)) then
 (idx p0 a.2).bind fun b=>
 (eq b).bind fun c=>
 (app a.1 ([c]:List ax)).bind fun d=>
 some (.inl (d,(w64 (a.2+1))))
 else
 some (.inr a.1)) (([]:List ax),0)).bind fun f=>
 (iA p0 f).bind fun e=>
 some e
theorem ui (O0:Own c0 G F) (h:List Int){r:Int}(g:Sl (RI .i32) c0 v1 h) (H:kw h=some r): KP 148 #[v1] c0 fun c v=>Own c G F/\v=I r:=by
 unfold kw at H;refine en func148 rfl rfl<|KD 0<|wln<|KE Y<|KA<|KD 0<|wln<|W.block<|bn H fun l0 X f=>lp X (fun a=>Jn c0 fun c l=>∃v5 i,Own c G (es true cP v5 238 i a.1::F)/\l= [(0,v1),(3,v5),(4,I a.2)]/\OA cP c v5 i a.1) (fun d ex e w=>ex= .exit 0/\(Jn c0 fun c l=>∃v7 o,Own c G (es true cP v7 238 o d::F)/\l= [(0,v1),(3,v7)]/\OA cP c v7 o d) e w) ?_ ?_ ?_
 ·clear f X;intro a q1 R o0 H;revert R o0;rintro e_ w_ ⟨c9,d1,_,rfl,l9,rfl,v5,i,j,rfl,k⟩;refine W.seq<|KD a.2<|va v1<|vx (ln 3 cI g.m)<|Kr (a.2<(h.length:Int))<|KH H (fun S H=>?_) (fun S H=>?_)
  ·refine KI<|KM<|Kz v5<|va v1<|Ku a.2<|bn H fun p n H=>?_;obtain ⟨v0,T,k0⟩:=Sl.at (g.mono l9) (aS n);obtain rfl:=T;refine vx (ix cI g.m n)<|vx (l1 mj (k0 0 _ rfl))<|bn H fun b U H=>cl (pq j p U) ?_;rintro v27 y0 f1 ⟨s,rfl⟩;refine me (sl cP 238 [[I b.Break,B b.Pict,I b.Conj,I b.East]] ([b]:List ax) s ⟨rfl,trivial⟩) ?_;rintro v32 z0 g1 ⟨n1,t,Z⟩;obtain ⟨a1,b0,h1,u,a0⟩:=t.frz 0 rfl Z;refine WL.gh b0 (bn H fun x0 d0 H=>me (ap cP (.agg #[I 0,B false,I 0,I 0]) 32 191 1 u k.m a0 d0 lc) ?_);rintro v42 N i1 ⟨m0,x,e0⟩;refine va v42<|WL.nil<|KJ<|KF a.2<|Kv (a.2+1)<|WL.nil ?_;cases H;refine ⟨_,rfl,?_⟩;have y:=x.sD 2 [1];exact jn N ⟨v42,m0,y,rfl,e0⟩
  refine W.exit<|thx ?_;cases H;exact ⟨_,rfl,rfl,jn c9 ⟨v5,i,j,rfl,k⟩⟩
 ·have f0:OA cP c0 Y [] []:=OA.nil (aO _);have z:=O0.addHole (e:=es true cP Y 238 [] ([]:List ax)) rfl;exact jn c0 ⟨(Y),[],z,rfl,f0⟩
 rintro _ e_ w_ ⟨rfl,b1,e1,_,rfl,j1,rfl,v7,o,A,rfl,g0⟩;refine KK<|KE v1<|va v7 ?_;obtain ⟨c1,i0,k1,D,h0⟩:=A.frz 0 rfl g0;refine WL.gh i0 (bn f fun q j0 f=>cl (tF D h l0 g.m h0 j0) ?_);rintro p1 P m1 ⟨E,rfl⟩;refine Ku q<|KG ?_;cases f;have M:=E.sD 1 [];exact KC P ⟨M,rfl⟩
def gZ (p0:List Int):Option Int:=
 (idx p0 0).bind fun c=>
 (dF c).bind fun d=>
 if d then
 some 0
 else
 (eP p0).bind fun a=>
 (kw a).bind fun b=>
 some b
theorem sN (y:Own c0 G F) (b:List Int){r:Int}(a:Sl (RI .i32) c0 v1 b) (H:gZ b=some r): KP 129 #[v1] c0 fun c v=>Own c G F/\v=I r:=by
 unfold gZ at H;refine en func129 rfl rfl<|KD 0<|KA<|KE v1<|bn H fun x u H=>?_;obtain ⟨T,z,D⟩:=Sl.at a (aS u);obtain rfl:=z;refine vx (ix cI a u)<|vx (l1 mj (D 0 _ rfl))<|bn H fun X A H=>cl (kC y x A) ?_;rintro v13 k N ⟨j,rfl⟩;refine KH H (fun n H=>?_) (fun n H=>?_)
 ·refine KD 0<|KG<|thr ?_;cases H;exact KC k ⟨j,rfl⟩
 refine KI<|KE v1<|bn H fun d o H=>cl (nM j b a.m o) ?_;rintro v16 E P ⟨_,U,f,rfl,p⟩;obtain ⟨M,s,R,g,q⟩:=f.frz 0 rfl p;refine WL.gh s (bn H fun e t H=>cl (ui g d q t) ?_);rintro v35 l S ⟨h,rfl⟩;refine Ku e<|KG ?_;cases H;have i:=h.sD 1 [];exact KC l ⟨i,rfl⟩
def iv (p0:aa) (p1:List Int):Option aa:=
 (eW p1).bind fun c=>
 (cH (σ:=Int×(List aj)×Int×Int×Bool×Bool) (τ:=((List aj)×Int×Int×Bool×Bool)) (((c.length:Int)-0).toNat+1) (fun a=>
 if decide (a.1<(c.length:Int)) then
 ((idx c a.1).bind fun j=>
 (idx j 0).bind fun k=>
 (dF k).bind fun l=>
 if (!l)=true then
 (idx c a.1).bind fun m=>
 (idx c a.1).bind fun n=>
 (gZ m).bind fun o=>
 (eP n).bind fun p=>
 (be (⟨a.2.1,(⟨a.2.2.1,a.2.2.2.1,a.2.2.2.2.1⟩:ai),a.2.2.2.2.2⟩:aa) o p).bind fun f=>
 some (f.1.L,f.1.At.Row,f.1.At.Col,f.1.At.Pending,f.1.Auto)
 else
 (idx c a.1).bind fun i=>
 (cH (σ:=Int×(List aj)×Int×Int×Bool×Bool) (τ:=((List aj)×Int×Int×Bool×Bool)) (((i.length:Int)-0).toNat+1) (fun b=>
 (idx c a.1).bind fun q=>
 if decide (b.1<(q.length:Int)) then
 (idx c a.1).bind fun r=>
 (idx r b.1).bind fun s=>
 (cN (⟨b.2.1,(⟨b.2.2.1,b.2.2.2.1,b.2.2.2.2.1⟩:ai),b.2.2.2.2.2⟩:aa) s).bind fun g=>
 some (.inl ((w64 (b.1+1)),g.1.L,g.1.At.Row,g.1.At.Col,g.1.At.Pending,g.1.Auto))
 else
 some (.inr (b.2.1,b.2.2.1,b.2.2.2.1,b.2.2.2.2.1,b.2.2.2.2.2))) (0,a.2.1,a.2.2.1,a.2.2.2.1,a.2.2.2.2.1,a.2.2.2.2.2)).bind fun e=>
 some (e.1,e.2.1,e.2.2.1,e.2.2.2.1,e.2.2.2.2)).bind fun h=>
 some (.inl ((w64 (a.1+1)),h.1,h.2.1,h.2.2.1,h.2.2.2.1,h.2.2.2.2))
 else
 some (.inr (a.2.1,a.2.2.1,a.2.2.2.1,a.2.2.2.2.1,a.2.2.2.2.2))) (0,p0.L,p0.At.Row,p0.At.Col,p0.At.Pending,p0.Auto)).bind fun d=>
 some (⟨d.1,(⟨d.2.1,d.2.2.1,d.2.2.2.1⟩:ai),d.2.2.2.2⟩:aa)
theorem tB (O0:Own c0 G F) (y:aa) (p1:List Int){r:aa}(h2:Sl av c0 v1 y.L) (h4:Sl (RI .i32) c0 v3 p1) (H:iv y p1=some r): KP 84 #[.agg #[v1,I y.At.Row,I y.At.Col,B y.At.Pending,B y.Auto],v3] c0 fun c v=>∃y1,Own c G F/\v= .agg #[y1,I r.At.Row,I r.At.Col,B r.At.Pending,B r.Auto]/\Sl av c y1 r.L:=by
 unfold iv at H;refine en func84 rfl rfl<|sr ?_;obtain ⟨a5,a6,a7,rfl⟩:=(h2).form;refine me (al 31 [.slice a5 a6 a7,I y.At.Row,I y.At.Col,B y.At.Pending,B y.Auto] O0) ?_;rintro v11 u6 x6 ⟨o,rfl,O9⟩;refine me (al 31 [Y,I 0,I 0,B false,B false] O9) ?_;rintro v15 v6 y6 ⟨q,rfl,a4⟩;refine wln<|KE v3<|bn H fun k k4 H=>cl (pO a4 p1 h4.m k4) ?_;rintro v17 x0 z6 ⟨_,n,b4,rfl,i⟩;refine va v17<|KA<|KD 0<|wln<|W.block<|bn H fun h x1 t1=>lp x1 (fun a=>Jn x0 fun c l=>∃v28,Own c G (es true (RL (RI .i32)) v17 32 n k::(Eb q 31 [Y,I 0,I 0,B false,B false])::(Eb o 31 [v28,I a.2.2.1,I a.2.2.2.1,B a.2.2.2.2.1,B a.2.2.2.2.2])::F)/\l= [(2,Q o),(4,Q q),(5,v17),(6,I a.1)]/\Sl av c v28 a.2.1) (fun t ex e w=>ex= .exit 0/\(Jn x0 fun c l=>∃v29,Own c G (es true (RL (RI .i32)) v17 32 n k::(Eb q 31 [Y,I 0,I 0,B false,B false])::(Eb o 31 [v29,I t.2.1,I t.2.2.1,B t.2.2.2.1,B t.2.2.2.2])::F)/\l= [(2,Q o),(4,Q q)]/\Sl av c v29 t.1) e w) ?_ ?_ ?_
 ·clear t1 x1;intro a m5 z0 n1 H;revert z0 n1;rintro e_ w_ ⟨w1,w6,_,rfl,E,rfl,v28,i0,rfl,e1⟩;refine W.seq<|KD a.1<|va v17<|vx (lnO 3 py i.m)<|Kr (a.1<(k.length:Int))<|KH H (fun m4 H=>?_) (fun m4 H=>?_)
  ·refine KI<|bn H fun x d z3=>W.seqJ (Jn w1 fun c l=>∃v40,Own c G (es true (RL (RI .i32)) v17 32 n k::(Eb q 31 [Y,I 0,I 0,B false,B false])::(Eb o 31 [v40,I x.2.1,I x.2.2.1,B x.2.2.2.1,B x.2.2.2.2])::F)/\l= [(2,Q o),(4,Q q),(5,v17),(6,I a.1)]/\Sl av c v40 x.1) ?_ ?_
   ·refine W.block<|W.seq<|KE v17<|Ku a.1<|bn d fun s6 f1 d=>vx (ixO py i.m f1) ?_;obtain ⟨k6,n4,d5⟩:=OA.at (i.mono E) f1;obtain ⟨v45,rfl,z1⟩:=n4;refine vr v45 (rx (by kernel_rfl) (lM cI rfl (i0.on 0 rfl) (i.m.blk f1) (at1 (j:=0) d5 rfl)))<|bn d fun p3 b2 d=>?_;obtain ⟨l6,o4,e5⟩:=Sl.at z1 (aS b2);obtain rfl:=o4;refine vx (ix cI z1 b2)<|vx (l1 mj (e5 0 _ rfl))<|bn d fun q3 p4 d=>cl (kC i0 p3 p4) ?_;rintro v57 y0 e0 ⟨u1,rfl⟩;refine Kq (!q3)<|KH d (fun q4 d=>?_) (fun q4 d=>?_)
    ·refine W.seq<|rD [15] (Kp G0 [(Eb o 31 [v28,I a.2.2.1,I a.2.2.2.1,B a.2.2.2.2.1,B a.2.2.2.2.2]),es true (RL (RI .i32)) v17 32 n k]) u1 ?_;intro f4 c2 j0;have k1:=(Kp.cons (j0.on 2 rfl) (Kp.cons (j0.on 0 rfl) Kp.nil0));refine tkx 0 k1 (fun z s A=>leN 31 0 [v28,I a.2.2.1,I a.2.2.2.1,B a.2.2.2.2.1,B a.2.2.2.2.2] (A.on 0 rfl)) (ta 1 v17<|ta 2 (I a.1)<|bn d fun s3 g1 d=>tx 3 (fun z s=>ixO py i.m g1) ?_);obtain ⟨m6,r4,f5⟩:=OA.at (i.mono (E.trans (e0.trans c2))) g1;obtain ⟨k5,rfl,s4⟩:=r4;refine AC.takeK 4 k5 k1 rfl (by kernel_rfl) (by kernel_rfl) (by kernel_rfl) (fun z s A=>(rx (by kernel_rfl) (lM cI rfl (A.on 1 rfl) (i.m.blk g1) (at1 (j:=0) f5 rfl)))) (ta 6 v17<|ta 7 (I a.1)<|bn d fun t3 h1 d=>tx 8 (fun z s=>ixO py i.m h1) ?_);obtain ⟨n6,t4,g5⟩:=OA.at (i.mono (E.trans (e0.trans c2))) h1;obtain ⟨l5,rfl,u4⟩:=t4;refine AC.takeK 9 l5 k1 rfl (by kernel_rfl) (by kernel_rfl) (by kernel_rfl) (fun z s A=>(rx (by kernel_rfl) (lM cI rfl (A.on 1 rfl) (i.m.blk h1) (at1 (j:=0) g5 rfl)))) (bn d fun u3 v4 d=>o1 5 (gc 5 (sN j0 s3 s4 v4) ?_));rintro e7 g4 b7 ⟨k0,rfl⟩;have h5:=(Kp.cons (k0.on 2 rfl) (Kp.cons (k0.on 0 rfl) Kp.nil0));refine ⟨.inr h5,bn d fun w3 w4 d=>o1 10 (gc 10 (nM k0 t3 u4.m w4) ?_)⟩;rintro f7 i4 c7 ⟨_,d7,l0,rfl,x4⟩;have i5:=(Kp.cons (l0.on 3 rfl) (Kp.cons (l0.on 1 rfl) Kp.nil0));refine ⟨.inr i5,?_⟩;obtain ⟨j4,z4,c5,m0,y4⟩:=l0.frz 0 rfl x4;have j5:=(Kp.cons (m0.on 3 rfl) (Kp.cons (m0.on 1 rfl) Kp.nil0));refine AC.gh z4 c5 (fun _=>j5) (bn d fun f b5 d=>o1 11 (gc 11 (qu m0 (⟨a.2.1,(⟨a.2.2.1,a.2.2.2.1,a.2.2.2.2.1⟩:ai),a.2.2.2.2.2⟩:aa) u3 w3 e1.m y4 b5) ?_));rintro q6 m2 c6 ⟨d2,p6,M,rfl,X⟩;have l3:=(Kp.cons (M.on 4 rfl) (Kp.cons (M.on 2 rfl) Kp.nil0));refine ⟨.inr l3,ta 12 (.tuple #[.agg #[d2,I f.1.At.Row,I f.1.At.Col,B f.1.At.Pending,B f.1.Auto],.agg #[I f.2.Row,I f.2.Col,B f.2.Pending]]) (ta 13 (.agg #[d2,I f.1.At.Row,I f.1.At.Col,B f.1.At.Pending,B f.1.Auto])<|ta 14 (.agg #[I f.2.Row,I f.2.Col,B f.2.Pending]) ?_)⟩;obtain ⟨o0,q0,s0,rfl⟩:=(X).form;refine o1 15 (gD 15 (sA 31 [.slice o0 q0 s0,I f.1.At.Row,I f.1.At.Col,B f.1.At.Pending,B f.1.Auto] 4 M ⟨(X).one,rfl,rfl,rfl,rfl,trivial⟩) ?_);rintro u5 f3 e2;refine ⟨.inl rfl,dn (nrm<|W.exit<|thx<|KK ?_)⟩;cases d;obtain ⟨n2,w2,d6,f2,v2⟩:=e2.frz 0 rfl (X.mono f3);have g2:=f2.sD 5 [2,3,4];exact ⟨n2,_,_,w2.symm,pt,us,(.slice o0 q0 s0),g2,rfl,v2⟩
    refine KI<|KD 0<|wln<|W.block<|bn d fun o5 _ d=>bn d fun o6 a1 f0=>lp a1 (fun b=>Jn y0 fun c l=>∃p,Own c G (es true (RL (RI .i32)) v17 32 n k::(Eb q 31 [Y,I 0,I 0,B false,B false])::(Eb o 31 [p,I b.2.2.1,I b.2.2.2.1,B b.2.2.2.2.1,B b.2.2.2.2.2])::F)/\l= [(2,Q o),(4,Q q),(5,v17),(6,I a.1),(7,I b.1)]/\Sl av c p b.2.1) (fun u ex e w=>ex= .exit 2/\(Jn y0 fun c l=>∃D,Own c G (es true (RL (RI .i32)) v17 32 n k::(Eb q 31 [Y,I 0,I 0,B false,B false])::(Eb o 31 [D,I u.2.1,I u.2.2.1,B u.2.2.2.1,B u.2.2.2.2])::F)/\l= [(2,Q o),(4,Q q),(5,v17),(6,I a.1)]/\Sl av c D u.1) e w) ?_ ?_ ?_
    ·clear f0 a1;intro b m5 z0 n1 d;revert z0 n1;rintro e_ w_ ⟨o2,w5,_,rfl,i1,rfl,p,N,rfl,b1⟩;refine W.seq<|KD b.1<|va v17<|Ku a.1<|bn d fun x3 Z d=>vx (ixO py i.m Z) ?_;obtain ⟨p5,x2,h3⟩:=OA.at (i.mono (E.trans (e0.trans i1))) Z;obtain ⟨n3,rfl,y2⟩:=x2;refine vr n3 (rx (by kernel_rfl) (lM cI rfl (N.on 0 rfl) (i.m.blk Z) (at1 (j:=0) h3 rfl)))<|vx (ln 3 cI y2)<|Kr (b.1<(x3.length:Int))<|KH d (fun z2 d=>?_) (fun z2 d=>?_)
     ·refine KI<|KM<|rD [12] (Kp G0 [(Eb o 31 [p,I b.2.2.1,I b.2.2.2.1,B b.2.2.2.2.1,B b.2.2.2.2.2]),es true (RL (RI .i32)) v17 32 n k]) N ?_;intro p2 g3 P;have j1:=(Kp.cons (P.on 2 rfl) (Kp.cons (P.on 0 rfl) Kp.nil0));refine tkx 0 j1 (fun z s A=>leN 31 0 [p,I b.2.2.1,I b.2.2.2.1,B b.2.2.2.2.1,B b.2.2.2.2.2] (A.on 0 rfl)) (ta 1 v17<|ta 2 (I a.1)<|bn d fun t6 a0 d=>tx 3 (fun z s=>ixO py i.m a0) ?_);obtain ⟨q5,a3,i3⟩:=OA.at (i.mono (E.trans (e0.trans (i1.trans g3)))) a0;obtain ⟨o3,rfl,c1⟩:=a3;refine AC.takeK 4 o3 j1 rfl (by kernel_rfl) (by kernel_rfl) (by kernel_rfl) (fun z s A=>(rx (by kernel_rfl) (lM cI rfl (A.on 1 rfl) (i.m.blk a0) (at1 (j:=0) i3 rfl)))) (ta 5 (I b.1)<|bn d fun y3 d1 d=>?_);obtain ⟨r5,b3,j3⟩:=Sl.at c1 (aS d1);obtain rfl:=b3;refine tx 6 (fun z s=>ix cI c1 d1)<|tx 7 (fun z s=>l1 mj ((mm j3) 0 _ rfl))<|bn d fun g c3 d=>o1 8 (gc 8 (ug P (⟨b.2.1,(⟨b.2.2.1,b.2.2.2.1,b.2.2.2.2.1⟩:ai),b.2.2.2.2.2⟩:aa) y3 b1.m c3) ?_);rintro r6 q2 e6 ⟨m1,R,rfl,b0⟩;have m3:=(Kp.cons (R.on 2 rfl) (Kp.cons (R.on 0 rfl) Kp.nil0));refine ⟨.inr m3,ta 9 (.tuple #[.agg #[m1,I g.1.At.Row,I g.1.At.Col,B g.1.At.Pending,B g.1.Auto],B g.2]) (ta 10 (.agg #[m1,I g.1.At.Row,I g.1.At.Col,B g.1.At.Pending,B g.1.Auto])<|ta 11 (B g.2) ?_)⟩;obtain ⟨t0,u0,v0,rfl⟩:=(b0).form;refine o1 12 (gD 12 (sA 31 [.slice t0 u0 v0,I g.1.At.Row,I g.1.At.Col,B g.1.At.Pending,B g.1.Auto] 2 R ⟨b0.one,rfl,rfl,rfl,rfl,trivial⟩) ?_);rintro s2 f6 i2;refine ⟨.inl rfl,dn (KJ<|KF b.1<|Kv (b.1+1)<|WL.nil ?_)⟩;cases d;exact ⟨_,rfl,jn s2 ⟨(.slice t0 u0 v0),i2,rfl,b0.m⟩⟩
     refine W.exit<|thx ?_;cases d;exact ⟨_,rfl,rfl,jn o2 ⟨p,N,rfl,b1⟩⟩
    ·exact jn y0 ⟨v28,u1,rfl,e1.m⟩
    rintro _ e_ w_ ⟨rfl,t2,x5,_,rfl,g6,rfl,D,j2,rfl,d3⟩;refine bke<|KJ ?_;cases f0;exact jn t2 ⟨D,j2,rfl,d3⟩
   rintro e_ w_ ⟨u2,y5,_,rfl,h6,rfl,v40,k2,rfl,e3⟩;refine KF a.1<|Kv (a.1+1)<|WL.nil ?_;cases z3;exact ⟨_,rfl,jn u2 ⟨v40,k2,rfl,e3⟩⟩
  refine W.exit<|thx ?_;cases H;exact ⟨_,rfl,rfl,jn w1 ⟨v28,i0,rfl,e1⟩⟩
 ·exact jn x0 ⟨(.slice a5 a6 a7),b4,rfl,h2.m⟩
 rintro _ e_ w_ ⟨rfl,v5,z5,_,rfl,i6,rfl,v29,g0,rfl,d0⟩;refine KK<|sr<|vx (leN 31 0 [v29,I h.2.1,I h.2.2.1,B h.2.2.2.1,B h.2.2.2.2] (g0.on 2 rfl)) ?_;obtain ⟨S,T,U,rfl⟩:=(d0).form;refine md (sA 31 [.slice S T U,I h.2.1,I h.2.2.1,B h.2.2.2.1,B h.2.2.2.2] 1 g0 ⟨d0.one,rfl,rfl,rfl,rfl,trivial⟩) ?_;rintro w0 j6 h0;refine KG ?_;cases t1;have l2:=h0.sD 3 [];exact km (c:=w0) (vs:=[.slice S T U,I h.2.1,I h.2.2.1,B h.2.2.2.1,B h.2.2.2.2]) rfl (by kernel_rfl) (by kernel_rfl) (by kernel_rfl) (h0.on 1 rfl _ rfl).1 ⟨_,w0,rfl,rfl,pt,(.slice S T U),l2,rfl,d0.m⟩
def dD (p0:ay):Option Int:=
 (eu ([]:List Int) p0.Raw).bind fun a=>
 some (a.2.length:Int)
theorem lX (u:Own c0 G F) (a:ay){r:Int}(A:Sl av c0 v1 a.P.L) (D:Sl (RI .i32) c0 v3 a.Group) (q:Sl (RI .u8) c0 v5 a.Raw) (H:dD a=some r): KP 17 #[.agg #[v1,I a.P.At.Row,I a.P.At.Col,B a.P.At.Pending,B a.P.Auto,v3,v5,I a.Parts]] c0 fun c v=>Own c G F/\v=I r:=by
 unfold dD at H;refine en func17 rfl rfl<|sr ?_;obtain ⟨x,y,z,rfl⟩:=(A).form;obtain ⟨f,g,h,rfl⟩:=(D).form;obtain ⟨i,j,k,rfl⟩:=(q).form;refine me (bx 35 [.slice x y z,I a.P.At.Row,I a.P.At.Col,B a.P.At.Pending,B a.P.Auto,.slice f g h,.slice i j k,I a.Parts] u) ?_;rintro v20 E N ⟨l,rfl,b,s⟩;refine Ku 0<|KN<|Kw l (0+6)<|vx (l1 iN (s 6 _ rfl))<|bn H fun t o H=>cl (oH b ([]:List Int) a.Raw (Sl.nl _ _) q.m o) ?_;rintro v32 n R ⟨v22,S,v25,d,rfl,M,p⟩;refine va (.tuple #[v22,v25])<|va v22<|va v25<|va v22<|va v25<|wln<|KE v25<|vx (ln 3 tL p)<|Ku (t.2.length:Int)<|KG ?_;cases H;have e:=d.sD 1 [];exact KC n ⟨e,rfl⟩
def ek (p0:ay) (p1:List Int):Option ay:=
 (app ([]:List Int) p0.Raw).bind fun k=>
 (app k p1).bind fun d=>
 (iB d).bind fun c=>
 ((dD (⟨p0.P,p0.Group,d,p0.Parts⟩:ay)).bind fun f=>
 if decide (f>0) then
 (slc c 0 (w64 ((c.length:Int)-1))).bind fun g=>
 some g
 else
 some c).bind fun b=>
 (cH (σ:=Int×(List Int)) (τ:=(List Int)) (((b.length:Int)-p0.Parts).toNat+1) (fun a=>
 if decide (a.1<(b.length:Int)) then
 (idx b a.1).bind fun h=>
 (app ([]:List Int) a.2).bind fun i=>
 (app i ([h.R]:List Int)).bind fun j=>
 some (.inl ((w64 (a.1+1)),j))
 else
 some (.inr a.2)) (p0.Parts,p0.Group)).bind fun e=>
 some (⟨p0.P,e,d,(b.length:Int)⟩:ay)
theorem po (O0:Own c0 G F) (a:ay) (p1:List Int){r:ay}(h2:Sl av c0 v1 a.P.L) (h4:Sl (RI .i32) c0 v3 a.Group) (h6:Sl (RI .u8) c0 v5 a.Raw) (h8:Sl (RI .u8) c0 v7 p1) (H:ek a p1=some r): KP 16 #[.agg #[v1,I a.P.At.Row,I a.P.At.Col,B a.P.At.Pending,B a.P.Auto,v3,v5,I a.Parts],v7] c0 fun c v=>∃y1 y2 y3,Own c G F/\v= .agg #[y1,I r.P.At.Row,I r.P.At.Col,B r.P.At.Pending,B r.P.Auto,y2,y3,I r.Parts]/\Sl av c y1 r.P.L/\Sl (RI .i32) c y2 r.Group/\Sl (RI .u8) c y3 r.Raw:=by
 unfold ek at H;refine en func16 rfl rfl<|sr ?_;obtain ⟨j,h,i,rfl⟩:=(h2).form;obtain ⟨E,M,N,rfl⟩:=(h4).form;obtain ⟨r6,a16,s6,rfl⟩:=(h6).form;refine me (al 35 [.slice j h i,I a.P.At.Row,I a.P.At.Col,B a.P.At.Pending,B a.P.Auto,.slice E M N,.slice r6 a16 s6,I a.Parts] O0) ?_;rintro v21 o9 z9 ⟨g,rfl,l6⟩;refine me (al 35 [Y,I 0,I 0,B false,B false,Y,Y,I 0] l6) ?_;rintro v25 p9 l24 ⟨u,rfl,m6⟩;refine KN<|me (sl (RI .u8) 5 [] ([]:List Int) m6 trivial) ?_;rintro v30 q9 l29 ⟨u27,p2,y6⟩;refine va (.pointer (some ⟨g,6,none⟩))<|vx (le1 6 iN (p2.on 2 rfl))<|bn H fun x_7 z6 H=>me (ap (RI .u8) (.int .u8 0) 1 33 0 p2 y6 h6.m z6 iN) ?_;rintro v36 r9 l35 ⟨u33,n6,a7⟩;refine va v7<|bn H fun A b7 H=>me (ap (RI .u8) (.int .u8 0) 1 33 0 n6 a7 h8.m b7 iN) ?_;rintro v42 s9 l41 ⟨a1,o6,z⟩;refine va (.pointer (some ⟨g,6,none⟩)) ?_;obtain ⟨b,d,f,rfl⟩:=(z).form;refine md (sC 33 6 (.slice b d f) [.slice j h i,I a.P.At.Row,I a.P.At.Col,B a.P.At.Pending,B a.P.Auto,.slice E M N,.slice b d f,I a.Parts] 2 o6 ⟨(z).one,trivial⟩) ?_;rintro t9 i2 q2;refine KN<|Kw g 6<|vx (le1 6 iN (q2.on 2 rfl)) ?_;obtain ⟨u9,d7,z2,p6,c7⟩:=q2.frz 0 rfl (z.mono i2);refine WL.gh d7 (bn H fun y e7 H=>cl (tG p6 A c7 e7) ?_);rintro v53 u6 a3 ⟨_,b1,w1,rfl,y0⟩;refine va v53<|wln<|bn H fun s t o=>W.seqJ (Jn u6 fun c l=>∃p,Own c G (es false bw v53 106 b1 y::es false (RI .u8) (.slice b d f) 5 a1 A::(Eb u 35 [Y,I 0,I 0,B false,B false,Y,Y,I 0])::(Eb g 35 [.slice j h i,I a.P.At.Row,I a.P.At.Col,B a.P.At.Pending,B a.P.Auto,.slice E M N,.slice b d f,I a.Parts])::F)/\l= [(2,Q g),(4,Q u),(5,p)]/\Sl bw c p s) ?_ ?_
 ·refine sr<|vx (leN 35 0 [.slice j h i,I a.P.At.Row,I a.P.At.Col,B a.P.At.Pending,B a.P.Auto,.slice E M N,.slice b d f,I a.Parts] (w1.on 3 rfl)) ?_;have g7:=w1.slf 1 rfl (z.mono (i2.trans (z2.trans a3)));refine bn t fun k6 h7 t=>cl (lX w1 (⟨a.P,a.Group,A,a.Parts⟩:ay) h2.m h4.m g7 h7) ?_;rintro v72 v9 j2 ⟨s2,rfl⟩;refine Kr (k6>0)<|KH t (fun i7 t=>?_) (fun i7 t=>?_)
  ·refine W.region<|vv v53<|vx (lnO 3 xX y0.m)<|Kx ((y.length:Int)-1)<|bn t fun m9 j7 t=>?_;obtain ⟨v6,l7,l77,q6,k7⟩:=s2.frz 0 rfl (y0.mono j2);refine WL.gh l7 ?_;obtain ⟨k2,m7,n7⟩:=rZ (k':= .i64) xX (by kernel_rfl) k7 j7;refine vr k2 (rx (by kernel_rfl) (m7 _))<|va k2<|wln ?_;cases t;exact jn v6 ⟨k2,q6,rfl,n7⟩
  refine KI ?_;cases t;obtain ⟨w6,o7,q7,t2,y9⟩:=s2.frz 0 rfl (y0.mono j2);have p7:=t2.slf 0 rfl (y0.mono (j2.trans q7));exact ⟨w6,_,_,o7.symm,pt,us,v53,t2,rfl,p7⟩
 rintro e_ w_ ⟨z1,w9,_,rfl,r7,rfl,p,u2,rfl,z0⟩;refine W.seq<|sr<|Kw g 7<|vx (le1 7 u_3 (u2.on 3 rfl))<|Ku a.Parts<|wln<|W.block<|bn o fun x8 w2 o2=>lp w2 (fun n=>Jn z1 fun c l=>∃k,Own c G (es false bw v53 106 b1 y::es false (RI .u8) (.slice b d f) 5 a1 A::(Eb u 35 [Y,I 0,I 0,B false,B false,Y,Y,I 0])::(Eb g 35 [.slice j h i,I a.P.At.Row,I a.P.At.Col,B a.P.At.Pending,B a.P.Auto,k,.slice b d f,I a.Parts])::F)/\l= [(2,Q g),(4,Q u),(5,p),(6,I n.1)]/\Sl (RI .i32) c k n.2) (fun n2 ex e w=>ex= .exit 0/\(Jn z1 fun c l=>∃S,Own c G (es false bw v53 106 b1 y::es false (RI .u8) (.slice b d f) 5 a1 A::(Eb u 35 [Y,I 0,I 0,B false,B false,Y,Y,I 0])::(Eb g 35 [.slice j h i,I a.P.At.Row,I a.P.At.Col,B a.P.At.Pending,B a.P.Auto,S,.slice b d f,I a.Parts])::F)/\l= [(2,Q g),(4,Q u),(5,p)]/\Sl (RI .i32) c S n2) e w) ?_ ?_ ?_
 ·clear o2 w2;intro n xx_ x6 u7 o;revert x6 u7;rintro e_ w_ ⟨v2,x9,_,rfl,s7,rfl,k,c1,rfl,D⟩;refine W.seq<|KD n.1<|va p<|vx (ln 3 xX z0.m)<|Kr (n.1<(s.length:Int))<|KH o (fun i4 o=>?_) (fun i4 o=>?_)
  ·refine KI<|KM<|bn o fun q b2 o=>bn o fun n9 m0 o=>bn o fun l2 o0 o=>W.join (Jn v2 fun c l=>∃x0 v0 x w0,Own c G (es false (RI .i32) x0 21 v0 ([q.R]:List Int)::es true (RI .i32) x 21 w0 l2::es false bw v53 106 b1 y::es false (RI .u8) (.slice b d f) 5 a1 A::(Eb u 35 [Y,I 0,I 0,B false,B false,Y,Y,I 0])::(Eb g 35 [.slice j h i,I a.P.At.Row,I a.P.At.Col,B a.P.At.Pending,B a.P.Auto,x,.slice b d f,I a.Parts])::F)/\l= [(2,Q g),(4,Q u),(5,p),(6,I n.1)]/\OA (RI .i32) c x0 v0 ([q.R]:List Int)/\OA (RI .i32) c x w0 l2) ?_ ?_
   ·clear o;refine rD [12] (Kp G0 [(Eb g 35 [.slice j h i,I a.P.At.Row,I a.P.At.Col,B a.P.At.Pending,B a.P.Auto,k,.slice b d f,I a.Parts])]) c1 ?_;intro k3 z4 T;have j5:=(Kp.cons (T.on 3 rfl) Kp.nil0);refine ta 1 (.pointer (some ⟨g,5,none⟩))<|tkx 2 j5 (fun c' x2 hk=>le1 5 cI (hk.on 0 rfl)) (ta 4 p<|ta 5 (I n.1) ?_);obtain ⟨z7,j4,i5⟩:=Sl.at (z0.mono (s7.trans z4)) (aS b2);obtain rfl:=j4;refine tx 6 (fun c' x2=>ix xX z0.m b2)<|ta 7 (Qo (sb p) (so p+n.1.toNat*5))<|tx 8 (fun c' x2=>l1 mj ((mm i5) 0 _ rfl))<|mn2 0 9 ?_ ?_
    ·refine gm 0 (sl (RI .i32) 21 [] ([]:List Int) T trivial) ?_;rintro e9 l3 k8 ⟨y8,U,c2⟩;have k5:=(Kp.cons (U.on 4 rfl) Kp.nil0);refine ⟨.inr k5,mn2 3 9 ?_ ?_⟩
     ·refine gm 3 (ap (RI .i32) (J 0) 4 32 0 U c2 D.m m0 cI) ?_;rintro f9 m3 l8 ⟨z8,d1,k4⟩;have l5:=(Kp.cons (d1.on 4 rfl) Kp.nil0);refine ⟨.inr l5,o1 9 (gm 9 (sl (RI .i32) 21 [[J q.R]] ([q.R]:List Int) d1 ⟨rfl,trivial⟩) ?_)⟩;rintro f6 n3 m8 ⟨z5,e1,d2⟩;have m5:=(Kp.cons (e1.on 5 rfl) Kp.nil0);refine ⟨.inr m5,?_⟩;obtain ⟨o3,m4,a5,f1,l4⟩:=e1.frz 0 rfl d2;have n5:=(Kp.cons (f1.on 5 rfl) Kp.nil0);refine AC.gh m4 a5 (fun _=>n5) (o1 10 (gm 10 (ap (RI .i32) (J 0) 4 32 1 f1 k4.m l4 o0 cI) ?_));rintro g9 p3 n8 ⟨a6,g1,q0⟩;have o5:=(Kp.cons (g1.on 5 rfl) Kp.nil0);refine ⟨.inr o5,ta 11 (.pointer (some ⟨g,5,none⟩)) ?_⟩;obtain ⟨Z,a0,b0,rfl⟩:=(q0).form;refine o1 12 (gD 12 (sC 32 5 (.slice Z a0 b0) [.slice j h i,I a.P.At.Row,I a.P.At.Col,B a.P.At.Pending,B a.P.Auto,.slice Z a0 b0,.slice b d f,I a.Parts] 5 g1 ⟨(q0).one,trivial⟩) ?_);rintro q3 o8 b3;exact ⟨.inl rfl,dn (nrm<|jn q3 ⟨f6,z5,(.slice Z a0 b0),a6,b3,rfl,d2.m,q0.m⟩)⟩
     refine gm 9 (sl (RI .i32) 21 [[J q.R]] ([q.R]:List Int) U ⟨rfl,trivial⟩) ?_;rintro g6 s3 p8 ⟨b6,h1,e2⟩;have p5:=(Kp.cons (h1.on 5 rfl) Kp.nil0);refine ⟨.inr p5,o1 3 (gm 3 (ap (RI .i32) (J 0) 4 32 1 h1 c2.m D.m m0 cI) ?_)⟩;rintro h9 t3 b5 ⟨b9,i1,n4⟩;have q5:=(Kp.cons (i1.on 5 rfl) Kp.nil0);refine ⟨.inr q5,?_⟩;obtain ⟨u3,p4,c5,j1,o4⟩:=i1.frz 0 rfl (e2.mono b5);have r5:=(Kp.cons (j1.on 5 rfl) Kp.nil0);refine AC.gh p4 c5 (fun _=>r5) (o1 10 (gm 10 (ap (RI .i32) (J 0) 4 32 1 j1 n4.m o4 o0 cI) ?_));rintro i9 w3 q8 ⟨c6,k1,s0⟩;have s5:=(Kp.cons (k1.on 5 rfl) Kp.nil0);refine ⟨.inr s5,ta 11 (.pointer (some ⟨g,5,none⟩)) ?_⟩;obtain ⟨d0,e0,f0,rfl⟩:=(s0).form;refine o1 12 (gD 12 (sC 32 5 (.slice d0 e0 f0) [.slice j h i,I a.P.At.Row,I a.P.At.Col,B a.P.At.Pending,B a.P.Auto,.slice d0 e0 f0,.slice b d f,I a.Parts] 5 k1 ⟨(s0).one,trivial⟩) ?_);rintro x3 r8 c3;exact ⟨.inl rfl,dn (nrm<|jn x3 ⟨g6,b6,(.slice d0 e0 f0),c6,c3,rfl,e2.m,s0.m⟩)⟩
    refine gm 9 (sl (RI .i32) 21 [[J q.R]] ([q.R]:List Int) T ⟨rfl,trivial⟩) ?_;rintro i6 z3 s8 ⟨d6,m1,f2⟩;have t5:=(Kp.cons (m1.on 4 rfl) Kp.nil0);refine ⟨.inr t5,o1 0 (gm 0 (sl (RI .i32) 21 [] ([]:List Int) m1 trivial) ?_)⟩;rintro j9 a4 d5 ⟨c9,n1,q4⟩;have u5:=(Kp.cons (n1.on 5 rfl) Kp.nil0);refine ⟨.inr u5,o1 3 (gm 3 (ap (RI .i32) (J 0) 4 32 0 n1 q4 D.m m0 cI) ?_)⟩;rintro k9 b4 e5 ⟨d9,q1,r4⟩;have w5:=(Kp.cons (q1.on 5 rfl) Kp.nil0);refine ⟨.inr w5,?_⟩;obtain ⟨c4,t4,f5,s1,s4⟩:=q1.frz 1 rfl (f2.mono (d5.trans e5));have x5:=(Kp.cons (s1.on 5 rfl) Kp.nil0);refine AC.gh t4 f5 (fun _=>x5) (o1 10 (gm 10 (ap (RI .i32) (J 0) 4 32 0 s1 r4.m s4 o0 cI) ?_));rintro l9 d4 t8 ⟨e6,t1,t0⟩;have y5:=(Kp.cons (t1.on 5 rfl) Kp.nil0);refine ⟨.inr y5,ta 11 (.pointer (some ⟨g,5,none⟩)) ?_⟩;obtain ⟨g0,h0,i0,rfl⟩:=(t0).form;refine o1 12 (gD 12 (sC 32 5 (.slice g0 h0 i0) [.slice j h i,I a.P.At.Row,I a.P.At.Col,B a.P.At.Pending,B a.P.Auto,.slice g0 h0 i0,.slice b d f,I a.Parts] 5 t1 ⟨(t0).one,trivial⟩) ?_);rintro e4 u8 d3;refine ⟨.inl rfl,dn (nrm ?_)⟩;have e3:=d3.sD 6 [1,0,2,3,4,5];exact jn e4 ⟨i6,d6,(.slice g0 h0 i0),e6,e3,rfl,f2.m,t0.m⟩
   rintro e_ w_ ⟨b8,e8,_,rfl,v8,rfl,x0,v0,x,w0,f3,rfl,g8,u4⟩;refine KJ<|KF n.1<|Kv (n.1+1)<|WL.nil ?_;cases o;refine ⟨_,rfl,?_⟩;obtain ⟨f4,w4,w8,g3,v4⟩:=f3.frz 1 rfl u4;have h3:=g3.sD 6 [2,3,4,5];exact ⟨f4,_,_,w4.symm,pt,us,x,h3,rfl,v4⟩
  refine W.exit<|thx ?_;cases o;exact ⟨_,rfl,rfl,jn v2 ⟨k,c1,rfl,D⟩⟩
 ·exact jn z1 ⟨(.slice E M N),u2,rfl,h4.m⟩
 rintro _ e_ w_ ⟨rfl,c8,f8,_,rfl,g5,rfl,S,i3,rfl,u0⟩;refine KK<|KE p<|vx (ln 3 xX z0.m)<|Kw g 7<|md (sC 3 7 (I (s.length:Int)) [.slice j h i,I a.P.At.Row,I a.P.At.Col,B a.P.At.Pending,B a.P.Auto,S,.slice b d f,I (s.length:Int)] 3 i3 ⟨rfl,trivial⟩) ?_;rintro d8 g2 u1;refine KN<|vx (leN 35 0 [.slice j h i,I a.P.At.Row,I a.P.At.Col,B a.P.At.Pending,B a.P.Auto,S,.slice b d f,I (s.length:Int)] (u1.on 3 rfl)) ?_;obtain ⟨j0,k0,l0,rfl⟩:=((u0.mono g2)).form;refine md (sA 35 [.slice j h i,I a.P.At.Row,I a.P.At.Col,B a.P.At.Pending,B a.P.Auto,.slice j0 k0 l0,.slice b d f,I (s.length:Int)] 2 u1 ⟨h2.m.one,rfl,rfl,rfl,rfl,u0.m.one,z.m.one,rfl,trivial⟩) ?_;rintro x1 h5 X;refine KG ?_;cases o2;have x4:=X.slf 1 rfl (z.mono (i2.trans (z2.trans (a3.trans (r7.trans (g5.trans (g2.trans h5)))))));have j3:=X.sD 4 [];exact km (c:=x1) (vs:=[.slice j h i,I a.P.At.Row,I a.P.At.Col,B a.P.At.Pending,B a.P.Auto,.slice j0 k0 l0,.slice b d f,I (s.length:Int)]) rfl (by kernel_rfl) (by kernel_rfl) (by kernel_rfl) (X.on 2 rfl _ rfl).1 ⟨_,x1,rfl,rfl,pt,(.slice j h i),(.slice j0 k0 l0),(.slice b d f),j3,rfl,h2.m,u0.m,x4⟩
def eF (p0:ay) (p1:Int):Option ay:=
 ((dg p1).bind fun c=>
 if (!c)=true then
 some 65533
 else
 some p1).bind fun d=>
 (app ([]:List Int) p0.Group).bind fun a=>
 (app a ([d]:List Int)).bind fun b=>
 some (⟨p0.P,b,p0.Raw,p0.Parts⟩:ay)
theorem pB (O0:Own c0 G F) (a:ay) (t:Int){r:ay}(S:Sl av c0 v1 a.P.L) (h4:Sl (RI .i32) c0 v3 a.Group) (T:Sl (RI .u8) c0 v5 a.Raw) (H:eF a t=some r): KP 18 #[.agg #[v1,I a.P.At.Row,I a.P.At.Col,B a.P.At.Pending,B a.P.Auto,v3,v5,I a.Parts],J t] c0 fun c v=>∃y1 U y3 y4,Own c G (es true (RI .i32) U 21 y3 r.Group::F)/\v= .agg #[y1,I r.P.At.Row,I r.P.At.Col,B r.P.At.Pending,B r.P.Auto,U,y4,I r.Parts]/\Sl av c y1 r.P.L/\OA (RI .i32) c U y3 r.Group/\Sl (RI .u8) c y4 r.Raw:=by
 unfold eF at H;refine en func18 rfl rfl<|sr ?_;obtain ⟨k,n,o,rfl⟩:=(S).form;obtain ⟨A,D,E,rfl⟩:=(h4).form;obtain ⟨d,e,f,rfl⟩:=(T).form;refine me (al 35 [.slice k n o,I a.P.At.Row,I a.P.At.Col,B a.P.At.Pending,B a.P.Auto,.slice A D E,.slice d e f,I a.Parts] O0) ?_;rintro v19 d1 n1 ⟨p,rfl,X⟩;refine me (al 35 [Y,I 0,I 0,B false,B false,Y,Y,I 0] X) ?_;rintro v23 h0 q1 ⟨M,rfl,Z⟩;refine wln<|bn H fun s b j=>W.seqJ (Jn h0 fun c l=>Own c G ((Eb M 35 [Y,I 0,I 0,B false,B false,Y,Y,I 0])::(Eb p 35 [.slice k n o,I a.P.At.Row,I a.P.At.Col,B a.P.At.Pending,B a.P.Auto,.slice A D E,.slice d e f,I a.Parts])::F)/\l= [(1,J s),(2,Q p),(4,Q M)]) ?_ ?_
 ·refine KE (J t)<|bn b fun w0 i0 b=>cl (nO Z t i0) ?_;rintro v32 N s1 ⟨u,rfl⟩;refine Kq (!w0)<|KH b (fun j0 b=>?_) (fun j0 b=>?_)
  ·refine Kz (J 65533)<|wln ?_;cases b;exact jn N ⟨u,rfl⟩
  refine KI ?_;cases b;exact jn N ⟨u,rfl⟩
 rintro e_ w_ ⟨e1,m1,_,rfl,t1,rfl,a0,rfl⟩;refine sr<|me (sl (RI .i32) 21 [] ([]:List Int) a0 trivial) ?_;rintro v44 f1 u1 ⟨e2,x,l0⟩;refine va (.pointer (some ⟨p,5,none⟩))<|vx (le1 5 cI (x.on 2 rfl))<|bn j fun b1 m0 j=>me (ap (RI .i32) (J 0) 4 32 0 x l0 h4.m m0 cI) ?_;rintro v50 g1 w1 ⟨f2,b0,o0⟩;refine va (J s)<|me (sl (RI .i32) 21 [[J s]] ([s]:List Int) b0 ⟨rfl,trivial⟩) ?_;rintro v55 h1 x1 ⟨g2,d0,q0⟩;obtain ⟨i1,t0,z1,e0,s0⟩:=d0.frz 0 rfl q0;refine WL.gh t0 (bn j fun c1 u0 j=>me (ap (RI .i32) (J 0) 4 32 1 e0 o0.m s0 u0 cI) ?_);rintro i2 j1 b2 ⟨v0,f0,q⟩;refine va (.pointer (some ⟨p,5,none⟩)) ?_;obtain ⟨g,h,i,rfl⟩:=(q).form;refine md (sC 32 5 (.slice g h i) [.slice k n o,I a.P.At.Row,I a.P.At.Col,B a.P.At.Pending,B a.P.Auto,.slice g h i,.slice d e f,I a.Parts] 3 f0 ⟨(q).one,trivial⟩) ?_;rintro k1 c2 y;refine KN<|vx (leN 35 0 [.slice k n o,I a.P.At.Row,I a.P.At.Col,B a.P.At.Pending,B a.P.Auto,.slice g h i,.slice d e f,I a.Parts] (y.on 3 rfl))<|md (sA 35 [.slice k n o,I a.P.At.Row,I a.P.At.Col,B a.P.At.Pending,B a.P.Auto,.slice g h i,.slice d e f,I a.Parts] 2 y ⟨S.m.one,rfl,rfl,rfl,rfl,q.m.one,T.m.one,rfl,trivial⟩) ?_;rintro R d2 z;refine KG ?_;cases j;have g0:=z.sD 4 [1];exact km (c:=R) (vs:=[.slice k n o,I a.P.At.Row,I a.P.At.Col,B a.P.At.Pending,B a.P.Auto,.slice g h i,.slice d e f,I a.Parts]) rfl (by kernel_rfl) (by kernel_rfl) (by kernel_rfl) (z.on 2 rfl _ rfl).1 ⟨_,R,rfl,rfl,pt,(.slice k n o),(.slice g h i),v0,(.slice d e f),g0,rfl,S.m,q.m,T.m⟩
def dM (p0:ay):Option aa:=
 (iv p0.P p0.Group).bind fun a=>
 some a
theorem mz (U:Own c0 G F) (a:ay){r:aa}(N:Sl av c0 v1 a.P.L) (S:Sl (RI .i32) c0 v3 a.Group) (X:Sl (RI .u8) c0 v5 a.Raw) (H:dM a=some r): KP 36 #[.agg #[v1,I a.P.At.Row,I a.P.At.Col,B a.P.At.Pending,B a.P.Auto,v3,v5,I a.Parts]] c0 fun c v=>∃T,Own c G F/\v= .agg #[T,I r.At.Row,I r.At.Col,B r.At.Pending,B r.Auto]/\Sl av c T r.L:=by
 unfold dM at H;refine en func36 rfl rfl<|sr ?_;obtain ⟨D,E,M,rfl⟩:=(N).form;obtain ⟨t,u,x,rfl⟩:=(S).form;obtain ⟨y,z,A,rfl⟩:=(X).form;refine me (bx 35 [.slice D E M,I a.P.At.Row,I a.P.At.Col,B a.P.At.Pending,B a.P.Auto,.slice t u x,.slice y z A,I a.Parts] U) ?_;rintro v20 a0 e0 ⟨i,rfl,o,n⟩;refine me (al 31 [Y,I 0,I 0,B false,B false] o) ?_;rintro v24 b0 f0 ⟨Z,rfl,p⟩;refine wln<|KE (Q i)<|vx (lN 31 (Cd (k:=0) (l:=[.slice D E M,I a.P.At.Row,I a.P.At.Col,B a.P.At.Pending,B a.P.Auto]) (mm n) rfl))<|Kw i (0+5)<|vx (l1 cI ((mm n) 5 _ rfl))<|bn H fun b R H=>cl (tB p a.P a.Group N.m S.m R) ?_;rintro v33 d0 g0 ⟨v26,q,rfl,g⟩;obtain ⟨d,e,f,rfl⟩:=(g).form;refine md (sA 31 [.slice d e f,I b.At.Row,I b.At.Col,B b.At.Pending,B b.Auto] 0 q ⟨g.one,rfl,rfl,rfl,rfl,trivial⟩) ?_;rintro j h0 h;refine KG ?_;obtain rfl:=si H;have s:=h.sD 1 [];exact km (c:=j) (vs:=[.slice d e f,I b.At.Row,I b.At.Col,B b.At.Pending,B b.Auto]) rfl (by kernel_rfl) (by kernel_rfl) (by kernel_rfl) (h.on 0 rfl _ rfl).1 ⟨_,j,rfl,rfl,pt,(.slice d e f),s,rfl,g.m⟩
def db (p0:ay):Option ay:=
 (dM p0).bind fun a=>
 some (⟨a,([]:List Int),p0.Raw,p0.Parts⟩:ay)
theorem jd (O0:Own c0 G F) (b:ay){r:ay}(T:Sl av c0 v1 b.P.L) (X:Sl (RI .i32) c0 v3 b.Group) (q:Sl (RI .u8) c0 v5 b.Raw) (H:db b=some r): KP 88 #[.agg #[v1,I b.P.At.Row,I b.P.At.Col,B b.P.At.Pending,B b.P.Auto,v3,v5,I b.Parts]] c0 fun c v=>∃y1 y y3 y4,Own c G (es true (RI .i32) y 21 y3 r.Group::F)/\v= .agg #[y1,I r.P.At.Row,I r.P.At.Col,B r.P.At.Pending,B r.P.Auto,y,y4,I r.Parts]/\Sl av c y1 r.P.L/\OA (RI .i32) c y y3 r.Group/\Sl (RI .u8) c y4 r.Raw:=by
 unfold db at H;refine en func88 rfl rfl<|sr ?_;obtain ⟨N,R,S,rfl⟩:=(T).form;obtain ⟨l,n,o,rfl⟩:=(X).form;obtain ⟨d,f,g,rfl⟩:=(q).form;refine me (al 35 [.slice N R S,I b.P.At.Row,I b.P.At.Col,B b.P.At.Pending,B b.P.Auto,.slice l n o,.slice d f g,I b.Parts] O0) ?_;rintro v19 g0 l0 ⟨x,rfl,z⟩;refine me (al 35 [Y,I 0,I 0,B false,B false,Y,Y,I 0] z) ?_;rintro v23 h0 m0 ⟨f0,rfl,s⟩;refine KN<|vx (leN 35 0 [.slice N R S,I b.P.At.Row,I b.P.At.Col,B b.P.At.Pending,B b.P.Auto,.slice l n o,.slice d f g,I b.Parts] (s.on 1 rfl))<|bn H fun a U H=>cl (mz s b T.m X.m q.m U) ?_;rintro v32 i0 o0 ⟨v25,A,rfl,k⟩;refine va (Q x) ?_;obtain ⟨h,i,j,rfl⟩:=(k).form;refine md (sB 31 0 [.slice h i j,I a.At.Row,I a.At.Col,B a.At.Pending,B a.Auto] [.slice h i j,I a.At.Row,I a.At.Col,B a.At.Pending,B a.Auto,.slice l n o,.slice d f g,I b.Parts] 1 A ⟨k.one,rfl,rfl,rfl,rfl,trivial⟩) ?_;rintro j0 q0 D;refine KN<|Kw x 5<|md (sC 32 5 Y [.slice h i j,I a.At.Row,I a.At.Col,B a.At.Pending,B a.Auto,Y,.slice d f g,I b.Parts] 1 D ⟨rfl,trivial⟩) ?_;rintro k0 s0 t;refine KN<|vx (leN 35 0 [.slice h i j,I a.At.Row,I a.At.Col,B a.At.Pending,B a.Auto,Y,.slice d f g,I b.Parts] (t.on 1 rfl))<|md (sA 35 [.slice h i j,I a.At.Row,I a.At.Col,B a.At.Pending,B a.Auto,Y,.slice d f g,I b.Parts] 0 t ⟨k.m.one,rfl,rfl,rfl,rfl,rfl,q.m.one,rfl,trivial⟩) ?_;rintro p t0 E;refine KG ?_;cases H;have Z:OA (RI .i32) p Y [] []:=OA.nil (aO _);have u:=E.addHole (e:=es true (RI .i32) Y 21 [] ([]:List Int)) rfl;have M:=u.sD 3 [0];exact km (c:=p) (vs:=[.slice h i j,I a.At.Row,I a.At.Col,B a.At.Pending,B a.Auto,Y,.slice d f g,I b.Parts]) rfl (by kernel_rfl) (by kernel_rfl) (by kernel_rfl) (u.on 1 rfl _ rfl).1 ⟨_,p,rfl,rfl,pt,(.slice h i j),(Y),[],(.slice d f g),M,rfl,k.m,Z,q.m⟩
def ej (p0:ay):Option ay:=
 ((dD p0).bind fun d=>
 if decide (d>0) then
 (eF p0 65533).bind fun a=>
 some (a.P.L,a.P.At.Row,a.P.At.Col,a.P.At.Pending,a.P.Auto,a.Group,a.Raw,a.Parts)
 else
 some (p0.P.L,p0.P.At.Row,p0.P.At.Col,p0.P.At.Pending,p0.P.Auto,p0.Group,p0.Raw,p0.Parts)).bind fun b=>
 (db (⟨(⟨b.1,(⟨b.2.1,b.2.2.1,b.2.2.2.1⟩:ai),b.2.2.2.2.1⟩:aa),b.2.2.2.2.2.1,([]:List Int),0⟩:ay)).bind fun c=>
 some c
theorem pm (O0:Own c0 G F) (b:ay){r:ay}(h2:Sl av c0 v1 b.P.L) (h4:Sl (RI .i32) c0 v3 b.Group) (h6:Sl (RI .u8) c0 v5 b.Raw) (H:ej b=some r): KP 87 #[.agg #[v1,I b.P.At.Row,I b.P.At.Col,B b.P.At.Pending,B b.P.Auto,v3,v5,I b.Parts]] c0 fun c v=>∃y1 y2 y3 y4,Own c G (es true (RI .i32) y2 21 y3 r.Group::F)/\v= .agg #[y1,I r.P.At.Row,I r.P.At.Col,B r.P.At.Pending,B r.P.Auto,y2,y4,I r.Parts]/\Sl av c y1 r.P.L/\OA (RI .i32) c y2 y3 r.Group/\Sl (RI .u8) c y4 r.Raw:=by
 unfold ej at H;refine en func87 rfl rfl<|sr ?_;obtain ⟨a7,a8,a9,rfl⟩:=(h2).form;obtain ⟨j,k,n,rfl⟩:=(h4).form;obtain ⟨o,p,q,rfl⟩:=(h6).form;refine me (al 35 [.slice a7 a8 a9,I b.P.At.Row,I b.P.At.Col,B b.P.At.Pending,B b.P.Auto,.slice j k n,.slice o p q,I b.Parts] O0) ?_;rintro v19 f2 p2 ⟨s,rfl,y0⟩;refine me (al 35 [Y,I 0,I 0,B false,B false,Y,Y,I 0] y0) ?_;rintro v23 g1 q2 ⟨v0,rfl,h0⟩;refine wln<|bn H fun a e t=>W.seqJ (Jn g1 fun c l=>∃v26 v27 v28,Own c G ((Eb v0 35 [Y,I 0,I 0,B false,B false,Y,Y,I 0])::(Eb s 35 [v26,I a.2.1,I a.2.2.1,B a.2.2.2.1,B a.2.2.2.2.1,v27,v28,I a.2.2.2.2.2.2.2])::F)/\l= [(1,Q s),(2,Q v0)]/\Sl av c v26 a.1/\Sl (RI .i32) c v27 a.2.2.2.2.2.1/\Sl (RI .u8) c v28 a.2.2.2.2.2.2.1) ?_ ?_
 ·refine sr<|vx (leN 35 0 [.slice a7 a8 a9,I b.P.At.Row,I b.P.At.Col,B b.P.At.Pending,B b.P.Auto,.slice j k n,.slice o p q,I b.Parts] (h0.on 1 rfl))<|bn e fun x1 j1 e=>cl (lX h0 b h2.m h4.m h6.m j1) ?_;rintro v35 h1 s2 ⟨x,rfl⟩;refine Kr (x1>0)<|KH e (fun k1 e=>?_) (fun k1 e=>?_)
  ·refine W.region<|vx (leN 35 0 [.slice a7 a8 a9,I b.P.At.Row,I b.P.At.Col,B b.P.At.Pending,B b.P.Auto,.slice j k n,.slice o p q,I b.Parts] (x.on 1 rfl))<|bn e fun f m1 e=>cl (pB x b 65533 h2.m h4.m h6.m m1) ?_;rintro v50 g2 t2 ⟨v38,v40,a3,v43,z0,rfl,R,S,T⟩;obtain ⟨j0,k0,l0,rfl⟩:=(R).form;obtain ⟨m0,o0,q0,rfl⟩:=(S).form;obtain ⟨s0,t0,u0,rfl⟩:=(T).form;refine md (sA 35 [.slice j0 k0 l0,I f.P.At.Row,I f.P.At.Col,B f.P.At.Pending,B f.P.Auto,.slice m0 o0 q0,.slice s0 t0 u0,I f.Parts] 2 z0 ⟨R.one,rfl,rfl,rfl,rfl,(S).one,T.one,rfl,trivial⟩) ?_;rintro i2 u1 a1;refine wln ?_;obtain rfl:=si e;obtain ⟨i1,p1,u2,b1,n1⟩:=a1.frz 0 rfl (S.mono u1);have c1:=b1.sD 3 [1,2];exact ⟨i1,_,_,p1.symm,pt,us,(.slice j0 k0 l0),(.slice m0 o0 q0),(.slice s0 t0 u0),c1,rfl,R.m,n1,T.m⟩
  refine KI ?_;obtain rfl:=si e;exact jn h1 ⟨(.slice a7 a8 a9),(.slice j k n),(.slice o p q),x,rfl,h2.m,h4.m,h6.m⟩
 rintro e_ w_ ⟨j2,n2,_,rfl,v2,rfl,v26,v27,v28,d1,rfl,q1,s1,o2⟩;refine sr<|Kw s 6<|md (sC 33 6 Y [v26,I a.2.1,I a.2.2.1,B a.2.2.2.1,B a.2.2.2.2.1,v27,Y,I a.2.2.2.2.2.2.2] 1 d1 ⟨rfl,trivial⟩) ?_;rintro k2 w2 e1;refine KN<|Kw s 7<|md (sC 3 7 (I 0) [v26,I a.2.1,I a.2.2.1,B a.2.2.2.1,B a.2.2.2.2.1,v27,Y,I 0] 1 e1 ⟨rfl,trivial⟩) ?_;rintro l2 x2 i0;refine KN<|vx (leN 35 0 [v26,I a.2.1,I a.2.2.1,B a.2.2.2.1,B a.2.2.2.2.1,v27,Y,I 0] (i0.on 1 rfl))<|bn t fun d t1 t=>cl (jd i0 (⟨(⟨a.1,(⟨a.2.1,a.2.2.1,a.2.2.2.1⟩:ai),a.2.2.2.2.1⟩:aa),a.2.2.2.2.2.1,([]:List Int),0⟩:ay) q1.m s1.m (Sl.nl _ _) t1) ?_;rintro e3 m2 z2 ⟨b3,c3,w1,d3,f1,rfl,U,X,Z⟩;obtain ⟨y,z,A,rfl⟩:=(U).form;obtain ⟨D,E,M,rfl⟩:=(X).form;obtain ⟨g,h,i,rfl⟩:=(Z).form;refine md (sA 35 [.slice y z A,I d.P.At.Row,I d.P.At.Col,B d.P.At.Pending,B d.P.Auto,.slice D E M,.slice g h i,I d.Parts] 1 f1 ⟨U.one,rfl,rfl,rfl,rfl,(X).one,Z.one,rfl,trivial⟩) ?_;rintro N e2 u;refine KG ?_;obtain rfl:=si t;have w0:=u.sD 3 [0];exact km (c:=N) (vs:=[.slice y z A,I d.P.At.Row,I d.P.At.Col,B d.P.At.Pending,B d.P.Auto,.slice D E M,.slice g h i,I d.Parts]) rfl (by kernel_rfl) (by kernel_rfl) (by kernel_rfl) (u.on 1 rfl _ rfl).1 ⟨_,N,rfl,rfl,pt,(.slice y z A),(.slice D E M),w1,(.slice g h i),w0,rfl,U.m,X.m,Z.m⟩
end Go.Proofs.YtclmdpamofdoiaaGreatDoor
