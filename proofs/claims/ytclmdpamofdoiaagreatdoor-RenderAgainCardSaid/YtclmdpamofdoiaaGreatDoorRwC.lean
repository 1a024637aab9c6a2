/- Parts of the proofs of RenderDraws, RenderAgain: the walk through the code, and plain Lean. No condition. -/
import Derived.Test.YtclmdpamofdoiaaGreatDoorRwA
import Derived.Test.YtclmdpamofdoiaaGreatDoorProg
import Derived.Test.YtclmdpamofdoiaaGreatDoorRwB
set_option linter.unusedVariables false
set_option linter.unusedSimpArgs false
namespace Go.Proofs.YtclmdpamofdoiaaGreatDoor
open Go Go.Lt
set_option maxRecDepth 10000
set_option linter.unusedVariables false
attribute [local irreducible] W WL AC
open Tryz
variable {c0:Cx} {G:Gm} {F:List En} {sg:Sto} {v1 v2 v3 v4 v5 v6 v7 v8 v9 v10 v11 v12 v13 v14 v15 v16 v17 v18 v19 v20 v21 v22 v23 v24 v25 v26 v27 v28 v29 v30 v31 v32 v33 v34 v35 v36 v37 v38 v39 v40 v41 v42 v43 v44 v45 v46 v47 v48 v49 v50 v51 v52 v53 v54 v55 v56 v57 v58 v59 v60:Value}
def iw:Option (List (Int×Int)):=
 some ([(13,13)]:List (Int×Int))
theorem pZ (d:Own c0 G F) {r:List (Int×Int)} (H:iw=some r): Calls prog 286 #[] c0.w (aP c0 fun c v=>∃a b,Own c G (es true aX a 342 b r :: F)∧v=a∧OA aX c a b r):=by
 unfold iw at H;refine en func286 rfl rfl (sr (va (Y) (wln (sr (va (III 13 13) (me (sl aX 342 [[I 13,I 13]] ([(13,13)]:List (Int×Int)) d ⟨rfl,trivial⟩) ?_))))));rintro v5 f i ⟨h,e,g⟩;refine va (v5) (wln (W.ret ?_));obtain rfl:=si H;exact r1 (qq f ⟨v5,h,e,rfl,g⟩)
def iv:Option (List (Int×Int)):=
 some ([(10,10)]:List (Int×Int))
theorem pY (d:Own c0 G F) {r:List (Int×Int)} (H:iv=some r): Calls prog 287 #[] c0.w (aP c0 fun c v=>∃a b,Own c G (es true aX a 342 b r :: F)∧v=a∧OA aX c a b r):=by
 unfold iv at H;refine en func287 rfl rfl (sr (va (Y) (wln (sr (va (III 10 10) (me (sl aX 342 [[I 10,I 10]] ([(10,10)]:List (Int×Int)) d ⟨rfl,trivial⟩) ?_))))));rintro v5 f i ⟨h,e,g⟩;refine va (v5) (wln (W.ret ?_));obtain rfl:=si H;exact r1 (qq f ⟨v5,h,e,rfl,g⟩)
def iu:Option (List (Int×Int)):=
 some ([(0,9),(11,12),(14,31),(127,159),(173,173),(1564,1564),(6158,6158),(8203,8203),(8206,8207),(8232,8238),(8288,8303),(65279,65279),(65520,65531),(917504,917535),(917632,917759),(918000,921599)]:List (Int×Int))
theorem pX (d:Own c0 G F) {r:List (Int×Int)} (H:iu=some r): Calls prog 288 #[] c0.w (aP c0 fun c v=>∃a b,Own c G (es true aX a 342 b r :: F)∧v=a∧OA aX c a b r):=by
 unfold iu at H;refine en func288 rfl rfl (sr (va (Y) (wln (sr (va (III 0 9) (va (III 11 12) (va (III 14 31) (va (III 127 159) (va (III 173 173) (va (III 1564 1564) (va (III 6158 6158) (va (III 8203 8203) (va (III 8206 8207) (va (III 8232 8238) (va (III 8288 8303) (va (III 65279 65279) (va (III 65520 65531) (va (III 917504 917535) (va (III 917632 917759) (va (III 918000 921599) (me (sl aX 342 [[I 0,I 9],[I 11,I 12],[I 14,I 31],[I 127,I 159],[I 173,I 173],[I 1564,I 1564],[I 6158,I 6158],[I 8203,I 8203],[I 8206,I 8207],[I 8232,I 8238],[I 8288,I 8303],[I 65279,I 65279],[I 65520,I 65531],[I 917504,I 917535],[I 917632,I 917759],[I 918000,I 921599]] ([(0,9),(11,12),(14,31),(127,159),(173,173),(1564,1564),(6158,6158),(8203,8203),(8206,8207),(8232,8238),(8288,8303),(65279,65279),(65520,65531),(917504,917535),(917632,917759),(918000,921599)]:List (Int×Int)) d ⟨rfl,rfl,rfl,rfl,rfl,rfl,rfl,rfl,rfl,rfl,rfl,rfl,rfl,rfl,rfl,rfl,trivial⟩) ?_)))))))))))))))))))));rintro v5 f i ⟨h,e,g⟩;refine va (v5) (wln (W.ret ?_));obtain rfl:=si H;exact r1 (qq f ⟨v5,h,e,rfl,g⟩)
def fD:List (Int×Int):=[(768,879),(1155,1161),(1425,1469),(1471,1471),(1473,1474),(1476,1477),(1479,1479),(1552,1562),(1611,1631),(1648,1648),(1750,1756),(1759,1764),(1767,1768),(1770,1773),(1809,1809),(1840,1866),(1958,1968),(2027,2035),(2070,2073),(2075,2083),(2259,2273),(2275,2306),(2362,2362),(2364,2364),(2369,2376),(2381,2381),(2385,2391),(2402,2403),(2433,2433),(2492,2492),(2494,2494),(2497,2500),(2509,2509),(2519,2519),(2530,2531),(2561,2562),(2620,2620),(2625,2626),(2631,2632),(2635,2637),(2748,2748),(2753,2757),(2765,2765),(2876,2876),(2878,2879),(2881,2884),(2893,2893),(2902,2903),(3132,3132),(3134,3136),(3142,3144),(3146,3149),(3276,3277),(3390,3390),(3393,3396),(3405,3405),(3633,3633),(3636,3642),(3655,3662),(3761,3761),(3764,3772),(3864,3865),(3953,3966),(4957,4959),(6832,6862),(7616,7679),(8204,8204),(8400,8432),(12330,12335),(12441,12442),(42607,42610),(64286,64286),(65024,65039),(65056,65071),(127995,127999),(917536,917631),(917760,917999)]
def ir:Option (List (Int×Int)):=
 some fD
theorem pW (d:Own c0 G F) {r:List (Int×Int)} (H:ir=some r): Calls prog 289 #[] c0.w (aP c0 fun c v=>∃a b,Own c G (es true aX a 342 b r :: F)∧v=a∧OA aX c a b r):=by
 unfold ir at H;refine en func289 rfl rfl (sr (va (Y) (wln (sr (va (III 768 879) (va (III 1155 1161) (va (III 1425 1469) (va (III 1471 1471) (va (III 1473 1474) (va (III 1476 1477) (va (III 1479 1479) (va (III 1552 1562) (va (III 1611 1631) (va (III 1648 1648) (va (III 1750 1756) (va (III 1759 1764) (va (III 1767 1768) (va (III 1770 1773) (va (III 1809 1809) (va (III 1840 1866) (va (III 1958 1968) (va (III 2027 2035) (va (III 2070 2073) (va (III 2075 2083) (va (III 2259 2273) (va (III 2275 2306) (va (III 2362 2362) (va (III 2364 2364) (va (III 2369 2376) (va (III 2381 2381) (va (III 2385 2391) (va (III 2402 2403) (va (III 2433 2433) (va (III 2492 2492) (va (III 2494 2494) (va (III 2497 2500) (va (III 2509 2509) (va (III 2519 2519) (va (III 2530 2531) (va (III 2561 2562) (va (III 2620 2620) (va (III 2625 2626) (va (III 2631 2632) (va (III 2635 2637) (va (III 2748 2748) (va (III 2753 2757) (va (III 2765 2765) (va (III 2876 2876) (va (III 2878 2879) (va (III 2881 2884) (va (III 2893 2893) (va (III 2902 2903) (va (III 3132 3132) (va (III 3134 3136) (va (III 3142 3144) (va (III 3146 3149) (va (III 3276 3277) (va (III 3390 3390) (va (III 3393 3396) (va (III 3405 3405) (va (III 3633 3633) (va (III 3636 3642) (va (III 3655 3662) (va (III 3761 3761) (va (III 3764 3772) (va (III 3864 3865) (va (III 3953 3966) (va (III 4957 4959) (va (III 6832 6862) (va (III 7616 7679) (va (III 8204 8204) (va (III 8400 8432) (va (III 12330 12335) (va (III 12441 12442) (va (III 42607 42610) (va (III 64286 64286) (va (III 65024 65039) (va (III 65056 65071) (va (III 127995 127999) (va (III 917536 917631) (va (III 917760 917999) (me (Own.sl (R:=aX) (E:=342) (ls:=fD.map (fun x=>[I x.1,I x.2])) (vs:=(fD.map (fun x=>[I x.1,I x.2])).flatten) (xs:=fD) true d (aZ _) rfl (oo.map _ (fun _=>rfl) _) (by kernel_rfl) (by kernel_rfl)) ?_))))))))))))))))))))))))))))))))))))))))))))))))))))))))))))))))))))))))))))))))));rintro v5 f i ⟨h,e,g⟩;refine va (v5) (wln (W.ret ?_));obtain rfl:=si H;exact r1 (qq f ⟨v5,h,e,rfl,g⟩)
def iq:Option (List (Int×Int)):=
 some ([(8205,8205)]:List (Int×Int))
theorem pV (d:Own c0 G F) {r:List (Int×Int)} (H:iq=some r): Calls prog 290 #[] c0.w (aP c0 fun c v=>∃a b,Own c G (es true aX a 342 b r :: F)∧v=a∧OA aX c a b r):=by
 unfold iq at H;refine en func290 rfl rfl (sr (va (Y) (wln (sr (va (III 8205 8205) (me (sl aX 342 [[I 8205,I 8205]] ([(8205,8205)]:List (Int×Int)) d ⟨rfl,trivial⟩) ?_))))));rintro v5 f i ⟨h,e,g⟩;refine va (v5) (wln (W.ret ?_));obtain rfl:=si H;exact r1 (qq f ⟨v5,h,e,rfl,g⟩)
def ip:Option (List (Int×Int)):=
 some ([(127462,127487)]:List (Int×Int))
theorem pU (d:Own c0 G F) {r:List (Int×Int)} (H:ip=some r): Calls prog 291 #[] c0.w (aP c0 fun c v=>∃a b,Own c G (es true aX a 342 b r :: F)∧v=a∧OA aX c a b r):=by
 unfold ip at H;refine en func291 rfl rfl (sr (va (Y) (wln (sr (va (III 127462 127487) (me (sl aX 342 [[I 127462,I 127487]] ([(127462,127487)]:List (Int×Int)) d ⟨rfl,trivial⟩) ?_))))));rintro v5 f i ⟨h,e,g⟩;refine va (v5) (wln (W.ret ?_));obtain rfl:=si H;exact r1 (qq f ⟨v5,h,e,rfl,g⟩)
def io:Option (List (Int×Int)):=
 some ([(1536,1541),(1757,1757),(1807,1807),(2192,2193),(2274,2274),(3406,3406),(69821,69821),(69837,69837)]:List (Int×Int))
theorem pS (d:Own c0 G F) {r:List (Int×Int)} (H:io=some r): Calls prog 292 #[] c0.w (aP c0 fun c v=>∃a b,Own c G (es true aX a 342 b r :: F)∧v=a∧OA aX c a b r):=by
 unfold io at H;refine en func292 rfl rfl (sr (va (Y) (wln (sr (va (III 1536 1541) (va (III 1757 1757) (va (III 1807 1807) (va (III 2192 2193) (va (III 2274 2274) (va (III 3406 3406) (va (III 69821 69821) (va (III 69837 69837) (me (sl aX 342 [[I 1536,I 1541],[I 1757,I 1757],[I 1807,I 1807],[I 2192,I 2193],[I 2274,I 2274],[I 3406,I 3406],[I 69821,I 69821],[I 69837,I 69837]] ([(1536,1541),(1757,1757),(1807,1807),(2192,2193),(2274,2274),(3406,3406),(69821,69821),(69837,69837)]:List (Int×Int)) d ⟨rfl,rfl,rfl,rfl,rfl,rfl,rfl,rfl,trivial⟩) ?_)))))))))))));rintro v5 f i ⟨h,e,g⟩;refine va (v5) (wln (W.ret ?_));obtain rfl:=si H;exact r1 (qq f ⟨v5,h,e,rfl,g⟩)
def fC:List (Int×Int):=[(2307,2307),(2363,2363),(2366,2368),(2377,2380),(2382,2383),(2434,2435),(2495,2496),(2503,2504),(2507,2508),(2563,2563),(2622,2624),(2691,2691),(2750,2752),(2761,2761),(2818,2819),(2880,2880),(2887,2888),(3073,3075),(3137,3140),(3330,3331),(3391,3392),(3398,3400),(3635,3635),(3763,3763),(3902,3903),(4155,4156)]
def il:Option (List (Int×Int)):=
 some fC
theorem pR (d:Own c0 G F) {r:List (Int×Int)} (H:il=some r): Calls prog 293 #[] c0.w (aP c0 fun c v=>∃a b,Own c G (es true aX a 342 b r :: F)∧v=a∧OA aX c a b r):=by
 unfold il at H;refine en func293 rfl rfl (sr (va (Y) (wln (sr (va (III 2307 2307) (va (III 2363 2363) (va (III 2366 2368) (va (III 2377 2380) (va (III 2382 2383) (va (III 2434 2435) (va (III 2495 2496) (va (III 2503 2504) (va (III 2507 2508) (va (III 2563 2563) (va (III 2622 2624) (va (III 2691 2691) (va (III 2750 2752) (va (III 2761 2761) (va (III 2818 2819) (va (III 2880 2880) (va (III 2887 2888) (va (III 3073 3075) (va (III 3137 3140) (va (III 3330 3331) (va (III 3391 3392) (va (III 3398 3400) (va (III 3635 3635) (va (III 3763 3763) (va (III 3902 3903) (va (III 4155 4156) (me (Own.sl (R:=aX) (E:=342) (ls:=fC.map (fun x=>[I x.1,I x.2])) (vs:=(fC.map (fun x=>[I x.1,I x.2])).flatten) (xs:=fC) true d (aZ _) rfl (oo.map _ (fun _=>rfl) _) (by kernel_rfl) (by kernel_rfl)) ?_)))))))))))))))))))))))))))))));rintro v5 f i ⟨h,e,g⟩;refine va (v5) (wln (W.ret ?_));obtain rfl:=si H;exact r1 (qq f ⟨v5,h,e,rfl,g⟩)
def dM (p0:List (Int×Int)) (p1:Int):Option (Bool):=
 (cv (σ:=Int) (τ:=Bool ⊕ Unit) (((p0.length:Int) - 0).toNat+1) (fun b=>
 if (decide (b < (p0.length:Int)))=true then
 (idx p0 b).bind fun d=>
 (bD (decide ((w64 p1)≥d.1)) ((idx p0 b).bind fun e=>
 some (decide ((w64 p1)≤e.2)))).bind fun c=>
 if c=true then
 some (.inr (.inl true))
 else
 some (.inl ((w64 (b+1))))
 else
 some (.inr (.inr ()))) (0)).bind fun a=>
 match a with
 | .inl a=>
 some a
 | .inr a=>
 some false
theorem jy (O0:Own c0 G F) (A:List (Int×Int)) (b:Int) {r:Bool} (g:Sl aX c0 v1 A) (H:dM A b=some r): Calls prog 294 #[v1,J b] c0.w (aP c0 fun c v=>Own c G (F)∧v=B r):=by
 unfold dM at H;refine en func294 rfl rfl (sr (va (B false) (wln (W.seq (sr (va (I 0) (wln (W.block (bn H fun h h3 u=>lp h3 (fun a=>Jn c0 fun c l=>Own c G (F)∧l= [(0,v1),(1,J b),(5,I a)]) (fun t=>match t with | .inl E=>(fun g0 ex e w=>ex= .ret∧(Jn c0 fun c l=>Own c G (F)∧l= [(4,B g0)]) e w) E | .inr E=>(fun l0 ex e w=>ex= .exit 0∧(Jn c0 fun c l=>Own c G (F)∧l= []) e w) E) ?_ ?_ ?_)))))))))
 ·clear u h3;intro a v0 S h0 H;revert S h0;rintro z D ⟨k,g6,_,rfl,l5,rfl,x,rfl⟩;refine W.seq (sr (va (I a) (va (v1) (vx (ln 3 wq g.m) (va (B (decide (a < (A.length:Int)))) (wln (cn H (fun U H=>?_) (fun U H=>?_))))))))
  ·refine W.skip (nrm (W.seq (W.block (W.seq (bn H fun i p H=>bn H fun y q H=>W.join (Jn k fun c l=>Own c G (F)∧l= [(0,v1),(1,J b),(5,I a),(29,B y)]) ?_ ?_)))))
   ·clear H;refine W.region (va (J b) (va (I (w64 b)) (va (v1) (va (I a) ?_))));obtain ⟨j0,X,e0⟩:=Sl.at (g.mono l5) (aR p);obtain rfl:=X;refine vx (ix wq g.m p) (va (Qo (sb v1) (so v1+a.toNat * 2)) (vx (l1 u_3 (e0 0 _ rfl)) (va (B (decide ((w64 b)≥i.1))) ?_)));rcases bo (decide ((w64 b)≥i.1)) with d | d
    ·have f:=anT d q;refine vb d (wa (J b) (wa (I (w64 b)) (wa (v1) (wa (I a) (wn (bn f fun j s f=>?_))))));obtain ⟨k0,Z,f0⟩:=Sl.at (g.mono l5) (aR s);obtain rfl:=Z;refine vx (ix wq g.m s) (wa (Qo (sb v1) (so v1+a.toNat * 2+1)) (wn (vx (l1 u_3 (f0 1 _ rfl)) (wa (B (decide ((w64 b)≤j.2))) ?_))));obtain rfl:=si f;exact va (B (decide ((w64 b)≤j.2))) (wln (jn k ⟨x,rfl⟩))
    obtain rfl:=anF d q;exact vb d (pz (pz (pz (pz (va (B false) (wln (jn k ⟨x,rfl⟩)))))))
   rintro z D ⟨o,m0,_,rfl,s0,rfl,n,rfl⟩;refine nrm (cn H (fun a0 H=>?_) (fun a0 H=>?_))
   ·refine sr (va (B true) (wln (W.ret (bkr (thr ?_)))));obtain rfl:=si H;exact ⟨_,rfl,⟨rfl,jn o ⟨n,rfl⟩⟩⟩
   refine W.skip (bkn (nrm (W.region (va (I a) (vv (I (w64 (a+1))) (WL.nil ?_))))));obtain rfl:=si H;exact ⟨_,rfl,jn o ⟨n,rfl⟩⟩
  refine W.exit (thx ?_);obtain rfl:=si H;exact ⟨_,rfl,rfl,jn k ⟨x,rfl⟩⟩
 ·exact jn c0 ⟨O0,rfl⟩
 rcases h with h | h
 ·intro T; revert T;rintro _ z D ⟨rfl,P,o0,_,rfl,t0,rfl,M,rfl⟩;refine bkr (thr ?_);obtain rfl:=si u;exact r1 (qq P ⟨M,rfl⟩)
 rintro _ z D ⟨rfl,R,q0,_,rfl,u0,rfl,N,rfl⟩;refine bke (nrm (sr (va (B false) (wln (W.ret ?_)))));obtain rfl:=si u;exact r1 (qq R ⟨N,rfl⟩)
def dz (p0:Int):Option (Int×Int×Int):=
 (orE (decide ((w64 p0) < 44032)) (some (decide ((w64 p0) > 55203)))).bind fun e=>
 if e=true then
 some (0,0,0)
 else
 (cv (σ:=Int×Int) (τ:=(Int×Int×Int) ⊕ Unit) (((4370:Int) - 4352).toNat+2) (fun d=>
 if (decide (d.2≤4370))=true then
 (cv (σ:=Int×Int) (τ:=(Int×Int×Int) ⊕ Int) (((4469:Int) - 4449).toNat+2) (fun a=>
 if (decide (a.2≤4469))=true then
 if (decide ((w64 p0) < (w64 (a.1+28))))=true then
 (if ((w64 ((w64 (4519+(w64 p0))) - a.1))==4519)=true then
 some (0)
 else
 some ((w64 ((w64 (4519+(w64 p0))) - a.1)))).bind fun f=>
 some (.inr (.inl (d.2,a.2,f)))
 else
 some (.inl ((w64 (a.1+28)),(w64 (a.2+1))))
 else
 some (.inr (.inr (a.1)))) (d.1,4449)).bind fun b=>
 match b with
 | .inl b=>
 some (.inr (.inl b))
 | .inr b=>
 some (.inl (b,(w64 (d.2+1))))
 else
 some (.inr (.inr ()))) (44032,4352)).bind fun c=>
 match c with
 | .inl c=>
 some c
 | .inr c=>
 some (0,0,0)
theorem qa (T:Own c0 G F) (d:Int) {r:Int×Int×Int} (H:dz d=some r): Calls prog 315 #[J d] c0.w (aP c0 fun c v=>Own c G (F)∧v= .tuple #[I r.1,I r.2.1,I r.2.2]):=by
 unfold dz at H;refine en func315 rfl rfl (sr (vv (I 0) (va (I 0) (wln (sr (va (J d) (vv (I (w64 d)) (wln (W.seq (W.seq (bn H fun R h1 H=>W.join (Jn c0 fun c l=>Own c G (F)∧l= [(5,I (w64 d)),(17,B R)]) ?_ ?_)))))))))))
 ·clear H;refine W.region (va (I (w64 d)) (va (B (decide ((w64 d) < 44032))) ?_));rcases bo (decide ((w64 d) < 44032)) with A | A
  ·obtain rfl:=orT A h1;exact vb A (pz (va (B true) (wln (jn c0 ⟨T,rfl⟩))))
  have H3:=orF A h1;refine vb A (wa (I (w64 d)) (wa (B (decide ((w64 d) > 55203))) ?_));obtain rfl:=si H3;exact va (B (decide ((w64 d) > 55203))) (wln (jn c0 ⟨T,rfl⟩))
 rintro j n ⟨x,g5,_,rfl,l4,rfl,O6,rfl⟩;refine nrm (cn H (fun k0 H=>?_) (fun k0 H=>?_))
 ·refine sr (vv (I 0) (va (I 0) (wln (W.ret (thr ?_)))));obtain rfl:=si H;exact r3 (qq x ⟨O6,rfl⟩)
 refine W.skip (nrm (sr (va (I 44032) (wln (W.seq (sr (va (I 4352) (wln (W.block (bn H fun k N s=>lp N (fun b=>Jn x fun c l=>Own c G (F)∧l= [(5,I (w64 d)),(6,I b.1),(7,I b.2)]) (fun t=>match t with | .inl o=>(fun f ex e w=>ex= .ret∧(Jn x fun c l=>Own c G (F)∧l= [(2,I f.1),(3,I f.2.1),(4,I f.2.2)]) e w) o | .inr o=>(fun t0 ex e w=>ex= .exit 0∧(Jn x fun c l=>Own c G (F)∧l= []) e w) o) ?_ ?_ ?_))))))))))
 ·clear s N;intro b s0 y D H;revert y D;rintro j n ⟨h,v0,_,rfl,c1,rfl,M,rfl⟩;refine W.seq (sr (va (I b.2) (va (B (decide (b.2≤4370))) (wln (cn H (fun l0 H=>?_) (fun l0 H=>?_))))))
  ·refine W.skip (nrm (W.seq (W.block (sr (va (I 4449) (wln (W.block (bn H fun m P u=>lp P (fun a=>Jn h fun c l=>Own c G (F)∧l= [(5,I (w64 d)),(6,I a.1),(7,I b.2),(8,I a.2)]) (fun t=>match t with | .inl o=>(fun f ex e w=>ex= .ret∧(Jn h fun c l=>Own c G (F)∧l= [(2,I f.1),(3,I f.2.1),(4,I f.2.2)]) e w) o | .inr o=>(fun E ex e w=>ex= .exit 2∧(Jn h fun c l=>Own c G (F)∧l= [(5,I (w64 d)),(6,I E),(7,I b.2)]) e w) o) ?_ ?_ ?_))))))))
   ·clear u P;intro a s0 y D H;revert y D;rintro j n ⟨i,w0,_,rfl,d1,rfl,q,rfl⟩;refine W.seq (sr (va (I a.2) (va (B (decide (a.2≤4469))) (wln (cn H (fun m0 H=>?_) (fun m0 H=>?_))))))
    ·refine W.skip (nrm (W.seq (W.block (W.seq (sr (va (I (w64 d)) (va (I a.1) (va (I (w64 (a.1+28))) (va (B (decide ((w64 d) < (w64 (a.1+28))))) (wln (cn H (fun o0 H=>?_) (fun o0 H=>?_))))))))))))
     ·refine sr (va (I (w64 d)) (va (I (w64 (4519+(w64 d)))) (va (I a.1) (vv (I (w64 ((w64 (4519+(w64 d))) - a.1))) (wln (bn H fun p g S=>W.seqJ (Jn i fun c l=>Own c G (F)∧l= [(7,I b.2),(8,I a.2),(9,I p)]) ?_ ?_))))))
      ·refine sr (va (I (w64 ((w64 (4519+(w64 d))) - a.1))) (va (B ((w64 ((w64 (4519+(w64 d))) - a.1))==4519)) (wln (cn g (fun q0 g=>?_) (fun q0 g=>?_)))))
       ·refine W.region (va (I 0) (wln ?_));obtain rfl:=si g;exact jn i ⟨q,rfl⟩
       refine W.skip (nrm ?_);obtain rfl:=si g;exact jn i ⟨q,rfl⟩
      rintro j n ⟨e0,x0,_,rfl,e1,rfl,U,rfl⟩;refine sr (va (I b.2) (va (I a.2) (va (I p) (va (I b.2) (va (I a.2) (va (I p) (wln (W.ret (thr (bkr (thr ?_)))))))))));obtain rfl:=si S;exact ⟨_,rfl,⟨rfl,jn e0 ⟨U,rfl⟩⟩⟩
     refine W.skip (nrm (W.region (va (I a.1) (vv (I (w64 (a.1+28))) (WL.nil (bkn (nrm (W.region (va (I a.2) (vv (I (w64 (a.2+1))) (WL.nil ?_)))))))))));obtain rfl:=si H;exact ⟨_,rfl,jn i ⟨q,rfl⟩⟩
    refine W.exit (thx ?_);obtain rfl:=si H;exact ⟨_,rfl,rfl,jn i ⟨q,rfl⟩⟩
   ·exact jn h ⟨M,rfl⟩
   rcases m with m | m
   ·intro z; revert z;rintro _ j n ⟨rfl,f0,y0,_,rfl,f1,rfl,X,rfl⟩;refine bkr (bkr (thr ?_));obtain rfl:=si u;exact ⟨_,rfl,⟨rfl,jn f0 ⟨X,rfl⟩⟩⟩
   rintro _ j n ⟨rfl,g0,z0,_,rfl,g1,rfl,Z,rfl⟩;refine bke (bkn (nrm (W.region (va (I b.2) (vv (I (w64 (b.2+1))) (WL.nil ?_))))));obtain rfl:=si u;exact ⟨_,rfl,jn g0 ⟨Z,rfl⟩⟩
  refine W.exit (thx ?_);obtain rfl:=si H;exact ⟨_,rfl,rfl,jn h ⟨M,rfl⟩⟩
 ·exact jn x ⟨O6,rfl⟩
 rcases k with k | k
 ·intro z; revert z;rintro _ j n ⟨rfl,h0,a1,_,rfl,i1,rfl,a0,rfl⟩;refine bkr (thr ?_);obtain rfl:=si s;exact r3 (qq h0 ⟨a0,rfl⟩)
 rintro _ j n ⟨rfl,i0,b1,_,rfl,j1,rfl,b0,rfl⟩;refine bke (nrm (sr (vv (I 0) (va (I 0) (wln (W.ret ?_))))));obtain rfl:=si s;exact r3 (qq i0 ⟨b0,rfl⟩)
def el (p0:Int):Option (Int):=
 (bD (decide ((w64 p0)≥4352)) (some (decide ((w64 p0)≤4447)))).bind fun j=>
 (orE j ((bD (decide ((w64 p0)≥43360)) (some (decide ((w64 p0)≤43388)))).bind fun c=>
 some c)).bind fun b=>
 if b=true then
 some 9
 else
 (bD (decide ((w64 p0)≥4448)) (some (decide ((w64 p0)≤4519)))).bind fun d=>
 (orE d ((bD (decide ((w64 p0)≥55216)) (some (decide ((w64 p0)≤55238)))).bind fun f=>
 some f)).bind fun e=>
 if e=true then
 some 10
 else
 (bD (decide ((w64 p0)≥4520)) (some (decide ((w64 p0)≤4607)))).bind fun g=>
 (orE g ((bD (decide ((w64 p0)≥55243)) (some (decide ((w64 p0)≤55291)))).bind fun i=>
 some i)).bind fun h=>
 if h=true then
 some 11
 else
 (dz p0).bind fun a=>
 if (a.1==0)=true then
 some 0
 else
 if (a.2.2==0)=true then
 some 12
 else
 some 13
theorem qb (z:Own c0 G F) (a:Int) {r:Int} (H:el a=some r): Calls prog 295 #[J a] c0.w (aP c0 fun c v=>Own c G (F)∧v=I r):=by
 unfold el at H;refine en func295 rfl rfl (sr (va (I 0) (wln (sr (va (J a) (vv (I (w64 a)) (wln (W.seq (W.seq (bn H fun s1 h1 H=>bn H fun i0 h2 H=>W.join (Jn c0 fun c l=>Own c G (F)∧l= [(0,J a),(3,I (w64 a)),(22,B i0)]) ?_ ?_))))))))))
 ·clear H;refine W.region (va (I (w64 a)) (va (B (decide ((w64 a)≥4352))) ?_));rcases bo (decide ((w64 a)≥4352)) with M | M
  ·have H4:=anT M h1;refine vb M (wa (I (w64 a)) (wa (B (decide ((w64 a)≤4447))) ?_));obtain rfl:=si H4;refine va (B (decide ((w64 a)≤4447))) ?_;rcases bo (decide ((w64 a)≤4447)) with P | P
   ·obtain rfl:=orT P h2;exact vb P (pz (pz (pz (va (B true) (wln (jn c0 ⟨z,rfl⟩))))))
   have S:=orF P h2;refine vb P (wa (I (w64 a)) (wa (B (decide ((w64 a)≥43360))) (wn (bn S fun j0 h7 S=>?_))));rcases bo (decide ((w64 a)≥43360)) with R | R
   ·have H9:=anT R h7;refine vb R (wa (I (w64 a)) (wa (B (decide ((w64 a)≤43388))) (wn ?_)));obtain rfl:=si H9;refine va (B (decide ((w64 a)≤43388))) ?_;obtain rfl:=si S;exact va (B (decide ((w64 a)≤43388))) (wln (jn c0 ⟨z,rfl⟩))
   obtain rfl:=anF R h7;refine vb R (pz (wa (B false) ?_));obtain rfl:=si S;exact va (B false) (wln (jn c0 ⟨z,rfl⟩))
  obtain rfl:=anF M h1;refine vb M (pz (va (B false) ?_));have U:false=false:=rfl;have s:=orF U h2;refine vb U (wa (I (w64 a)) (wa (B (decide ((w64 a)≥43360))) (wn (bn s fun j0 X s=>?_))));rcases bo (decide ((w64 a)≥43360)) with h | h
  ·have s0:=anT h X;refine vb h (wa (I (w64 a)) (wa (B (decide ((w64 a)≤43388))) (wn ?_)));obtain rfl:=si s0;refine va (B (decide ((w64 a)≤43388))) ?_;obtain rfl:=si s;exact va (B (decide ((w64 a)≤43388))) (wln (jn c0 ⟨z,rfl⟩))
  obtain rfl:=anF h X;refine vb h (pz (wa (B false) ?_));obtain rfl:=si s;exact va (B false) (wln (jn c0 ⟨z,rfl⟩))
 rintro e_ w_ ⟨d,t1,_,rfl,w1,rfl,f,rfl⟩;refine nrm (cn H (fun c1 H=>?_) (fun c1 H=>?_))
 ·refine sr (va (I 9) (wln (W.ret (thr ?_))));obtain rfl:=si H;exact r1 (qq d ⟨f,rfl⟩)
 refine W.skip (nrm (W.seq (W.seq (bn H fun p1 Z H=>bn H fun k0 E H=>W.join (Jn d fun c l=>Own c G (F)∧l= [(0,J a),(3,I (w64 a)),(36,B k0)]) ?_ ?_))))
 ·clear H;refine W.region (va (I (w64 a)) (va (B (decide ((w64 a)≥4448))) ?_));rcases bo (decide ((w64 a)≥4448)) with i | i
  ·have t0:=anT i Z;refine vb i (wa (I (w64 a)) (wa (B (decide ((w64 a)≤4519))) ?_));obtain rfl:=si t0;refine va (B (decide ((w64 a)≤4519))) ?_;rcases bo (decide ((w64 a)≤4519)) with j | j
   ·obtain rfl:=orT j E;exact vb j (pz (pz (pz (va (B true) (wln (jn d ⟨f,rfl⟩))))))
   have t:=orF j E;refine vb j (wa (I (w64 a)) (wa (B (decide ((w64 a)≥55216))) (wn (bn t fun l0 a0 t=>?_))));rcases bo (decide ((w64 a)≥55216)) with k | k
   ·have u0:=anT k a0;refine vb k (wa (I (w64 a)) (wa (B (decide ((w64 a)≤55238))) (wn ?_)));obtain rfl:=si u0;refine va (B (decide ((w64 a)≤55238))) ?_;obtain rfl:=si t;exact va (B (decide ((w64 a)≤55238))) (wln (jn d ⟨f,rfl⟩))
   obtain rfl:=anF k a0;refine vb k (pz (wa (B false) ?_));obtain rfl:=si t;exact va (B false) (wln (jn d ⟨f,rfl⟩))
  obtain rfl:=anF i Z;refine vb i (pz (va (B false) ?_));have b0:false=false:=rfl;have u:=orF b0 E;refine vb b0 (wa (I (w64 a)) (wa (B (decide ((w64 a)≥55216))) (wn (bn u fun l0 d0 u=>?_))));rcases bo (decide ((w64 a)≥55216)) with m | m
  ·have v0:=anT m d0;refine vb m (wa (I (w64 a)) (wa (B (decide ((w64 a)≤55238))) (wn ?_)));obtain rfl:=si v0;refine va (B (decide ((w64 a)≤55238))) ?_;obtain rfl:=si u;exact va (B (decide ((w64 a)≤55238))) (wln (jn d ⟨f,rfl⟩))
  obtain rfl:=anF m d0;refine vb m (pz (wa (B false) ?_));obtain rfl:=si u;exact va (B false) (wln (jn d ⟨f,rfl⟩))
 rintro e_ w_ ⟨e,u1,_,rfl,x1,rfl,g,rfl⟩;refine nrm (cn H (fun d1 H=>?_) (fun d1 H=>?_))
 ·refine sr (va (I 10) (wln (W.ret (thr ?_))));obtain rfl:=si H;exact r1 (qq e ⟨g,rfl⟩)
 refine W.skip (nrm (W.seq (W.seq (bn H fun q1 e0 H=>bn H fun m0 N H=>W.join (Jn e fun c l=>Own c G (F)∧l= [(0,J a),(50,B m0)]) ?_ ?_))))
 ·clear H;refine W.region (va (I (w64 a)) (va (B (decide ((w64 a)≥4520))) ?_));rcases bo (decide ((w64 a)≥4520)) with n | n
  ·have w0:=anT n e0;refine vb n (wa (I (w64 a)) (wa (B (decide ((w64 a)≤4607))) ?_));obtain rfl:=si w0;refine va (B (decide ((w64 a)≤4607))) ?_;rcases bo (decide ((w64 a)≤4607)) with o | o
   ·obtain rfl:=orT o N;exact vb o (pz (pz (pz (va (B true) (wln (jn e ⟨g,rfl⟩))))))
   have x:=orF o N;refine vb o (wa (I (w64 a)) (wa (B (decide ((w64 a)≥55243))) (wn (bn x fun o0 f0 x=>?_))));rcases bo (decide ((w64 a)≥55243)) with p | p
   ·have x0:=anT p f0;refine vb p (wa (I (w64 a)) (wa (B (decide ((w64 a)≤55291))) (wn ?_)));obtain rfl:=si x0;refine va (B (decide ((w64 a)≤55291))) ?_;obtain rfl:=si x;exact va (B (decide ((w64 a)≤55291))) (wln (jn e ⟨g,rfl⟩))
   obtain rfl:=anF p f0;refine vb p (pz (wa (B false) ?_));obtain rfl:=si x;exact va (B false) (wln (jn e ⟨g,rfl⟩))
  obtain rfl:=anF n e0;refine vb n (pz (va (B false) ?_));have g0:false=false:=rfl;have y:=orF g0 N;refine vb g0 (wa (I (w64 a)) (wa (B (decide ((w64 a)≥55243))) (wn (bn y fun o0 h0 y=>?_))));rcases bo (decide ((w64 a)≥55243)) with q | q
  ·have y0:=anT q h0;refine vb q (wa (I (w64 a)) (wa (B (decide ((w64 a)≤55291))) (wn ?_)));obtain rfl:=si y0;refine va (B (decide ((w64 a)≤55291))) ?_;obtain rfl:=si y;exact va (B (decide ((w64 a)≤55291))) (wln (jn e ⟨g,rfl⟩))
  obtain rfl:=anF q h0;refine vb q (pz (wa (B false) ?_));obtain rfl:=si y;exact va (B false) (wln (jn e ⟨g,rfl⟩))
 rintro e_ w_ ⟨z0,v1,_,rfl,y1,rfl,T,rfl⟩;refine nrm (cn H (fun e1 H=>?_) (fun e1 H=>?_))
 ·refine sr (va (I 11) (wln (W.ret (thr ?_))));obtain rfl:=si H;exact r1 (qq z0 ⟨T,rfl⟩)
 refine W.skip (nrm (sr (va (J a) (bn H fun b f1 H=>cl (qa T a f1) ?_))));rintro b2 D z1 ⟨A,rfl⟩;refine va (.tuple #[I b.1,I b.2.1,I b.2.2]) (va (I b.1) (va (I b.2.1) (va (I b.2.2) (va (I b.1) (va (I b.2.1) (va (I b.2.2) (wln (W.seq (sr (va (I b.1) (va (B (b.1==0)) (wln (cn H (fun i1 H=>?_) (fun i1 H=>?_))))))))))))))
 ·refine sr (va (I 0) (wln (W.ret (thr ?_))));obtain rfl:=si H;exact r1 (qq D ⟨A,rfl⟩)
 refine W.skip (nrm (W.seq (sr (va (I b.2.2) (va (B (b.2.2==0)) (wln (cn H (fun j1 H=>?_) (fun j1 H=>?_))))))))
 ·refine sr (va (I 12) (wln (W.ret (thr ?_))));obtain rfl:=si H;exact r1 (qq D ⟨A,rfl⟩)
 refine W.skip (nrm (sr (va (I 13) (wln (W.ret ?_)))));obtain rfl:=si H;exact r1 (qq D ⟨A,rfl⟩)
def gS (p0:Int):Option (Int):=
 (iw).bind fun d=>
 (iv).bind fun e=>
 (iu).bind fun f=>
 (ir).bind fun g=>
 (iq).bind fun h=>
 (ip).bind fun i=>
 (io).bind fun j=>
 (il).bind fun c=>
 (cv (σ:=Int) (τ:=Int ⊕ Unit) (((([d,e,f,g,h,i,j,c]:List (List (Int×Int))).length:Int) - 0).toNat+1) (fun b=>
 if (decide (b < (([d,e,f,g,h,i,j,c]:List (List (Int×Int))).length:Int)))=true then
 (idx ([d,e,f,g,h,i,j,c]:List (List (Int×Int))) b).bind fun k=>
 (dM k p0).bind fun l=>
 if l=true then
 some (.inr (.inl (w64 (b+1))))
 else
 some (.inl ((w64 (b+1))))
 else
 some (.inr (.inr ()))) (0)).bind fun a=>
 match a with
 | .inl a=>
 some a
 | .inr a=>
 (el p0).bind fun m=>
 some m
theorem rM (O0:Own c0 G F) (p0:Int) {r:Int} (H:gS p0=some r): Calls prog 255 #[J p0] c0.w (aP c0 fun c v=>Own c G (F)∧v=I r):=by
 unfold gS at H;refine en func255 rfl rfl (sr (va (I 0) (wln (sr (bn H fun x h1 H=>cl (pZ O0 h1) ?_)))));rintro v2 c9 l9 ⟨_,u3,O6,rfl,h4⟩;refine bn H fun y x3 H=>cl (pY O6 x3) ?_;rintro v12 q5 q4 ⟨_,u1,g3,rfl,y3⟩;refine bn H fun z z3 H=>cl (pX g3 z3) ?_;rintro v22 r5 t1 ⟨_,v1,h3,rfl,a4⟩;refine bn H fun A b4 H=>cl (pW h3 b4) ?_;rintro v32 s5 j1 ⟨_,w1,i3,rfl,c4⟩;refine bn H fun D d4 H=>cl (pV i3 d4) ?_;rintro v42 t5 b1 ⟨_,x1,j3,rfl,e4⟩;refine bn H fun E f4 H=>cl (pU j3 f4) ?_;rintro v52 u5 w0 ⟨_,y1,k3,rfl,g4⟩;refine bn H fun M i4 H=>cl (pS k3 i4) ?_;rintro c6 v5 u ⟨_,z1,l3,rfl,j4⟩;refine bn H fun h k4 H=>cl (pR l3 k4) ?_;rintro d6 w5 k ⟨_,b2,m3,rfl,l4⟩;obtain ⟨x5,m4,n,n3,m1⟩:=m3.frz 7 rfl (h4.mono (q4.trans (t1.trans (j1.trans (b1.trans (w0.trans (u.trans k)))))));refine WL.gh m4 ?_;obtain ⟨y5,n4,o,o3,n1⟩:=n3.frz 6 rfl (y3.mono (t1.trans (j1.trans (b1.trans (w0.trans (u.trans (k.trans n)))))));refine WL.gh n4 ?_;obtain ⟨z5,o4,p,p3,p1⟩:=o3.frz 5 rfl (a4.mono (j1.trans (b1.trans (w0.trans (u.trans (k.trans (n.trans o)))))));refine WL.gh o4 ?_;obtain ⟨a6,p4,q,q3,q1⟩:=p3.frz 4 rfl (c4.mono (b1.trans (w0.trans (u.trans (k.trans (n.trans (o.trans p)))))));refine WL.gh p4 ?_;obtain ⟨b6,o2,s,s3,s1⟩:=q3.frz 3 rfl (e4.mono (w0.trans (u.trans (k.trans (n.trans (o.trans (p.trans q)))))));refine WL.gh o2 ?_;obtain ⟨z4,p2,b,c2,e1⟩:=s3.frz 2 rfl (g4.mono (u.trans (k.trans (n.trans (o.trans (p.trans (q.trans s)))))));refine WL.gh p2 ?_;obtain ⟨a5,q2,d,d2,f1⟩:=c2.frz 1 rfl (j4.mono (k.trans (n.trans (o.trans (p.trans (q.trans (s.trans b)))))));refine WL.gh q2 ?_;obtain ⟨b5,s2,f,e2,g1⟩:=d2.frz 0 rfl (l4.mono (n.trans (o.trans (p.trans (q.trans (s.trans (b.trans d)))))));refine WL.gh s2 ?_;obtain ⟨N,P,R,rfl⟩:=((m1.mono (o.trans (p.trans (q.trans (s.trans (b.trans (d.trans f)))))))).form;obtain ⟨S,T,U,rfl⟩:=((n1.mono (p.trans (q.trans (s.trans (b.trans (d.trans f))))))).form;obtain ⟨X,Z,a0,rfl⟩:=((p1.mono (q.trans (s.trans (b.trans (d.trans f)))))).form;obtain ⟨b0,d0,e0,rfl⟩:=((q1.mono (s.trans (b.trans (d.trans f))))).form;obtain ⟨f0,g0,h0,rfl⟩:=((s1.mono (b.trans (d.trans f)))).form;obtain ⟨i0,j0,k0,rfl⟩:=((e1.mono (d.trans f))).form;obtain ⟨l0,m0,o0,rfl⟩:=((f1.mono f)).form;obtain ⟨q0,s0,t0,rfl⟩:=(g1).form;refine me (sl (RL aX) 333 [[.slice N P R],[.slice S T U],[.slice X Z a0],[.slice b0 d0 e0],[.slice f0 g0 h0],[.slice i0 j0 k0],[.slice l0 m0 o0],[.slice q0 s0 t0]] ([x,y,z,A,D,E,M,h]:List (List (Int×Int))) e2 ⟨⟨(.slice N P R),rfl,m1.m⟩,⟨(.slice S T U),rfl,n1.m⟩,⟨(.slice X Z a0),rfl,p1.m⟩,⟨(.slice b0 d0 e0),rfl,q1.m⟩,⟨(.slice f0 g0 h0),rfl,s1.m⟩,⟨(.slice i0 j0 k0),rfl,e1.m⟩,⟨(.slice l0 m0 o0),rfl,f1.m⟩,⟨(.slice q0 s0 t0),rfl,g1⟩,trivial⟩) ?_;rintro g u0 i5 ⟨k1,f2,v0⟩;refine va (g) (wln (W.seq (sr (va (I 0) (wln (W.block (bn H fun a1 i1 i=>lp i1 (fun a=>Jn u0 fun c l=>Own c G (es true (RL aX) g 333 k1 ([x,y,z,A,D,E,M,h]:List (List (Int×Int))) :: es false aX (.slice q0 s0 t0) 342 b2 h :: es false aX (.slice l0 m0 o0) 342 z1 M :: es false aX (.slice i0 j0 k0) 342 y1 E :: es false aX (.slice f0 g0 h0) 342 x1 D :: es false aX (.slice b0 d0 e0) 342 w1 A :: es false aX (.slice X Z a0) 342 v1 z :: es false aX (.slice S T U) 342 u1 y :: es false aX (.slice N P R) 342 u3 x :: F)∧l= [(0,J p0),(3,g),(4,I a)]) (fun t=>match t with | .inl x_=>(fun r4 ex e w=>ex= .ret∧(Jn u0 fun c l=>Own c G (F)∧l= [(2,I r4)]) e w) x_ | .inr x_=>(fun w4 ex e w=>ex= .exit 0∧(Jn u0 fun c l=>Own c G (es true (RL aX) g 333 k1 ([x,y,z,A,D,E,M,h]:List (List (Int×Int))) :: es false aX (.slice q0 s0 t0) 342 b2 h :: es false aX (.slice l0 m0 o0) 342 z1 M :: es false aX (.slice i0 j0 k0) 342 y1 E :: es false aX (.slice f0 g0 h0) 342 x1 D :: es false aX (.slice b0 d0 e0) 342 w1 A :: es false aX (.slice X Z a0) 342 v1 z :: es false aX (.slice S T U) 342 u1 y :: es false aX (.slice N P R) 342 u3 x :: F)∧l= [(0,J p0)]) e w) x_) ?_ ?_ ?_)))))))
 ·clear i i1;intro a e6 v3 u4 H;revert v3 u4;rintro e_ w_ ⟨l2,d5,_,rfl,a3,rfl,y0,rfl⟩;refine W.seq (sr (va (I a) (va (g) (vx (lnO 3 wo v0.m) (va (B (decide (a < (([x,y,z,A,D,E,M,h]:List (List (Int×Int))).length:Int)))) (wln (cn H (fun t2 H=>?_) (fun t2 H=>?_))))))))
  ·refine W.skip (nrm (W.seq (W.block (sr (va (g) (va (I a) (bn H fun e3 z0 H=>vx (ixO wo v0.m z0) ?_)))))));obtain ⟨v4,u2,b3⟩:=OA.at (v0.mono a3) z0;obtain ⟨c3,rfl,w2⟩:=u2;refine vr c3 (rx (by kernel_rfl) (mE wq rfl (y0.on 0 rfl) (v0.m.blk z0) (at1 (j:=0) b3 rfl))) (va (J p0) (bn H fun p5 x2 H=>cl (jy y0 e3 p0 w2 x2) ?_));rintro n5 d1 j5 ⟨c1,rfl⟩;refine wln (cn H (fun y2 H=>?_) (fun y2 H=>?_))
   ·refine sr (va (I a) (vv (I (w64 (a+1))) (wln (W.ret (bkr (thr ?_))))));obtain rfl:=si H;refine ⟨_,rfl,⟨rfl,?_⟩⟩;have g2:=c1.sD 9 [];exact jn d1 ⟨g2,rfl⟩
   refine W.skip (bkn (nrm (W.region (va (I a) (vv (I (w64 (a+1))) (WL.nil ?_))))));obtain rfl:=si H;exact ⟨_,rfl,jn d1 ⟨c1,rfl⟩⟩
  refine W.exit (thx ?_);obtain rfl:=si H;exact ⟨_,rfl,rfl,jn l2 ⟨y0,rfl⟩⟩
 ·exact jn u0 ⟨f2,rfl⟩
 rcases a1 with a1 | a1
 ·intro w3; revert w3;rintro _ e_ w_ ⟨rfl,m2,e5,_,rfl,k5,rfl,h2,rfl⟩;refine bkr (thr ?_);obtain rfl:=si i;exact r1 (qq m2 ⟨h2,rfl⟩)
 rintro _ e_ w_ ⟨rfl,c5,f5,_,rfl,l5,rfl,i2,rfl⟩;refine bke (nrm (sr (va (J p0) (bn i fun f3 z2 i=>cl (qb i2 p0 z2) ?_))));rintro o5 n2 m5 ⟨j2,rfl⟩;refine va (I f3) (wln (W.ret ?_));obtain rfl:=si i;have k2:=j2.sD 9 [];exact r1 (qq n2 ⟨k2,rfl⟩)
def fY:List (Int×Int):=[(169,169),(174,174),(8252,8252),(8265,8265),(8482,8482),(8505,8505),(8596,8601),(8617,8618),(8986,8987),(9000,9000),(9096,9096),(9167,9167),(9193,9203),(9208,9210),(9410,9410),(9642,9643),(9654,9654),(9664,9664),(9723,9726),(9728,9733),(9735,9746),(9748,9861),(9872,9989),(9992,10002),(10004,10004),(10006,10006),(10013,10013),(10017,10017),(10024,10024),(10035,10036),(10052,10052),(10055,10055),(10060,10060),(10062,10062),(10067,10069),(10071,10071),(10083,10087),(10133,10135),(10145,10145),(10160,10160),(10175,10175),(10548,10549),(11013,11015),(11035,11036),(11088,11088),(11093,11093),(12336,12336),(12349,12349),(12951,12951),(12953,12953),(126976,127231),(127245,127247),(127279,127279),(127340,127345),(127358,127359),(127374,127374),(127377,127386),(127405,127461),(127489,127503),(127514,127514),(127535,127535),(127538,127546),(127548,127551),(127561,127994),(128000,128317),(128326,128591),(128640,128767),(128884,128895),(128981,129023),(129036,129039),(129096,129103),(129114,129119),(129160,129167),(129198,129279),(129292,129338),(129340,129349),(129351,129791),(130048,131069)]
def iJ:Option (List (Int×Int)):=
 some fY
theorem qD (d:Own c0 G F) {r:List (Int×Int)} (H:iJ=some r): Calls prog 296 #[] c0.w (aP c0 fun c v=>∃a b,Own c G (es true aX a 342 b r :: F)∧v=a∧OA aX c a b r):=by
 unfold iJ at H;refine en func296 rfl rfl (sr (va (Y) (wln (sr (va (III 169 169) (va (III 174 174) (va (III 8252 8252) (va (III 8265 8265) (va (III 8482 8482) (va (III 8505 8505) (va (III 8596 8601) (va (III 8617 8618) (va (III 8986 8987) (va (III 9000 9000) (va (III 9096 9096) (va (III 9167 9167) (va (III 9193 9203) (va (III 9208 9210) (va (III 9410 9410) (va (III 9642 9643) (va (III 9654 9654) (va (III 9664 9664) (va (III 9723 9726) (va (III 9728 9733) (va (III 9735 9746) (va (III 9748 9861) (va (III 9872 9989) (va (III 9992 10002) (va (III 10004 10004) (va (III 10006 10006) (va (III 10013 10013) (va (III 10017 10017) (va (III 10024 10024) (va (III 10035 10036) (va (III 10052 10052) (va (III 10055 10055) (va (III 10060 10060) (va (III 10062 10062) (va (III 10067 10069) (va (III 10071 10071) (va (III 10083 10087) (va (III 10133 10135) (va (III 10145 10145) (va (III 10160 10160) (va (III 10175 10175) (va (III 10548 10549) (va (III 11013 11015) (va (III 11035 11036) (va (III 11088 11088) (va (III 11093 11093) (va (III 12336 12336) (va (III 12349 12349) (va (III 12951 12951) (va (III 12953 12953) (va (III 126976 127231) (va (III 127245 127247) (va (III 127279 127279) (va (III 127340 127345) (va (III 127358 127359) (va (III 127374 127374) (va (III 127377 127386) (va (III 127405 127461) (va (III 127489 127503) (va (III 127514 127514) (va (III 127535 127535) (va (III 127538 127546) (va (III 127548 127551) (va (III 127561 127994) (va (III 128000 128317) (va (III 128326 128591) (va (III 128640 128767) (va (III 128884 128895) (va (III 128981 129023) (va (III 129036 129039) (va (III 129096 129103) (va (III 129114 129119) (va (III 129160 129167) (va (III 129198 129279) (va (III 129292 129338) (va (III 129340 129349) (va (III 129351 129791) (va (III 130048 131069) (me (Own.sl (R:=aX) (E:=342) (ls:=fY.map (fun x=>[I x.1,I x.2])) (vs:=(fY.map (fun x=>[I x.1,I x.2])).flatten) (xs:=fY) true d (aZ _) rfl (oo.map _ (fun _=>rfl) _) (by kernel_rfl) (by kernel_rfl)) ?_)))))))))))))))))))))))))))))))))))))))))))))))))))))))))))))))))))))))))))))))))));rintro v5 f i ⟨h,e,g⟩;refine va (v5) (wln (W.ret ?_));obtain rfl:=si H;exact r1 (qq f ⟨v5,h,e,rfl,g⟩)
def gR (p0:Int):Option (Bool):=
 (iJ).bind fun a=>
 (dM a p0).bind fun b=>
 some b
theorem rL (l:Own c0 G F) (a:Int) {r:Bool} (H:gR a=some r): Calls prog 256 #[J a] c0.w (aP c0 fun c v=>Own c G (F)∧v=B r):=by
 unfold gR at H;refine en func256 rfl rfl (sr (va (B false) (wln (sr (bn H fun j n H=>cl (qD l n) ?_)))));rintro v2 t u ⟨_,x,m,rfl,o⟩;refine va (J a) ?_;obtain ⟨p,h,q,b,g⟩:=m.frz 0 rfl o;refine WL.gh h (bn H fun k i H=>cl (jy b j a g i) ?_);rintro v21 f s ⟨d,rfl⟩;refine va (B k) (wln (W.ret ?_));obtain rfl:=si H;have e:=d.sD 1 [];exact r1 (qq f ⟨e,rfl⟩)
def fB:List (Int×Int):=[(2325,2361),(2392,2399),(2424,2431),(2453,2472),(2474,2480),(2482,2482),(2486,2489),(2524,2525),(2527,2527),(2544,2545),(2709,2728),(2730,2736),(2738,2739),(2741,2745),(2809,2809),(2837,2856),(2858,2864),(2866,2867),(2869,2873),(2908,2909),(2911,2911),(2929,2929),(3093,3112),(3114,3129),(3160,3162),(3349,3386)]
def ik:Option (List (Int×Int)):=
 some fB
theorem pQ (d:Own c0 G F) {r:List (Int×Int)} (H:ik=some r): Calls prog 297 #[] c0.w (aP c0 fun c v=>∃a b,Own c G (es true aX a 342 b r :: F)∧v=a∧OA aX c a b r):=by
 unfold ik at H;refine en func297 rfl rfl (sr (va (Y) (wln (sr (va (III 2325 2361) (va (III 2392 2399) (va (III 2424 2431) (va (III 2453 2472) (va (III 2474 2480) (va (III 2482 2482) (va (III 2486 2489) (va (III 2524 2525) (va (III 2527 2527) (va (III 2544 2545) (va (III 2709 2728) (va (III 2730 2736) (va (III 2738 2739) (va (III 2741 2745) (va (III 2809 2809) (va (III 2837 2856) (va (III 2858 2864) (va (III 2866 2867) (va (III 2869 2873) (va (III 2908 2909) (va (III 2911 2911) (va (III 2929 2929) (va (III 3093 3112) (va (III 3114 3129) (va (III 3160 3162) (va (III 3349 3386) (me (Own.sl (R:=aX) (E:=342) (ls:=fB.map (fun x=>[I x.1,I x.2])) (vs:=(fB.map (fun x=>[I x.1,I x.2])).flatten) (xs:=fB) true d (aZ _) rfl (oo.map _ (fun _=>rfl) _) (by kernel_rfl) (by kernel_rfl)) ?_)))))))))))))))))))))))))))))));rintro v5 f i ⟨h,e,g⟩;refine va (v5) (wln (W.ret ?_));obtain rfl:=si H;exact r1 (qq f ⟨v5,h,e,rfl,g⟩)
def ij:Option (List (Int×Int)):=
 some ([(2381,2381),(2509,2509),(2765,2765),(2893,2893),(3149,3149),(3405,3405)]:List (Int×Int))
theorem pP (d:Own c0 G F) {r:List (Int×Int)} (H:ij=some r): Calls prog 298 #[] c0.w (aP c0 fun c v=>∃a b,Own c G (es true aX a 342 b r :: F)∧v=a∧OA aX c a b r):=by
 unfold ij at H;refine en func298 rfl rfl (sr (va (Y) (wln (sr (va (III 2381 2381) (va (III 2509 2509) (va (III 2765 2765) (va (III 2893 2893) (va (III 3149 3149) (va (III 3405 3405) (me (sl aX 342 [[I 2381,I 2381],[I 2509,I 2509],[I 2765,I 2765],[I 2893,I 2893],[I 3149,I 3149],[I 3405,I 3405]] ([(2381,2381),(2509,2509),(2765,2765),(2893,2893),(3149,3149),(3405,3405)]:List (Int×Int)) d ⟨rfl,rfl,rfl,rfl,rfl,rfl,trivial⟩) ?_)))))))))));rintro v5 f i ⟨h,e,g⟩;refine va (v5) (wln (W.ret ?_));obtain rfl:=si H;exact r1 (qq f ⟨v5,h,e,rfl,g⟩)
def ii:Option (List (Int×Int)):=
 some ([(768,879),(1155,1159),(1425,1469),(1552,1562),(1611,1631),(2364,2364),(2385,2388),(2492,2492),(2748,2748),(2876,2876),(3132,3132),(6832,6845),(7616,7679),(8205,8205),(8400,8412),(12330,12335),(12441,12442),(65056,65071)]:List (Int×Int))
theorem pO (d:Own c0 G F) {r:List (Int×Int)} (H:ii=some r): Calls prog 299 #[] c0.w (aP c0 fun c v=>∃a b,Own c G (es true aX a 342 b r :: F)∧v=a∧OA aX c a b r):=by
 unfold ii at H;refine en func299 rfl rfl (sr (va (Y) (wln (sr (va (III 768 879) (va (III 1155 1159) (va (III 1425 1469) (va (III 1552 1562) (va (III 1611 1631) (va (III 2364 2364) (va (III 2385 2388) (va (III 2492 2492) (va (III 2748 2748) (va (III 2876 2876) (va (III 3132 3132) (va (III 6832 6845) (va (III 7616 7679) (va (III 8205 8205) (va (III 8400 8412) (va (III 12330 12335) (va (III 12441 12442) (va (III 65056 65071) (me (sl aX 342 [[I 768,I 879],[I 1155,I 1159],[I 1425,I 1469],[I 1552,I 1562],[I 1611,I 1631],[I 2364,I 2364],[I 2385,I 2388],[I 2492,I 2492],[I 2748,I 2748],[I 2876,I 2876],[I 3132,I 3132],[I 6832,I 6845],[I 7616,I 7679],[I 8205,I 8205],[I 8400,I 8412],[I 12330,I 12335],[I 12441,I 12442],[I 65056,I 65071]] ([(768,879),(1155,1159),(1425,1469),(1552,1562),(1611,1631),(2364,2364),(2385,2388),(2492,2492),(2748,2748),(2876,2876),(3132,3132),(6832,6845),(7616,7679),(8205,8205),(8400,8412),(12330,12335),(12441,12442),(65056,65071)]:List (Int×Int)) d ⟨rfl,rfl,rfl,rfl,rfl,rfl,rfl,rfl,rfl,rfl,rfl,rfl,rfl,rfl,rfl,rfl,rfl,rfl,trivial⟩) ?_)))))))))))))))))))))));rintro v5 f i ⟨h,e,g⟩;refine va (v5) (wln (W.ret ?_));obtain rfl:=si H;exact r1 (qq f ⟨v5,h,e,rfl,g⟩)
def gQ (p0:Int):Option (Int):=
 (ik).bind fun c=>
 (ij).bind fun d=>
 (ii).bind fun e=>
 (cv (σ:=Int) (τ:=Int ⊕ Unit) (((([c,d,e]:List (List (Int×Int))).length:Int) - 0).toNat+1) (fun b=>
 if (decide (b < (([c,d,e]:List (List (Int×Int))).length:Int)))=true then
 (idx ([c,d,e]:List (List (Int×Int))) b).bind fun f=>
 (dM f p0).bind fun g=>
 if g=true then
 some (.inr (.inl (w64 (b+1))))
 else
 some (.inl ((w64 (b+1))))
 else
 some (.inr (.inr ()))) (0)).bind fun a=>
 match a with
 | .inl a=>
 some a
 | .inr a=>
 some 0
theorem rK (O0:Own c0 G F) (E:Int) {r:Int} (H:gQ E=some r): Calls prog 257 #[J E] c0.w (aP c0 fun c v=>Own c G (F)∧v=I r):=by
 unfold gQ at H;refine en func257 rfl rfl (sr (va (I 0) (wln (sr (bn H fun b h1 H=>cl (pQ O0 h1) ?_)))));rintro v2 c9 l9 ⟨_,u3,O6,rfl,h4⟩;refine bn H fun d a1 H=>cl (pP O6 a1) ?_;rintro v12 g2 p1 ⟨_,b0,h0,rfl,b1⟩;refine bn H fun f c1 H=>cl (pO h0 c1) ?_;rintro v22 h2 U ⟨_,d0,i0,rfl,d1⟩;obtain ⟨i2,e1,X,j0,P⟩:=i0.frz 2 rfl (h4.mono (p1.trans U));refine WL.gh e1 ?_;obtain ⟨j2,f1,Z,k0,R⟩:=j0.frz 1 rfl (b1.mono (U.trans X));refine WL.gh f1 ?_;obtain ⟨k2,g1,a0,l0,S⟩:=k0.frz 0 rfl (d1.mono (X.trans Z));refine WL.gh g1 ?_;obtain ⟨h,i,k,rfl⟩:=((P.mono (Z.trans a0))).form;obtain ⟨n,o,p,rfl⟩:=((R.mono a0)).form;obtain ⟨q,s,u,rfl⟩:=(S).form;refine me (sl (RL aX) 333 [[.slice h i k],[.slice n o p],[.slice q s u]] ([b,d,f]:List (List (Int×Int))) l0 ⟨⟨(.slice h i k),rfl,P.m⟩,⟨(.slice n o p),rfl,R.m⟩,⟨(.slice q s u),rfl,S⟩,trivial⟩) ?_;rintro v56 x o2 ⟨e0,m0,y⟩;refine va (v56) (wln (W.seq (sr (va (I 0) (wln (W.block (bn H fun g T z=>lp T (fun a=>Jn x fun c l=>Own c G (es true (RL aX) v56 333 e0 ([b,d,f]:List (List (Int×Int))) :: es false aX (.slice q s u) 342 d0 f :: es false aX (.slice n o p) 342 b0 d :: es false aX (.slice h i k) 342 u3 b :: F)∧l= [(0,J E),(3,v56),(4,I a)]) (fun t=>match t with | .inl x_=>(fun t1 ex e w=>ex= .ret∧(Jn x fun c l=>Own c G (F)∧l= [(2,I t1)]) e w) x_ | .inr x_=>(fun y1 ex e w=>ex= .exit 0∧(Jn x fun c l=>Own c G (es true (RL aX) v56 333 e0 ([b,d,f]:List (List (Int×Int))) :: es false aX (.slice q s u) 342 d0 f :: es false aX (.slice n o p) 342 b0 d :: es false aX (.slice h i k) 342 u3 b :: F)∧l= []) e w) x_) ?_ ?_ ?_)))))))
 ·clear z T;intro a u2 y0 x1 H;revert y0 x1;rintro e_ w_ ⟨u0,l2,_,rfl,q1,rfl,A,rfl⟩;refine W.seq (sr (va (I a) (va (v56) (vx (lnO 3 wo y.m) (va (B (decide (a < (([b,d,f]:List (List (Int×Int))).length:Int)))) (wln (cn H (fun i1 H=>?_) (fun i1 H=>?_))))))))
  ·refine W.skip (nrm (W.seq (W.block (sr (va (v56) (va (I a) (bn H fun g0 D H=>vx (ixO wo y.m D) ?_)))))));obtain ⟨e2,j1,s1⟩:=OA.at (y.mono q1) D;obtain ⟨v1,rfl,k1⟩:=j1;refine vr v1 (rx (by kernel_rfl) (mE wq rfl (A.on 0 rfl) (y.m.blk D) (at1 (j:=0) s1 rfl))) (va (J E) (bn H fun f2 m1 H=>cl (jy A g0 E k1 m1) ?_));rintro t2 N p2 ⟨M,rfl⟩;refine wln (cn H (fun n1 H=>?_) (fun n1 H=>?_))
   ·refine sr (va (I a) (vv (I (w64 (a+1))) (wln (W.ret (bkr (thr ?_))))));obtain rfl:=si H;refine ⟨_,rfl,⟨rfl,?_⟩⟩;have o0:=M.sD 4 [];exact jn N ⟨o0,rfl⟩
   refine W.skip (bkn (nrm (W.region (va (I a) (vv (I (w64 (a+1))) (WL.nil ?_))))));obtain rfl:=si H;exact ⟨_,rfl,jn N ⟨M,rfl⟩⟩
  refine W.exit (thx ?_);obtain rfl:=si H;exact ⟨_,rfl,rfl,jn u0 ⟨A,rfl⟩⟩
 ·exact jn x ⟨m0,rfl⟩
 rcases g with g | g
 ·intro z0; revert z0;rintro _ e_ w_ ⟨rfl,v0,m2,_,rfl,q2,rfl,q0,rfl⟩;refine bkr (thr ?_);obtain rfl:=si z;exact r1 (qq v0 ⟨q0,rfl⟩)
 rintro _ e_ w_ ⟨rfl,w0,n2,_,rfl,s2,rfl,s0,rfl⟩;refine bke (nrm (sr (va (I 0) (wln (W.ret ?_)))));obtain rfl:=si z;have t0:=s0.sD 4 [];exact r1 (qq w0 ⟨t0,rfl⟩)
def fh:List (Int×Int):=[(4352,4447),(8986,8987),(9001,9002),(9193,9196),(9200,9200),(9203,9203),(9725,9726),(9748,9749),(9800,9811),(9855,9855),(9875,9875),(9889,9889),(9898,9899),(9917,9918),(9924,9925),(9934,9934),(9940,9940),(9962,9962),(9970,9971),(9973,9973),(9978,9978),(9981,9981),(9989,9989),(9994,9995),(10024,10024),(10060,10060),(10062,10062),(10067,10069),(10071,10071),(10133,10135),(10160,10160),(10175,10175),(11035,11036),(11088,11088),(11093,11093),(11904,11929),(11931,12019),(12032,12245),(12272,12287),(12289,12350),(12353,12438),(12441,12543),(12549,12591),(12593,12686),(12688,12771),(12784,12830),(12832,12871),(12880,19903),(19968,42124),(42128,42182),(43360,43388),(44032,55203),(63744,64255),(65040,65049),(65072,65106),(65108,65126),(65128,65131),(94176,94180),(94208,100343),(100352,101589),(110592,110882),(126980,126980),(127183,127183),(127374,127374),(127377,127386),(127488,127490),(127504,127547),(127552,127560),(127568,127569),(127584,127589),(127744,127776),(127789,127797),(127799,127868),(127870,127891),(127904,127946),(127951,127955),(127968,127984),(127988,127988),(127992,128062),(128064,128064),(128066,128252),(128255,128317),(128331,128334),(128336,128359),(128378,128378),(128405,128406),(128420,128420),(128507,128591),(128640,128709),(128716,128716),(128720,128722),(128725,128727),(128732,128735),(128747,128748),(128756,128764),(128992,129003),(129008,129008),(129292,129338),(129340,129349),(129351,129535),(129648,129660),(129664,129672),(129680,129725),(129727,129733),(129742,129755),(129760,129768),(129776,129784),(131072,196605),(196608,262141)]
def ig:Option (List (Int×Int)):=
 some fh
theorem pN (d:Own c0 G F) {r:List (Int×Int)} (H:ig=some r): Calls prog 300 #[] c0.w (aP c0 fun c v=>∃a b,Own c G (es true aX a 342 b r :: F)∧v=a∧OA aX c a b r):=by
 unfold ig at H;refine en func300 rfl rfl (sr (va (Y) (wln (sr (va (III 4352 4447) (va (III 8986 8987) (va (III 9001 9002) (va (III 9193 9196) (va (III 9200 9200) (va (III 9203 9203) (va (III 9725 9726) (va (III 9748 9749) (va (III 9800 9811) (va (III 9855 9855) (va (III 9875 9875) (va (III 9889 9889) (va (III 9898 9899) (va (III 9917 9918) (va (III 9924 9925) (va (III 9934 9934) (va (III 9940 9940) (va (III 9962 9962) (va (III 9970 9971) (va (III 9973 9973) (va (III 9978 9978) (va (III 9981 9981) (va (III 9989 9989) (va (III 9994 9995) (va (III 10024 10024) (va (III 10060 10060) (va (III 10062 10062) (va (III 10067 10069) (va (III 10071 10071) (va (III 10133 10135) (va (III 10160 10160) (va (III 10175 10175) (va (III 11035 11036) (va (III 11088 11088) (va (III 11093 11093) (va (III 11904 11929) (va (III 11931 12019) (va (III 12032 12245) (va (III 12272 12287) (va (III 12289 12350) (va (III 12353 12438) (va (III 12441 12543) (va (III 12549 12591) (va (III 12593 12686) (va (III 12688 12771) (va (III 12784 12830) (va (III 12832 12871) (va (III 12880 19903) (va (III 19968 42124) (va (III 42128 42182) (va (III 43360 43388) (va (III 44032 55203) (va (III 63744 64255) (va (III 65040 65049) (va (III 65072 65106) (va (III 65108 65126) (va (III 65128 65131) (va (III 94176 94180) (va (III 94208 100343) (va (III 100352 101589) (va (III 110592 110882) (va (III 126980 126980) (va (III 127183 127183) (va (III 127374 127374) (va (III 127377 127386) (va (III 127488 127490) (va (III 127504 127547) (va (III 127552 127560) (va (III 127568 127569) (va (III 127584 127589) (va (III 127744 127776) (va (III 127789 127797) (va (III 127799 127868) (va (III 127870 127891) (va (III 127904 127946) (va (III 127951 127955) (va (III 127968 127984) (va (III 127988 127988) (va (III 127992 128062) (va (III 128064 128064) (va (III 128066 128252) (va (III 128255 128317) (va (III 128331 128334) (va (III 128336 128359) (va (III 128378 128378) (va (III 128405 128406) (va (III 128420 128420) (va (III 128507 128591) (va (III 128640 128709) (va (III 128716 128716) (va (III 128720 128722) (va (III 128725 128727) (va (III 128732 128735) (va (III 128747 128748) (va (III 128756 128764) (va (III 128992 129003) (va (III 129008 129008) (va (III 129292 129338) (va (III 129340 129349) (va (III 129351 129535) (va (III 129648 129660) (va (III 129664 129672) (va (III 129680 129725) (va (III 129727 129733) (va (III 129742 129755) (va (III 129760 129768) (va (III 129776 129784) (va (III 131072 196605) (va (III 196608 262141) (me (Own.sl (R:=aX) (E:=342) (ls:=fh.map (fun x=>[I x.1,I x.2])) (vs:=(fh.map (fun x=>[I x.1,I x.2])).flatten) (xs:=fh) true d (aZ _) rfl (oo.map _ (fun _=>rfl) _) (by kernel_rfl) (by kernel_rfl)) ?_))))))))))))))))))))))))))))))))))))))))))))))))))))))))))))))))))))))))))))))))))))))))))))))))))))))))))))))))));rintro v5 f i ⟨h,e,g⟩;refine va (v5) (wln (W.ret ?_));obtain rfl:=si H;exact r1 (qq f ⟨v5,h,e,rfl,g⟩)
def ic:Option (List (Int×Int)):=
 some ([(12288,12288),(65281,65376),(65504,65510)]:List (Int×Int))
theorem pM (d:Own c0 G F) {r:List (Int×Int)} (H:ic=some r): Calls prog 301 #[] c0.w (aP c0 fun c v=>∃a b,Own c G (es true aX a 342 b r :: F)∧v=a∧OA aX c a b r):=by
 unfold ic at H;refine en func301 rfl rfl (sr (va (Y) (wln (sr (va (III 12288 12288) (va (III 65281 65376) (va (III 65504 65510) (me (sl aX 342 [[I 12288,I 12288],[I 65281,I 65376],[I 65504,I 65510]] ([(12288,12288),(65281,65376),(65504,65510)]:List (Int×Int)) d ⟨rfl,rfl,rfl,trivial⟩) ?_))))))));rintro v5 f i ⟨h,e,g⟩;refine va (v5) (wln (W.ret ?_));obtain rfl:=si H;exact r1 (qq f ⟨v5,h,e,rfl,g⟩)
def ib:Option (List (Int×Int)):=
 some ([(8361,8361),(65377,65470),(65474,65479),(65482,65487),(65490,65495),(65498,65500),(65512,65518)]:List (Int×Int))
theorem pL (d:Own c0 G F) {r:List (Int×Int)} (H:ib=some r): Calls prog 302 #[] c0.w (aP c0 fun c v=>∃a b,Own c G (es true aX a 342 b r :: F)∧v=a∧OA aX c a b r):=by
 unfold ib at H;refine en func302 rfl rfl (sr (va (Y) (wln (sr (va (III 8361 8361) (va (III 65377 65470) (va (III 65474 65479) (va (III 65482 65487) (va (III 65490 65495) (va (III 65498 65500) (va (III 65512 65518) (me (sl aX 342 [[I 8361,I 8361],[I 65377,I 65470],[I 65474,I 65479],[I 65482,I 65487],[I 65490,I 65495],[I 65498,I 65500],[I 65512,I 65518]] ([(8361,8361),(65377,65470),(65474,65479),(65482,65487),(65490,65495),(65498,65500),(65512,65518)]:List (Int×Int)) d ⟨rfl,rfl,rfl,rfl,rfl,rfl,rfl,trivial⟩) ?_))))))))))));rintro v5 f i ⟨h,e,g⟩;refine va (v5) (wln (W.ret ?_));obtain rfl:=si H;exact r1 (qq f ⟨v5,h,e,rfl,g⟩)
def gP (p0:Int):Option (Int):=
 (ig).bind fun c=>
 (ic).bind fun d=>
 (ib).bind fun e=>
 (cv (σ:=Int) (τ:=Int ⊕ Unit) (((([c,d,e]:List (List (Int×Int))).length:Int) - 0).toNat+1) (fun b=>
 if (decide (b < (([c,d,e]:List (List (Int×Int))).length:Int)))=true then
 (idx ([c,d,e]:List (List (Int×Int))) b).bind fun f=>
 (dM f p0).bind fun g=>
 if g=true then
 some (.inr (.inl (w64 (b+1))))
 else
 some (.inl ((w64 (b+1))))
 else
 some (.inr (.inr ()))) (0)).bind fun a=>
 match a with
 | .inl a=>
 some a
 | .inr a=>
 some 0
theorem rJ (O0:Own c0 G F) (E:Int) {r:Int} (H:gP E=some r): Calls prog 258 #[J E] c0.w (aP c0 fun c v=>Own c G (F)∧v=I r):=by
 unfold gP at H;refine en func258 rfl rfl (sr (va (I 0) (wln (sr (bn H fun b h1 H=>cl (pN O0 h1) ?_)))));rintro v2 c9 l9 ⟨_,u3,O6,rfl,h4⟩;refine bn H fun d a1 H=>cl (pM O6 a1) ?_;rintro v12 g2 p1 ⟨_,b0,h0,rfl,b1⟩;refine bn H fun f c1 H=>cl (pL h0 c1) ?_;rintro v22 h2 U ⟨_,d0,i0,rfl,d1⟩;obtain ⟨i2,e1,X,j0,P⟩:=i0.frz 2 rfl (h4.mono (p1.trans U));refine WL.gh e1 ?_;obtain ⟨j2,f1,Z,k0,R⟩:=j0.frz 1 rfl (b1.mono (U.trans X));refine WL.gh f1 ?_;obtain ⟨k2,g1,a0,l0,S⟩:=k0.frz 0 rfl (d1.mono (X.trans Z));refine WL.gh g1 ?_;obtain ⟨h,i,k,rfl⟩:=((P.mono (Z.trans a0))).form;obtain ⟨n,o,p,rfl⟩:=((R.mono a0)).form;obtain ⟨q,s,u,rfl⟩:=(S).form;refine me (sl (RL aX) 333 [[.slice h i k],[.slice n o p],[.slice q s u]] ([b,d,f]:List (List (Int×Int))) l0 ⟨⟨(.slice h i k),rfl,P.m⟩,⟨(.slice n o p),rfl,R.m⟩,⟨(.slice q s u),rfl,S⟩,trivial⟩) ?_;rintro v56 x o2 ⟨e0,m0,y⟩;refine va (v56) (wln (W.seq (sr (va (I 0) (wln (W.block (bn H fun g T z=>lp T (fun a=>Jn x fun c l=>Own c G (es true (RL aX) v56 333 e0 ([b,d,f]:List (List (Int×Int))) :: es false aX (.slice q s u) 342 d0 f :: es false aX (.slice n o p) 342 b0 d :: es false aX (.slice h i k) 342 u3 b :: F)∧l= [(0,J E),(3,v56),(4,I a)]) (fun t=>match t with | .inl x_=>(fun t1 ex e w=>ex= .ret∧(Jn x fun c l=>Own c G (F)∧l= [(2,I t1)]) e w) x_ | .inr x_=>(fun y1 ex e w=>ex= .exit 0∧(Jn x fun c l=>Own c G (es true (RL aX) v56 333 e0 ([b,d,f]:List (List (Int×Int))) :: es false aX (.slice q s u) 342 d0 f :: es false aX (.slice n o p) 342 b0 d :: es false aX (.slice h i k) 342 u3 b :: F)∧l= []) e w) x_) ?_ ?_ ?_)))))))
 ·clear z T;intro a u2 y0 x1 H;revert y0 x1;rintro e_ w_ ⟨u0,l2,_,rfl,q1,rfl,A,rfl⟩;refine W.seq (sr (va (I a) (va (v56) (vx (lnO 3 wo y.m) (va (B (decide (a < (([b,d,f]:List (List (Int×Int))).length:Int)))) (wln (cn H (fun i1 H=>?_) (fun i1 H=>?_))))))))
  ·refine W.skip (nrm (W.seq (W.block (sr (va (v56) (va (I a) (bn H fun g0 D H=>vx (ixO wo y.m D) ?_)))))));obtain ⟨e2,j1,s1⟩:=OA.at (y.mono q1) D;obtain ⟨v1,rfl,k1⟩:=j1;refine vr v1 (rx (by kernel_rfl) (mE wq rfl (A.on 0 rfl) (y.m.blk D) (at1 (j:=0) s1 rfl))) (va (J E) (bn H fun f2 m1 H=>cl (jy A g0 E k1 m1) ?_));rintro t2 N p2 ⟨M,rfl⟩;refine wln (cn H (fun n1 H=>?_) (fun n1 H=>?_))
   ·refine sr (va (I a) (vv (I (w64 (a+1))) (wln (W.ret (bkr (thr ?_))))));obtain rfl:=si H;refine ⟨_,rfl,⟨rfl,?_⟩⟩;have o0:=M.sD 4 [];exact jn N ⟨o0,rfl⟩
   refine W.skip (bkn (nrm (W.region (va (I a) (vv (I (w64 (a+1))) (WL.nil ?_))))));obtain rfl:=si H;exact ⟨_,rfl,jn N ⟨M,rfl⟩⟩
  refine W.exit (thx ?_);obtain rfl:=si H;exact ⟨_,rfl,rfl,jn u0 ⟨A,rfl⟩⟩
 ·exact jn x ⟨m0,rfl⟩
 rcases g with g | g
 ·intro z0; revert z0;rintro _ e_ w_ ⟨rfl,v0,m2,_,rfl,q2,rfl,q0,rfl⟩;refine bkr (thr ?_);obtain rfl:=si z;exact r1 (qq v0 ⟨q0,rfl⟩)
 rintro _ e_ w_ ⟨rfl,w0,n2,_,rfl,s2,rfl,s0,rfl⟩;refine bke (nrm (sr (va (I 0) (wln (W.ret ?_)))));obtain rfl:=si z;have t0:=s0.sD 4 [];exact r1 (qq w0 ⟨t0,rfl⟩)
def dL (p0:Int):Option (am):=
 (gS p0).bind fun b=>
 (gR p0).bind fun c=>
 (gQ p0).bind fun d=>
 (gP p0).bind fun a=>
 some (⟨b,c,d,a⟩:am)
theorem nB (p:Own c0 G F) (a:Int) {r:am} (H:dL a=some r): Calls prog 201 #[J a] c0.w (aP c0 fun c v=>Own c G (F)∧v= .agg #[I r.Break,B r.Pict,I r.Conj,I r.East]):=by
 unfold dL at H;refine en func201 rfl rfl (sr (me (al 238 [I 0,B false,I 0,I 0] p) ?_));rintro v4 R S ⟨P,rfl,q⟩;refine wln (sr (va (J a) (bn H fun d t H=>cl (rM q a t) ?_)));rintro v11 u A ⟨s,rfl⟩;refine va (J a) (bn H fun e m H=>cl (rL s a m) ?_);rintro v18 x D ⟨i,rfl⟩;refine va (J a) (bn H fun f n H=>cl (rK i a n) ?_);rintro v25 y E ⟨j,rfl⟩;refine va (J a) (bn H fun b o H=>cl (rJ j a o) ?_);rintro v32 z M ⟨k,rfl⟩;refine va (.agg #[I d,B e,I f,I b]) (md (sA 238 [I d,B e,I f,I b] 0 k ⟨rfl,rfl,rfl,rfl,trivial⟩) ?_);rintro h N g;refine wln (W.ret ?_);obtain rfl:=si H;have l:=g.sD 1 [];exact rF (c:=h) (vs:=[I d,B e,I f,I b]) rfl (by kernel_rfl) (by kernel_rfl) (by kernel_rfl) (g.on 0 rfl _ rfl).1 ⟨_,h,rfl,rfl,pt,l,rfl⟩
def lR (p0:Int):Option (Bool):=
 (if (p0==1)=true then
 some (p0==1)
 else
 if (p0==2)=true then
 some (p0==2)
 else
 some (p0==3)).bind fun c=>
 if c=true then
 some true
 else
 (if (p0==4)=true then
 some (p0==4)
 else
 some (p0==5)).bind fun a=>
 if a=true then
 some true
 else
 (if (p0==10)=true then
 some (p0==10)
 else
 some (p0==11)).bind fun b=>
 if b=true then
 some true
 else
 some false
theorem xG (o:Own c0 G F) (a:Int) {r:Bool} (H:lR a=some r): Calls prog 317 #[I a] c0.w (aP c0 fun c v=>Own c G (F)∧v=B r):=by
 unfold lR at H;refine en func317 rfl rfl (sr (va (B false) (wln (W.seq (sr (va (I a) (wln (W.block (W.seq (W.block (W.block (W.block (W.seq (W.seq (bn H fun E b i=>W.seqJ (Jn c0 fun c l=>Own c G (F)∧l= [(3,I a),(4,B E)]) ?_ ?_)))))))))))))))
 ·refine sr (vv (B (a==1)) (wln (cn b (fun M b=>?_) (fun M b=>?_))))
  ·refine W.skip (nrm ?_);obtain rfl:=si b;exact jn c0 ⟨o,rfl⟩
  refine sr (vv (B (a==2)) (wln (cn b (fun N b=>?_) (fun N b=>?_))))
  ·refine W.skip (nrm ?_);obtain rfl:=si b;exact jn c0 ⟨o,rfl⟩
  refine W.region (vv (B (a==3)) (wln ?_));obtain rfl:=si b;exact jn c0 ⟨o,rfl⟩
 rintro t D ⟨k,U,_,rfl,X,rfl,p,rfl⟩;refine cn i (fun u i=>?_) (fun u i=>?_)
 ·refine W.exit (thx (thx (bke (bkn (bkn (nrm (W.seq (sr (va (B true) (wln (W.ret (thr (bkr (thr ?_))))))))))))));obtain rfl:=si i;exact r1 (qq k ⟨p,rfl⟩)
 refine W.skip (nrm (W.seq (bn i fun q d e=>W.seqJ (Jn k fun c l=>Own c G (F)∧l= [(3,I a),(8,B q)]) ?_ ?_)))
 ·refine sr (vv (B (a==4)) (wln (cn d (fun x d=>?_) (fun x d=>?_))))
  ·refine W.skip (nrm ?_);obtain rfl:=si d;exact jn k ⟨p,rfl⟩
  refine W.region (vv (B (a==5)) (wln ?_));obtain rfl:=si d;exact jn k ⟨p,rfl⟩
 rintro t D ⟨h,P,_,rfl,S,rfl,j,rfl⟩;refine cn e (fun y e=>?_) (fun y e=>?_)
 ·refine W.exit (thx (thx (bko rfl (bke (bkn (nrm (W.seq (sr (va (B true) (wln (W.ret (thr (bkr (thr ?_))))))))))))));obtain rfl:=si e;exact r1 (qq h ⟨j,rfl⟩)
 refine W.skip (nrm (bn e fun s f g=>W.seqJ (Jn h fun c l=>Own c G (F)∧l= [(11,B s)]) ?_ ?_))
 ·refine sr (vv (B (a==10)) (wln (cn f (fun z f=>?_) (fun z f=>?_))))
  ·refine W.skip (nrm ?_);obtain rfl:=si f;exact jn h ⟨j,rfl⟩
  refine W.region (vv (B (a==11)) (wln ?_));obtain rfl:=si f;exact jn h ⟨j,rfl⟩
 rintro t D ⟨n,R,_,rfl,T,rfl,m,rfl⟩;refine cn g (fun A g=>?_) (fun A g=>?_)
 ·refine W.exit (thx (bko rfl (bko rfl (bke (nrm (W.seq (sr (va (B true) (wln (W.ret (thr (bkr (thr ?_)))))))))))));obtain rfl:=si g;exact r1 (qq n ⟨m,rfl⟩)
 refine W.skip (nrm (W.exit (bko rfl (bko rfl (bko rfl (thx (bke (nrm (sr (va (B false) (wln (W.ret ?_))))))))))));obtain rfl:=si g;exact r1 (qq n ⟨m,rfl⟩)
def mq (p0:am):Option (Int):=
 (lR p0.Break).bind fun b=>
 if b=true then
 some 0
 else
 (orE (p0.East==1) (some (p0.East==2))).bind fun a=>
 if a=true then
 some 2
 else
 some 1
theorem vJ (q:Own c0 G F) (a:am) {r:Int} (H:mq a=some r): Calls prog 305 #[.agg #[I a.Break,B a.Pict,I a.Conj,I a.East]] c0.w (aP c0 fun c v=>Own c G (F)∧v=I r):=by
 unfold mq at H;refine en func305 rfl rfl (sr (me (bx 238 [I a.Break,B a.Pict,I a.Conj,I a.East] q) ?_));rintro v5 z D ⟨i,rfl,s,k⟩;refine va (I 0) (wln (W.seq (W.block (sr (va (Q i) (vx (l1 u_3 (k 0 _ rfl)) (bn H fun p t H=>cl (xG s a.Break t) ?_)))))));rintro v12 d x ⟨h,rfl⟩;refine va (B p) (wln (cn H (fun n H=>?_) (fun n H=>?_)))
 ·refine sr (va (I 0) (wln (W.ret (bkr (thr ?_)))));obtain rfl:=si H;exact r1 (qq d ⟨h,rfl⟩)
 refine W.seq (bn H fun j g H=>W.join (Jn d fun c l=>Own c G (F)∧l= [(7,B j)]) ?_ ?_)
 ·clear H;refine W.region (va (Qo i (0+3)) (vx (l1 u_3 ((mm k) 3 _ rfl)) (va (B (a.East==1)) ?_)));rcases bo (a.East==1) with b | b
  ·obtain rfl:=orT b g;exact vb b (pz (ps (vv (B true) (wln (jn d ⟨h,rfl⟩)))))
  have m:=orF b g;refine vb b (wa (Qo i (0+3)) (wn (vx (l1 u_3 ((mm k) 3 _ rfl)) (wa (B (a.East==2)) ?_))));obtain rfl:=si m;exact vv (B (a.East==2)) (wln (jn d ⟨h,rfl⟩))
 rintro A E ⟨f,u,_,rfl,y,rfl,e,rfl⟩;refine nrm (cn H (fun o H=>?_) (fun o H=>?_))
 ·refine sr (va (I 2) (wln (W.ret (bkr (thr ?_)))));obtain rfl:=si H;exact r1 (qq f ⟨e,rfl⟩)
 refine W.skip (bkn (nrm (sr (va (I 1) (wln (W.ret ?_))))));obtain rfl:=si H;exact r1 (qq f ⟨e,rfl⟩)
def co (p0:aV) (p1:Int) (p2:am):Option (Bool):=
 (mq p2).bind fun d=>
 if (d==2)=true then
 some true
 else
 if (!p0.some)=true then
 some false
 else
 (bD (p1==65039) (some p0.pict)).bind fun a=>
 (orE a (some p2.Pict)).bind fun b=>
 (orE b (some (p2.Break==6))).bind fun c=>
 some c
theorem jU {b:Nat} {r0_0:Value} {r0_1:Value} {r0_2:Value} {r0_3:Value} {r0_4:Value} {r0_5:Value} {r0_6:Value} {r0_7:Value} {r0_8:Value} {r0_9:Value} {r0_10:Value} {r0_11:Value} {r0_12:Value} {r0_13:Value} {r0_14:Value} {r0_15:Value} {r0_16:Value} {r0_17:Value} {r0_18:Value} {r0_19:Value} {r0_20:Value} (d:aV) (o:Int) (a:am) (S:Own c0 G ((Eb b 338 [r0_0,r0_1,r0_2,r0_3,r0_4,r0_5,r0_6,r0_7,r0_8,r0_9,r0_10,r0_11,r0_12,r0_13,r0_14,r0_15,r0_16,r0_17,r0_18,r0_19,r0_20,B d.some,B d.pict,B d.wide]) :: F)) {r:Bool} (H:co d o a=some r): Calls prog 265 #[.pointer (some ⟨b,21,none⟩),J o,.agg #[I a.Break,B a.Pict,I a.Conj,I a.East]] c0.w (aP c0 fun c v=>Own c G ((Eb b 338 [r0_0,r0_1,r0_2,r0_3,r0_4,r0_5,r0_6,r0_7,r0_8,r0_9,r0_10,r0_11,r0_12,r0_13,r0_14,r0_15,r0_16,r0_17,r0_18,r0_19,r0_20,B d.some,B d.pict,B d.wide]) :: F)∧v=B r):=by
 unfold co at H;refine en func265 rfl rfl (sr (me (bx 238 [I a.Break,B a.Pict,I a.Conj,I a.East] S) ?_));rintro v5 c4 l4 ⟨p,rfl,T,n⟩;refine va (B false) (wln (W.seq (W.block (sr (vx (lN 238 n) (bn H fun u Z H=>cl (vJ T a Z) ?_))))));rintro v12 e b0 ⟨f,rfl⟩;refine vv (B (u==2)) (wln (cn H (fun P H=>?_) (fun P H=>?_)))
 ·refine sr (va (B true) (wln (W.ret (bkr (thr ?_)))));obtain rfl:=si H;exact r1 (qq e ⟨f,rfl⟩)
 refine sr (vv (Qo b 21) (va (Qo b 21) (vx (le1 21 u_4 (f.on 0 rfl)) (vv (B (!d.some)) (wln (cn H (fun R H=>?_) (fun R H=>?_)))))))
 ·refine sr (va (B false) (wln (W.ret (bkr (thr ?_)))));obtain rfl:=si H;exact r1 (qq e ⟨f,rfl⟩)
 refine W.skip (bkn (nrm (W.seq (bn H fun U q H=>bn H fun X m H=>bn H fun x g H=>W.join (Jn e fun c l=>Own c G ((Eb b 338 [r0_0,r0_1,r0_2,r0_3,r0_4,r0_5,r0_6,r0_7,r0_8,r0_9,r0_10,r0_11,r0_12,r0_13,r0_14,r0_15,r0_16,r0_17,r0_18,r0_19,r0_20,B d.some,B d.pict,B d.wide]) :: F)∧l= [(6,B x)]) ?_ ?_))))
 ·clear H;refine W.region (va (J o) (va (B (o==65039)) ?_));rcases bo (o==65039) with h | h
  ·have y:=anT h q;refine vb h (wa (Qo b 21) (wa (Qo b 21) (wa (Qo b 22) (wn (vx (le1 22 u_4 (f.on 0 rfl)) ?_)))));obtain rfl:=si y;refine va (B d.pict) ?_;rcases bo (d.pict) with i | i
   ·obtain rfl:=orT i m;refine vb i (pz (va (B true) ?_));have s:true=true:=rfl;obtain rfl:=orT s g;exact vb s (pz (ps (vv (B true) (wln (jn e ⟨f,rfl⟩)))))
   have z:=orF i m;refine vb i (wa (Qo p (0+1)) (wn (vx (l1 u_4 ((mm n) 1 _ rfl)) ?_)));obtain rfl:=si z;refine va (B a.Pict) ?_;rcases bo (a.Pict) with j | j
   ·obtain rfl:=orT j g;exact vb j (pz (ps (vv (B true) (wln (jn e ⟨f,rfl⟩)))))
   have A:=orF j g;refine vb j (wa (Q p) (wn (vx (l1 u_3 ((mm n) 0 _ rfl)) (wa (B (a.Break==6)) ?_))));obtain rfl:=si A;exact vv (B (a.Break==6)) (wln (jn e ⟨f,rfl⟩))
  obtain rfl:=anF h q;refine vb h (pz (pz (va (B false) ?_)));have t:false=false:=rfl;have D:=orF t m;refine vb t (wa (Qo p (0+1)) (wn (vx (l1 u_4 ((mm n) 1 _ rfl)) ?_)));obtain rfl:=si D;refine va (B a.Pict) ?_;rcases bo (a.Pict) with k | k
  ·obtain rfl:=orT k g;exact vb k (pz (ps (vv (B true) (wln (jn e ⟨f,rfl⟩)))))
  have E:=orF k g;refine vb k (wa (Q p) (wn (vx (l1 u_3 ((mm n) 0 _ rfl)) (wa (B (a.Break==6)) ?_))));obtain rfl:=si E;exact vv (B (a.Break==6)) (wln (jn e ⟨f,rfl⟩))
 rintro e_ w_ ⟨N,a0,_,rfl,d0,rfl,M,rfl⟩;refine nrm (W.ret ?_);obtain rfl:=si H;exact r1 (qq N ⟨M,rfl⟩)
def bY (p0:aV) (p1:Int) (p2:am):Option (aV×Int):=
 if false=true then
 some (p0,1)
 else
 (orE p0.wide ((co p0 p1 p2).bind fun b=>
 some b)).bind fun a=>
 if a=true then
 some ((⟨true,p2.Pict,a⟩:aV),2)
 else
 some ((⟨true,p2.Pict,a⟩:aV),1)
theorem kI {a:Nat} {r0_0:Value} {r0_1:Value} {r0_2:Value} {r0_3:Value} {r0_4:Value} {r0_5:Value} {r0_6:Value} {r0_7:Value} {r0_8:Value} {r0_9:Value} {r0_10:Value} {r0_11:Value} {r0_12:Value} {r0_13:Value} {r0_14:Value} {r0_15:Value} {r0_16:Value} {r0_17:Value} {r0_18:Value} {r0_19:Value} {r0_20:Value} (b:aV) (k:Int) (d:am) (T:Own c0 G ((Eb a 338 [r0_0,r0_1,r0_2,r0_3,r0_4,r0_5,r0_6,r0_7,r0_8,r0_9,r0_10,r0_11,r0_12,r0_13,r0_14,r0_15,r0_16,r0_17,r0_18,r0_19,r0_20,B b.some,B b.pict,B b.wide]) :: F)) {r:aV×Int} (H:bY b k d=some r): Calls prog 215 #[.pointer (some ⟨a,21,none⟩),J k,.agg #[I d.Break,B d.Pict,I d.Conj,I d.East]] c0.w (aP c0 fun c v=>Own c G ((Eb a 338 [r0_0,r0_1,r0_2,r0_3,r0_4,r0_5,r0_6,r0_7,r0_8,r0_9,r0_10,r0_11,r0_12,r0_13,r0_14,r0_15,r0_16,r0_17,r0_18,r0_19,r0_20,B r.1.some,B r.1.pict,B r.1.wide]) :: F)∧v=I r.2):=by
 unfold bY at H;refine en func215 rfl rfl (sr (me (bx 238 [I d.Break,B d.Pict,I d.Conj,I d.East] T) ?_));rintro v5 X l4 ⟨x,rfl,m,P⟩;refine va (I 0) (wln (W.seq (sr (va (Qo a 21) (va (B false) (wln (W.cond (t:=false) (by kernel_rfl) (fun n=>?_) (fun n=>?_))))))))
 ·cases n
 have H:=ie n H;refine W.skip (nrm (W.seq (bn H fun e N H=>W.join (Jn X fun c l=>Own c G ((Eb a 338 [r0_0,r0_1,r0_2,r0_3,r0_4,r0_5,r0_6,r0_7,r0_8,r0_9,r0_10,r0_11,r0_12,r0_13,r0_14,r0_15,r0_16,r0_17,r0_18,r0_19,r0_20,B b.some,B b.pict,B e]) :: F)∧l= [(0,.pointer (some ⟨a,21,none⟩)),(5,Q x)]) ?_ ?_)))
 ·clear H;refine W.region (vv (Qo a 21) (va (Qo a 21) (va (Qo a 23) (vx (le1 23 u_4 (m.on 0 rfl)) ?_))));rcases bo (b.wide) with j | j
  ·obtain rfl:=orT j N;refine vb j (pz (pz (va (B true) (va (Qo a 21) (va (Qo a 23) (md (sC 4 23 (B true) [r0_0,r0_1,r0_2,r0_3,r0_4,r0_5,r0_6,r0_7,r0_8,r0_9,r0_10,r0_11,r0_12,r0_13,r0_14,r0_15,r0_16,r0_17,r0_18,r0_19,r0_20,B b.some,B b.pict,B true] 0 m ⟨rfl,trivial⟩) ?_))))));rintro y e0 U;exact wln (jn y ⟨U,rfl⟩)
  have g:=orF j N;refine vb j (wa (Qo a 21) (wa (J k) (wn (vx (lN 238 P) (wn (bn g fun f E g=>cl (jU b k d m E) ?_))))));rintro v19 Z f0 ⟨o,rfl⟩;obtain rfl:=si g;refine va (B f) (va (Qo a 21) (va (Qo a 23) (md (sC 4 23 (B f) [r0_0,r0_1,r0_2,r0_3,r0_4,r0_5,r0_6,r0_7,r0_8,r0_9,r0_10,r0_11,r0_12,r0_13,r0_14,r0_15,r0_16,r0_17,r0_18,r0_19,r0_20,B b.some,B b.pict,B f] 0 o ⟨rfl,trivial⟩) ?_)));rintro z g0 p;exact wln (jn z ⟨p,rfl⟩)
 rintro e_ w_ ⟨a0,b0,_,rfl,h0,rfl,q,rfl⟩;refine nrm (W.seq (rD [] (Kp G0 []) q ?_));intro A i0 s;have l0:Kp G0 [] A:=Kp.nil0;refine ta 0 (.pointer (some ⟨a,21,none⟩)) (ta 1 (Qo a 21) (ta 2 (Qo x (0+1)) (tx 3 (fun c' d0=>l1 u_4 ((mm P) 1 _ rfl)) (ta 4 (Qo a 21) (ta 5 (Qo a 21) (o1 6 (gD 6 (sC 4 21 (B true) [r0_0,r0_1,r0_2,r0_3,r0_4,r0_5,r0_6,r0_7,r0_8,r0_9,r0_10,r0_11,r0_12,r0_13,r0_14,r0_15,r0_16,r0_17,r0_18,r0_19,r0_20,B true,B b.pict,B e] 0 s ⟨rfl,trivial⟩) ?_)))))));rintro D j0 u;have R:Kp G0 [] D:=Kp.nil0;refine ⟨.inr R,ta 7 (.pointer (some ⟨a,21,none⟩)) (ta 8 (Qo a 22) (o1 9 (gD 9 (sC 4 22 (B d.Pict) [r0_0,r0_1,r0_2,r0_3,r0_4,r0_5,r0_6,r0_7,r0_8,r0_9,r0_10,r0_11,r0_12,r0_13,r0_14,r0_15,r0_16,r0_17,r0_18,r0_19,r0_20,B true,B d.Pict,B e] 0 u ⟨rfl,trivial⟩) ?_)))⟩;rintro i k0 h;have S:Kp G0 [] i:=Kp.nil0;refine ⟨.inr S,dn (nrm (W.seq (sr (vv (Qo a 21) (va (Qo a 23) (vx (le1 23 u_4 (h.on 0 rfl)) (wln (cn H (fun M H=>?_) (fun M H=>?_)))))))))⟩
 ·refine sr (va (I 2) (wln (W.ret (thr ?_))));obtain rfl:=si H;exact r1 (qq i ⟨h,rfl⟩)
 refine W.skip (nrm (sr (va (I 1) (wln (W.ret ?_)))));obtain rfl:=si H;exact r1 (qq i ⟨h,rfl⟩)
def cS (p0:bF):Option (Int):=
 if false=true then
 some 0
 else
 some p0.n
theorem ko {b:Nat} {r0_0:Value} {r0_1:Value} {r0_2:Value} {r0_3:Value} {r0_21:Value} {r0_22:Value} {r0_23:Value} (a:bF) (e:Own c0 G ((Eb b 338 [r0_0,r0_1,r0_2,r0_3,J a.text.1,J a.text.2.1,J a.text.2.2.1,J a.text.2.2.2.1,J a.text.2.2.2.2.1,J a.text.2.2.2.2.2.1,J a.text.2.2.2.2.2.2.1,J a.text.2.2.2.2.2.2.2.1,J a.text.2.2.2.2.2.2.2.2.1,J a.text.2.2.2.2.2.2.2.2.2.1,J a.text.2.2.2.2.2.2.2.2.2.2.1,J a.text.2.2.2.2.2.2.2.2.2.2.2.1,J a.text.2.2.2.2.2.2.2.2.2.2.2.2.1,J a.text.2.2.2.2.2.2.2.2.2.2.2.2.2.1,J a.text.2.2.2.2.2.2.2.2.2.2.2.2.2.2.1,J a.text.2.2.2.2.2.2.2.2.2.2.2.2.2.2.2,I a.n,r0_21,r0_22,r0_23]) :: F)) {r:Int} (H:cS a=some r): Calls prog 318 #[.pointer (some ⟨b,4,none⟩)] c0.w (aP c0 fun c v=>Own c G ((Eb b 338 [r0_0,r0_1,r0_2,r0_3,J a.text.1,J a.text.2.1,J a.text.2.2.1,J a.text.2.2.2.1,J a.text.2.2.2.2.1,J a.text.2.2.2.2.2.1,J a.text.2.2.2.2.2.2.1,J a.text.2.2.2.2.2.2.2.1,J a.text.2.2.2.2.2.2.2.2.1,J a.text.2.2.2.2.2.2.2.2.2.1,J a.text.2.2.2.2.2.2.2.2.2.2.1,J a.text.2.2.2.2.2.2.2.2.2.2.2.1,J a.text.2.2.2.2.2.2.2.2.2.2.2.2.1,J a.text.2.2.2.2.2.2.2.2.2.2.2.2.2.1,J a.text.2.2.2.2.2.2.2.2.2.2.2.2.2.2.1,J a.text.2.2.2.2.2.2.2.2.2.2.2.2.2.2.2,I a.n,r0_21,r0_22,r0_23]) :: F)∧v=I r):=by
 unfold cS at H;refine en func318 rfl rfl (sr (va (I 0) (wln (W.seq (sr (va (Qo b 4) (va (B false) (wln (W.cond (t:=false) (by kernel_rfl) (fun d=>?_) (fun d=>?_))))))))))
 ·cases d
 have H:=ie d H;refine W.skip (nrm (sr (vv (Qo b 4) (va (Qo b 20) (vx (le1 20 u_3 (e.on 0 rfl)) (va (I a.n) (wln (W.ret ?_))))))));obtain rfl:=si H;exact r1 (qq c0 ⟨e,rfl⟩)
def bR (p0:bF):Option (Bool):=
 (cS p0).bind fun a=>
 some (a==16)
theorem fA {b:Nat} {r0_0:Value} {r0_1:Value} {r0_2:Value} {r0_3:Value} {r0_21:Value} {r0_22:Value} {r0_23:Value} (a:bF) (e:Own c0 G ((Eb b 338 [r0_0,r0_1,r0_2,r0_3,J a.text.1,J a.text.2.1,J a.text.2.2.1,J a.text.2.2.2.1,J a.text.2.2.2.2.1,J a.text.2.2.2.2.2.1,J a.text.2.2.2.2.2.2.1,J a.text.2.2.2.2.2.2.2.1,J a.text.2.2.2.2.2.2.2.2.1,J a.text.2.2.2.2.2.2.2.2.2.1,J a.text.2.2.2.2.2.2.2.2.2.2.1,J a.text.2.2.2.2.2.2.2.2.2.2.2.1,J a.text.2.2.2.2.2.2.2.2.2.2.2.2.1,J a.text.2.2.2.2.2.2.2.2.2.2.2.2.2.1,J a.text.2.2.2.2.2.2.2.2.2.2.2.2.2.2.1,J a.text.2.2.2.2.2.2.2.2.2.2.2.2.2.2.2,I a.n,r0_21,r0_22,r0_23]) :: F)) {r:Bool} (H:bR a=some r): Calls prog 306 #[.pointer (some ⟨b,4,none⟩)] c0.w (aP c0 fun c v=>Own c G ((Eb b 338 [r0_0,r0_1,r0_2,r0_3,J a.text.1,J a.text.2.1,J a.text.2.2.1,J a.text.2.2.2.1,J a.text.2.2.2.2.1,J a.text.2.2.2.2.2.1,J a.text.2.2.2.2.2.2.1,J a.text.2.2.2.2.2.2.2.1,J a.text.2.2.2.2.2.2.2.2.1,J a.text.2.2.2.2.2.2.2.2.2.1,J a.text.2.2.2.2.2.2.2.2.2.2.1,J a.text.2.2.2.2.2.2.2.2.2.2.2.1,J a.text.2.2.2.2.2.2.2.2.2.2.2.2.1,J a.text.2.2.2.2.2.2.2.2.2.2.2.2.2.1,J a.text.2.2.2.2.2.2.2.2.2.2.2.2.2.2.1,J a.text.2.2.2.2.2.2.2.2.2.2.2.2.2.2.2,I a.n,r0_21,r0_22,r0_23]) :: F)∧v=B r):=by
 unfold bR at H;refine en func306 rfl rfl (sr (va (B false) (wln (sr (va (Qo b 4) (bn H fun d h H=>cl (ko a e h) ?_))))));rintro v8 g i ⟨f,rfl⟩;refine vv (B (d==16)) (wln (W.ret ?_));obtain rfl:=si H;exact r1 (qq g ⟨f,rfl⟩)
def cu (p0:bF) (p1:Int):Option (bF×Bool):=
 (orE false ((bR p0).bind fun c=>
 some c)).bind fun b=>
 if b=true then
 some (p0,false)
 else
 (idx (a16 p0.text) p0.n).bind fun d=>
 (some (Aa p0.text p0.n p1)).bind fun a=>
 some ((⟨a,(w64 (p0.n+1))⟩:bF),true)
theorem kp {d:Nat} {r0_0:Value} {r0_1:Value} {r0_2:Value} {r0_3:Value} {r0_21:Value} {r0_22:Value} {r0_23:Value} (a:bF) (f:Int) (M:Own c0 G ((Eb d 338 [r0_0,r0_1,r0_2,r0_3,J a.text.1,J a.text.2.1,J a.text.2.2.1,J a.text.2.2.2.1,J a.text.2.2.2.2.1,J a.text.2.2.2.2.2.1,J a.text.2.2.2.2.2.2.1,J a.text.2.2.2.2.2.2.2.1,J a.text.2.2.2.2.2.2.2.2.1,J a.text.2.2.2.2.2.2.2.2.2.1,J a.text.2.2.2.2.2.2.2.2.2.2.1,J a.text.2.2.2.2.2.2.2.2.2.2.2.1,J a.text.2.2.2.2.2.2.2.2.2.2.2.2.1,J a.text.2.2.2.2.2.2.2.2.2.2.2.2.2.1,J a.text.2.2.2.2.2.2.2.2.2.2.2.2.2.2.1,J a.text.2.2.2.2.2.2.2.2.2.2.2.2.2.2.2,I a.n,r0_21,r0_22,r0_23]) :: F)) {r:bF×Bool} (H:cu a f=some r): Calls prog 280 #[.pointer (some ⟨d,4,none⟩),J f] c0.w (aP c0 fun c v=>Own c G ((Eb d 338 [r0_0,r0_1,r0_2,r0_3,J r.1.text.1,J r.1.text.2.1,J r.1.text.2.2.1,J r.1.text.2.2.2.1,J r.1.text.2.2.2.2.1,J r.1.text.2.2.2.2.2.1,J r.1.text.2.2.2.2.2.2.1,J r.1.text.2.2.2.2.2.2.2.1,J r.1.text.2.2.2.2.2.2.2.2.1,J r.1.text.2.2.2.2.2.2.2.2.2.1,J r.1.text.2.2.2.2.2.2.2.2.2.2.1,J r.1.text.2.2.2.2.2.2.2.2.2.2.2.1,J r.1.text.2.2.2.2.2.2.2.2.2.2.2.2.1,J r.1.text.2.2.2.2.2.2.2.2.2.2.2.2.2.1,J r.1.text.2.2.2.2.2.2.2.2.2.2.2.2.2.2.1,J r.1.text.2.2.2.2.2.2.2.2.2.2.2.2.2.2.2,I r.1.n,r0_21,r0_22,r0_23]) :: F)∧v=B r.2):=by
 unfold cu at H;refine en func280 rfl rfl (sr (va (B false) (wln (W.seq (W.seq (bn H fun u R H=>W.join (Jn c0 fun c l=>Own c G ((Eb d 338 [r0_0,r0_1,r0_2,r0_3,J a.text.1,J a.text.2.1,J a.text.2.2.1,J a.text.2.2.2.1,J a.text.2.2.2.2.1,J a.text.2.2.2.2.2.1,J a.text.2.2.2.2.2.2.1,J a.text.2.2.2.2.2.2.2.1,J a.text.2.2.2.2.2.2.2.2.1,J a.text.2.2.2.2.2.2.2.2.2.1,J a.text.2.2.2.2.2.2.2.2.2.2.1,J a.text.2.2.2.2.2.2.2.2.2.2.2.1,J a.text.2.2.2.2.2.2.2.2.2.2.2.2.1,J a.text.2.2.2.2.2.2.2.2.2.2.2.2.2.1,J a.text.2.2.2.2.2.2.2.2.2.2.2.2.2.2.1,J a.text.2.2.2.2.2.2.2.2.2.2.2.2.2.2.2,I a.n,r0_21,r0_22,r0_23]) :: F)∧l= [(0,.pointer (some ⟨d,4,none⟩)),(1,J f),(10,B u)]) ?_ ?_))))))
 ·clear H;refine W.region (va (Qo d 4) (va (B false) ?_));have y:false=false:=rfl;have m:=orF y R;refine vb y (wa (Qo d 4) (wn (bn m fun E S m=>cl (fA a M S) ?_)));rintro v11 p b0 ⟨N,rfl⟩;obtain rfl:=si m;exact va (B E) (wln (jn p ⟨N,rfl⟩))
 rintro e_ w_ ⟨q,a0,_,rfl,d0,rfl,g,rfl⟩;refine nrm (cn H (fun x H=>?_) (fun x H=>?_))
 ·refine sr (va (B false) (wln (W.ret (thr ?_))));obtain rfl:=si H;exact r1 (qq q ⟨g,rfl⟩)
 refine W.skip (nrm (W.seq (rD [9] (Kp G0 [(Eb d 338 [r0_0,r0_1,r0_2,r0_3,J a.text.1,J a.text.2.1,J a.text.2.2.1,J a.text.2.2.2.1,J a.text.2.2.2.2.1,J a.text.2.2.2.2.2.1,J a.text.2.2.2.2.2.2.1,J a.text.2.2.2.2.2.2.2.1,J a.text.2.2.2.2.2.2.2.2.1,J a.text.2.2.2.2.2.2.2.2.2.1,J a.text.2.2.2.2.2.2.2.2.2.2.1,J a.text.2.2.2.2.2.2.2.2.2.2.2.1,J a.text.2.2.2.2.2.2.2.2.2.2.2.2.1,J a.text.2.2.2.2.2.2.2.2.2.2.2.2.2.1,J a.text.2.2.2.2.2.2.2.2.2.2.2.2.2.2.1,J a.text.2.2.2.2.2.2.2.2.2.2.2.2.2.2.2,I a.n,r0_21,r0_22,r0_23])]) g ?_)));intro s e0 h;have D:Kp G0 [(Eb d 338 [r0_0,r0_1,r0_2,r0_3,J a.text.1,J a.text.2.1,J a.text.2.2.1,J a.text.2.2.2.1,J a.text.2.2.2.2.1,J a.text.2.2.2.2.2.1,J a.text.2.2.2.2.2.2.1,J a.text.2.2.2.2.2.2.2.1,J a.text.2.2.2.2.2.2.2.2.1,J a.text.2.2.2.2.2.2.2.2.2.1,J a.text.2.2.2.2.2.2.2.2.2.2.1,J a.text.2.2.2.2.2.2.2.2.2.2.2.1,J a.text.2.2.2.2.2.2.2.2.2.2.2.2.1,J a.text.2.2.2.2.2.2.2.2.2.2.2.2.2.1,J a.text.2.2.2.2.2.2.2.2.2.2.2.2.2.2.1,J a.text.2.2.2.2.2.2.2.2.2.2.2.2.2.2.2,I a.n,r0_21,r0_22,r0_23])] s:=(Kp.cons (h.on 0 rfl) Kp.nil0);refine ta 0 (.pointer (some ⟨d,4,none⟩)) (ta 1 (Qo d 4) (ta 2 (Qo d 4) (ta 3 (Qo d 20) (tkx 4 D (fun P A U=>le1 20 u_3 (U.on 0 rfl)) (ta 5 (J f) (ta 6 (Qo d 4) (ta 7 (Qo d 4) (bn H fun X e H=>AC.take 8 (.pointer (some ⟨d,4+a.n.toNat * 1,none⟩)) rfl (by kernel_rfl) (by kernel_rfl) (fun P A=>(rx (by kernel_rfl) (zx (k:= .i64) underlying289 (by kernel_rfl) (tE e).1 (tE e).2 _))) (bn H fun b z H=>o1 9 (gD 9 (Own.st (T:=21) (j:=4+a.n.toNat * 1) (us:=[J f]) (nw:=[r0_0,r0_1,r0_2,r0_3,J b.1,J b.2.1,J b.2.2.1,J b.2.2.2.1,J b.2.2.2.2.1,J b.2.2.2.2.2.1,J b.2.2.2.2.2.2.1,J b.2.2.2.2.2.2.2.1,J b.2.2.2.2.2.2.2.2.1,J b.2.2.2.2.2.2.2.2.2.1,J b.2.2.2.2.2.2.2.2.2.2.1,J b.2.2.2.2.2.2.2.2.2.2.2.1,J b.2.2.2.2.2.2.2.2.2.2.2.2.1,J b.2.2.2.2.2.2.2.2.2.2.2.2.2.1,J b.2.2.2.2.2.2.2.2.2.2.2.2.2.2.1,J b.2.2.2.2.2.2.2.2.2.2.2.2.2.2.2,I a.n,r0_21,r0_22,r0_23]) (v:=J f) 0 h (by kernel_rfl) rfl rfl rfl rfl (by kernel_rfl) ⟨rfl,trivial⟩ (Ie e (bE rfl)) (Hq (k:= .i32) e z [r0_0,r0_1,r0_2,r0_3] [I a.n,r0_21,r0_22,r0_23])) ?_))))))))));rintro Z f0 i;refine ⟨.inl rfl,dn (nrm (sr (vv (Qo d 4) (va (Qo d 20) (vx (le1 20 u_3 (i.on 0 rfl)) (va (I (w64 (a.n+1))) (va (Qo d 4) (va (Qo d 20) (md (sC 3 20 (I (w64 (a.n+1))) [r0_0,r0_1,r0_2,r0_3,J b.1,J b.2.1,J b.2.2.1,J b.2.2.2.1,J b.2.2.2.2.1,J b.2.2.2.2.2.1,J b.2.2.2.2.2.2.1,J b.2.2.2.2.2.2.2.1,J b.2.2.2.2.2.2.2.2.1,J b.2.2.2.2.2.2.2.2.2.1,J b.2.2.2.2.2.2.2.2.2.2.1,J b.2.2.2.2.2.2.2.2.2.2.2.1,J b.2.2.2.2.2.2.2.2.2.2.2.2.1,J b.2.2.2.2.2.2.2.2.2.2.2.2.2.1,J b.2.2.2.2.2.2.2.2.2.2.2.2.2.2.1,J b.2.2.2.2.2.2.2.2.2.2.2.2.2.2.2,I (w64 (a.n+1)),r0_21,r0_22,r0_23] 0 i ⟨rfl,trivial⟩) ?_)))))))))⟩;rintro t g0 o;refine wln (sr (va (B true) (wln (W.ret ?_))));obtain rfl:=si H;exact r1 (qq t ⟨o,rfl⟩)
def fc (sg:Sto) (p0:Option Nat) (p1:Int) (p2:am):Option (Sto×Int):=
 ((dJ p1).bind fun h=>
 if (!h)=true then
 some (65533)
 else
 some (p1)).bind fun g=>
 (p0).bind fun b=>
 (sg.widen_Cluster[b]?).bind fun a=>
 (cu a.text g).bind fun e=>
 (sg.set_widen_Cluster b (⟨a.at_,a.wide,e.1,a.gauge⟩:bj)).bind fun c=>
 (bY a.gauge g p2).bind fun f=>
 (c.set_widen_Cluster b (⟨a.at_,a.wide,e.1,f.1⟩:bj)).bind fun d=>
 some (d,f.2)
theorem mY (O0:Own c0 G F) (T:Rel c0 sg G) (p0:Option Nat) (m:Int) (f:am) {r:Sto×Int} (h2:Pt 3 c0 v1 p0) (H:fc sg p0 m f=some r): Calls prog 307 #[v1,J m,.agg #[I f.Break,B f.Pict,I f.Conj,I f.East]] c0.w (aP c0 fun c v=>∃G_:Gm,Own c G_ (F)∧Rel c r.1 G_∧v=I r.2):=by
 unfold fc at H;refine en func307 rfl rfl (sr (me (bx 238 [I f.Break,B f.Pict,I f.Conj,I f.East] O0) ?_));rintro v7 c6 s ⟨b3,rfl,O4,m5⟩;refine va (I 0) (wln (bn H fun h i e=>W.seqJ (Jn c6 fun c l=>Own c G (F)∧l= [(0,v1),(1,J h),(5,Q b3)]) ?_ ?_))
 ·refine sr (va (J m) (bn i fun t0 a0 i=>cl (ki O4 m a0) ?_));rintro v16 p j1 ⟨o,rfl⟩;refine va (B (!t0)) (wln (cn i (fun b0 i=>?_) (fun b0 i=>?_)))
  ·refine W.region (va (J 65533) (wln ?_));obtain rfl:=si i;exact jn p ⟨o,rfl⟩
  refine W.skip (nrm ?_);obtain rfl:=si i;exact jn p ⟨o,rfl⟩
 rintro e_ w_ ⟨e1,g1,_,rfl,k,rfl,y,rfl⟩;refine sr (va (v1) (bn e fun z0 d0 e=>?_));obtain ⟨d,rfl,j⟩:=((h2.mono (s.trans k))).get d0;refine va (Q d) (va (Qo d 4) (va (J h) (bn e fun b e0 e=>?_)));have f0:=Rel.open_widen_Cluster (T.mono (s.trans k)) e0 j;have z:=y.borrow 0 f0 rfl;refine bn e fun a g0 e=>cl (kp b.text h z g0) ?_;rintro v37 f1 l0 ⟨A,rfl⟩;have D:=A.giveB 0 rfl;refine bn e fun t i0 e=>?_;obtain ⟨b1,E,U,h0,c1⟩:=Rel.put_widen_Cluster D (T.mono (s.trans (k.trans l0))) (E':=[(Eb d 338 [I b.at_.Row,I b.at_.Col,B b.at_.Pending,I b.wide,J a.1.text.1,J a.1.text.2.1,J a.1.text.2.2.1,J a.1.text.2.2.2.1,J a.1.text.2.2.2.2.1,J a.1.text.2.2.2.2.2.1,J a.1.text.2.2.2.2.2.2.1,J a.1.text.2.2.2.2.2.2.2.1,J a.1.text.2.2.2.2.2.2.2.2.1,J a.1.text.2.2.2.2.2.2.2.2.2.1,J a.1.text.2.2.2.2.2.2.2.2.2.2.1,J a.1.text.2.2.2.2.2.2.2.2.2.2.2.1,J a.1.text.2.2.2.2.2.2.2.2.2.2.2.2.1,J a.1.text.2.2.2.2.2.2.2.2.2.2.2.2.2.1,J a.1.text.2.2.2.2.2.2.2.2.2.2.2.2.2.2.1,J a.1.text.2.2.2.2.2.2.2.2.2.2.2.2.2.2.2,I a.1.n,B b.gauge.some,B b.gauge.pict,B b.gauge.wide])]) i0 ⟨d,(tm j),rfl⟩;refine wln (W.seq (rD [] (Kp G0 []) E ?_));intro Z m0 M;have k1:Kp G0 [] Z:=Kp.nil0;refine ta 0 (Q d) (ta 1 (Q d) (ta 2 (Qo d 21) (ta 3 (J h) (tx 4 (fun c' i1=>lN 238 (mm m5)) ?_))));have N:=M.borrow 0 h0 rfl;refine bn e fun g j0 e=>o1 5 (gc 5 (kI b.gauge h f N j0) ?_);rintro v56 q o0 ⟨P,rfl⟩;have R:=P.giveB 0 rfl;refine bn e fun u k0 e=>?_;obtain ⟨x,S,X,h1,d1⟩:=Rel.put_widen_Cluster R (U.mono (m0.trans o0)) (E':=[(Eb d 338 [I b.at_.Row,I b.at_.Col,B b.at_.Pending,I b.wide,J a.1.text.1,J a.1.text.2.1,J a.1.text.2.2.1,J a.1.text.2.2.2.1,J a.1.text.2.2.2.2.1,J a.1.text.2.2.2.2.2.1,J a.1.text.2.2.2.2.2.2.1,J a.1.text.2.2.2.2.2.2.2.1,J a.1.text.2.2.2.2.2.2.2.2.1,J a.1.text.2.2.2.2.2.2.2.2.2.1,J a.1.text.2.2.2.2.2.2.2.2.2.2.1,J a.1.text.2.2.2.2.2.2.2.2.2.2.2.1,J a.1.text.2.2.2.2.2.2.2.2.2.2.2.2.1,J a.1.text.2.2.2.2.2.2.2.2.2.2.2.2.2.1,J a.1.text.2.2.2.2.2.2.2.2.2.2.2.2.2.2.1,J a.1.text.2.2.2.2.2.2.2.2.2.2.2.2.2.2.2,I a.1.n,B g.1.some,B g.1.pict,B g.1.wide])]) k0 ⟨d,(tm j),rfl⟩;have s0:Kp G0 [] q:=Kp.nil0;refine ⟨.inr s0,ta 6 (I g.2) (dn (nrm (W.ret ?_)))⟩;obtain rfl:=si e;exact r1 (qq q ⟨x,S,X,rfl⟩)
def bQ (p0:bF):Option (List Int):=
 if false=true then
 some ([]:List Int)
 else
 (slc (a16 p0.text) 0 p0.n).bind fun a=>
 (fO a).bind fun b=>
 some b
theorem fy {b:Nat} {r0_0:Value} {r0_1:Value} {r0_2:Value} {r0_3:Value} {r0_21:Value} {r0_22:Value} {r0_23:Value} (a:bF) (p:Own c0 G ((Eb b 338 [r0_0,r0_1,r0_2,r0_3,J a.text.1,J a.text.2.1,J a.text.2.2.1,J a.text.2.2.2.1,J a.text.2.2.2.2.1,J a.text.2.2.2.2.2.1,J a.text.2.2.2.2.2.2.1,J a.text.2.2.2.2.2.2.2.1,J a.text.2.2.2.2.2.2.2.2.1,J a.text.2.2.2.2.2.2.2.2.2.1,J a.text.2.2.2.2.2.2.2.2.2.2.1,J a.text.2.2.2.2.2.2.2.2.2.2.2.1,J a.text.2.2.2.2.2.2.2.2.2.2.2.2.1,J a.text.2.2.2.2.2.2.2.2.2.2.2.2.2.1,J a.text.2.2.2.2.2.2.2.2.2.2.2.2.2.2.1,J a.text.2.2.2.2.2.2.2.2.2.2.2.2.2.2.2,I a.n,r0_21,r0_22,r0_23]) :: F)) {r:List Int} (H:bQ a=some r): Calls prog 232 #[.pointer (some ⟨b,4,none⟩)] c0.w (aP c0 fun c v=>∃h o,Own c G (es true (RI .i32) h 21 o r :: (Eb b 338 [r0_0,r0_1,r0_2,r0_3,J a.text.1,J a.text.2.1,J a.text.2.2.1,J a.text.2.2.2.1,J a.text.2.2.2.2.1,J a.text.2.2.2.2.2.1,J a.text.2.2.2.2.2.2.1,J a.text.2.2.2.2.2.2.2.1,J a.text.2.2.2.2.2.2.2.2.1,J a.text.2.2.2.2.2.2.2.2.2.1,J a.text.2.2.2.2.2.2.2.2.2.2.1,J a.text.2.2.2.2.2.2.2.2.2.2.2.1,J a.text.2.2.2.2.2.2.2.2.2.2.2.2.1,J a.text.2.2.2.2.2.2.2.2.2.2.2.2.2.1,J a.text.2.2.2.2.2.2.2.2.2.2.2.2.2.2.1,J a.text.2.2.2.2.2.2.2.2.2.2.2.2.2.2.2,I a.n,r0_21,r0_22,r0_23]) :: F)∧v=h∧OA (RI .i32) c h o r):=by
 unfold bQ at H;refine en func232 rfl rfl (sr (va (Y) (wln (W.seq (sr (va (Qo b 4) (va (B false) (wln (W.cond (t:=false) (by kernel_rfl) (fun g=>?_) (fun g=>?_))))))))))
 ·cases g
 have H:=ie g H;refine W.skip (nrm (W.seq (rD [] (Kp G0 [(Eb b 338 [r0_0,r0_1,r0_2,r0_3,J a.text.1,J a.text.2.1,J a.text.2.2.1,J a.text.2.2.2.1,J a.text.2.2.2.2.1,J a.text.2.2.2.2.2.1,J a.text.2.2.2.2.2.2.1,J a.text.2.2.2.2.2.2.2.1,J a.text.2.2.2.2.2.2.2.2.1,J a.text.2.2.2.2.2.2.2.2.2.1,J a.text.2.2.2.2.2.2.2.2.2.2.1,J a.text.2.2.2.2.2.2.2.2.2.2.2.1,J a.text.2.2.2.2.2.2.2.2.2.2.2.2.1,J a.text.2.2.2.2.2.2.2.2.2.2.2.2.2.1,J a.text.2.2.2.2.2.2.2.2.2.2.2.2.2.2.1,J a.text.2.2.2.2.2.2.2.2.2.2.2.2.2.2.2,I a.n,r0_21,r0_22,r0_23])]) p ?_)));intro s M i;have y:Kp G0 [(Eb b 338 [r0_0,r0_1,r0_2,r0_3,J a.text.1,J a.text.2.1,J a.text.2.2.1,J a.text.2.2.2.1,J a.text.2.2.2.2.1,J a.text.2.2.2.2.2.1,J a.text.2.2.2.2.2.2.1,J a.text.2.2.2.2.2.2.2.1,J a.text.2.2.2.2.2.2.2.2.1,J a.text.2.2.2.2.2.2.2.2.2.1,J a.text.2.2.2.2.2.2.2.2.2.2.1,J a.text.2.2.2.2.2.2.2.2.2.2.2.1,J a.text.2.2.2.2.2.2.2.2.2.2.2.2.1,J a.text.2.2.2.2.2.2.2.2.2.2.2.2.2.1,J a.text.2.2.2.2.2.2.2.2.2.2.2.2.2.2.1,J a.text.2.2.2.2.2.2.2.2.2.2.2.2.2.2.2,I a.n,r0_21,r0_22,r0_23])] s:=(Kp.cons (i.on 0 rfl) Kp.nil0);refine ta 0 (.pointer (some ⟨b,4,none⟩)) (ta 1 (Qo b 4) (ta 2 (Qo b 4) (ta 3 (Qo b 4) (ta 4 (Qo b 4) (ta 5 (Qo b 20) (tkx 6 y (fun q l x=>le1 20 u_3 (x.on 0 rfl)) (bn H fun A d H=>AC.take 7 (.slice (some ⟨b,4,none⟩) a.n.toNat 16) rfl (by kernel_rfl) (by kernel_rfl) (fun q l=>(rx (by kernel_rfl) (CD (k:= .i64) underlying289 (by kernel_rfl) (oW d).2.1 (oW d).2.2.1 _))) (bn H fun D u H=>o1 8 (gc 8 (ul i rfl (Cp d) (FY (k:= .i32) d [r0_0,r0_1,r0_2,r0_3] [I a.n,r0_21,r0_22,r0_23]) u) ?_)))))))));rintro v8 f E ⟨_,z,e,rfl,j⟩;have m:Kp G0 [(Eb b 338 [r0_0,r0_1,r0_2,r0_3,J a.text.1,J a.text.2.1,J a.text.2.2.1,J a.text.2.2.2.1,J a.text.2.2.2.2.1,J a.text.2.2.2.2.2.1,J a.text.2.2.2.2.2.2.1,J a.text.2.2.2.2.2.2.2.1,J a.text.2.2.2.2.2.2.2.2.1,J a.text.2.2.2.2.2.2.2.2.2.1,J a.text.2.2.2.2.2.2.2.2.2.2.1,J a.text.2.2.2.2.2.2.2.2.2.2.2.1,J a.text.2.2.2.2.2.2.2.2.2.2.2.2.1,J a.text.2.2.2.2.2.2.2.2.2.2.2.2.2.1,J a.text.2.2.2.2.2.2.2.2.2.2.2.2.2.2.1,J a.text.2.2.2.2.2.2.2.2.2.2.2.2.2.2.2,I a.n,r0_21,r0_22,r0_23])] f:=(Kp.cons (e.on 1 rfl) Kp.nil0);refine ⟨.inr m,ta 9 (v8) (dn (nrm (W.ret ?_)))⟩;obtain rfl:=si H;exact r1 (qq f ⟨v8,z,e,rfl,j⟩)
def kP (sg:Sto) (p0:Option Nat) (p1:Int) (p2:am):Option (Sto×(Option Nat)):=
 (orE p0.isNone ((p0).bind fun k=>
 (sg.place_Pen[k]?).bind fun h=>
 some h.G.isNone)).bind fun j=>
 if j=true then
 some (sg,(none:Option Nat))
 else
 (some (sg.add_widen_Cluster (⟨(⟨0,0,false⟩:ai),0,(⟨(0,0,0,0,0,0,0,0,0,0,0,0,0,0,0,0),0⟩:bF),(⟨false,false,false⟩:aV)⟩:bj))).bind fun e=>
 (fc e (some sg.widen_Cluster.length) p1 p2).bind fun b=>
 (b.1.widen_Cluster[sg.widen_Cluster.length]?).bind fun a=>
 (b.1.set_widen_Cluster sg.widen_Cluster.length (⟨a.at_,b.2,a.text,a.gauge⟩:bj)).bind fun f=>
 (bQ a.text).bind fun i=>
 (iF f p0 b.2 i).bind fun d=>
 (d.1.widen_Cluster[sg.widen_Cluster.length]?).bind fun c=>
 (d.1.set_widen_Cluster sg.widen_Cluster.length (⟨d.2,c.wide,c.text,c.gauge⟩:bj)).bind fun g=>
 some (g,(some sg.widen_Cluster.length))
theorem vS (O0:Own c0 G F) (R0:Rel c0 sg G) (hG:Gl [2,4] c0) (y:Option Nat) (z:Int) (g:am) {r:Sto×(Option Nat)} (h2:Pt 2 c0 v1 y) (H:kP sg y z g=some r): Calls prog 268 #[v1,J z,.agg #[I g.Break,B g.Pict,I g.Conj,I g.East]] c0.w (aP c0 fun c v=>∃y1,∃G_:Gm,Own c G_ (F)∧Rel c r.1 G_∧v=y1∧Pt 3 c y1 r.2):=by
 unfold kP at H;refine en func268 rfl rfl (sr (me (bx 238 [I g.Break,B g.Pict,I g.Conj,I g.East] O0) ?_));rintro v7 c6 l6 ⟨b3,rfl,O4,m5⟩;refine va (.pointer none) (wln (W.seq (W.seq (bn H fun m1 h8 H=>W.join (Jn c6 fun c l=>Own c G (F)∧l= [(0,v1),(1,J z),(5,Q b3),(16,B m1)]) ?_ ?_))))
 ·clear H;refine W.region (va (v1) (vr (B y.isNone) (by rcases h2.m.cs with ⟨j,k⟩ | ⟨b_,j,k⟩ <;> (subst j; rw [k]; kernel_rfl)) ?_));rcases bo (y.isNone) with s | s
  ·obtain rfl:=orT s h8;exact vb s (pz (pz (ps (va (B true) (wln (jn c6 ⟨O4,rfl⟩))))))
  have i:=orF s h8;refine vb s (wa (v1) (wn (bn i fun x3 q1 i=>?_)));obtain ⟨T,rfl,n1⟩:=((h2.mono l6)).get q1;refine va (Q T) (wa (Q T) (wn (bn i fun u s1 i=>?_)));obtain ⟨v15,u1,t1⟩:=Rel.open_place_Pen (R0.mono l6) s1 n1;refine vx (le1 0 eU (O4.gon u1 0 rfl)) (wn (vr (B u.G.isNone) (by rcases (t1).cs with ⟨j,k⟩ | ⟨b_,j,k⟩ <;> (subst j; rw [k]; kernel_rfl)) ?_));obtain rfl:=si i;exact va (B u.G.isNone) (wln (jn c6 ⟨O4,rfl⟩))
 rintro e_ w_ ⟨f1,s3,_,rfl,q2,rfl,A,rfl⟩;refine nrm (cn H (fun w1 H=>?_) (fun w1 H=>?_))
 ·refine sr (va (.pointer none) (wln (W.ret (thr ?_))));obtain rfl:=si H;exact r1 (qq f1 ⟨(.pointer none),G,A,R0.m,rfl,rfl⟩)
 refine W.skip (nrm (sr (va (.agg #[I 0,I 0,B false,I 0,J 0,J 0,J 0,J 0,J 0,J 0,J 0,J 0,J 0,J 0,J 0,J 0,J 0,J 0,J 0,J 0,I 0,B false,B false,B false]) (me (al 338 [I 0,I 0,B false,I 0,J 0,J 0,J 0,J 0,J 0,J 0,J 0,J 0,J 0,J 0,J 0,J 0,J 0,J 0,J 0,J 0,I 0,B false,B false,B false] A) ?_))));rintro v28 n3 s2 ⟨e,rfl,o0⟩;have q0:=o0.sD 1 [0];refine bn H fun j0 x1 H=>?_;obtain ⟨g1,h3,z1,y3,o,s0,P,t3,u3,k3⟩:=Rel.new_widen_Cluster (E:=[(Eb e 338 [I 0,I 0,B false,I 0,J 0,J 0,J 0,J 0,J 0,J 0,J 0,J 0,J 0,J 0,J 0,J 0,J 0,J 0,J 0,J 0,I 0,B false,B false,B false])]) (F:=F) (x:=(⟨(⟨0,0,false⟩:ai),0,(⟨(0,0,0,0,0,0,0,0,0,0,0,0,0,0,0,0),0⟩:bF),(⟨false,false,false⟩:aV)⟩:bj)) (b:=e) q0 (R0.mono (l6.trans (q2.trans s2))) (fun c_ hle_=>⟨e,rfl,rfl⟩);rw [bi x1] at P;refine WL.gh z1.1 ?_;have U:Pt 3 g1 (Q e) (some sg.widen_Cluster.length):=⟨e,rfl,o⟩;refine va (Q e) (wln (sr (vv (Q e) (va (J z) (vx (lN 238 (mm m5)) (bn H fun h b2 H=>cl (mY s0 P (some sg.widen_Cluster.length) z g U b2) ?_))))));rintro v48 o3 t2 ⟨i3,t0,R,rfl⟩;refine va (Q e) (va (Qo e 3) (bn H fun a c2 H=>?_));have d2:=Rel.open_widen_Cluster R c2 (tm o);refine md (gC 3 3 (I h.2) [I a.at_.Row,I a.at_.Col,B a.at_.Pending,I h.2,J a.text.text.1,J a.text.text.2.1,J a.text.text.2.2.1,J a.text.text.2.2.2.1,J a.text.text.2.2.2.2.1,J a.text.text.2.2.2.2.2.1,J a.text.text.2.2.2.2.2.2.1,J a.text.text.2.2.2.2.2.2.2.1,J a.text.text.2.2.2.2.2.2.2.2.1,J a.text.text.2.2.2.2.2.2.2.2.2.1,J a.text.text.2.2.2.2.2.2.2.2.2.2.1,J a.text.text.2.2.2.2.2.2.2.2.2.2.2.1,J a.text.text.2.2.2.2.2.2.2.2.2.2.2.2.1,J a.text.text.2.2.2.2.2.2.2.2.2.2.2.2.2.1,J a.text.text.2.2.2.2.2.2.2.2.2.2.2.2.2.2.1,J a.text.text.2.2.2.2.2.2.2.2.2.2.2.2.2.2.2,I a.text.n,B a.gauge.some,B a.gauge.pict,B a.gauge.wide] 0 t0 d2 ⟨rfl,trivial⟩) ?_;rintro p3 X u0;refine bn H fun k0 e2 H=>?_;obtain ⟨p,v0,d1,q,l3⟩:=Rel.put_widen_Cluster u0 (R.mono X) (E':=[(Eb e 338 [I a.at_.Row,I a.at_.Col,B a.at_.Pending,I h.2,J a.text.text.1,J a.text.text.2.1,J a.text.text.2.2.1,J a.text.text.2.2.2.1,J a.text.text.2.2.2.2.1,J a.text.text.2.2.2.2.2.1,J a.text.text.2.2.2.2.2.2.1,J a.text.text.2.2.2.2.2.2.2.1,J a.text.text.2.2.2.2.2.2.2.2.1,J a.text.text.2.2.2.2.2.2.2.2.2.1,J a.text.text.2.2.2.2.2.2.2.2.2.2.1,J a.text.text.2.2.2.2.2.2.2.2.2.2.2.1,J a.text.text.2.2.2.2.2.2.2.2.2.2.2.2.1,J a.text.text.2.2.2.2.2.2.2.2.2.2.2.2.2.1,J a.text.text.2.2.2.2.2.2.2.2.2.2.2.2.2.2.1,J a.text.text.2.2.2.2.2.2.2.2.2.2.2.2.2.2.2,I a.text.n,B a.gauge.some,B a.gauge.pict,B a.gauge.wide])]) e2 ⟨e,(tm o),rfl⟩;refine wln (W.seq (rD [10,13] (Kp p []) v0 ?_));intro h1 u2 D;have x2:Kp p [] h1:=(Kp.nil D);refine ta 0 (Q e) (ta 1 (v1) (ta 2 (Q e) (ta 3 (Q e) (ta 4 (Qo e 3) (tkx 5 x2 (fun c' w3 hk=>le1 3 u_3 (hk.gon q 0 rfl)) (ta 6 (Q e) (ta 7 (Q e) (ta 8 (Qo e 4) ?_))))))));have w0:=D.borrow 0 q rfl;refine bn H fun i0 f2 H=>o1 9 (gc 9 (fy a.text w0 f2) ?_);rintro a4 i1 v2 ⟨_,z3,x0,rfl,g2⟩;have z0:=x0.sD 2 [1,0];have y0:=z0.giveB 0 rfl;have M:=Own.back y0 q rfl;have y2:Kp p [] i1:=(Kp.nil M);refine ⟨.inr y2,?_⟩;obtain ⟨j1,k2,Z,N,i2⟩:=M.frz 0 rfl g2;have z2:Kp p [] j1:=(Kp.nil N);refine AC.gh k2 Z (fun _=>z2) (bn H fun f l2 H=>o1 10 (gc 10 (pA N d1.m (hG.m.le (by decide)) y h.2 i0 h2.m i2 l2) ?_));rintro b4 q3 w2 ⟨j3,a1,S,rfl⟩;refine ⟨.inl rfl,ta 11 (Q e) (ta 12 (Q e) (bn H fun d m2 H=>?_))⟩;have n2:=Rel.open_widen_Cluster S m2 (tm o);refine o1 13 (gD 13 (gB 29 0 [I f.2.Row,I f.2.Col,B f.2.Pending] [I f.2.Row,I f.2.Col,B f.2.Pending,I d.wide,J d.text.text.1,J d.text.text.2.1,J d.text.text.2.2.1,J d.text.text.2.2.2.1,J d.text.text.2.2.2.2.1,J d.text.text.2.2.2.2.2.1,J d.text.text.2.2.2.2.2.2.1,J d.text.text.2.2.2.2.2.2.2.1,J d.text.text.2.2.2.2.2.2.2.2.1,J d.text.text.2.2.2.2.2.2.2.2.2.1,J d.text.text.2.2.2.2.2.2.2.2.2.2.1,J d.text.text.2.2.2.2.2.2.2.2.2.2.2.1,J d.text.text.2.2.2.2.2.2.2.2.2.2.2.2.1,J d.text.text.2.2.2.2.2.2.2.2.2.2.2.2.2.1,J d.text.text.2.2.2.2.2.2.2.2.2.2.2.2.2.2.1,J d.text.text.2.2.2.2.2.2.2.2.2.2.2.2.2.2.2,I d.text.n,B d.gauge.some,B d.gauge.pict,B d.gauge.wide] 0 a1 n2 ⟨rfl,rfl,rfl,trivial⟩) ?_);rintro k1 a0 b1;refine bn H fun l0 o2 H=>?_;obtain ⟨m0,c1,e1,v3,m3⟩:=Rel.put_widen_Cluster b1 (S.mono a0) (E':=[(Eb e 338 [I f.2.Row,I f.2.Col,B f.2.Pending,I d.wide,J d.text.text.1,J d.text.text.2.1,J d.text.text.2.2.1,J d.text.text.2.2.2.1,J d.text.text.2.2.2.2.1,J d.text.text.2.2.2.2.2.1,J d.text.text.2.2.2.2.2.2.1,J d.text.text.2.2.2.2.2.2.2.1,J d.text.text.2.2.2.2.2.2.2.2.1,J d.text.text.2.2.2.2.2.2.2.2.2.1,J d.text.text.2.2.2.2.2.2.2.2.2.2.1,J d.text.text.2.2.2.2.2.2.2.2.2.2.2.1,J d.text.text.2.2.2.2.2.2.2.2.2.2.2.2.1,J d.text.text.2.2.2.2.2.2.2.2.2.2.2.2.2.1,J d.text.text.2.2.2.2.2.2.2.2.2.2.2.2.2.2.1,J d.text.text.2.2.2.2.2.2.2.2.2.2.2.2.2.2.2,I d.text.n,B d.gauge.some,B d.gauge.pict,B d.gauge.wide])]) o2 ⟨e,((t2.trans (X.trans (u2.trans (v2.trans (Z.trans (w2.trans a0)))))).t _ _ _ o),rfl⟩;refine ⟨.inl rfl,dn (nrm (sr (vv (Q e) (wln (W.ret ?_)))))⟩;obtain rfl:=si H;have b0:=c1.sD 1 [];exact r1 (qq k1 ⟨(Q e),m0,b0,e1,rfl,U.m⟩)
def dH (sg:Sto) (p0:Option Nat) (p1:Option Nat) (p2:Int) (p3:am):Option (Sto×Bool):=
 (orE p0.isNone (some p1.isNone)).bind fun A=>
 (orE A ((p1).bind fun r=>
 (sg.place_Pen[r]?).bind fun u=>
 some u.G.isNone)).bind fun p=>
 (orE p ((p0).bind fun s=>
 (sg.widen_Cluster[s]?).bind fun h=>
 (bR h.text).bind fun w=>
 some w)).bind fun q=>
 if q=true then
 some (sg,false)
 else
 (p0).bind fun b=>
 (sg.widen_Cluster[b]?).bind fun v=>
 (fc sg p0 p2 p3).bind fun d=>
 (d.1.widen_Cluster[b]?).bind fun c=>
 (d.1.set_widen_Cluster b (⟨c.at_,d.2,c.text,c.gauge⟩:bj)).bind fun a=>
 (if (d.2 != v.wide)=true then
 (p1).bind fun j=>
 (a.place_Pen[j]?).bind fun k=>
 (a.set_place_Pen j (⟨k.G,c.at_,k.Auto⟩:bq)).bind fun e=>
 (e.widen_Cluster[b]?).bind fun l=>
 (bQ l.text).bind fun x=>
 (iF e p1 l.wide x).bind fun g=>
 (g.1.widen_Cluster[b]?).bind fun f=>
 (g.1.set_widen_Cluster b (⟨g.2,f.wide,f.text,f.gauge⟩:bj)).bind fun i=>
 some (i)
 else
 (p1).bind fun t=>
 (a.place_Pen[t]?).bind fun m=>
 (cf a m.G).bind fun y=>
 if (decide (d.2≤y))=true then
 (bv a m.G c.at_.Row).bind fun n=>
 (nv a n c.at_.Col p2).bind fun o=>
 some (o.1)
 else
 some (a)).bind fun z=>
 some (z,true)
theorem qu (O0:Own c0 G F) (R0:Rel c0 sg G) (hG:Gl [2,4] c0) (p0:Option Nat) (p1:Option Nat) (Z:Int) (s:am) {r:Sto×Bool} (h2:Pt 3 c0 v1 p0) (h4:Pt 2 c0 v3 p1) (H:dH sg p0 p1 Z s=some r): Calls prog 267 #[v1,v3,J Z,.agg #[I s.Break,B s.Pict,I s.Conj,I s.East]] c0.w (aP c0 fun c v=>∃G_:Gm,Own c G_ (F)∧Rel c r.1 G_∧v=B r.2):=by
 unfold dH at H;refine en func267 rfl rfl (sr (me (bx 238 [I s.Break,B s.Pict,I s.Conj,I s.East] O0) ?_));rintro v9 c8 R ⟨b5,rfl,O6,m7⟩;refine va (B false) (wln (W.seq (W.seq (bn H fun l7 c2 H=>bn H fun j6 x0 H=>bn H fun i3 d0 H=>W.join (Jn c8 fun c l=>Own c G (F)∧l= [(0,v1),(1,v3),(2,J Z),(7,Q b5),(28,B i3)]) ?_ ?_))))
 ·clear H;refine W.region (va (v1) (vr (B p0.isNone) (by rcases h2.m.cs with ⟨h,i⟩ | ⟨b_,h,i⟩ <;> (subst h; rw [i]; kernel_rfl)) ?_));rcases bo (p0.isNone) with A | A
  ·obtain rfl:=orT A c2;refine vb A (pz (va (B true) ?_));have d2:true=true:=rfl;obtain rfl:=orT d2 x0;refine vb d2 (pz (pz (ps (va (B true) ?_))));have e2:true=true:=rfl;obtain rfl:=orT e2 d0;exact vb e2 (pz (pz (va (B true) (wln (jn c8 ⟨O6,rfl⟩)))))
  have m4:=orF A c2;refine vb A (wa (v3) (wn (vr (B p1.isNone) (by rcases h4.m.cs with ⟨h,i⟩ | ⟨b_,h,i⟩ <;> (subst h; rw [i]; kernel_rfl)) ?_)));obtain rfl:=si m4;refine va (B p1.isNone) ?_;rcases bo (p1.isNone) with D | D
  ·obtain rfl:=orT D x0;refine vb D (pz (pz (ps (va (B true) ?_))));have f2:true=true:=rfl;obtain rfl:=orT f2 d0;exact vb f2 (pz (pz (va (B true) (wln (jn c8 ⟨O6,rfl⟩)))))
  have y:=orF D x0;refine vb D (wa (v3) (wn (bn y fun n6 e5 y=>?_)));obtain ⟨z1,rfl,d5⟩:=((h4.mono R)).get e5;refine va (Q z1) (wa (Q z1) (wn (bn y fun U f5 y=>?_)));obtain ⟨v24,h5,g5⟩:=Rel.open_place_Pen (R0.mono R) f5 d5;refine vx (le1 0 eU (O6.gon h5 0 rfl)) (wn (vr (B U.G.isNone) (by rcases (g5).cs with ⟨h,i⟩ | ⟨b_,h,i⟩ <;> (subst h; rw [i]; kernel_rfl)) ?_));obtain rfl:=si y;refine va (B U.G.isNone) ?_;rcases bo (U.G.isNone) with E | E
  ·obtain rfl:=orT E d0;exact vb E (pz (pz (va (B true) (wln (jn c8 ⟨O6,rfl⟩)))))
  have k:=orF E d0;refine vb E (wa (v1) (wn (bn k fun o6 j5 k=>?_)));obtain ⟨b2,rfl,i5⟩:=((h2.mono R)).get j5;refine va (Q b2) (wa (Qo b2 4) (wn (bn k fun h0 k5 k=>?_)));have g2:=Rel.open_widen_Cluster (R0.mono R) k5 i5;have o4:=O6.borrow 0 g2 rfl;refine bn k fun f4 l5 k=>cl (fA h0.text o4 l5) ?_;rintro v42 y4 p7 ⟨p4,rfl⟩;have q4:=p4.giveB 0 rfl;have r4:=Own.back q4 g2 rfl;obtain rfl:=si k;exact va (B f4) (wln (jn y4 ⟨r4,rfl⟩))
 rintro e_ w_ ⟨z4,n7,_,rfl,e0,rfl,q0,rfl⟩;refine nrm (cn H (fun m5 H=>?_) (fun m5 H=>?_))
 ·refine sr (va (B false) (wln (W.ret (thr ?_))));obtain rfl:=si H;exact r1 (qq z4 ⟨G,q0,R0.m,rfl⟩)
 refine W.skip (nrm (sr (va (v1) (bn H fun p6 n5 H=>?_))));obtain ⟨d,rfl,u⟩:=((h2.mono (R.trans e0))).get n5;refine va (Q d) (va (Qo d 3) (bn H fun x o5 H=>?_));have p5:=Rel.open_widen_Cluster (R0.mono (R.trans e0)) o5 u;refine vx (le1 3 u_3 (q0.gon p5 0 rfl)) (va (I x.wide) (wln (sr (vv (Q d) (va (J Z) (vx (lN 238 (mm m7)) (bn H fun g q5 H=>cl (mY q0 R0.m p0 Z s h2.m q5) ?_)))))));rintro q7 j7 f0 ⟨g7,s4,x1,rfl⟩;refine va (Q d) (va (Qo d 3) (bn H fun a r5 H=>?_));have s5:=Rel.open_widen_Cluster x1 r5 (tm u);refine md (gC 3 3 (I g.2) [I a.at_.Row,I a.at_.Col,B a.at_.Pending,I g.2,J a.text.text.1,J a.text.text.2.1,J a.text.text.2.2.1,J a.text.text.2.2.2.1,J a.text.text.2.2.2.2.1,J a.text.text.2.2.2.2.2.1,J a.text.text.2.2.2.2.2.2.1,J a.text.text.2.2.2.2.2.2.2.1,J a.text.text.2.2.2.2.2.2.2.2.1,J a.text.text.2.2.2.2.2.2.2.2.2.1,J a.text.text.2.2.2.2.2.2.2.2.2.2.1,J a.text.text.2.2.2.2.2.2.2.2.2.2.2.1,J a.text.text.2.2.2.2.2.2.2.2.2.2.2.2.1,J a.text.text.2.2.2.2.2.2.2.2.2.2.2.2.2.1,J a.text.text.2.2.2.2.2.2.2.2.2.2.2.2.2.2.1,J a.text.text.2.2.2.2.2.2.2.2.2.2.2.2.2.2.2,I a.text.n,B a.gauge.some,B a.gauge.pict,B a.gauge.wide] 0 s4 s5 ⟨rfl,trivial⟩) ?_;rintro a5 P t4;refine bn H fun j4 t5 H=>?_;obtain ⟨j,b0,o,M,h7⟩:=Rel.put_widen_Cluster t4 (x1.mono P) (E':=[(Eb d 338 [I a.at_.Row,I a.at_.Col,B a.at_.Pending,I g.2,J a.text.text.1,J a.text.text.2.1,J a.text.text.2.2.1,J a.text.text.2.2.2.1,J a.text.text.2.2.2.2.1,J a.text.text.2.2.2.2.2.1,J a.text.text.2.2.2.2.2.2.1,J a.text.text.2.2.2.2.2.2.2.1,J a.text.text.2.2.2.2.2.2.2.2.1,J a.text.text.2.2.2.2.2.2.2.2.2.1,J a.text.text.2.2.2.2.2.2.2.2.2.2.1,J a.text.text.2.2.2.2.2.2.2.2.2.2.2.1,J a.text.text.2.2.2.2.2.2.2.2.2.2.2.2.1,J a.text.text.2.2.2.2.2.2.2.2.2.2.2.2.2.1,J a.text.text.2.2.2.2.2.2.2.2.2.2.2.2.2.2.1,J a.text.text.2.2.2.2.2.2.2.2.2.2.2.2.2.2.2,I a.text.n,B a.gauge.some,B a.gauge.pict,B a.gauge.wide])]) t5 ⟨d,(tm u),rfl⟩;refine wln (bn H fun i4 e n4=>W.seqJ (Jn a5 fun c l=>∃G_,Own c G_ (F)∧l= []∧Rel c i4 G_) ?_ ?_)
 ·refine W.block (sr (vv (Q d) (va (Qo d 3) (vx (le1 3 u_3 (b0.gon M 0 rfl)) (va (I x.wide) (vv (B (g.2 != x.wide)) (wln (cn e (fun u5 e=>?_) (fun u5 e=>?_)))))))))
  ·refine sr (va (v3) (vv (Q d) (va (Q d) (vx (leN 29 0 [I a.at_.Row,I a.at_.Col,B a.at_.Pending] (b0.gon M 0 rfl)) (bn e fun q6 v5 e=>?_)))));obtain ⟨z,rfl,i2⟩:=((h4.mono (R.trans (e0.trans (f0.trans P))))).get v5;refine va (Q z) (va (Qo z 1) (bn e fun h1 w5 e=>?_));obtain ⟨n1,y5,x5⟩:=Rel.open_place_Pen o w5 i2;refine md (gB 29 1 [I a.at_.Row,I a.at_.Col,B a.at_.Pending] [n1,I a.at_.Row,I a.at_.Col,B a.at_.Pending,B h1.Auto] 0 b0 y5 ⟨rfl,rfl,rfl,trivial⟩) ?_;rintro k7 g0 u4;refine bn e fun k4 z5 e=>?_;obtain ⟨a0,v4,y1,o7,i7⟩:=Rel.put_place_Pen u4 (o.mono g0) (E':=[(Eb z 126 [n1,I a.at_.Row,I a.at_.Col,B a.at_.Pending,B h1.Auto])]) z5 ⟨z,n1,(tm i2),rfl,(x5.mono g0)⟩;refine wln (rD [10,13] (Kp a0 []) v4 ?_);intro c5 g1 w1;have c6:Kp a0 [] c5:=(Kp.nil w1);refine ta 0 (Q d) (ta 1 (Q z) (ta 2 (Q d) (ta 3 (Q d) (ta 4 (Qo d 3) (bn e fun i1 a6 e=>?_)))));have b1:=Rel.open_widen_Cluster (y1.mono g1) a6 (tm u);refine tkx 5 c6 (fun c' N q=>le1 3 u_3 (q.gon b1 0 rfl)) (ta 6 (Q d) (ta 7 (Q d) (ta 8 (Qo d 4) ?_)));have w4:=w1.borrow 0 b1 rfl;refine bn e fun g4 b6 e=>o1 9 (gc 9 (fy i1.text w4 b6) ?_);rintro z6 a3 c1 ⟨_,y6,m2,rfl,j3⟩;have o2:=m2.sD 2 [1,0];have n2:=o2.giveB 0 rfl;have j0:=Own.back n2 b1 rfl;have b4:Kp a0 [] a3:=(Kp.nil j0);refine ⟨.inr b4,?_⟩;obtain ⟨b3,l3,T,k0,k3⟩:=j0.frz 0 rfl j3;have c4:Kp a0 [] b3:=(Kp.nil k0);refine AC.gh l3 T (fun _=>c4) (bn e fun f m3 e=>o1 10 (gc 10 (pA k0 y1.m (hG.m.le (by decide)) p1 i1.wide g4 h4.m k3 m3) ?_));rintro a7 i6 d1 ⟨e6,q2,u0,rfl⟩;refine ⟨.inl rfl,ta 11 (Q d) (ta 12 (Q d) (bn e fun b n3 e=>?_))⟩;have o3:=Rel.open_widen_Cluster u0 n3 ((f0.trans (P.trans (g0.trans (g1.trans (c1.trans (T.trans d1)))))).t _ _ _ u);refine o1 13 (gD 13 (gB 29 0 [I f.2.Row,I f.2.Col,B f.2.Pending] [I f.2.Row,I f.2.Col,B f.2.Pending,I b.wide,J b.text.text.1,J b.text.text.2.1,J b.text.text.2.2.1,J b.text.text.2.2.2.1,J b.text.text.2.2.2.2.1,J b.text.text.2.2.2.2.2.1,J b.text.text.2.2.2.2.2.2.1,J b.text.text.2.2.2.2.2.2.2.1,J b.text.text.2.2.2.2.2.2.2.2.1,J b.text.text.2.2.2.2.2.2.2.2.2.1,J b.text.text.2.2.2.2.2.2.2.2.2.2.1,J b.text.text.2.2.2.2.2.2.2.2.2.2.2.1,J b.text.text.2.2.2.2.2.2.2.2.2.2.2.2.1,J b.text.text.2.2.2.2.2.2.2.2.2.2.2.2.2.1,J b.text.text.2.2.2.2.2.2.2.2.2.2.2.2.2.2.1,J b.text.text.2.2.2.2.2.2.2.2.2.2.2.2.2.2.2,I b.text.n,B b.gauge.some,B b.gauge.pict,B b.gauge.wide] 0 q2 o3 ⟨rfl,rfl,rfl,trivial⟩) ?_);rintro c3 e1 s2;refine bn e fun l4 q3 e=>?_;obtain ⟨j2,t2,x2,m6,g6⟩:=Rel.put_widen_Cluster s2 (u0.mono e1) (E':=[(Eb d 338 [I f.2.Row,I f.2.Col,B f.2.Pending,I b.wide,J b.text.text.1,J b.text.text.2.1,J b.text.text.2.2.1,J b.text.text.2.2.2.1,J b.text.text.2.2.2.2.1,J b.text.text.2.2.2.2.2.1,J b.text.text.2.2.2.2.2.2.1,J b.text.text.2.2.2.2.2.2.2.1,J b.text.text.2.2.2.2.2.2.2.2.1,J b.text.text.2.2.2.2.2.2.2.2.2.1,J b.text.text.2.2.2.2.2.2.2.2.2.2.1,J b.text.text.2.2.2.2.2.2.2.2.2.2.2.1,J b.text.text.2.2.2.2.2.2.2.2.2.2.2.2.1,J b.text.text.2.2.2.2.2.2.2.2.2.2.2.2.2.1,J b.text.text.2.2.2.2.2.2.2.2.2.2.2.2.2.2.1,J b.text.text.2.2.2.2.2.2.2.2.2.2.2.2.2.2.2,I b.text.n,B b.gauge.some,B b.gauge.pict,B b.gauge.wide])]) q3 ⟨d,((f0.trans (P.trans (g0.trans (g1.trans (c1.trans (T.trans (d1.trans e1))))))).t _ _ _ u),rfl⟩;refine ⟨.inl rfl,dn (bkn (nrm ?_))⟩;obtain rfl:=si e;have u2:=t2.sD 1 [];exact jn c3 ⟨j2,u2,rfl,x2⟩
  refine W.seq (rD [] (Kp j []) b0 ?_);intro d3 f1 l0;have m1:Kp j [] d3:=(Kp.nil l0);refine ta 0 (Q d) (ta 1 (Q d) (ta 2 (Qo d 3) (tkx 3 m1 (fun c' N q=>le1 3 u_3 (q.gon M 0 rfl)) (ta 4 (v3) (bn e fun r6 t3 e=>?_)))));obtain ⟨p,rfl,s3⟩:=((h4.mono (R.trans (e0.trans (f0.trans (P.trans f1)))))).get t3;refine ta 5 (Q p) (ta 6 (Q p) (bn e fun j1 u3 e=>?_));obtain ⟨b7,z0,y0⟩:=Rel.open_place_Pen (o.mono f1) u3 s3;refine tkx 7 m1 (fun c' N q=>le1 0 eU (q.gon z0 0 rfl)) (bn e fun q1 w3 e=>o1 8 (gc 8 (cL l0 o.m j1.G y0 w3) ?_));rintro c7 w0 s6 ⟨S,rfl⟩;have d4:Kp j [] w0:=(Kp.nil S);refine ⟨.inr d4,ta 9 (B (decide (g.2≤q1))) (ta 10 (B (decide (g.2≤q1))) (dn (nrm (cn e (fun x3 e=>?_) (fun x3 e=>?_)))))⟩
  ·refine rD [16] (Kp j []) S ?_;intro e3 t6 m0;have X:Kp j [] e3:=(Kp.nil m0);refine ta 0 (Q p) (ta 1 (Q p) (ta 2 (Q p) (tkx 3 X (fun c' N q=>le1 0 eU (q.gon z0 0 rfl)) (ta 4 (Q d) (ta 5 (Q d) (ta 6 (Q d) (ta 7 (Q d) (tkx 8 X (fun c' N q=>le1 0 u_3 (q.gon M 0 rfl)) (ta 10 (Q d) (ta 11 (Q d) (ta 12 (Q d) (ta 13 (Qo d 1) (tkx 14 X (fun c' N q=>le1 1 u_3 (q.gon M 0 rfl)) (ta 15 (J Z) (bn e fun u1 y3 e=>o1 9 (gc 9 (cO m0 o.m j1.G a.at_.Row y0.m y3) ?_))))))))))))))));rintro d7 f3 u6 ⟨_,o0,rfl,z3⟩;have e4:Kp j [] f3:=(Kp.nil o0);refine ⟨.inr e4,bn e fun d6 a4 e=>o1 16 (gc 16 (zW o0 o.m (hG.m.le (by decide)) u1 a.at_.Col Z z3 a4) ?_)⟩;rintro e7 g3 v6 ⟨k2,v2,y2,rfl⟩;refine ⟨.inl rfl,dn (bkn (nrm ?_))⟩;obtain rfl:=si e;exact jn g3 ⟨k2,v2,rfl,y2⟩
  refine W.skip (bkn (nrm ?_));obtain rfl:=si e;exact jn w0 ⟨j,S,rfl,o.m⟩
 rintro e_ w_ ⟨h3,l6,_,rfl,w6,rfl,l2,w2,rfl,z2⟩;refine sr (va (B true) (wln (W.ret ?_)));obtain rfl:=si n4;exact r1 (qq h3 ⟨l2,w2,z2,rfl⟩)
def gO (p0:am):Option (Int):=
 (cv (σ:=Int) (τ:=Int ⊕ Unit) (((([1,2,3,4,5,10,11]:List Int).length:Int) - 0).toNat+1) (fun b=>
 if (decide (b < (([1,2,3,4,5,10,11]:List Int).length:Int)))=true then
 (idx ([1,2,3,4,5,10,11]:List Int) b).bind fun d=>
 if (p0.Break==d)=true then
 some (.inr (.inl 0))
 else
 some (.inl ((w64 (b+1))))
 else
 some (.inr (.inr ()))) (0)).bind fun a=>
 match a with
 | .inl a=>
 some a
 | .inr a=>
 (orE (p0.East==1) (some (p0.East==2))).bind fun c=>
 if c=true then
 some 2
 else
 some 1
theorem rI (O0:Own c0 G F) (b:am) {r:Int} (H:gO b=some r): Calls prog 261 #[.agg #[I b.Break,B b.Pict,I b.Conj,I b.East]] c0.w (aP c0 fun c v=>Own c G (F)∧v=I r):=by
 unfold gO at H;refine en func261 rfl rfl (sr (me (bx 238 [I b.Break,B b.Pict,I b.Conj,I b.East] O0) ?_));rintro v5 c4 l4 ⟨h,rfl,O2,R⟩;refine va (I 0) (wln (sr (me (sl (RI .i64) 3 [[I 1],[I 2],[I 3],[I 4],[I 5],[I 10],[I 11]] ([1,2,3,4,5,10,11]:List Int) O2 ⟨rfl,rfl,rfl,rfl,rfl,rfl,rfl,trivial⟩) ?_)));rintro v10 s l9 ⟨p,O6,u⟩;refine va (v10) (wln (W.seq (sr (va (I 0) (wln (W.block (bn H fun o D a=>lp D (fun d=>Jn s fun c l=>Own c G (es true (RI .i64) v10 3 p ([1,2,3,4,5,10,11]:List Int) :: F)∧l= [(1,Q h),(3,v10),(4,I d)]) (fun t=>match t with | .inl T=>(fun t0 ex e w=>ex= .ret∧(Jn s fun c l=>Own c G (F)∧l= [(2,I t0)]) e w) T | .inr T=>(fun a1 ex e w=>ex= .exit 0∧(Jn s fun c l=>Own c G (es true (RI .i64) v10 3 p ([1,2,3,4,5,10,11]:List Int) :: F)∧l= [(1,Q h)]) e w) T) ?_ ?_ ?_)))))))
 ·clear a D;intro d j1 g0 u0 H;revert g0 u0;rintro P S ⟨e0,c1,_,rfl,m0,rfl,x,rfl⟩;refine W.seq (sr (va (I d) (va (v10) (vx (lnO 3 uF u.m) (va (B (decide (d < (([1,2,3,4,5,10,11]:List Int).length:Int)))) (wln (cn H (fun i0 H=>?_) (fun i0 H=>?_))))))))
  ·refine W.skip (nrm (W.seq (W.block (W.seq (rD [] (Kp G0 [es true (RI .i64) v10 3 p ([1,2,3,4,5,10,11]:List Int)]) x ?_)))));intro i o0 g;have s0:Kp G0 [es true (RI .i64) v10 3 p ([1,2,3,4,5,10,11]:List Int)] i:=(Kp.cons (g.on 0 rfl) Kp.nil0);refine ta 0 (Q h) (tx 1 (fun c' M=>l1 u_3 ((mm R) 0 _ rfl)) (ta 2 (v10) (ta 3 (I d) (bn H fun q n H=>tx 4 (fun c' M=>ixO uF u.m n) ?_))));obtain ⟨z0,j0,q0⟩:=OA.at (u.mono (m0.trans o0)) n;obtain rfl:=j0;refine AC.takeK 5 (I q) s0 rfl (by kernel_rfl) (by kernel_rfl) (by kernel_rfl) (fun c' M hk=>(rx (by kernel_rfl) (mE u_3 rfl (hk.on 0 rfl) (u.m.blk n) (at1 (j:=0) q0 rfl)))) (ta 6 (B (b.Break==q)) (dn (nrm (cn H (fun k0 H=>?_) (fun k0 H=>?_)))))
   ·refine sr (va (I 0) (wln (W.ret (bkr (thr ?_)))));obtain rfl:=si H;refine ⟨_,rfl,⟨rfl,?_⟩⟩;have X:=g.sD 1 [];exact jn i ⟨X,rfl⟩
   refine W.skip (bkn (nrm (W.region (va (I d) (vv (I (w64 (d+1))) (WL.nil ?_))))));obtain rfl:=si H;exact ⟨_,rfl,jn i ⟨g,rfl⟩⟩
  refine W.exit (thx ?_);obtain rfl:=si H;exact ⟨_,rfl,rfl,jn e0 ⟨x,rfl⟩⟩
 ·exact jn s ⟨O6,rfl⟩
 rcases o with o | o
 ·intro h0; revert h0;rintro _ P S ⟨rfl,f0,d1,_,rfl,g1,rfl,Z,rfl⟩;refine bkr (thr ?_);obtain rfl:=si a;exact r1 (qq f0 ⟨Z,rfl⟩)
 rintro _ P S ⟨rfl,k,e1,_,rfl,h1,rfl,y,rfl⟩;refine bke (nrm (W.seq (W.seq (bn a fun N E a=>W.join (Jn k fun c l=>Own c G (es true (RI .i64) v10 3 p ([1,2,3,4,5,10,11]:List Int) :: F)∧l= [(26,B N)]) ?_ ?_))))
 ·clear a;refine W.region (va (Qo h (0+3)) (vx (l1 u_3 ((mm R) 3 _ rfl)) (va (B (b.East==1)) ?_)));rcases bo (b.East==1) with f | f
  ·obtain rfl:=orT f E;exact vb f (pz (ps (va (B true) (wln (jn k ⟨y,rfl⟩)))))
  have U:=orF f E;refine vb f (wa (Qo h (0+3)) (wn (vx (l1 u_3 ((mm R) 3 _ rfl)) (wa (B (b.East==2)) ?_))));obtain rfl:=si U;exact va (B (b.East==2)) (wln (jn k ⟨y,rfl⟩))
 rintro P S ⟨A,f1,_,rfl,i1,rfl,z,rfl⟩;refine nrm (cn a (fun l0 a=>?_) (fun l0 a=>?_))
 ·refine sr (va (I 2) (wln (W.ret (thr ?_))));obtain rfl:=si a;have a0:=z.sD 1 [];exact r1 (qq A ⟨a0,rfl⟩)
 refine W.skip (nrm (sr (va (I 1) (wln (W.ret ?_)))));obtain rfl:=si a;have b0:=z.sD 1 [];exact r1 (qq A ⟨b0,rfl⟩)
def gk (p0:List Int) (p1:List am):Option (Int):=
 (cv (σ:=Int) (τ:=Int ⊕ Unit) (((p0.length:Int) - 0).toNat+1) (fun a=>
 if (decide (a < (p0.length:Int)))=true then
 (idx p1 a).bind fun h=>
 (gO h).bind fun i=>
 (orE (i==2) ((bD (decide (a > 0)) ((idx p0 a).bind fun j=>
 (bD (j==65039) ((idx p1 (w64 (a - 1))).bind fun k=>
 some k.Pict)).bind fun e=>
 (orE e ((idx p1 a).bind fun l=>
 some l.Pict)).bind fun f=>
 (orE f ((idx p1 a).bind fun m=>
 some (m.Break==6))).bind fun g=>
 some g)).bind fun d=>
 some d)).bind fun c=>
 if c=true then
 some (.inr (.inl 2))
 else
 some (.inl ((w64 (a+1))))
 else
 some (.inr (.inr ()))) (0)).bind fun b=>
 match b with
 | .inl b=>
 some b
 | .inr b=>
 some 1
theorem qU (O0:Own c0 G F) (p0:List Int) (p1:List am) {r:Int} (h2:Sl (RI .i32) c0 v1 p0) (g:Sl cD c0 v3 p1) (H:gk p0 p1=some r): Calls prog 211 #[v1,v3] c0.w (aP c0 fun c v=>Own c G (F)∧v=I r):=by
 unfold gk at H;refine en func211 rfl rfl (sr (va (I 0) (wln (W.seq (sr (va (I 0) (wln (W.block (bn H fun N h5 H6=>lp h5 (fun a=>Jn c0 fun c l=>Own c G (F)∧l= [(0,v1),(1,v3),(5,I a)]) (fun t=>match t with | .inl x_=>(fun k2 ex e w=>ex= .ret∧(Jn c0 fun c l=>Own c G (F)∧l= [(4,I k2)]) e w) x_ | .inr x_=>(fun x2 ex e w=>ex= .exit 0∧(Jn c0 fun c l=>Own c G (F)∧l= []) e w) x_) ?_ ?_ ?_)))))))))
 ·clear H6 h5;intro a e3 g1 l2 H;revert g1 l2;rintro e_ w_ ⟨c7,g8,_,rfl,x,rfl,O9,rfl⟩;refine W.seq (sr (va (I a) (va (v1) (vx (ln 3 cy h2.m) (va (B (decide (a < (p0.length:Int)))) (wln (cn H (fun i1 H=>?_) (fun i1 H=>?_))))))))
  ·refine W.skip (nrm (W.seq (W.block (W.seq (bn H fun z0 X H=>bn H fun P j1 H=>bn H fun s0 Z H=>W.join (Jn c7 fun c l=>Own c G (F)∧l= [(0,v1),(1,v3),(5,I a),(51,B s0)]) ?_ ?_)))))
   ·clear H;refine W.region (va (v3) (va (I a) ?_));obtain ⟨p2,k1,b2⟩:=Sl.at (g.mono x) (aR X);obtain rfl:=k1;refine vx (ix jR g.m X) (vx (lN 238 b2) (cl (rI O9 z0 j1) ?_));rintro v25 i k ⟨h,rfl⟩;refine va (B (P==2)) ?_;rcases bo (P==2) with n | n
    ·obtain rfl:=orT n Z;exact vb n (pz (pz (pz (pz (pz (pz (pz (pz (pz (pz (pz (pz (pz (pz (pz (pz (va (B true) (wln (jn i ⟨h,rfl⟩)))))))))))))))))))
    have f:=orF n Z;refine vb n (wa (I a) (wa (B (decide (a > 0))) (wn (bn f fun n2 a0 f=>?_))));rcases bo (decide (a > 0)) with o | o
    ·have b:=anT o a0;refine vb o (wa (v1) (wa (I a) (wn (bn b fun R b0 b=>?_))));obtain ⟨q2,m1,c2⟩:=Sl.at (h2.mono (x.trans k)) (aR b0);obtain rfl:=m1;refine vx (ix cy h2.m b0) (wn (vx (l1 mh (c2 0 _ rfl)) (wa (B (R==65039)) (wn (bn b fun o2 d0 b=>?_)))));rcases bo (R==65039) with p | p
     ·have y:=anT p d0;refine vb p (wa (v3) (wa (I a) (wa (I (w64 (a - 1))) (wn (bn y fun S e0 y=>?_)))));obtain ⟨s2,n1,d2⟩:=Sl.at (g.mono (x.trans k)) (aR e0);obtain rfl:=n1;refine vx (ix jR g.m e0) (wa (Qo (sb v3) (so v3+(w64 (a - 1)).toNat * 4+1)) (wn (vx (l1 u_4 (d2 1 _ rfl)) (wn ?_))));obtain rfl:=si y;refine va (B S.Pict) (wn (bn b fun t0 f0 b=>?_));rcases bo (S.Pict) with q | q
      ·obtain rfl:=orT q f0;refine vb q (pz (pz (ps (wa (B true) (wn (bn b fun M q1 b=>?_))))));have g0:true=true:=rfl;obtain rfl:=orT g0 q1;refine vb g0 (pz (pz (pz (wa (B true) (wn ?_)))));obtain rfl:=si b;refine va (B true) ?_;obtain rfl:=si f;exact va (B true) (wln (jn i ⟨h,rfl⟩))
      have z:=orF q f0;refine vb q (wa (v3) (wa (I a) (wn (bn z fun j h0 z=>?_))));obtain ⟨t2,s1,e2⟩:=Sl.at (g.mono (x.trans k)) (aR h0);obtain rfl:=s1;refine vx (ix jR g.m h0) (wa (Qo (sb v3) (so v3+a.toNat * 4+1)) (wn (vx (l1 u_4 (e2 1 _ rfl)) (wn ?_))));obtain rfl:=si z;refine va (B j.Pict) (wn (bn b fun M i0 b=>?_));rcases bo (j.Pict) with s | s
      ·obtain rfl:=orT s i0;refine vb s (pz (pz (pz (wa (B true) (wn ?_)))));obtain rfl:=si b;refine va (B true) ?_;obtain rfl:=si f;exact va (B true) (wln (jn i ⟨h,rfl⟩))
      have A:=orF s i0;refine vb s (wa (v3) (wa (I a) (wn (bn A fun d j0 A=>?_))));obtain ⟨u2,u1,f2⟩:=Sl.at (g.mono (x.trans k)) (aR j0);obtain rfl:=u1;refine vx (ix jR g.m j0) (wa (Qo (sb v3) (so v3+a.toNat * 4)) (wn (vx (l1 u_3 (f2 0 _ rfl)) (wa (B (d.Break==6)) (wn ?_)))));obtain rfl:=si A;refine va (B (d.Break==6)) (wn ?_);obtain rfl:=si b;refine va (B (d.Break==6)) ?_;obtain rfl:=si f;exact va (B (d.Break==6)) (wln (jn i ⟨h,rfl⟩))
     obtain rfl:=anF p d0;refine vb p (pz (pz (pz (wa (B false) (wn (bn b fun t0 w1 b=>?_))))));have k0:false=false:=rfl;have D:=orF k0 w1;refine vb k0 (wa (v3) (wa (I a) (wn (bn D fun j l0 D=>?_))));obtain ⟨v2,x1,g2⟩:=Sl.at (g.mono (x.trans k)) (aR l0);obtain rfl:=x1;refine vx (ix jR g.m l0) (wa (Qo (sb v3) (so v3+a.toNat * 4+1)) (wn (vx (l1 u_4 (g2 1 _ rfl)) (wn ?_))));obtain rfl:=si D;refine va (B j.Pict) (wn (bn b fun M m0 b=>?_));rcases bo (j.Pict) with u | u
     ·obtain rfl:=orT u m0;refine vb u (pz (pz (pz (wa (B true) (wn ?_)))));obtain rfl:=si b;refine va (B true) ?_;obtain rfl:=si f;exact va (B true) (wln (jn i ⟨h,rfl⟩))
     have E:=orF u m0;refine vb u (wa (v3) (wa (I a) (wn (bn E fun d o0 E=>?_))));obtain ⟨w2,y1,i2⟩:=Sl.at (g.mono (x.trans k)) (aR o0);obtain rfl:=y1;refine vx (ix jR g.m o0) (wa (Qo (sb v3) (so v3+a.toNat * 4)) (wn (vx (l1 u_3 (i2 0 _ rfl)) (wa (B (d.Break==6)) (wn ?_)))));obtain rfl:=si E;refine va (B (d.Break==6)) (wn ?_);obtain rfl:=si b;refine va (B (d.Break==6)) ?_;obtain rfl:=si f;exact va (B (d.Break==6)) (wln (jn i ⟨h,rfl⟩))
    obtain rfl:=anF o a0;refine vb o (pz (pz (pz (pz (pz (pz (pz (pz (pz (pz (pz (pz (pz (pz (wa (B false) ?_)))))))))))))));obtain rfl:=si f;exact va (B false) (wln (jn i ⟨h,rfl⟩))
   rintro e_ w_ ⟨U,y2,_,rfl,b3,rfl,T,rfl⟩;refine nrm (cn H (fun z1 H=>?_) (fun z1 H=>?_))
   ·refine sr (va (I 2) (wln (W.ret (bkr (thr ?_)))));obtain rfl:=si H;exact ⟨_,rfl,⟨rfl,jn U ⟨T,rfl⟩⟩⟩
   refine W.skip (bkn (nrm (W.region (va (I a) (vv (I (w64 (a+1))) (WL.nil ?_))))));obtain rfl:=si H;exact ⟨_,rfl,jn U ⟨T,rfl⟩⟩
  refine W.exit (thx ?_);obtain rfl:=si H;exact ⟨_,rfl,rfl,jn c7 ⟨O9,rfl⟩⟩
 ·exact jn c0 ⟨O0,rfl⟩
 rcases N with N | N
 ·intro h1; revert h1;rintro _ e_ w_ ⟨rfl,e1,z2,_,rfl,c3,rfl,a1,rfl⟩;refine bkr (thr ?_);obtain rfl:=si H6;exact r1 (qq e1 ⟨a1,rfl⟩)
 rintro _ e_ w_ ⟨rfl,f1,a3,_,rfl,d3,rfl,b1,rfl⟩;refine bke (nrm (sr (va (I 1) (wln (W.ret ?_)))));obtain rfl:=si H6;exact r1 (qq f1 ⟨b1,rfl⟩)
def lh:List (Int×Int×Int):=[(0,9,3),(10,10,2),(11,12,3),(13,13,1),(14,31,3),(127,159,3),(173,173,3),(768,879,4),(1155,1161,4),(1425,1469,4),(1471,1471,4),(1473,1474,4),(1476,1477,4),(1479,1479,4),(1536,1541,7),(1552,1562,4),(1564,1564,3),(1611,1631,4),(1648,1648,4),(1750,1756,4),(1757,1757,7),(1759,1764,4),(1767,1768,4),(1770,1773,4),(1807,1807,7),(1809,1809,4),(1840,1866,4),(1958,1968,4),(2027,2035,4),(2070,2073,4),(2075,2083,4),(2192,2193,7),(2259,2273,4),(2274,2274,7),(2275,2306,4),(2307,2307,8),(2362,2362,4),(2363,2363,8),(2364,2364,4),(2366,2368,8),(2369,2376,4),(2377,2380,8),(2381,2381,4),(2382,2383,8),(2385,2391,4),(2402,2403,4),(2433,2433,4),(2434,2435,8),(2492,2492,4),(2494,2494,4),(2495,2496,8),(2497,2500,4),(2503,2504,8),(2507,2508,8),(2509,2509,4),(2519,2519,4),(2530,2531,4),(2561,2562,4),(2563,2563,8),(2620,2620,4),(2622,2624,8),(2625,2626,4),(2631,2632,4),(2635,2637,4),(2691,2691,8),(2748,2748,4),(2750,2752,8),(2753,2757,4),(2761,2761,8),(2765,2765,4),(2818,2819,8),(2876,2876,4),(2878,2879,4),(2880,2880,8),(2881,2884,4),(2887,2888,8),(2893,2893,4),(2902,2903,4),(3073,3075,8),(3132,3132,4),(3134,3136,4),(3137,3140,8),(3142,3144,4),(3146,3149,4),(3276,3277,4),(3330,3331,8),(3390,3390,4),(3391,3392,8),(3393,3396,4),(3398,3400,8),(3405,3405,4),(3406,3406,7),(3633,3633,4),(3635,3635,8),(3636,3642,4),(3655,3662,4),(3761,3761,4),(3763,3763,8),(3764,3772,4),(3864,3865,4),(3902,3903,8),(3953,3966,4),(4155,4156,8),(4957,4959,4),(6158,6158,3),(6832,6862,4),(7616,7679,4),(8203,8203,3),(8204,8204,4),(8205,8205,5),(8206,8207,3),(8232,8238,3),(8288,8303,3),(8400,8432,4),(12330,12335,4),(12441,12442,4),(42607,42610,4),(64286,64286,4),(65024,65039,4),(65056,65071,4),(65279,65279,3),(65520,65531,3),(69821,69821,7),(69837,69837,7),(127462,127487,6),(127995,127999,4),(917504,917535,3),(917536,917631,4),(917632,917759,3),(917760,917999,4),(918000,921599,3)]
def mI:Option (List (Int×Int×Int)):=
 some lh
theorem yV (d:Own c0 G F) {r:List (Int×Int×Int)} (H:mI=some r): Calls prog 270 #[] c0.w (aP c0 fun c v=>∃a b,Own c G (es true iz a 326 b r :: F)∧v=a∧OA iz c a b r):=by
 unfold mI at H;refine en func270 rfl rfl (sr (va (Y) (wln (sr (va (aD 0 9 3) (va (aD 10 10 2) (va (aD 11 12 3) (va (aD 13 13 1) (va (aD 14 31 3) (va (aD 127 159 3) (va (aD 173 173 3) (va (aD 768 879 4) (va (aD 1155 1161 4) (va (aD 1425 1469 4) (va (aD 1471 1471 4) (va (aD 1473 1474 4) (va (aD 1476 1477 4) (va (aD 1479 1479 4) (va (aD 1536 1541 7) (va (aD 1552 1562 4) (va (aD 1564 1564 3) (va (aD 1611 1631 4) (va (aD 1648 1648 4) (va (aD 1750 1756 4) (va (aD 1757 1757 7) (va (aD 1759 1764 4) (va (aD 1767 1768 4) (va (aD 1770 1773 4) (va (aD 1807 1807 7) (va (aD 1809 1809 4) (va (aD 1840 1866 4) (va (aD 1958 1968 4) (va (aD 2027 2035 4) (va (aD 2070 2073 4) (va (aD 2075 2083 4) (va (aD 2192 2193 7) (va (aD 2259 2273 4) (va (aD 2274 2274 7) (va (aD 2275 2306 4) (va (aD 2307 2307 8) (va (aD 2362 2362 4) (va (aD 2363 2363 8) (va (aD 2364 2364 4) (va (aD 2366 2368 8) (va (aD 2369 2376 4) (va (aD 2377 2380 8) (va (aD 2381 2381 4) (va (aD 2382 2383 8) (va (aD 2385 2391 4) (va (aD 2402 2403 4) (va (aD 2433 2433 4) (va (aD 2434 2435 8) (va (aD 2492 2492 4) (va (aD 2494 2494 4) (va (aD 2495 2496 8) (va (aD 2497 2500 4) (va (aD 2503 2504 8) (va (aD 2507 2508 8) (va (aD 2509 2509 4) (va (aD 2519 2519 4) (va (aD 2530 2531 4) (va (aD 2561 2562 4) (va (aD 2563 2563 8) (va (aD 2620 2620 4) (va (aD 2622 2624 8) (va (aD 2625 2626 4) (va (aD 2631 2632 4) (va (aD 2635 2637 4) (va (aD 2691 2691 8) (va (aD 2748 2748 4) (va (aD 2750 2752 8) (va (aD 2753 2757 4) (va (aD 2761 2761 8) (va (aD 2765 2765 4) (va (aD 2818 2819 8) (va (aD 2876 2876 4) (va (aD 2878 2879 4) (va (aD 2880 2880 8) (va (aD 2881 2884 4) (va (aD 2887 2888 8) (va (aD 2893 2893 4) (va (aD 2902 2903 4) (va (aD 3073 3075 8) (va (aD 3132 3132 4) (va (aD 3134 3136 4) (va (aD 3137 3140 8) (va (aD 3142 3144 4) (va (aD 3146 3149 4) (va (aD 3276 3277 4) (va (aD 3330 3331 8) (va (aD 3390 3390 4) (va (aD 3391 3392 8) (va (aD 3393 3396 4) (va (aD 3398 3400 8) (va (aD 3405 3405 4) (va (aD 3406 3406 7) (va (aD 3633 3633 4) (va (aD 3635 3635 8) (va (aD 3636 3642 4) (va (aD 3655 3662 4) (va (aD 3761 3761 4) (va (aD 3763 3763 8) (va (aD 3764 3772 4) (va (aD 3864 3865 4) (va (aD 3902 3903 8) (va (aD 3953 3966 4) (va (aD 4155 4156 8) (va (aD 4957 4959 4) (va (aD 6158 6158 3) (va (aD 6832 6862 4) (va (aD 7616 7679 4) (va (aD 8203 8203 3) (va (aD 8204 8204 4) (va (aD 8205 8205 5) (va (aD 8206 8207 3) (va (aD 8232 8238 3) (va (aD 8288 8303 3) (va (aD 8400 8432 4) (va (aD 12330 12335 4) (va (aD 12441 12442 4) (va (aD 42607 42610 4) (va (aD 64286 64286 4) (va (aD 65024 65039 4) (va (aD 65056 65071 4) (va (aD 65279 65279 3) (va (aD 65520 65531 3) (va (aD 69821 69821 7) (va (aD 69837 69837 7) (va (aD 127462 127487 6) (va (aD 127995 127999 4) (va (aD 917504 917535 3) (va (aD 917536 917631 4) (va (aD 917632 917759 3) (va (aD 917760 917999 4) (va (aD 918000 921599 3) (me (Own.sl (R:=iz) (E:=326) (ls:=lh.map (fun x=>[I x.1,I x.2.1,I x.2.2])) (vs:=(lh.map (fun x=>[I x.1,I x.2.1,I x.2.2])).flatten) (xs:=lh) true d (aZ _) rfl (oo.map _ (fun _=>rfl) _) (by kernel_rfl) (by kernel_rfl)) ?_))))))))))))))))))))))))))))))))))))))))))))))))))))))))))))))))))))))))))))))))))))))))))))))))))))))))))))))))))))))))))))))))))))))));rintro v5 f i ⟨h,e,g⟩;refine va (v5) (wln (W.ret ?_));obtain rfl:=si H;exact r1 (qq f ⟨v5,h,e,rfl,g⟩)
def nx (p0:Int) (q0_0:List (Int×Int×Int)) (q1_0:Int):Option (Bool):=
 (idx q0_0 p0).bind fun a=>
 some (decide (a.2.1≥(w64 q1_0)))
theorem zX {d:Nat} {e:Nat} (o:Own c0 G F) (b:Int) (q0_0:List (Int×Int×Int)) (q1_0:Int) {r:Bool} (s:∀j u,([v2]:List Value)[j]? = some u→Im c0 d (0+j) u) (k:Sl iz c0 v2 q0_0) (t:∀j u,([J q1_0]:List Value)[j]? = some u→Im c0 e (0+j) u) (H:nx b q0_0 q1_0=some r): Calls prog 272 #[I b,Q d,Q e] c0.w (aP c0 fun c v=>Own c G (F)∧v=B r):=by
 unfold nx at H;refine en func272 rfl rfl (sr (va (B false) (wln (W.seq (rD [] (Kp G0 []) o ?_)))));intro h q p;have y:Kp G0 [] h:=Kp.nil0;refine tx 0 (fun g a=>l1 iA ((mm s) 0 _ rfl)) (ta 1 (I b) (bn H fun f l H=>?_));obtain ⟨x,i,n⟩:=Sl.at (k.mono q) (aR l);obtain rfl:=i;refine tx 2 (fun g a=>ix iA k.m l) (ta 3 (Qo (sb v2) (so v2+b.toNat * 3+1)) (tx 4 (fun g a=>l1 u_3 ((mm n) 1 _ rfl)) (tx 5 (fun g a=>l1 mh ((mm t) 0 _ rfl)) (ta 6 (I (w64 q1_0)) (ta 7 (B (decide (f.2.1≥(w64 q1_0)))) (ta 8 (B (decide (f.2.1≥(w64 q1_0)))) (dn (nrm (W.ret ?_)))))))));obtain rfl:=si H;exact r1 (qq h ⟨p,rfl⟩)
def gw (p0:Int) (p1:Int) (p2:Int):Option (Bool):=
 (bD (decide (p0≥p1)) (some (decide (p0≤p2)))).bind fun a=>
 some a
theorem kn (f:Own c0 G F) (a:Int) (e:Int) (b:Int) {r:Bool} (H:gw a e b=some r): Calls prog 312 #[J a,J e,J b] c0.w (aP c0 fun c v=>Own c G (F)∧v=B r):=by
 unfold gw at H;refine en func312 rfl rfl (sr (va (B false) (wln (W.seq (bn H fun g h H=>W.join (Jn c0 fun c l=>Own c G (F)∧l= [(6,B g)]) ?_ ?_)))))
 ·clear H;refine W.region (va (J a) (va (J e) (va (B (decide (a≥e))) ?_)));rcases bo (decide (a≥e)) with d | d
  ·have i:=anT d h;refine vb d (wa (J a) (wa (J b) (wa (B (decide (a≤b))) ?_)));obtain rfl:=si i;exact vv (B (decide (a≤b))) (wln (jn c0 ⟨f,rfl⟩))
  obtain rfl:=anF d h;exact vb d (pz (ps (vv (B false) (wln (jn c0 ⟨f,rfl⟩)))))
 rintro m p ⟨k,n,_,rfl,o,rfl,j,rfl⟩;refine nrm (W.ret ?_);obtain rfl:=si H;exact r1 (qq k ⟨j,rfl⟩)
def jS (p0:Int):Option (Bool):=
 (gw p0 44032 55203).bind fun a=>
 some a
theorem sO (d:Own c0 G F) (a:Int) {r:Bool} (H:jS a=some r): Calls prog 313 #[J a] c0.w (aP c0 fun c v=>Own c G (F)∧v=B r):=by
 unfold jS at H;refine en func313 rfl rfl (sr (va (B false) (wln (sr (va (J a) (bn H fun b g H=>cl (kn d a 44032 55203 g) ?_))))));rintro v7 f h ⟨e,rfl⟩;refine va (B b) (wln (W.ret ?_));obtain rfl:=si H;exact r1 (qq f ⟨e,rfl⟩)
def ke (p0:Int):Option (Int):=
 (gw p0 4352 4447).bind fun i=>
 (orE i ((gw p0 43360 43388).bind fun j=>
 some j)).bind fun h=>
 if h=true then
 some 9
 else
 (gw p0 4448 4519).bind fun c=>
 (orE c ((gw p0 55216 55238).bind fun d=>
 some d)).bind fun a=>
 if a=true then
 some 10
 else
 (gw p0 4520 4607).bind fun e=>
 (orE e ((gw p0 55243 55291).bind fun f=>
 some f)).bind fun b=>
 if b=true then
 some 11
 else
 (jS p0).bind fun g=>
 if (!g)=true then
 some 0
 else
 if (((w32 (p0 - 44032)).tmod 28)==0)=true then
 some 12
 else
 some 13
theorem vD (O0:Own c0 G F) (a:Int) {r:Int} (H:ke a=some r): Calls prog 273 #[J a] c0.w (aP c0 fun c v=>Own c G (F)∧v=I r):=by
 unfold ke at H;refine en func273 rfl rfl (sr (va (I 0) (wln (W.seq (W.block (W.seq (bn H fun w0 h1 H=>bn H fun e0 h2 H=>W.join (Jn c0 fun c l=>Own c G (F)∧l= [(0,J a),(3,B e0)]) ?_ ?_)))))))
 ·clear H;refine W.region (va (J a) (cl (kn O0 a 4352 4447 h1) ?_));rintro v8 c7 l7 ⟨S,rfl⟩;rcases bo (w0) with j | j
  ·obtain rfl:=orT j h2;exact vb j (pz (vv (B true) (wln (jn c7 ⟨S,rfl⟩))))
  have e:=orF j h2;refine vb j (wa (J a) (wn (bn e fun A g0 e=>cl (kn S a 43360 43388 g0) ?_)));rintro v17 U l16 ⟨P,rfl⟩;obtain rfl:=si e;exact vv (B A) (wln (jn U ⟨P,rfl⟩))
 rintro e_ w_ ⟨u,a1,_,rfl,d1,rfl,o,rfl⟩;refine nrm (cn H (fun i0 H=>?_) (fun i0 H=>?_))
 ·refine sr (va (I 9) (wln (W.ret (bkr (thr ?_)))));obtain rfl:=si H;exact r1 (qq u ⟨o,rfl⟩)
 refine W.seq (bn H fun M j0 H=>bn H fun D y H=>W.join (Jn u fun c l=>Own c G (F)∧l= [(0,J a),(10,B D)]) ?_ ?_)
 ·clear H;refine W.region (va (J a) (cl (kn o a 4448 4519 j0) ?_));rintro v32 X e1 ⟨p,rfl⟩;rcases bo (M) with b | b
  ·obtain rfl:=orT b y;exact vb b (pz (vv (B true) (wln (jn X ⟨p,rfl⟩))))
  have f:=orF b y;refine vb b (wa (J a) (wn (bn f fun k k0 f=>cl (kn p a 55216 55238 k0) ?_)));rintro v41 Z f1 ⟨R,rfl⟩;obtain rfl:=si f;exact vv (B k) (wln (jn Z ⟨R,rfl⟩))
 rintro e_ w_ ⟨x,b1,_,rfl,g1,rfl,q,rfl⟩;refine nrm (cn H (fun l0 H=>?_) (fun l0 H=>?_))
 ·refine sr (va (I 10) (wln (W.ret (bkr (thr ?_)))));obtain rfl:=si H;exact r1 (qq x ⟨q,rfl⟩)
 refine W.seq (bn H fun N m0 H=>bn H fun E z H=>W.join (Jn x fun c l=>Own c G (F)∧l= [(0,J a),(17,B E)]) ?_ ?_)
 ·clear H;refine W.region (va (J a) (cl (kn q a 4520 4607 m0) ?_));rintro v56 a0 i1 ⟨s,rfl⟩;rcases bo (N) with d | d
  ·obtain rfl:=orT d z;exact vb d (pz (vv (B true) (wln (jn a0 ⟨s,rfl⟩))))
  have g:=orF d z;refine vb d (wa (J a) (wn (bn g fun m o0 g=>cl (kn s a 55243 55291 o0) ?_)));rintro n1 b0 j1 ⟨T,rfl⟩;obtain rfl:=si g;exact vv (B m) (wln (jn b0 ⟨T,rfl⟩))
 rintro e_ w_ ⟨d0,c1,_,rfl,k1,rfl,t,rfl⟩;refine nrm (cn H (fun q0 H=>?_) (fun q0 H=>?_))
 ·refine sr (va (I 11) (wln (W.ret (bkr (thr ?_)))));obtain rfl:=si H;exact r1 (qq d0 ⟨t,rfl⟩)
 refine sr (va (J a) (bn H fun n s0 H=>cl (sO t a s0) ?_));rintro p1 i m1 ⟨h,rfl⟩;refine vv (B (!n)) (wln (cn H (fun t0 H=>?_) (fun t0 H=>?_)))
 ·refine sr (va (I 0) (wln (W.ret (bkr (thr ?_)))));obtain rfl:=si H;exact r1 (qq i ⟨h,rfl⟩)
 refine sr (va (J a) (va (J (w32 (a - 44032))) (va (J ((w32 (a - 44032)).tmod 28)) (vv (B (((w32 (a - 44032)).tmod 28)==0)) (wln (cn H (fun u0 H=>?_) (fun u0 H=>?_)))))))
 ·refine sr (va (I 12) (wln (W.ret (bkr (thr ?_)))));obtain rfl:=si H;exact r1 (qq i ⟨h,rfl⟩)
 refine W.skip (bkn (nrm (sr (va (I 13) (wln (W.ret ?_))))));obtain rfl:=si H;exact r1 (qq i ⟨h,rfl⟩)
def gb (p0:Int) (p1_0_0:List (Int×Int×Int)) (p1_1_0:Int):Option (Int):=
 (cv (σ:=Int×Int) (τ:=Int) ((p0 - 0).toNat+1) (fun a=>
 if (decide (a.1 < a.2))=true then
 (nx (w64 ((IntKind.u64.wrap (w64 (a.1+a.2))).fdiv (2 ^ 1))) p1_0_0 p1_1_0).bind fun b=>
 if (!b)=true then
 some (.inl ((w64 ((w64 ((IntKind.u64.wrap (w64 (a.1+a.2))).fdiv (2 ^ 1)))+1)),a.2))
 else
 some (.inl (a.1,(w64 ((IntKind.u64.wrap (w64 (a.1+a.2))).fdiv (2 ^ 1)))))
 else
 some (.inr (a.1))) (0,p0)).bind fun c=>
 some c
theorem oO {b1_0:Nat} {b1_1:Nat} (A:Own c0 G F) (b:Int) (p1_0_0:List (Int×Int×Int)) (p1_1_0:Int) {r:Int} (N:∀j u,([v2]:List Value)[j]? = some u→Im c0 b1_0 (0+j) u) (M:Sl iz c0 v2 p1_0_0) (P:∀j u,([J p1_1_0]:List Value)[j]? = some u→Im c0 b1_1 (0+j) u) (H:gb b p1_0_0 p1_1_0=some r): Calls prog 271 #[I b,.func (.func 272) #[] #[Q b1_0,Q b1_1]] c0.w (aP c0 fun c v=>Own c G (F)∧v=I r):=by
 unfold gb at H;refine en func271 rfl rfl (sr (va (I 0) (wln (sr (va (I b) (va (I 0) (va (I b) (wln (W.seq (W.block (bn H fun g y k=>lp y (fun a=>Jn c0 fun c l=>Own c G (F)∧l= [(1,.func (.func 272) #[] #[Q b1_0,Q b1_1]),(5,I a.1),(6,I a.2)]) (fun h ex e w=>ex= .exit 0∧(Jn c0 fun c l=>Own c G (F)∧l= [(5,I h)]) e w) ?_ ?_ ?_)))))))))))
 ·clear k y;intro a X q z H;revert q z;rintro E R ⟨D,Z,_,rfl,l7,rfl,o,rfl⟩;refine W.seq (sr (va (I a.1) (va (I a.2) (va (B (decide (a.1 < a.2))) (wln (cn H (fun s H=>?_) (fun s H=>?_)))))))
  ·refine W.skip (nrm (W.block (sr (va (I a.1) (va (I a.2) (va (I (w64 (a.1+a.2))) (va (.int .u64 (IntKind.u64.wrap (w64 (a.1+a.2)))) (va (.int .u64 ((IntKind.u64.wrap (w64 (a.1+a.2))).fdiv (2 ^ 1))) (vv (I (w64 ((IntKind.u64.wrap (w64 (a.1+a.2))).fdiv (2 ^ 1)))) (wln (sr (va (.func (.func 272) #[] #[Q b1_0,Q b1_1]) (va (I (w64 ((IntKind.u64.wrap (w64 (a.1+a.2))).fdiv (2 ^ 1)))) (bn H fun i t H=>cl (zX o (w64 ((IntKind.u64.wrap (w64 (a.1+a.2))).fdiv (2 ^ 1))) p1_0_0 p1_1_0 (mm N) M.m (mm P) t) ?_))))))))))))));rintro v20 f T ⟨d,rfl⟩;refine va (B (!i)) (wln (cn H (fun x H=>?_) (fun x H=>?_)))
   ·refine W.region (va (I (w64 ((IntKind.u64.wrap (w64 (a.1+a.2))).fdiv (2 ^ 1)))) (vv (I (w64 ((w64 ((IntKind.u64.wrap (w64 (a.1+a.2))).fdiv (2 ^ 1)))+1))) (WL.nil (bkn ?_))));obtain rfl:=si H;exact ⟨_,rfl,jn f ⟨d,rfl⟩⟩
   refine W.region (vv (I (w64 ((IntKind.u64.wrap (w64 (a.1+a.2))).fdiv (2 ^ 1)))) (WL.nil (bkn ?_)));obtain rfl:=si H;exact ⟨_,rfl,jn f ⟨d,rfl⟩⟩
  refine W.exit (thx ?_);obtain rfl:=si H;exact ⟨_,rfl,rfl,jn D ⟨o,rfl⟩⟩
 ·exact jn c0 ⟨A,rfl⟩
 rintro _ E R ⟨rfl,p,S,_,rfl,U,rfl,n,rfl⟩;refine bke (nrm (sr (vv (I g) (wln (W.ret ?_)))));obtain rfl:=si k;exact r1 (qq p ⟨n,rfl⟩)
def qt (p0:Int):Option (Int):=
 (mI).bind fun a=>
 (gb (a.length:Int) a p0).bind fun b=>
 (bD (decide (b < (a.length:Int))) ((idx a b).bind fun d=>
 some (decide (d.1≤(w64 p0))))).bind fun c=>
 if c=true then
 (idx a b).bind fun e=>
 some e.2.2
 else
 (ke p0).bind fun f=>
 some f
theorem DF (O0:Own c0 G F) (i:Int) {r:Int} (H:qt i=some r): Calls prog 227 #[J i] c0.w (aP c0 fun c v=>Own c G (F)∧v=I r):=by
 unfold qt at H;refine en func227 rfl rfl (sr (me (bx 21 [J i] O0) ?_));rintro v5 c4 l4 ⟨b1,rfl,O2,R⟩;refine va (I 0) (wln (sr (bn H fun j h6 H=>cl (yV O2 h6) ?_)));rintro v7 h1 p1 ⟨_,u8,U,rfl,s⟩;refine me (al 323 [Y] U) ?_;rintro v19 i1 E ⟨y,rfl,X⟩;obtain ⟨b,d,e,rfl⟩:=((s.mono E)).form;refine md (sC 323 0 (.slice b d e) [.slice b d e] 0 X ⟨s.m.one,trivial⟩) ?_;rintro j1 v0 t;refine wln (sr (vx (le1 0 iA (t.on 0 rfl)) (vx (lnO 3 iA s.m) ?_)));obtain ⟨k1,l0,q1,Z,g⟩:=t.frz 1 rfl (s.mono (E.trans v0));refine WL.gh l0 ?_;obtain ⟨m1,m0,M,a0,n⟩:=Own.frzB 0 Z rfl;refine WL.gh m0 ?_;have b0:=a0.sD 2 [1];refine va (.func (.func 272) #[] #[Q y,Q b1]) (bn H fun a o0 H=>cl (oO b0 (j.length:Int) j i n g.m (mm R) o0) ?_);rintro v40 i0 N ⟨d0,rfl⟩;refine va (I a) (wln (W.seq (W.seq (bn H fun P z H=>W.join (Jn i0 fun c l=>Own c G (es false iz (.slice b d e) 326 u8 j :: F)∧l= [(1,Q b1),(3,Q y),(4,I a),(23,B P)]) ?_ ?_))))
 ·clear H;refine rD [] (Kp G0 []) d0 ?_;intro p w0 u;have t1:Kp G0 [] p:=Kp.nil0;refine ta 0 (I a) (tx 1 (fun k f=>l1 iA ((mm n) 0 _ rfl)) (tx 2 (fun k f=>ln 3 iA g.m) (ta 3 (B (decide (a < (j.length:Int)))) ?_)));rcases bo (decide (a < (j.length:Int))) with h | h
  ·have o:=anT h z;refine bn o fun q A o=>AC.takeb 4 h rfl (by kernel_rfl) (by kernel_rfl) (fun k f=>(by kernel_rfl)) (tx 5 (fun k f=>l1 iA ((mm n) 0 _ rfl)) (ta 6 (I a) ?_));obtain ⟨e1,q0,y0⟩:=Sl.at (g.mono (M.trans (N.trans w0))) (aR A);obtain rfl:=q0;refine tx 7 (fun k f=>ix iA g.m A) (ta 8 (Qo (sb (.slice b d e)) (so (.slice b d e)+a.toNat * 3)) (tx 9 (fun k f=>l1 u_3 ((mm y0) 0 _ rfl)) (tx 10 (fun k f=>l1 mh ((mm R) 0 _ rfl)) (ta 11 (I (w64 i)) (ta 12 (B (decide (q.1≤(w64 i)))) ?_)))));obtain rfl:=si o;exact ta 13 (B (decide (q.1≤(w64 i)))) (dn (nrm (jn p ⟨u,rfl⟩)))
  obtain rfl:=anF h z;exact AC.takeb 4 h rfl (by kernel_rfl) (by kernel_rfl) (fun k f=>(by kernel_rfl)) (tp 5 (tp 6 (tp 7 (tp 8 (tp 9 (tp 10 (tp 11 (tp 12 (ta 13 (B false) (dn (nrm (jn p ⟨u,rfl⟩))))))))))))
 rintro e_ w_ ⟨j0,n1,_,rfl,x0,rfl,x,rfl⟩;refine nrm (cn H (fun s0 H=>?_) (fun s0 H=>?_))
 ·refine sr (vx (l1 iA ((mm n) 0 _ rfl)) (va (I a) (bn H fun S D H=>?_)));obtain ⟨f1,t0,z0⟩:=Sl.at (g.mono (M.trans (N.trans x0))) (aR D);obtain rfl:=t0;refine vx (ix iA g.m D) (va (Qo (sb (.slice b d e)) (so (.slice b d e)+a.toNat * 3+2)) (vx (l1 u_3 (z0 2 _ rfl)) (va (I S.2.2) (wln (W.ret (thr ?_))))));obtain rfl:=si H;have e0:=x.sD 1 [];exact r1 (qq j0 ⟨e0,rfl⟩)
 refine W.skip (nrm (sr (vx (l1 mh ((mm R) 0 _ rfl)) (bn H fun T u0 H=>cl (vD x i u0) ?_))));rintro u1 k0 s1 ⟨f0,rfl⟩;refine va (I T) (wln (W.ret ?_));obtain rfl:=si H;have g0:=f0.sD 1 [];exact r1 (qq k0 ⟨g0,rfl⟩)
def mH (p0:Int) (q0_0:List (Int×Int)) (q1_0:Int):Option (Bool):=
 (idx q0_0 p0).bind fun a=>
 some (decide (a.2≥q1_0))
theorem yU {d:Nat} {e:Nat} (o:Own c0 G F) (b:Int) (q0_0:List (Int×Int)) (q1_0:Int) {r:Bool} (s:∀j u,([v2]:List Value)[j]? = some u→Im c0 d (0+j) u) (k:Sl qT c0 v2 q0_0) (t:∀j u,([J q1_0]:List Value)[j]? = some u→Im c0 e (0+j) u) (H:mH b q0_0 q1_0=some r): Calls prog 275 #[I b,Q d,Q e] c0.w (aP c0 fun c v=>Own c G (F)∧v=B r):=by
 unfold mH at H;refine en func275 rfl rfl (sr (va (B false) (wln (W.seq (rD [] (Kp G0 []) o ?_)))));intro h q p;have y:Kp G0 [] h:=Kp.nil0;refine tx 0 (fun g a=>l1 tS ((mm s) 0 _ rfl)) (ta 1 (I b) (bn H fun f l H=>?_));obtain ⟨x,i,n⟩:=Sl.at (k.mono q) (aR l);obtain rfl:=i;refine tx 2 (fun g a=>ix tS k.m l) (ta 3 (Qo (sb v2) (so v2+b.toNat * 2+1)) (tx 4 (fun g a=>l1 mh ((mm n) 1 _ rfl)) (tx 5 (fun g a=>l1 mh ((mm t) 0 _ rfl)) (ta 6 (B (decide (f.2≥q1_0))) (ta 7 (B (decide (f.2≥q1_0))) (dn (nrm (W.ret ?_))))))));obtain rfl:=si H;exact r1 (qq h ⟨p,rfl⟩)
def lg:List (Int×Int):=[(169,169),(174,174),(8252,8252),(8265,8265),(8482,8482),(8505,8505),(8596,8601),(8617,8618),(8986,8987),(9000,9000),(9096,9096),(9167,9167),(9193,9203),(9208,9210),(9410,9410),(9642,9643),(9654,9654),(9664,9664),(9723,9726),(9728,9733),(9735,9746),(9748,9861),(9872,9989),(9992,10002),(10004,10004),(10006,10006),(10013,10013),(10017,10017),(10024,10024),(10035,10036),(10052,10052),(10055,10055),(10060,10060),(10062,10062),(10067,10069),(10071,10071),(10083,10087),(10133,10135),(10145,10145),(10160,10160),(10175,10175),(10548,10549),(11013,11015),(11035,11036),(11088,11088),(11093,11093),(12336,12336),(12349,12349),(12951,12951),(12953,12953),(126976,127231),(127245,127247),(127279,127279),(127340,127345),(127358,127359),(127374,127374),(127377,127386),(127405,127461),(127489,127503),(127514,127514),(127535,127535),(127538,127546),(127548,127551),(127561,127994),(128000,128317),(128326,128591),(128640,128767),(128884,128895),(128981,129023),(129036,129039),(129096,129103),(129114,129119),(129160,129167),(129198,129279),(129292,129338),(129340,129349),(129351,129791),(130048,131069)]
def lK:Option (List (Int×Int)):=
 some lg
theorem xz (d:Own c0 G F) {r:List (Int×Int)} (H:lK=some r): Calls prog 274 #[] c0.w (aP c0 fun c v=>∃a b,Own c G (es true qT a 329 b r :: F)∧v=a∧OA qT c a b r):=by
 unfold lK at H;refine en func274 rfl rfl (sr (va (Y) (wln (sr (va (JII 169 169) (va (JII 174 174) (va (JII 8252 8252) (va (JII 8265 8265) (va (JII 8482 8482) (va (JII 8505 8505) (va (JII 8596 8601) (va (JII 8617 8618) (va (JII 8986 8987) (va (JII 9000 9000) (va (JII 9096 9096) (va (JII 9167 9167) (va (JII 9193 9203) (va (JII 9208 9210) (va (JII 9410 9410) (va (JII 9642 9643) (va (JII 9654 9654) (va (JII 9664 9664) (va (JII 9723 9726) (va (JII 9728 9733) (va (JII 9735 9746) (va (JII 9748 9861) (va (JII 9872 9989) (va (JII 9992 10002) (va (JII 10004 10004) (va (JII 10006 10006) (va (JII 10013 10013) (va (JII 10017 10017) (va (JII 10024 10024) (va (JII 10035 10036) (va (JII 10052 10052) (va (JII 10055 10055) (va (JII 10060 10060) (va (JII 10062 10062) (va (JII 10067 10069) (va (JII 10071 10071) (va (JII 10083 10087) (va (JII 10133 10135) (va (JII 10145 10145) (va (JII 10160 10160) (va (JII 10175 10175) (va (JII 10548 10549) (va (JII 11013 11015) (va (JII 11035 11036) (va (JII 11088 11088) (va (JII 11093 11093) (va (JII 12336 12336) (va (JII 12349 12349) (va (JII 12951 12951) (va (JII 12953 12953) (va (JII 126976 127231) (va (JII 127245 127247) (va (JII 127279 127279) (va (JII 127340 127345) (va (JII 127358 127359) (va (JII 127374 127374) (va (JII 127377 127386) (va (JII 127405 127461) (va (JII 127489 127503) (va (JII 127514 127514) (va (JII 127535 127535) (va (JII 127538 127546) (va (JII 127548 127551) (va (JII 127561 127994) (va (JII 128000 128317) (va (JII 128326 128591) (va (JII 128640 128767) (va (JII 128884 128895) (va (JII 128981 129023) (va (JII 129036 129039) (va (JII 129096 129103) (va (JII 129114 129119) (va (JII 129160 129167) (va (JII 129198 129279) (va (JII 129292 129338) (va (JII 129340 129349) (va (JII 129351 129791) (va (JII 130048 131069) (me (Own.sl (R:=qT) (E:=329) (ls:=lg.map (fun x=>[J x.1,J x.2])) (vs:=(lg.map (fun x=>[J x.1,J x.2])).flatten) (xs:=lg) true d (aZ _) rfl (oo.map _ (fun _=>rfl) _) (by kernel_rfl) (by kernel_rfl)) ?_)))))))))))))))))))))))))))))))))))))))))))))))))))))))))))))))))))))))))))))))))));rintro v5 f i ⟨h,e,g⟩;refine va (v5) (wln (W.ret ?_));obtain rfl:=si H;exact r1 (qq f ⟨v5,h,e,rfl,g⟩)
def fF (p0:Int) (p1_0_0:List (Int×Int)) (p1_1_0:Int):Option (Int):=
 (cv (σ:=Int×Int) (τ:=Int) ((p0 - 0).toNat+1) (fun a=>
 if (decide (a.1 < a.2))=true then
 (mH (w64 ((IntKind.u64.wrap (w64 (a.1+a.2))).fdiv (2 ^ 1))) p1_0_0 p1_1_0).bind fun b=>
 if (!b)=true then
 some (.inl ((w64 ((w64 ((IntKind.u64.wrap (w64 (a.1+a.2))).fdiv (2 ^ 1)))+1)),a.2))
 else
 some (.inl (a.1,(w64 ((IntKind.u64.wrap (w64 (a.1+a.2))).fdiv (2 ^ 1)))))
 else
 some (.inr (a.1))) (0,p0)).bind fun c=>
 some c
theorem nV {b1_0:Nat} {b1_1:Nat} (A:Own c0 G F) (b:Int) (p1_0_0:List (Int×Int)) (p1_1_0:Int) {r:Int} (N:∀j u,([v2]:List Value)[j]? = some u→Im c0 b1_0 (0+j) u) (M:Sl qT c0 v2 p1_0_0) (P:∀j u,([J p1_1_0]:List Value)[j]? = some u→Im c0 b1_1 (0+j) u) (H:fF b p1_0_0 p1_1_0=some r): Calls prog 271 #[I b,.func (.func 275) #[] #[Q b1_0,Q b1_1]] c0.w (aP c0 fun c v=>Own c G (F)∧v=I r):=by
 unfold fF at H;refine en func271 rfl rfl (sr (va (I 0) (wln (sr (va (I b) (va (I 0) (va (I b) (wln (W.seq (W.block (bn H fun g y k=>lp y (fun a=>Jn c0 fun c l=>Own c G (F)∧l= [(1,.func (.func 275) #[] #[Q b1_0,Q b1_1]),(5,I a.1),(6,I a.2)]) (fun h ex e w=>ex= .exit 0∧(Jn c0 fun c l=>Own c G (F)∧l= [(5,I h)]) e w) ?_ ?_ ?_)))))))))))
 ·clear k y;intro a X q z H;revert q z;rintro E R ⟨D,Z,_,rfl,l7,rfl,o,rfl⟩;refine W.seq (sr (va (I a.1) (va (I a.2) (va (B (decide (a.1 < a.2))) (wln (cn H (fun s H=>?_) (fun s H=>?_)))))))
  ·refine W.skip (nrm (W.block (sr (va (I a.1) (va (I a.2) (va (I (w64 (a.1+a.2))) (va (.int .u64 (IntKind.u64.wrap (w64 (a.1+a.2)))) (va (.int .u64 ((IntKind.u64.wrap (w64 (a.1+a.2))).fdiv (2 ^ 1))) (vv (I (w64 ((IntKind.u64.wrap (w64 (a.1+a.2))).fdiv (2 ^ 1)))) (wln (sr (va (.func (.func 275) #[] #[Q b1_0,Q b1_1]) (va (I (w64 ((IntKind.u64.wrap (w64 (a.1+a.2))).fdiv (2 ^ 1)))) (bn H fun i t H=>cl (yU o (w64 ((IntKind.u64.wrap (w64 (a.1+a.2))).fdiv (2 ^ 1))) p1_0_0 p1_1_0 (mm N) M.m (mm P) t) ?_))))))))))))));rintro v20 f T ⟨d,rfl⟩;refine va (B (!i)) (wln (cn H (fun x H=>?_) (fun x H=>?_)))
   ·refine W.region (va (I (w64 ((IntKind.u64.wrap (w64 (a.1+a.2))).fdiv (2 ^ 1)))) (vv (I (w64 ((w64 ((IntKind.u64.wrap (w64 (a.1+a.2))).fdiv (2 ^ 1)))+1))) (WL.nil (bkn ?_))));obtain rfl:=si H;exact ⟨_,rfl,jn f ⟨d,rfl⟩⟩
   refine W.region (vv (I (w64 ((IntKind.u64.wrap (w64 (a.1+a.2))).fdiv (2 ^ 1)))) (WL.nil (bkn ?_)));obtain rfl:=si H;exact ⟨_,rfl,jn f ⟨d,rfl⟩⟩
  refine W.exit (thx ?_);obtain rfl:=si H;exact ⟨_,rfl,rfl,jn D ⟨o,rfl⟩⟩
 ·exact jn c0 ⟨A,rfl⟩
 rintro _ E R ⟨rfl,p,S,_,rfl,U,rfl,n,rfl⟩;refine bke (nrm (sr (vv (I g) (wln (W.ret ?_)))));obtain rfl:=si k;exact r1 (qq p ⟨n,rfl⟩)
def oB (p0:Int):Option (Bool):=
 (lK).bind fun a=>
 (fF (a.length:Int) a p0).bind fun b=>
 (bD (decide (b < (a.length:Int))) ((idx a b).bind fun d=>
 some (decide (d.1≤p0)))).bind fun c=>
 some c
theorem B0 (O0:Own c0 G F) (j:Int) {r:Bool} (H:oB j=some r): Calls prog 228 #[J j] c0.w (aP c0 fun c v=>Own c G (F)∧v=B r):=by
 unfold oB at H;refine en func228 rfl rfl (sr (me (bx 21 [J j] O0) ?_));rintro v5 c4 l4 ⟨b1,rfl,O2,m3⟩;refine va (B false) (wln (sr (bn H fun h h6 H=>cl (xz O2 h6) ?_)));rintro v7 u0 a1 ⟨_,u8,D,rfl,s⟩;refine me (al 327 [Y] D) ?_;rintro v19 v0 z ⟨U,rfl,E⟩;obtain ⟨d,e,f,rfl⟩:=((s.mono z)).form;refine md (sC 327 0 (.slice d e f) [.slice d e f] 0 E ⟨s.m.one,trivial⟩) ?_;rintro w0 f0 t;refine wln (sr (vx (le1 0 tS (t.on 0 rfl)) (vx (lnO 3 tS s.m) ?_)));obtain ⟨x0,a0,c1,M,n⟩:=t.frz 1 rfl (s.mono (z.trans f0));refine WL.gh a0 ?_;obtain ⟨y0,b0,g0,N,q⟩:=Own.frzB 0 M rfl;refine WL.gh b0 ?_;have P:=N.sD 2 [1];refine va (.func (.func 275) #[] #[Q U,Q b1]) (bn H fun a d0 H=>cl (nV P (h.length:Int) h j q n.m (mm m3) d0) ?_);rintro v40 X h0 ⟨R,rfl⟩;refine va (I a) (wln (W.seq (bn H fun A x H=>W.join (Jn X fun c l=>Own c G (es false qT (.slice d e f) 329 u8 h :: F)∧l= [(2,B A)]) ?_ ?_)))
 ·clear H;refine rD [] (Kp G0 []) R ?_;intro p i0 u;have e1:Kp G0 [] p:=Kp.nil0;refine ta 0 (I a) (tx 1 (fun i b=>l1 tS ((mm q) 0 _ rfl)) (tx 2 (fun i b=>ln 3 tS n.m) (ta 3 (B (decide (a < (h.length:Int)))) ?_)));rcases bo (decide (a < (h.length:Int))) with g | g
  ·have o:=anT g x;refine bn o fun k y o=>AC.takeb 4 g rfl (by kernel_rfl) (by kernel_rfl) (fun i b=>(by kernel_rfl)) (tx 5 (fun i b=>l1 tS ((mm q) 0 _ rfl)) (ta 6 (I a) ?_));obtain ⟨s0,e0,k0⟩:=Sl.at (n.mono (g0.trans (h0.trans i0))) (aR y);obtain rfl:=e0;refine tx 7 (fun i b=>ix tS n.m y) (ta 8 (Qo (sb (.slice d e f)) (so (.slice d e f)+a.toNat * 2)) (tx 9 (fun i b=>l1 mh ((mm k0) 0 _ rfl)) (tx 10 (fun i b=>l1 mh ((mm m3) 0 _ rfl)) (ta 11 (B (decide (k.1≤j))) ?_))));obtain rfl:=si o;exact ta 12 (B (decide (k.1≤j))) (ta 13 (B (decide (k.1≤j))) (dn (nrm (jn p ⟨u,rfl⟩))))
  obtain rfl:=anF g x;exact AC.takeb 4 g rfl (by kernel_rfl) (by kernel_rfl) (fun i b=>(by kernel_rfl)) (tp 5 (tp 6 (tp 7 (tp 8 (tp 9 (tp 10 (tp 11 (ta 12 (B false) (ta 13 (B false) (dn (nrm (jn p ⟨u,rfl⟩))))))))))))
 rintro e_ w_ ⟨Z,z0,_,rfl,d1,rfl,S,rfl⟩;refine nrm (W.ret ?_);obtain rfl:=si H;have T:=S.sD 1 [];exact r1 (qq Z ⟨T,rfl⟩)
def mL (p0:Int) (q0_0:List (Int×Int×Int)) (q1_0:Int):Option (Bool):=
 (idx q0_0 p0).bind fun a=>
 some (decide (a.2.1≥(w64 q1_0)))
theorem yY {d:Nat} {e:Nat} (o:Own c0 G F) (b:Int) (q0_0:List (Int×Int×Int)) (q1_0:Int) {r:Bool} (s:∀j u,([v2]:List Value)[j]? = some u→Im c0 d (0+j) u) (k:Sl iz c0 v2 q0_0) (t:∀j u,([J q1_0]:List Value)[j]? = some u→Im c0 e (0+j) u) (H:mL b q0_0 q1_0=some r): Calls prog 277 #[I b,Q d,Q e] c0.w (aP c0 fun c v=>Own c G (F)∧v=B r):=by
 unfold mL at H;refine en func277 rfl rfl (sr (va (B false) (wln (W.seq (rD [] (Kp G0 []) o ?_)))));intro h q p;have y:Kp G0 [] h:=Kp.nil0;refine tx 0 (fun g a=>l1 iA ((mm s) 0 _ rfl)) (ta 1 (I b) (bn H fun f l H=>?_));obtain ⟨x,i,n⟩:=Sl.at (k.mono q) (aR l);obtain rfl:=i;refine tx 2 (fun g a=>ix iA k.m l) (ta 3 (Qo (sb v2) (so v2+b.toNat * 3+1)) (tx 4 (fun g a=>l1 u_3 ((mm n) 1 _ rfl)) (tx 5 (fun g a=>l1 mh ((mm t) 0 _ rfl)) (ta 6 (I (w64 q1_0)) (ta 7 (B (decide (f.2.1≥(w64 q1_0)))) (ta 8 (B (decide (f.2.1≥(w64 q1_0)))) (dn (nrm (W.ret ?_)))))))));obtain rfl:=si H;exact r1 (qq h ⟨p,rfl⟩)
def lj:List (Int×Int×Int):=[(768,879,3),(1155,1159,3),(1425,1469,3),(1552,1562,3),(1611,1631,3),(2325,2361,1),(2364,2364,3),(2381,2381,2),(2385,2388,3),(2392,2399,1),(2424,2431,1),(2453,2472,1),(2474,2480,1),(2482,2482,1),(2486,2489,1),(2492,2492,3),(2509,2509,2),(2524,2525,1),(2527,2527,1),(2544,2545,1),(2709,2728,1),(2730,2736,1),(2738,2739,1),(2741,2745,1),(2748,2748,3),(2765,2765,2),(2809,2809,1),(2837,2856,1),(2858,2864,1),(2866,2867,1),(2869,2873,1),(2876,2876,3),(2893,2893,2),(2908,2909,1),(2911,2911,1),(2929,2929,1),(3093,3112,1),(3114,3129,1),(3132,3132,3),(3149,3149,2),(3160,3162,1),(3349,3386,1),(3405,3405,2),(6832,6845,3),(7616,7679,3),(8205,8205,3),(8400,8412,3),(12330,12335,3),(12441,12442,3),(65056,65071,3)]
def lQ:Option (List (Int×Int×Int)):=
 some lj
theorem xF (d:Own c0 G F) {r:List (Int×Int×Int)} (H:lQ=some r): Calls prog 276 #[] c0.w (aP c0 fun c v=>∃a b,Own c G (es true iz a 326 b r :: F)∧v=a∧OA iz c a b r):=by
 unfold lQ at H;refine en func276 rfl rfl (sr (va (Y) (wln (sr (va (aD 768 879 3) (va (aD 1155 1159 3) (va (aD 1425 1469 3) (va (aD 1552 1562 3) (va (aD 1611 1631 3) (va (aD 2325 2361 1) (va (aD 2364 2364 3) (va (aD 2381 2381 2) (va (aD 2385 2388 3) (va (aD 2392 2399 1) (va (aD 2424 2431 1) (va (aD 2453 2472 1) (va (aD 2474 2480 1) (va (aD 2482 2482 1) (va (aD 2486 2489 1) (va (aD 2492 2492 3) (va (aD 2509 2509 2) (va (aD 2524 2525 1) (va (aD 2527 2527 1) (va (aD 2544 2545 1) (va (aD 2709 2728 1) (va (aD 2730 2736 1) (va (aD 2738 2739 1) (va (aD 2741 2745 1) (va (aD 2748 2748 3) (va (aD 2765 2765 2) (va (aD 2809 2809 1) (va (aD 2837 2856 1) (va (aD 2858 2864 1) (va (aD 2866 2867 1) (va (aD 2869 2873 1) (va (aD 2876 2876 3) (va (aD 2893 2893 2) (va (aD 2908 2909 1) (va (aD 2911 2911 1) (va (aD 2929 2929 1) (va (aD 3093 3112 1) (va (aD 3114 3129 1) (va (aD 3132 3132 3) (va (aD 3149 3149 2) (va (aD 3160 3162 1) (va (aD 3349 3386 1) (va (aD 3405 3405 2) (va (aD 6832 6845 3) (va (aD 7616 7679 3) (va (aD 8205 8205 3) (va (aD 8400 8412 3) (va (aD 12330 12335 3) (va (aD 12441 12442 3) (va (aD 65056 65071 3) (me (Own.sl (R:=iz) (E:=326) (ls:=lj.map (fun x=>[I x.1,I x.2.1,I x.2.2])) (vs:=(lj.map (fun x=>[I x.1,I x.2.1,I x.2.2])).flatten) (xs:=lj) true d (aZ _) rfl (oo.map _ (fun _=>rfl) _) (by kernel_rfl) (by kernel_rfl)) ?_)))))))))))))))))))))))))))))))))))))))))))))))))))))));rintro v5 f i ⟨h,e,g⟩;refine va (v5) (wln (W.ret ?_));obtain rfl:=si H;exact r1 (qq f ⟨v5,h,e,rfl,g⟩)
def fH (p0:Int) (p1_0_0:List (Int×Int×Int)) (p1_1_0:Int):Option (Int):=
 (cv (σ:=Int×Int) (τ:=Int) ((p0 - 0).toNat+1) (fun a=>
 if (decide (a.1 < a.2))=true then
 (mL (w64 ((IntKind.u64.wrap (w64 (a.1+a.2))).fdiv (2 ^ 1))) p1_0_0 p1_1_0).bind fun b=>
 if (!b)=true then
 some (.inl ((w64 ((w64 ((IntKind.u64.wrap (w64 (a.1+a.2))).fdiv (2 ^ 1)))+1)),a.2))
 else
 some (.inl (a.1,(w64 ((IntKind.u64.wrap (w64 (a.1+a.2))).fdiv (2 ^ 1)))))
 else
 some (.inr (a.1))) (0,p0)).bind fun c=>
 some c
theorem nX {b1_0:Nat} {b1_1:Nat} (A:Own c0 G F) (b:Int) (p1_0_0:List (Int×Int×Int)) (p1_1_0:Int) {r:Int} (N:∀j u,([v2]:List Value)[j]? = some u→Im c0 b1_0 (0+j) u) (M:Sl iz c0 v2 p1_0_0) (P:∀j u,([J p1_1_0]:List Value)[j]? = some u→Im c0 b1_1 (0+j) u) (H:fH b p1_0_0 p1_1_0=some r): Calls prog 271 #[I b,.func (.func 277) #[] #[Q b1_0,Q b1_1]] c0.w (aP c0 fun c v=>Own c G (F)∧v=I r):=by
 unfold fH at H;refine en func271 rfl rfl (sr (va (I 0) (wln (sr (va (I b) (va (I 0) (va (I b) (wln (W.seq (W.block (bn H fun g y k=>lp y (fun a=>Jn c0 fun c l=>Own c G (F)∧l= [(1,.func (.func 277) #[] #[Q b1_0,Q b1_1]),(5,I a.1),(6,I a.2)]) (fun h ex e w=>ex= .exit 0∧(Jn c0 fun c l=>Own c G (F)∧l= [(5,I h)]) e w) ?_ ?_ ?_)))))))))))
 ·clear k y;intro a X q z H;revert q z;rintro E R ⟨D,Z,_,rfl,l7,rfl,o,rfl⟩;refine W.seq (sr (va (I a.1) (va (I a.2) (va (B (decide (a.1 < a.2))) (wln (cn H (fun s H=>?_) (fun s H=>?_)))))))
  ·refine W.skip (nrm (W.block (sr (va (I a.1) (va (I a.2) (va (I (w64 (a.1+a.2))) (va (.int .u64 (IntKind.u64.wrap (w64 (a.1+a.2)))) (va (.int .u64 ((IntKind.u64.wrap (w64 (a.1+a.2))).fdiv (2 ^ 1))) (vv (I (w64 ((IntKind.u64.wrap (w64 (a.1+a.2))).fdiv (2 ^ 1)))) (wln (sr (va (.func (.func 277) #[] #[Q b1_0,Q b1_1]) (va (I (w64 ((IntKind.u64.wrap (w64 (a.1+a.2))).fdiv (2 ^ 1)))) (bn H fun i t H=>cl (yY o (w64 ((IntKind.u64.wrap (w64 (a.1+a.2))).fdiv (2 ^ 1))) p1_0_0 p1_1_0 (mm N) M.m (mm P) t) ?_))))))))))))));rintro v20 f T ⟨d,rfl⟩;refine va (B (!i)) (wln (cn H (fun x H=>?_) (fun x H=>?_)))
   ·refine W.region (va (I (w64 ((IntKind.u64.wrap (w64 (a.1+a.2))).fdiv (2 ^ 1)))) (vv (I (w64 ((w64 ((IntKind.u64.wrap (w64 (a.1+a.2))).fdiv (2 ^ 1)))+1))) (WL.nil (bkn ?_))));obtain rfl:=si H;exact ⟨_,rfl,jn f ⟨d,rfl⟩⟩
   refine W.region (vv (I (w64 ((IntKind.u64.wrap (w64 (a.1+a.2))).fdiv (2 ^ 1)))) (WL.nil (bkn ?_)));obtain rfl:=si H;exact ⟨_,rfl,jn f ⟨d,rfl⟩⟩
  refine W.exit (thx ?_);obtain rfl:=si H;exact ⟨_,rfl,rfl,jn D ⟨o,rfl⟩⟩
 ·exact jn c0 ⟨A,rfl⟩
 rintro _ E R ⟨rfl,p,S,_,rfl,U,rfl,n,rfl⟩;refine bke (nrm (sr (vv (I g) (wln (W.ret ?_)))));obtain rfl:=si k;exact r1 (qq p ⟨n,rfl⟩)
def oI (p0:Int):Option (Int):=
 (lQ).bind fun a=>
 (fH (a.length:Int) a p0).bind fun b=>
 (orE (b==(a.length:Int)) ((idx a b).bind fun d=>
 some (decide (d.1 > (w64 p0))))).bind fun c=>
 if c=true then
 some 0
 else
 (idx a b).bind fun e=>
 some e.2.2
theorem B6 (O0:Own c0 G F) (k:Int) {r:Int} (H:oI k=some r): Calls prog 229 #[J k] c0.w (aP c0 fun c v=>Own c G (F)∧v=I r):=by
 unfold oI at H;refine en func229 rfl rfl (sr (me (bx 21 [J k] O0) ?_));rintro v5 c4 l4 ⟨b1,rfl,O2,m3⟩;refine va (I 0) (wln (sr (bn H fun i h6 H=>cl (xF O2 h6) ?_)));rintro v7 d1 j1 ⟨_,u8,T,rfl,s⟩;refine me (al 323 [Y] T) ?_;rintro v19 e1 M ⟨y,rfl,U⟩;obtain ⟨b,d,e,rfl⟩:=((s.mono M)).form;refine md (sC 323 0 (.slice b d e) [.slice b d e] 0 U ⟨s.m.one,trivial⟩) ?_;rintro f1 m0 t;refine wln (sr (vx (le1 0 iA (t.on 0 rfl)) (vx (lnO 3 iA s.m) ?_)));obtain ⟨g1,g0,k1,X,g⟩:=t.frz 1 rfl (s.mono (M.trans m0));refine WL.gh g0 ?_;obtain ⟨h1,h0,N,Z,n⟩:=Own.frzB 0 X rfl;refine WL.gh h0 ?_;have a0:=Z.sD 2 [1];refine va (.func (.func 277) #[] #[Q y,Q b1]) (bn H fun a i0 H=>cl (nX a0 (i.length:Int) i k n g.m (mm m3) i0) ?_);rintro v40 f0 P ⟨b0,rfl⟩;refine va (I a) (wln (W.seq (W.seq (bn H fun R A H=>W.join (Jn f0 fun c l=>Own c G (es false iz (.slice b d e) 326 u8 i :: F)∧l= [(3,Q y),(4,I a),(23,B R)]) ?_ ?_))))
 ·clear H;refine rD [] (Kp G0 []) b0 ?_;intro p o0 u;have m1:Kp G0 [] p:=Kp.nil0;refine ta 0 (I a) (tx 1 (fun j f=>l1 iA ((mm n) 0 _ rfl)) (tx 2 (fun j f=>ln 3 iA g.m) (ta 3 (B (a==(i.length:Int))) ?_)));rcases bo (a==(i.length:Int)) with h | h
  ·obtain rfl:=orT h A;exact AC.takeb 4 h rfl (by kernel_rfl) (by kernel_rfl) (fun j f=>(by kernel_rfl)) (tp 5 (tp 6 (tp 7 (tp 8 (tp 9 (tp 10 (tp 11 (tp 12 (ta 13 (B true) (dn (nrm (jn p ⟨u,rfl⟩))))))))))))
  have o:=orF h A;refine bn o fun q D o=>AC.takeb 4 h rfl (by kernel_rfl) (by kernel_rfl) (fun j f=>(by kernel_rfl)) (tx 5 (fun j f=>l1 iA ((mm n) 0 _ rfl)) (ta 6 (I a) ?_));obtain ⟨z0,j0,t0⟩:=Sl.at (g.mono (N.trans (P.trans o0))) (aR D);obtain rfl:=j0;refine tx 7 (fun j f=>ix iA g.m D) (ta 8 (Qo (sb (.slice b d e)) (so (.slice b d e)+a.toNat * 3)) (tx 9 (fun j f=>l1 u_3 ((mm t0) 0 _ rfl)) (tx 10 (fun j f=>l1 mh ((mm m3) 0 _ rfl)) (ta 11 (I (w64 k)) (ta 12 (B (decide (q.1 > (w64 k)))) ?_)))));obtain rfl:=si o;exact ta 13 (B (decide (q.1 > (w64 k)))) (dn (nrm (jn p ⟨u,rfl⟩)))
 rintro e_ w_ ⟨z,i1,_,rfl,q0,rfl,x,rfl⟩;refine nrm (cn H (fun k0 H=>?_) (fun k0 H=>?_))
 ·refine sr (va (I 0) (wln (W.ret (thr ?_))));obtain rfl:=si H;have d0:=x.sD 1 [];exact r1 (qq z ⟨d0,rfl⟩)
 refine W.skip (nrm (sr (vx (l1 iA ((mm n) 0 _ rfl)) (va (I a) (bn H fun S E H=>?_)))));obtain ⟨a1,l0,u0⟩:=Sl.at (g.mono (N.trans (P.trans q0))) (aR E);obtain rfl:=l0;refine vx (ix iA g.m E) (va (Qo (sb (.slice b d e)) (so (.slice b d e)+a.toNat * 3+2)) (vx (l1 u_3 (u0 2 _ rfl)) (va (I S.2.2) (wln (W.ret ?_)))));obtain rfl:=si H;have e0:=x.sD 1 [];exact r1 (qq z ⟨e0,rfl⟩)
def mK (p0:Int) (q0_0:List (Int×Int×Int)) (q1_0:Int):Option (Bool):=
 (idx q0_0 p0).bind fun a=>
 some (decide (a.2.1≥(w64 q1_0)))
theorem yX {d:Nat} {e:Nat} (o:Own c0 G F) (b:Int) (q0_0:List (Int×Int×Int)) (q1_0:Int) {r:Bool} (s:∀j u,([v2]:List Value)[j]? = some u→Im c0 d (0+j) u) (k:Sl iz c0 v2 q0_0) (t:∀j u,([J q1_0]:List Value)[j]? = some u→Im c0 e (0+j) u) (H:mK b q0_0 q1_0=some r): Calls prog 279 #[I b,Q d,Q e] c0.w (aP c0 fun c v=>Own c G (F)∧v=B r):=by
 unfold mK at H;refine en func279 rfl rfl (sr (va (B false) (wln (W.seq (rD [] (Kp G0 []) o ?_)))));intro h q p;have y:Kp G0 [] h:=Kp.nil0;refine tx 0 (fun g a=>l1 iA ((mm s) 0 _ rfl)) (ta 1 (I b) (bn H fun f l H=>?_));obtain ⟨x,i,n⟩:=Sl.at (k.mono q) (aR l);obtain rfl:=i;refine tx 2 (fun g a=>ix iA k.m l) (ta 3 (Qo (sb v2) (so v2+b.toNat * 3+1)) (tx 4 (fun g a=>l1 u_3 ((mm n) 1 _ rfl)) (tx 5 (fun g a=>l1 mh ((mm t) 0 _ rfl)) (ta 6 (I (w64 q1_0)) (ta 7 (B (decide (f.2.1≥(w64 q1_0)))) (ta 8 (B (decide (f.2.1≥(w64 q1_0)))) (dn (nrm (W.ret ?_)))))))));obtain rfl:=si H;exact r1 (qq h ⟨p,rfl⟩)
def kv:List (Int×Int×Int):=[(4352,4447,1),(8361,8361,3),(8986,8987,1),(9001,9002,1),(9193,9196,1),(9200,9200,1),(9203,9203,1),(9725,9726,1),(9748,9749,1),(9800,9811,1),(9855,9855,1),(9875,9875,1),(9889,9889,1),(9898,9899,1),(9917,9918,1),(9924,9925,1),(9934,9934,1),(9940,9940,1),(9962,9962,1),(9970,9971,1),(9973,9973,1),(9978,9978,1),(9981,9981,1),(9989,9989,1),(9994,9995,1),(10024,10024,1),(10060,10060,1),(10062,10062,1),(10067,10069,1),(10071,10071,1),(10133,10135,1),(10160,10160,1),(10175,10175,1),(11035,11036,1),(11088,11088,1),(11093,11093,1),(11904,11929,1),(11931,12019,1),(12032,12245,1),(12272,12287,1),(12288,12288,2),(12289,12350,1),(12353,12438,1),(12441,12543,1),(12549,12591,1),(12593,12686,1),(12688,12771,1),(12784,12830,1),(12832,12871,1),(12880,19903,1),(19968,42124,1),(42128,42182,1),(43360,43388,1),(44032,55203,1),(63744,64255,1),(65040,65049,1),(65072,65106,1),(65108,65126,1),(65128,65131,1),(65281,65376,2),(65377,65470,3),(65474,65479,3),(65482,65487,3),(65490,65495,3),(65498,65500,3),(65504,65510,2),(65512,65518,3),(94176,94180,1),(94208,100343,1),(100352,101589,1),(110592,110882,1),(126980,126980,1),(127183,127183,1),(127374,127374,1),(127377,127386,1),(127488,127490,1),(127504,127547,1),(127552,127560,1),(127568,127569,1),(127584,127589,1),(127744,127776,1),(127789,127797,1),(127799,127868,1),(127870,127891,1),(127904,127946,1),(127951,127955,1),(127968,127984,1),(127988,127988,1),(127992,128062,1),(128064,128064,1),(128066,128252,1),(128255,128317,1),(128331,128334,1),(128336,128359,1),(128378,128378,1),(128405,128406,1),(128420,128420,1),(128507,128591,1),(128640,128709,1),(128716,128716,1),(128720,128722,1),(128725,128727,1),(128732,128735,1),(128747,128748,1),(128756,128764,1),(128992,129003,1),(129008,129008,1),(129292,129338,1),(129340,129349,1),(129351,129535,1),(129648,129660,1),(129664,129672,1),(129680,129725,1),(129727,129733,1),(129742,129755,1),(129760,129768,1),(129776,129784,1),(131072,196605,1),(196608,262141,1)]
def lP:Option (List (Int×Int×Int)):=
 some kv
theorem xE (d:Own c0 G F) {r:List (Int×Int×Int)} (H:lP=some r): Calls prog 278 #[] c0.w (aP c0 fun c v=>∃a b,Own c G (es true iz a 326 b r :: F)∧v=a∧OA iz c a b r):=by
 unfold lP at H;refine en func278 rfl rfl (sr (va (Y) (wln (sr (va (aD 4352 4447 1) (va (aD 8361 8361 3) (va (aD 8986 8987 1) (va (aD 9001 9002 1) (va (aD 9193 9196 1) (va (aD 9200 9200 1) (va (aD 9203 9203 1) (va (aD 9725 9726 1) (va (aD 9748 9749 1) (va (aD 9800 9811 1) (va (aD 9855 9855 1) (va (aD 9875 9875 1) (va (aD 9889 9889 1) (va (aD 9898 9899 1) (va (aD 9917 9918 1) (va (aD 9924 9925 1) (va (aD 9934 9934 1) (va (aD 9940 9940 1) (va (aD 9962 9962 1) (va (aD 9970 9971 1) (va (aD 9973 9973 1) (va (aD 9978 9978 1) (va (aD 9981 9981 1) (va (aD 9989 9989 1) (va (aD 9994 9995 1) (va (aD 10024 10024 1) (va (aD 10060 10060 1) (va (aD 10062 10062 1) (va (aD 10067 10069 1) (va (aD 10071 10071 1) (va (aD 10133 10135 1) (va (aD 10160 10160 1) (va (aD 10175 10175 1) (va (aD 11035 11036 1) (va (aD 11088 11088 1) (va (aD 11093 11093 1) (va (aD 11904 11929 1) (va (aD 11931 12019 1) (va (aD 12032 12245 1) (va (aD 12272 12287 1) (va (aD 12288 12288 2) (va (aD 12289 12350 1) (va (aD 12353 12438 1) (va (aD 12441 12543 1) (va (aD 12549 12591 1) (va (aD 12593 12686 1) (va (aD 12688 12771 1) (va (aD 12784 12830 1) (va (aD 12832 12871 1) (va (aD 12880 19903 1) (va (aD 19968 42124 1) (va (aD 42128 42182 1) (va (aD 43360 43388 1) (va (aD 44032 55203 1) (va (aD 63744 64255 1) (va (aD 65040 65049 1) (va (aD 65072 65106 1) (va (aD 65108 65126 1) (va (aD 65128 65131 1) (va (aD 65281 65376 2) (va (aD 65377 65470 3) (va (aD 65474 65479 3) (va (aD 65482 65487 3) (va (aD 65490 65495 3) (va (aD 65498 65500 3) (va (aD 65504 65510 2) (va (aD 65512 65518 3) (va (aD 94176 94180 1) (va (aD 94208 100343 1) (va (aD 100352 101589 1) (va (aD 110592 110882 1) (va (aD 126980 126980 1) (va (aD 127183 127183 1) (va (aD 127374 127374 1) (va (aD 127377 127386 1) (va (aD 127488 127490 1) (va (aD 127504 127547 1) (va (aD 127552 127560 1) (va (aD 127568 127569 1) (va (aD 127584 127589 1) (va (aD 127744 127776 1) (va (aD 127789 127797 1) (va (aD 127799 127868 1) (va (aD 127870 127891 1) (va (aD 127904 127946 1) (va (aD 127951 127955 1) (va (aD 127968 127984 1) (va (aD 127988 127988 1) (va (aD 127992 128062 1) (va (aD 128064 128064 1) (va (aD 128066 128252 1) (va (aD 128255 128317 1) (va (aD 128331 128334 1) (va (aD 128336 128359 1) (va (aD 128378 128378 1) (va (aD 128405 128406 1) (va (aD 128420 128420 1) (va (aD 128507 128591 1) (va (aD 128640 128709 1) (va (aD 128716 128716 1) (va (aD 128720 128722 1) (va (aD 128725 128727 1) (va (aD 128732 128735 1) (va (aD 128747 128748 1) (va (aD 128756 128764 1) (va (aD 128992 129003 1) (va (aD 129008 129008 1) (va (aD 129292 129338 1) (va (aD 129340 129349 1) (va (aD 129351 129535 1) (va (aD 129648 129660 1) (va (aD 129664 129672 1) (va (aD 129680 129725 1) (va (aD 129727 129733 1) (va (aD 129742 129755 1) (va (aD 129760 129768 1) (va (aD 129776 129784 1) (va (aD 131072 196605 1) (va (aD 196608 262141 1) (me (Own.sl (R:=iz) (E:=326) (ls:=kv.map (fun x=>[I x.1,I x.2.1,I x.2.2])) (vs:=(kv.map (fun x=>[I x.1,I x.2.1,I x.2.2])).flatten) (xs:=kv) true d (aZ _) rfl (oo.map _ (fun _=>rfl) _) (by kernel_rfl) (by kernel_rfl)) ?_))))))))))))))))))))))))))))))))))))))))))))))))))))))))))))))))))))))))))))))))))))))))))))))))))))))))))))))))))))))))))));rintro v5 f i ⟨h,e,g⟩;refine va (v5) (wln (W.ret ?_));obtain rfl:=si H;exact r1 (qq f ⟨v5,h,e,rfl,g⟩)
def fG (p0:Int) (p1_0_0:List (Int×Int×Int)) (p1_1_0:Int):Option (Int):=
 (cv (σ:=Int×Int) (τ:=Int) ((p0 - 0).toNat+1) (fun a=>
 if (decide (a.1 < a.2))=true then
 (mK (w64 ((IntKind.u64.wrap (w64 (a.1+a.2))).fdiv (2 ^ 1))) p1_0_0 p1_1_0).bind fun b=>
 if (!b)=true then
 some (.inl ((w64 ((w64 ((IntKind.u64.wrap (w64 (a.1+a.2))).fdiv (2 ^ 1)))+1)),a.2))
 else
 some (.inl (a.1,(w64 ((IntKind.u64.wrap (w64 (a.1+a.2))).fdiv (2 ^ 1)))))
 else
 some (.inr (a.1))) (0,p0)).bind fun c=>
 some c
theorem nW {b1_0:Nat} {b1_1:Nat} (A:Own c0 G F) (b:Int) (p1_0_0:List (Int×Int×Int)) (p1_1_0:Int) {r:Int} (N:∀j u,([v2]:List Value)[j]? = some u→Im c0 b1_0 (0+j) u) (M:Sl iz c0 v2 p1_0_0) (P:∀j u,([J p1_1_0]:List Value)[j]? = some u→Im c0 b1_1 (0+j) u) (H:fG b p1_0_0 p1_1_0=some r): Calls prog 271 #[I b,.func (.func 279) #[] #[Q b1_0,Q b1_1]] c0.w (aP c0 fun c v=>Own c G (F)∧v=I r):=by
 unfold fG at H;refine en func271 rfl rfl (sr (va (I 0) (wln (sr (va (I b) (va (I 0) (va (I b) (wln (W.seq (W.block (bn H fun g y k=>lp y (fun a=>Jn c0 fun c l=>Own c G (F)∧l= [(1,.func (.func 279) #[] #[Q b1_0,Q b1_1]),(5,I a.1),(6,I a.2)]) (fun h ex e w=>ex= .exit 0∧(Jn c0 fun c l=>Own c G (F)∧l= [(5,I h)]) e w) ?_ ?_ ?_)))))))))))
 ·clear k y;intro a X q z H;revert q z;rintro E R ⟨D,Z,_,rfl,l7,rfl,o,rfl⟩;refine W.seq (sr (va (I a.1) (va (I a.2) (va (B (decide (a.1 < a.2))) (wln (cn H (fun s H=>?_) (fun s H=>?_)))))))
  ·refine W.skip (nrm (W.block (sr (va (I a.1) (va (I a.2) (va (I (w64 (a.1+a.2))) (va (.int .u64 (IntKind.u64.wrap (w64 (a.1+a.2)))) (va (.int .u64 ((IntKind.u64.wrap (w64 (a.1+a.2))).fdiv (2 ^ 1))) (vv (I (w64 ((IntKind.u64.wrap (w64 (a.1+a.2))).fdiv (2 ^ 1)))) (wln (sr (va (.func (.func 279) #[] #[Q b1_0,Q b1_1]) (va (I (w64 ((IntKind.u64.wrap (w64 (a.1+a.2))).fdiv (2 ^ 1)))) (bn H fun i t H=>cl (yX o (w64 ((IntKind.u64.wrap (w64 (a.1+a.2))).fdiv (2 ^ 1))) p1_0_0 p1_1_0 (mm N) M.m (mm P) t) ?_))))))))))))));rintro v20 f T ⟨d,rfl⟩;refine va (B (!i)) (wln (cn H (fun x H=>?_) (fun x H=>?_)))
   ·refine W.region (va (I (w64 ((IntKind.u64.wrap (w64 (a.1+a.2))).fdiv (2 ^ 1)))) (vv (I (w64 ((w64 ((IntKind.u64.wrap (w64 (a.1+a.2))).fdiv (2 ^ 1)))+1))) (WL.nil (bkn ?_))));obtain rfl:=si H;exact ⟨_,rfl,jn f ⟨d,rfl⟩⟩
   refine W.region (vv (I (w64 ((IntKind.u64.wrap (w64 (a.1+a.2))).fdiv (2 ^ 1)))) (WL.nil (bkn ?_)));obtain rfl:=si H;exact ⟨_,rfl,jn f ⟨d,rfl⟩⟩
  refine W.exit (thx ?_);obtain rfl:=si H;exact ⟨_,rfl,rfl,jn D ⟨o,rfl⟩⟩
 ·exact jn c0 ⟨A,rfl⟩
 rintro _ E R ⟨rfl,p,S,_,rfl,U,rfl,n,rfl⟩;refine bke (nrm (sr (vv (I g) (wln (W.ret ?_)))));obtain rfl:=si k;exact r1 (qq p ⟨n,rfl⟩)
def oF (p0:Int):Option (Int):=
 (lP).bind fun a=>
 (fG (a.length:Int) a p0).bind fun b=>
 (orE (b==(a.length:Int)) ((idx a b).bind fun d=>
 some (decide (d.1 > (w64 p0))))).bind fun c=>
 if c=true then
 some 0
 else
 (idx a b).bind fun e=>
 some e.2.2
theorem B4 (O0:Own c0 G F) (k:Int) {r:Int} (H:oF k=some r): Calls prog 230 #[J k] c0.w (aP c0 fun c v=>Own c G (F)∧v=I r):=by
 unfold oF at H;refine en func230 rfl rfl (sr (me (bx 21 [J k] O0) ?_));rintro v5 c4 l4 ⟨b1,rfl,O2,m3⟩;refine va (I 0) (wln (sr (bn H fun i h6 H=>cl (xE O2 h6) ?_)));rintro v7 d1 j1 ⟨_,u8,T,rfl,s⟩;refine me (al 323 [Y] T) ?_;rintro v19 e1 M ⟨y,rfl,U⟩;obtain ⟨b,d,e,rfl⟩:=((s.mono M)).form;refine md (sC 323 0 (.slice b d e) [.slice b d e] 0 U ⟨s.m.one,trivial⟩) ?_;rintro f1 m0 t;refine wln (sr (vx (le1 0 iA (t.on 0 rfl)) (vx (lnO 3 iA s.m) ?_)));obtain ⟨g1,g0,k1,X,g⟩:=t.frz 1 rfl (s.mono (M.trans m0));refine WL.gh g0 ?_;obtain ⟨h1,h0,N,Z,n⟩:=Own.frzB 0 X rfl;refine WL.gh h0 ?_;have a0:=Z.sD 2 [1];refine va (.func (.func 279) #[] #[Q y,Q b1]) (bn H fun a i0 H=>cl (nW a0 (i.length:Int) i k n g.m (mm m3) i0) ?_);rintro v40 f0 P ⟨b0,rfl⟩;refine va (I a) (wln (W.seq (W.seq (bn H fun R A H=>W.join (Jn f0 fun c l=>Own c G (es false iz (.slice b d e) 326 u8 i :: F)∧l= [(3,Q y),(4,I a),(23,B R)]) ?_ ?_))))
 ·clear H;refine rD [] (Kp G0 []) b0 ?_;intro p o0 u;have m1:Kp G0 [] p:=Kp.nil0;refine ta 0 (I a) (tx 1 (fun j f=>l1 iA ((mm n) 0 _ rfl)) (tx 2 (fun j f=>ln 3 iA g.m) (ta 3 (B (a==(i.length:Int))) ?_)));rcases bo (a==(i.length:Int)) with h | h
  ·obtain rfl:=orT h A;exact AC.takeb 4 h rfl (by kernel_rfl) (by kernel_rfl) (fun j f=>(by kernel_rfl)) (tp 5 (tp 6 (tp 7 (tp 8 (tp 9 (tp 10 (tp 11 (tp 12 (ta 13 (B true) (dn (nrm (jn p ⟨u,rfl⟩))))))))))))
  have o:=orF h A;refine bn o fun q D o=>AC.takeb 4 h rfl (by kernel_rfl) (by kernel_rfl) (fun j f=>(by kernel_rfl)) (tx 5 (fun j f=>l1 iA ((mm n) 0 _ rfl)) (ta 6 (I a) ?_));obtain ⟨z0,j0,t0⟩:=Sl.at (g.mono (N.trans (P.trans o0))) (aR D);obtain rfl:=j0;refine tx 7 (fun j f=>ix iA g.m D) (ta 8 (Qo (sb (.slice b d e)) (so (.slice b d e)+a.toNat * 3)) (tx 9 (fun j f=>l1 u_3 ((mm t0) 0 _ rfl)) (tx 10 (fun j f=>l1 mh ((mm m3) 0 _ rfl)) (ta 11 (I (w64 k)) (ta 12 (B (decide (q.1 > (w64 k)))) ?_)))));obtain rfl:=si o;exact ta 13 (B (decide (q.1 > (w64 k)))) (dn (nrm (jn p ⟨u,rfl⟩)))
 rintro e_ w_ ⟨z,i1,_,rfl,q0,rfl,x,rfl⟩;refine nrm (cn H (fun k0 H=>?_) (fun k0 H=>?_))
 ·refine sr (va (I 0) (wln (W.ret (thr ?_))));obtain rfl:=si H;have d0:=x.sD 1 [];exact r1 (qq z ⟨d0,rfl⟩)
 refine W.skip (nrm (sr (vx (l1 iA ((mm n) 0 _ rfl)) (va (I a) (bn H fun S E H=>?_)))));obtain ⟨a1,l0,u0⟩:=Sl.at (g.mono (N.trans (P.trans q0))) (aR E);obtain rfl:=l0;refine vx (ix iA g.m E) (va (Qo (sb (.slice b d e)) (so (.slice b d e)+a.toNat * 3+2)) (vx (l1 u_3 (u0 2 _ rfl)) (va (I S.2.2) (wln (W.ret ?_)))));obtain rfl:=si H;have e0:=x.sD 1 [];exact r1 (qq z ⟨e0,rfl⟩)
def nu (p0:Int):Option (am):=
 (qt p0).bind fun b=>
 (oB p0).bind fun c=>
 (oI p0).bind fun d=>
 (oF p0).bind fun a=>
 some (⟨b,c,d,a⟩:am)
theorem vq (p:Own c0 G F) (a:Int) {r:am} (H:nu a=some r): Calls prog 174 #[J a] c0.w (aP c0 fun c v=>Own c G (F)∧v= .agg #[I r.Break,B r.Pict,I r.Conj,I r.East]):=by
 unfold nu at H;refine en func174 rfl rfl (sr (me (al 238 [I 0,B false,I 0,I 0] p) ?_));rintro v4 R S ⟨P,rfl,q⟩;refine wln (sr (va (J a) (bn H fun d t H=>cl (DF q a t) ?_)));rintro v11 u A ⟨s,rfl⟩;refine va (J a) (bn H fun e m H=>cl (B0 s a m) ?_);rintro v18 x D ⟨i,rfl⟩;refine va (J a) (bn H fun f n H=>cl (B6 i a n) ?_);rintro v25 y E ⟨j,rfl⟩;refine va (J a) (bn H fun b o H=>cl (B4 j a o) ?_);rintro v32 z M ⟨k,rfl⟩;refine va (.agg #[I d,B e,I f,I b]) (md (sA 238 [I d,B e,I f,I b] 0 k ⟨rfl,rfl,rfl,rfl,trivial⟩) ?_);rintro h N g;refine wln (W.ret ?_);obtain rfl:=si H;have l:=g.sD 1 [];exact rF (c:=h) (vs:=[I d,B e,I f,I b]) rfl (by kernel_rfl) (by kernel_rfl) (by kernel_rfl) (g.on 0 rfl _ rfl).1 ⟨_,h,rfl,rfl,pt,l,rfl⟩
def fp (p0:List Int):Option (List am):=
 (cv (σ:=(List am)×Int) (τ:=(List am)) (((p0.length:Int) - 0).toNat+1) (fun a=>
 if (decide (a.2 < (p0.length:Int)))=true then
 (idx p0 a.2).bind fun b=>
 (dL b).bind fun c=>
 (app a.1 ([c]:List am)).bind fun d=>
 some (.inl (d,(w64 (a.2+1))))
 else
 some (.inr (a.1))) (([]:List am),0)).bind fun e=>
 some e
theorem pJ (O0:Own c0 G F) (n:List Int) {r:List am} (k:Sl (RI .i32) c0 v1 n) (H:fp n=some r): Calls prog 132 #[v1] c0.w (aP c0 fun c v=>∃p y2,Own c G (es true cD p 238 y2 r :: F)∧v=p∧OA cD c p y2 r):=by
 unfold fp at H;refine en func132 rfl rfl (sr (va (Y) (wln (sr (va (Y) (wln (W.seq (sr (va (I 0) (wln (W.block (bn H fun c1 S q=>lp S (fun a=>Jn c0 fun c l=>∃v5 f,Own c G (es true cD v5 238 f a.1 :: F)∧l= [(0,v1),(3,v5),(4,I a.2)]∧OA cD c v5 f a.1) (fun d ex e w=>ex= .exit 0∧(Jn c0 fun c l=>∃v7 g,Own c G (es true cD v7 238 g d :: F)∧l= [(3,v7)]∧OA cD c v7 g d) e w) ?_ ?_ ?_))))))))))))
 ·clear q S;intro a e1 M g0 H;revert M g0;rintro e_ w_ ⟨c9,v0,_,rfl,l9,rfl,v5,f,h,rfl,i⟩;refine W.seq (sr (va (I a.2) (va (v1) (vx (ln 3 cy k.m) (va (B (decide (a.2 < (n.length:Int)))) (wln (cn H (fun N H=>?_) (fun N H=>?_))))))))
  ·refine W.skip (nrm (W.seq (W.block (W.region (va (v5) (va (v1) (va (I a.2) (bn H fun o j H=>?_))))))));obtain ⟨m0,P,e0⟩:=Sl.at (k.mono l9) (aR j);obtain rfl:=P;refine vx (ix cy k.m j) (vx (l1 mh (e0 0 _ rfl)) (bn H fun b R H=>cl (nB h o R) ?_));rintro v27 s0 x0 ⟨s,rfl⟩;refine me (sl cD 238 [[I b.Break,B b.Pict,I b.Conj,I b.East]] ([b]:List am) s ⟨rfl,trivial⟩) ?_;rintro v32 t0 y0 ⟨d1,t,T⟩;obtain ⟨u0,X,z0,u,U⟩:=t.frz 0 rfl T;refine WL.gh X (bn H fun q0 Z H=>me (ap cD (.agg #[I 0,B false,I 0,I 0]) 32 191 1 u i.m U Z jR) ?_);rintro v42 D a1 ⟨f0,x,a0⟩;refine va (v42) (WL.nil (bkn (nrm (W.region (va (I a.2) (vv (I (w64 (a.2+1))) (WL.nil ?_)))))));obtain rfl:=si H;refine ⟨_,rfl,?_⟩;have y:=x.sD 2 [1];exact jn D ⟨v42,f0,y,rfl,a0⟩
  refine W.exit (thx ?_);obtain rfl:=si H;exact ⟨_,rfl,rfl,jn c9 ⟨v5,f,h,rfl,i⟩⟩
 ·have b0:OA cD c0 (Y) [] []:=OA.nil (aZ _);have z:=O0.addHole (e:=es true cD (Y) 238 [] ([]:List am)) rfl;exact jn c0 ⟨(Y),[],z,rfl,b0⟩
 rintro _ e_ w_ ⟨rfl,E,w0,_,rfl,b1,rfl,v7,g,A,rfl,d0⟩;refine bke (nrm (sr (vv (v7) (wln (W.ret ?_)))));obtain rfl:=si q;exact r1 (qq E ⟨v7,g,A,rfl,d0⟩)
def kb:Option (List ByteArray):=
 some ([(⟨#[48,48,48,48,49,49,48,48,49,48,48,48,48,48]⟩:ByteArray),(⟨#[48,48,49,48,48,48,48,48,48,48,48,48,48,48]⟩:ByteArray),(⟨#[48,48,48,48,48,48,48,48,48,48,48,48,48,48]⟩:ByteArray),(⟨#[48,48,48,48,48,48,48,48,48,48,48,48,48,48]⟩:ByteArray),(⟨#[50,48,48,48,49,49,48,48,49,48,48,48,48,48]⟩:ByteArray),(⟨#[50,48,48,48,49,49,48,48,49,48,48,48,48,48]⟩:ByteArray),(⟨#[48,48,48,48,49,49,50,48,49,48,48,48,48,48]⟩:ByteArray),(⟨#[49,48,48,48,49,49,49,49,49,49,49,49,49,49]⟩:ByteArray),(⟨#[48,48,48,48,49,49,48,48,49,48,48,48,48,48]⟩:ByteArray),(⟨#[48,48,48,48,49,49,48,48,49,49,49,48,49,49]⟩:ByteArray),(⟨#[48,48,48,48,49,49,48,48,49,48,49,49,48,48]⟩:ByteArray),(⟨#[48,48,48,48,49,49,48,48,49,48,48,49,48,48]⟩:ByteArray),(⟨#[48,48,48,48,49,49,48,48,49,48,49,49,48,48]⟩:ByteArray),(⟨#[48,48,48,48,49,49,48,48,49,48,48,49,48,48]⟩:ByteArray)]:List ByteArray)
theorem qB (d:Own c0 G F) {r:List ByteArray} (H:kb=some r): Calls prog 259 #[] c0.w (aP c0 fun c v=>∃a b,Own c G (es true RS a 9 b r :: F)∧v=a∧OA RS c a b r):=by
 unfold kb at H;refine en func259 rfl rfl (sr (va (Y) (wln (sr (me (sl RS 9 [[.string (⟨#[48,48,48,48,49,49,48,48,49,48,48,48,48,48]⟩:ByteArray)],[.string (⟨#[48,48,49,48,48,48,48,48,48,48,48,48,48,48]⟩:ByteArray)],[.string (⟨#[48,48,48,48,48,48,48,48,48,48,48,48,48,48]⟩:ByteArray)],[.string (⟨#[48,48,48,48,48,48,48,48,48,48,48,48,48,48]⟩:ByteArray)],[.string (⟨#[50,48,48,48,49,49,48,48,49,48,48,48,48,48]⟩:ByteArray)],[.string (⟨#[50,48,48,48,49,49,48,48,49,48,48,48,48,48]⟩:ByteArray)],[.string (⟨#[48,48,48,48,49,49,50,48,49,48,48,48,48,48]⟩:ByteArray)],[.string (⟨#[49,48,48,48,49,49,49,49,49,49,49,49,49,49]⟩:ByteArray)],[.string (⟨#[48,48,48,48,49,49,48,48,49,48,48,48,48,48]⟩:ByteArray)],[.string (⟨#[48,48,48,48,49,49,48,48,49,49,49,48,49,49]⟩:ByteArray)],[.string (⟨#[48,48,48,48,49,49,48,48,49,48,49,49,48,48]⟩:ByteArray)],[.string (⟨#[48,48,48,48,49,49,48,48,49,48,48,49,48,48]⟩:ByteArray)],[.string (⟨#[48,48,48,48,49,49,48,48,49,48,49,49,48,48]⟩:ByteArray)],[.string (⟨#[48,48,48,48,49,49,48,48,49,48,48,49,48,48]⟩:ByteArray)]] ([(⟨#[48,48,48,48,49,49,48,48,49,48,48,48,48,48]⟩:ByteArray),(⟨#[48,48,49,48,48,48,48,48,48,48,48,48,48,48]⟩:ByteArray),(⟨#[48,48,48,48,48,48,48,48,48,48,48,48,48,48]⟩:ByteArray),(⟨#[48,48,48,48,48,48,48,48,48,48,48,48,48,48]⟩:ByteArray),(⟨#[50,48,48,48,49,49,48,48,49,48,48,48,48,48]⟩:ByteArray),(⟨#[50,48,48,48,49,49,48,48,49,48,48,48,48,48]⟩:ByteArray),(⟨#[48,48,48,48,49,49,50,48,49,48,48,48,48,48]⟩:ByteArray),(⟨#[49,48,48,48,49,49,49,49,49,49,49,49,49,49]⟩:ByteArray),(⟨#[48,48,48,48,49,49,48,48,49,48,48,48,48,48]⟩:ByteArray),(⟨#[48,48,48,48,49,49,48,48,49,49,49,48,49,49]⟩:ByteArray),(⟨#[48,48,48,48,49,49,48,48,49,48,49,49,48,48]⟩:ByteArray),(⟨#[48,48,48,48,49,49,48,48,49,48,48,49,48,48]⟩:ByteArray),(⟨#[48,48,48,48,49,49,48,48,49,48,49,49,48,48]⟩:ByteArray),(⟨#[48,48,48,48,49,49,48,48,49,48,48,49,48,48]⟩:ByteArray)]:List ByteArray) d ⟨rfl,rfl,rfl,rfl,rfl,rfl,rfl,rfl,rfl,rfl,rfl,rfl,rfl,rfl,trivial⟩) ?_)))));rintro v5 f i ⟨h,e,g⟩;refine va (v5) (wln (W.ret ?_));obtain rfl:=si H;exact r1 (qq f ⟨v5,h,e,rfl,g⟩)
def cR (p0:Int) (p1:Int):Option (Int):=
 ((orE (decide (p0 < 0)) (some (decide (p0 > 13)))).bind fun f=>
 if f=true then
 some (0)
 else
 some (p0)).bind fun g=>
 ((orE (decide (p1 < 0)) (some (decide (p1 > 13)))).bind fun a=>
 if a=true then
 some (0)
 else
 some (p1)).bind fun e=>
 (kb).bind fun b=>
 (idx b g).bind fun c=>
 (F6 c e).bind fun d=>
 some (w64 ((w64 d) - 48))
theorem qC (N:Own c0 G F) (e:Int) (d:Int) {r:Int} (H:cR e d=some r): Calls prog 202 #[I e,I d] c0.w (aP c0 fun c v=>Own c G (F)∧v=I r):=by
 unfold cR at H;refine en func202 rfl rfl (sr (va (I 0) (wln (bn H fun m g H2=>W.seqJ (Jn c0 fun c l=>Own c G (F)∧l= [(0,I m),(1,I d)]) ?_ ?_))))
 ·refine W.seq (bn g fun X h3 g=>W.join (Jn c0 fun c l=>Own c G (F)∧l= [(0,I e),(1,I d),(10,B X)]) ?_ ?_)
  ·clear g;refine W.region (va (I e) (va (B (decide (e < 0))) ?_));rcases bo (decide (e < 0)) with n | n
   ·obtain rfl:=orT n h3;exact vb n (pz (va (B true) (wln (jn c0 ⟨N,rfl⟩))))
   have H5:=orF n h3;refine vb n (wa (I e) (wa (B (decide (e > 13))) ?_));obtain rfl:=si H5;exact va (B (decide (e > 13))) (wln (jn c0 ⟨N,rfl⟩))
  rintro A D ⟨U,g7,_,rfl,l6,rfl,S,rfl⟩;refine nrm (cn g (fun Z g=>?_) (fun Z g=>?_))
  ·refine W.region (va (I 0) (wln ?_));obtain rfl:=si g;exact jn U ⟨S,rfl⟩
  refine W.skip (nrm ?_);obtain rfl:=si g;exact jn U ⟨S,rfl⟩
 rintro A D ⟨i,m0,_,rfl,s0,rfl,s,rfl⟩;refine bn H2 fun q a b=>W.seqJ (Jn i fun c l=>Own c G (F)∧l= [(0,I m),(1,I q)]) ?_ ?_
 ·refine W.seq (bn a fun z y a=>W.join (Jn i fun c l=>Own c G (F)∧l= [(0,I m),(1,I d),(16,B z)]) ?_ ?_)
  ·clear a;refine W.region (va (I d) (va (B (decide (d < 0))) ?_));rcases bo (decide (d < 0)) with h | h
   ·obtain rfl:=orT h y;exact vb h (pz (va (B true) (wln (jn i ⟨s,rfl⟩))))
   have M:=orF h y;refine vb h (wa (I d) (wa (B (decide (d > 13))) ?_));obtain rfl:=si M;exact va (B (decide (d > 13))) (wln (jn i ⟨s,rfl⟩))
  rintro A D ⟨x,o0,_,rfl,t0,rfl,t,rfl⟩;refine nrm (cn a (fun b0 a=>?_) (fun b0 a=>?_))
  ·refine W.region (va (I 0) (wln ?_));obtain rfl:=si a;exact jn x ⟨t,rfl⟩
  refine W.skip (nrm ?_);obtain rfl:=si a;exact jn x ⟨t,rfl⟩
 rintro A D ⟨l0,q0,_,rfl,u0,rfl,P,rfl⟩;refine sr (bn b fun k0 d0 b=>cl (qB P d0) ?_);rintro v38 T v0 ⟨_,w0,u,rfl,o⟩;refine va (I m) (bn b fun E p b=>vx (ixO underlying315 o p) ?_);obtain ⟨j0,e0,g0⟩:=OA.at o p;obtain rfl:=e0;refine vr (.string E) (rx (by kernel_rfl) (mE u_9 rfl (u.on 0 rfl) (o.blk p) (at1 (j:=0) g0 rfl))) (va (I q) (bn b fun f f0 b=>vr (.int .u8 f) (rx (by kernel_rfl) (zv (k:= .i64) u_9 f0 _)) (va (I (w64 f)) (vv (I (w64 ((w64 f) - 48))) (wln (W.ret ?_))))));obtain rfl:=si b;have R:=u.sD 1 [];exact r1 (qq T ⟨R,rfl⟩)
def eq (p0:List am) (p1:Int):Option (Bool):=
 (idx p0 p1).bind fun i=>
 if (i.Conj != 1)=true then
 some false
 else
 (cv (σ:=Int×Int) (τ:=Bool ⊕ Unit) (((w64 (p1 - 1)) - 0).toNat+2) (fun a=>
 if (decide (a.2≥0))=true then
 (idx p0 a.2).bind fun d=>
 if (d.Conj==1)=true then
 some (.inr (.inl (decide (a.1 > 0))))
 else
 ((idx p0 a.2).bind fun e=>
 if (e.Conj==2)=true then
 some ((w64 (a.1+1)))
 else
 some (a.1)).bind fun h=>
 (idx p0 a.2).bind fun f=>
 (bD (f.Conj != 2) ((idx p0 a.2).bind fun g=>
 some (g.Conj != 3))).bind fun c=>
 if c=true then
 some (.inr (.inl false))
 else
 some (.inl (h,(w64 (a.2 - 1))))
 else
 some (.inr (.inr ()))) (0,(w64 (p1 - 1)))).bind fun b=>
 match b with
 | .inl b=>
 some b
 | .inr b=>
 some false
theorem og (O0:Own c0 G F) (p0:List am) (j:Int) {r:Bool} (f:Sl cD c0 v1 p0) (H:eq p0 j=some r): Calls prog 203 #[v1,I j] c0.w (aP c0 fun c v=>Own c G (F)∧v=B r):=by
 unfold eq at H;refine en func203 rfl rfl (sr (va (B false) (wln (W.seq (sr (va (v1) (va (I j) (bn H fun d1 h3 H=>?_))))))));obtain ⟨z1,h5,m6⟩:=Sl.at f (aR h3);obtain rfl:=h5;refine vx (ix jR f h3) (va (Qo (sb v1) (so v1+j.toNat * 4+2)) (vx (l1 u_3 (m6 2 _ rfl)) (va (B (d1.Conj != 1)) (wln (cn H (fun h7 H=>?_) (fun h7 H=>?_))))))
 ·refine sr (va (B false) (wln (W.ret (thr ?_))));obtain rfl:=si H;exact r1 (qq c0 ⟨O0,rfl⟩)
 refine W.skip (nrm (sr (va (I 0) (wln (W.seq (sr (va (I j) (vv (I (w64 (j - 1))) (wln (W.block (bn H fun i h8 T=>lp h8 (fun a=>Jn c0 fun c l=>Own c G (F)∧l= [(0,v1),(5,I a.1),(6,I a.2)]) (fun t=>match t with | .inl X=>(fun b1 ex e w=>ex= .ret∧(Jn c0 fun c l=>Own c G (F)∧l= [(4,B b1)]) e w) X | .inr X=>(fun e1 ex e w=>ex= .exit 0∧(Jn c0 fun c l=>Own c G (F)∧l= []) e w) X) ?_ ?_ ?_)))))))))))
 ·clear T h8;intro a b2 h0 c1 H;revert h0 c1;rintro x y ⟨g,n1,_,rfl,n,rfl,k,rfl⟩;refine W.seq (sr (va (I a.2) (va (B (decide (a.2≥0))) (wln (cn H (fun j0 H=>?_) (fun j0 H=>?_))))))
  ·refine W.skip (nrm (W.seq (W.block (W.seq (sr (va (v1) (va (I a.2) (bn H fun Z E H=>?_))))))));obtain ⟨h1,k0,w0⟩:=Sl.at (f.mono n) (aR E);obtain rfl:=k0;refine vx (ix jR f.m E) (va (Qo (sb v1) (so v1+a.2.toNat * 4+2)) (vx (l1 u_3 (w0 2 _ rfl)) (va (B (Z.Conj==1)) (wln (cn H (fun l0 H=>?_) (fun l0 H=>?_))))))
   ·refine sr (va (I a.1) (vv (B (decide (a.1 > 0))) (wln (W.ret (thr (bkr (thr ?_)))))));obtain rfl:=si H;exact ⟨_,rfl,⟨rfl,jn g ⟨k,rfl⟩⟩⟩
   refine W.skip (nrm (bn H fun u d b=>W.seqJ (Jn g fun c l=>Own c G (F)∧l= [(0,v1),(5,I u),(6,I a.2)]) ?_ ?_))
   ·refine sr (va (v1) (va (I a.2) (bn d fun a0 M d=>?_)));obtain ⟨i1,m0,x0⟩:=Sl.at (f.mono n) (aR M);obtain rfl:=m0;refine vx (ix jR f.m M) (va (Qo (sb v1) (so v1+a.2.toNat * 4+2)) (vx (l1 u_3 (x0 2 _ rfl)) (va (B (a0.Conj==2)) (wln (cn d (fun o0 d=>?_) (fun o0 d=>?_))))))
    ·refine W.region (va (I a.1) (vv (I (w64 (a.1+1))) (wln ?_)));obtain rfl:=si d;exact jn g ⟨k,rfl⟩
    refine W.skip (nrm ?_);obtain rfl:=si d;exact jn g ⟨k,rfl⟩
   rintro x y ⟨p,q1,_,rfl,S,rfl,z,rfl⟩;refine W.seq (bn b fun q N b=>bn b fun U P b=>W.join (Jn p fun c l=>Own c G (F)∧l= [(0,v1),(5,I u),(6,I a.2),(48,B U)]) ?_ ?_)
   ·clear b;refine W.region (va (v1) (va (I a.2) ?_));obtain ⟨j1,s0,y0⟩:=Sl.at (f.mono (n.trans S)) (aR N);obtain rfl:=s0;refine vx (ix jR f.m N) (va (Qo (sb v1) (so v1+a.2.toNat * 4+2)) (vx (l1 u_3 (y0 2 _ rfl)) (va (B (q.Conj != 2)) ?_)));rcases bo (q.Conj != 2) with h | h
    ·have o:=anT h P;refine vb h (wa (v1) (wa (I a.2) (wn (bn o fun s R o=>?_))));obtain ⟨k1,t0,z0⟩:=Sl.at (f.mono (n.trans S)) (aR R);obtain rfl:=t0;refine vx (ix jR f.m R) (wa (Qo (sb v1) (so v1+a.2.toNat * 4+2)) (wn (vx (l1 u_3 (z0 2 _ rfl)) (wa (B (s.Conj != 3)) ?_))));obtain rfl:=si o;exact va (B (s.Conj != 3)) (wln (jn p ⟨z,rfl⟩))
    obtain rfl:=anF h P;exact vb h (pz (pz (pz (va (B false) (wln (jn p ⟨z,rfl⟩))))))
   rintro x y ⟨D,s1,_,rfl,w1,rfl,A,rfl⟩;refine nrm (cn b (fun u0 b=>?_) (fun u0 b=>?_))
   ·refine sr (va (B false) (wln (W.ret (bkr (thr ?_)))));obtain rfl:=si b;exact ⟨_,rfl,⟨rfl,jn D ⟨A,rfl⟩⟩⟩
   refine W.skip (bkn (nrm (W.region (va (I a.2) (vv (I (w64 (a.2 - 1))) (WL.nil ?_))))));obtain rfl:=si b;exact ⟨_,rfl,jn D ⟨A,rfl⟩⟩
  refine W.exit (thx ?_);obtain rfl:=si H;exact ⟨_,rfl,rfl,jn g ⟨k,rfl⟩⟩
 ·exact jn c0 ⟨O0,rfl⟩
 rcases i with i | i
 ·intro i0; revert i0;rintro _ x y ⟨rfl,f0,t1,_,rfl,x1,rfl,d0,rfl⟩;refine bkr (thr ?_);obtain rfl:=si T;exact r1 (qq f0 ⟨d0,rfl⟩)
 rintro _ x y ⟨rfl,g0,u1,_,rfl,y1,rfl,e0,rfl⟩;refine bke (nrm (sr (va (B false) (wln (W.ret ?_)))));obtain rfl:=si T;exact r1 (qq g0 ⟨e0,rfl⟩)
def eL (p0:List am) (p1:Int):Option (Bool):=
 (idx p0 p1).bind fun j=>
 (orE (!j.Pict) (some (decide (p1 < 2)))).bind fun i=>
 (orE i ((idx p0 (w64 (p1 - 1))).bind fun e=>
 some (e.Break != 5))).bind fun c=>
 (orE c ((idx p0 (w64 (p1 - 1))).bind fun f=>
 some f.Pict)).bind fun d=>
 if d=true then
 some false
 else
 (cv (σ:=Int) (τ:=Bool ⊕ Unit) (((w64 (p1 - 2)) - 0).toNat+2) (fun b=>
 if (decide (b≥0))=true then
 (idx p0 b).bind fun g=>
 if g.Pict=true then
 some (.inr (.inl true))
 else
 (idx p0 b).bind fun h=>
 if (h.Break != 4)=true then
 some (.inr (.inl false))
 else
 some (.inl ((w64 (b - 1))))
 else
 some (.inr (.inr ()))) ((w64 (p1 - 2)))).bind fun a=>
 match a with
 | .inl a=>
 some a
 | .inr a=>
 some false
theorem oQ (u:Own c0 G F) (p0:List am) (b:Int) {r:Bool} (d:Sl cD c0 v1 p0) (H:eL p0 b=some r): Calls prog 204 #[v1,I b] c0.w (aP c0 fun c v=>Own c G (F)∧v=B r):=by
 unfold eL at H;refine en func204 rfl rfl (sr (va (B false) (wln (W.seq (W.seq (bn H fun U h3 H=>bn H fun u1 h4 H=>bn H fun i1 h5 H=>bn H fun X x H=>W.join (Jn c0 fun c l=>Own c G (F)∧l= [(0,v1),(1,I b),(32,B X)]) ?_ ?_))))))
 ·clear H;refine W.region (va (v1) (va (I b) ?_));obtain ⟨d2,h8,m9⟩:=Sl.at d (aR h3);obtain rfl:=h8;refine vx (ix jR d h3) (va (Qo (sb v1) (so v1+b.toNat * 4+1)) (vx (l1 u_4 (m9 1 _ rfl)) (va (B (!U.Pict)) ?_)));rcases bo (!U.Pict) with g | g
  ·obtain rfl:=orT g h4;refine vb g (pz (va (B true) ?_));have z:true=true:=rfl;obtain rfl:=orT z h5;refine vb z (pz (pz (pz (ps (va (B true) ?_)))));have A:true=true:=rfl;obtain rfl:=orT A x;exact vb A (pz (pz (pz (va (B true) (wln (jn c0 ⟨u,rfl⟩))))))
  have g0:=orF g h4;refine vb g (wa (I b) (wa (B (decide (b < 2))) ?_));obtain rfl:=si g0;refine va (B (decide (b < 2))) ?_;rcases bo (decide (b < 2)) with h | h
  ·obtain rfl:=orT h h5;refine vb h (pz (pz (pz (ps (va (B true) ?_)))));have D:true=true:=rfl;obtain rfl:=orT D x;exact vb D (pz (pz (pz (va (B true) (wln (jn c0 ⟨u,rfl⟩))))))
  have p:=orF h h5;refine vb h (wa (v1) (wa (I b) (wa (I (w64 (b - 1))) (wn (bn p fun k E p=>?_)))));obtain ⟨k1,o0,a1⟩:=Sl.at d (aR E);obtain rfl:=o0;refine vx (ix jR d E) (wa (Qo (sb v1) (so v1+(w64 (b - 1)).toNat * 4)) (wn (vx (l1 u_3 (a1 0 _ rfl)) (wa (B (k.Break != 5)) ?_))));obtain rfl:=si p;refine va (B (k.Break != 5)) ?_;rcases bo (k.Break != 5) with i | i
  ·obtain rfl:=orT i x;exact vb i (pz (pz (pz (va (B true) (wln (jn c0 ⟨u,rfl⟩))))))
  have q:=orF i x;refine vb i (wa (v1) (wa (I b) (wa (I (w64 (b - 1))) (wn (bn q fun e0 M q=>?_)))));obtain ⟨m1,q0,b1⟩:=Sl.at d (aR M);obtain rfl:=q0;refine vx (ix jR d M) (wa (Qo (sb v1) (so v1+(w64 (b - 1)).toNat * 4+1)) (wn (vx (l1 u_4 (b1 1 _ rfl)) ?_)));obtain rfl:=si q;exact va (B e0.Pict) (wln (jn c0 ⟨u,rfl⟩))
 rintro Z w_ ⟨f,w1,_,rfl,S,rfl,y,rfl⟩;refine nrm (cn H (fun t0 H=>?_) (fun t0 H=>?_))
 ·refine sr (va (B false) (wln (W.ret (thr ?_))));obtain rfl:=si H;exact r1 (qq f ⟨y,rfl⟩)
 refine W.skip (nrm (W.seq (sr (va (I b) (vv (I (w64 (b - 2))) (wln (W.block (bn H fun j N s=>lp N (fun a=>Jn f fun c l=>Own c G (F)∧l= [(0,v1),(5,I a)]) (fun t=>match t with | .inl x_=>(fun f1 ex e w=>ex= .ret∧(Jn f fun c l=>Own c G (F)∧l= [(4,B f1)]) e w) x_ | .inr x_=>(fun h1 ex e w=>ex= .exit 0∧(Jn f fun c l=>Own c G (F)∧l= []) e w) x_) ?_ ?_ ?_))))))))
 ·clear s N;intro a e2 l0 g1 H;revert l0 g1;rintro Z w_ ⟨o,x1,_,rfl,T,rfl,n,rfl⟩;refine W.seq (sr (va (I a) (va (B (decide (a≥0))) (wln (cn H (fun v0 H=>?_) (fun v0 H=>?_))))))
  ·refine W.skip (nrm (W.seq (W.block (W.seq (sr (va (v1) (va (I a) (bn H fun t1 P H=>?_))))))));obtain ⟨n1,w0,c1⟩:=Sl.at (d.mono (S.trans T)) (aR P);obtain rfl:=w0;refine vx (ix jR d.m P) (va (Qo (sb v1) (so v1+a.toNat * 4+1)) (vx (l1 u_4 (c1 1 _ rfl)) (wln (cn H (fun x0 H=>?_) (fun x0 H=>?_)))))
   ·refine sr (va (B true) (wln (W.ret (thr (bkr (thr ?_))))));obtain rfl:=si H;exact ⟨_,rfl,⟨rfl,jn o ⟨n,rfl⟩⟩⟩
   refine W.skip (nrm (sr (va (v1) (va (I a) (bn H fun f0 R H=>?_)))));obtain ⟨q1,y0,d1⟩:=Sl.at (d.mono (S.trans T)) (aR R);obtain rfl:=y0;refine vx (ix jR d.m R) (va (Qo (sb v1) (so v1+a.toNat * 4)) (vx (l1 u_3 (d1 0 _ rfl)) (va (B (f0.Break != 4)) (wln (cn H (fun z0 H=>?_) (fun z0 H=>?_))))))
   ·refine sr (va (B false) (wln (W.ret (bkr (thr ?_)))));obtain rfl:=si H;exact ⟨_,rfl,⟨rfl,jn o ⟨n,rfl⟩⟩⟩
   refine W.skip (bkn (nrm (W.region (va (I a) (vv (I (w64 (a - 1))) (WL.nil ?_))))));obtain rfl:=si H;exact ⟨_,rfl,jn o ⟨n,rfl⟩⟩
  refine W.exit (thx ?_);obtain rfl:=si H;exact ⟨_,rfl,rfl,jn o ⟨n,rfl⟩⟩
 ·exact jn f ⟨y,rfl⟩
 rcases j with j | j
 ·intro m0; revert m0;rintro _ Z w_ ⟨rfl,j0,y1,_,rfl,b2,rfl,h0,rfl⟩;refine bkr (thr ?_);obtain rfl:=si s;exact r1 (qq j0 ⟨h0,rfl⟩)
 rintro _ Z w_ ⟨rfl,k0,z1,_,rfl,c2,rfl,i0,rfl⟩;refine bke (nrm (sr (va (B false) (wln (W.ret ?_)))));obtain rfl:=si s;exact r1 (qq k0 ⟨i0,rfl⟩)
def ek (p0:List am) (p1:Int):Option (Bool):=
 (orE (decide (p1 < 1)) (some (decide (p1≥(p0.length:Int))))).bind fun n=>
 if n=true then
 some false
 else
 (idx p0 (w64 (p1 - 1))).bind fun h=>
 (idx p0 p1).bind fun i=>
 (cR h.Break i.Break).bind fun b=>
 (orE (b==1) ((eq p0 p1).bind fun j=>
 some j)).bind fun c=>
 (orE c ((eL p0 p1).bind fun k=>
 some k)).bind fun d=>
 if d=true then
 some true
 else
 (orE (b != 2) ((idx p0 p1).bind fun l=>
 some (l.Break != 6))).bind fun e=>
 if e=true then
 some false
 else
 (cv (σ:=Int×Int) (τ:=Int) (((w64 (p1 - 1)) - 0).toNat+2) (fun a=>
 (bD (decide (a.2≥0)) ((idx p0 a.2).bind fun m=>
 some (m.Break==6))).bind fun f=>
 if f=true then
 some (.inl ((w64 (a.1+1)),(w64 (a.2 - 1))))
 else
 some (.inr (a.1))) (0,(w64 (p1 - 1)))).bind fun g=>
 some ((g.tmod 2)==1)
theorem pK (O0:Own c0 G F) (q:List am) (b:Int) {r:Bool} (f:Sl cD c0 v1 q) (H:ek q b=some r): Calls prog 133 #[v1,I b] c0.w (aP c0 fun c v=>Own c G (F)∧v=B r):=by
 unfold ek at H;refine en func133 rfl rfl (sr (va (B false) (wln (W.seq (W.seq (bn H fun m1 h3 H=>W.join (Jn c0 fun c l=>Own c G (F)∧l= [(0,v1),(1,I b),(15,B m1)]) ?_ ?_))))))
 ·clear H;refine W.region (va (I b) (va (B (decide (b < 1))) ?_));rcases bo (decide (b < 1)) with M | M
  ·obtain rfl:=orT M h3;exact vb M (pz (pz (va (B true) (wln (jn c0 ⟨O0,rfl⟩)))))
  have H5:=orF M h3;refine vb M (wa (I b) (wa (v1) (wn (vx (ln 3 jR f) (wa (B (decide (b≥(q.length:Int)))) ?_)))));obtain rfl:=si H5;exact va (B (decide (b≥(q.length:Int)))) (wln (jn c0 ⟨O0,rfl⟩))
 rintro D P ⟨c6,g7,_,rfl,U,rfl,O8,rfl⟩;refine nrm (cn H (fun q1 H=>?_) (fun q1 H=>?_))
 ·refine sr (va (B false) (wln (W.ret (thr ?_))));obtain rfl:=si H;exact r1 (qq c6 ⟨O8,rfl⟩)
 refine W.skip (nrm (W.seq (rD [] (Kp G0 []) O8 ?_)));intro h1 p d1;have f3:Kp G0 [] h1:=Kp.nil0;refine ta 0 (v1) (ta 1 (I b) (ta 2 (I (w64 (b - 1))) (bn H fun z0 h0 H=>?_)));obtain ⟨s2,s1,i2⟩:=Sl.at (f.mono (U.trans p)) (aR h0);obtain rfl:=s1;refine tx 3 (fun c' N=>ix jR f.m h0) (ta 4 (Qo (sb v1) (so v1+(w64 (b - 1)).toNat * 4)) (tx 5 (fun c' N=>l1 u_3 ((mm i2) 0 _ rfl)) (ta 6 (v1) (ta 7 (I b) (bn H fun a1 i0 H=>?_)))));obtain ⟨t2,t1,j2⟩:=Sl.at (f.mono (U.trans p)) (aR i0);obtain rfl:=t1;refine tx 8 (fun c' N=>ix jR f.m i0) (ta 9 (Qo (sb v1) (so v1+b.toNat * 4)) (tx 10 (fun c' N=>l1 u_3 ((mm j2) 0 _ rfl)) (bn H fun d u1 H=>o1 11 (gc 11 (qC d1 z0.Break a1.Break u1) ?_))));rintro v30 z t0 ⟨a0,rfl⟩;have m2:Kp G0 [] z:=Kp.nil0;refine ⟨.inr m2,ta 12 (I d) (dn (nrm (W.seq (W.seq (bn H fun q2 j0 H=>bn H fun w0 E H=>W.join (Jn z fun c l=>Own c G (F)∧l= [(0,v1),(1,I b),(5,I d),(39,B w0)]) ?_ ?_)))))⟩
 ·clear H;refine W.region (va (I d) (va (B (d==1)) ?_));rcases bo (d==1) with h | h
  ·obtain rfl:=orT h j0;refine vb h (pz (ps (va (B true) ?_)));have k0:true=true:=rfl;obtain rfl:=orT k0 E;exact vb k0 (pz (ps (va (B true) (wln (jn z ⟨a0,rfl⟩)))))
  have s:=orF h j0;refine vb h (wa (v1) (wa (I b) (wn (bn s fun R x1 s=>cl (og a0 q b f.m x1) ?_))));rintro v43 i1 b3 ⟨b0,rfl⟩;obtain rfl:=si s;refine va (B R) ?_;rcases bo (R) with i | i
  ·obtain rfl:=orT i E;exact vb i (pz (ps (va (B true) (wln (jn i1 ⟨b0,rfl⟩)))))
  have t:=orF i E;refine vb i (wa (v1) (wa (I b) (wn (bn t fun b1 y1 t=>cl (oQ b0 q b f.m y1) ?_))));rintro v52 j1 c3 ⟨e1,rfl⟩;obtain rfl:=si t;exact va (B b1) (wln (jn j1 ⟨e1,rfl⟩))
 rintro D P ⟨n,w2,_,rfl,u0,rfl,y,rfl⟩;refine nrm (cn H (fun z1 H=>?_) (fun z1 H=>?_))
 ·refine sr (va (B true) (wln (W.ret (thr ?_))));obtain rfl:=si H;exact r1 (qq n ⟨y,rfl⟩)
 refine W.skip (nrm (W.seq (W.seq (bn H fun x0 l0 H=>W.join (Jn n fun c l=>Own c G (F)∧l= [(0,v1),(1,I b),(49,B x0)]) ?_ ?_))))
 ·clear H;refine W.region (va (I d) (va (B (d != 2)) ?_));rcases bo (d != 2) with j | j
  ·obtain rfl:=orT j l0;exact vb j (pz (pz (pz (va (B true) (wln (jn n ⟨y,rfl⟩))))))
  have u:=orF j l0;refine vb j (wa (v1) (wa (I b) (wn (bn u fun S m0 u=>?_))));obtain ⟨u2,b2,k2⟩:=Sl.at (f.mono (U.trans (p.trans (t0.trans u0)))) (aR m0);obtain rfl:=b2;refine vx (ix jR f.m m0) (wa (Qo (sb v1) (so v1+b.toNat * 4)) (wn (vx (l1 u_3 (k2 0 _ rfl)) (wa (B (S.Break != 6)) ?_))));obtain rfl:=si u;exact va (B (S.Break != 6)) (wln (jn n ⟨y,rfl⟩))
 rintro D P ⟨o,x2,_,rfl,f2,rfl,d0,rfl⟩;refine nrm (cn H (fun c2 H=>?_) (fun c2 H=>?_))
 ·refine sr (va (B false) (wln (W.ret (thr ?_))));obtain rfl:=si H;exact r1 (qq o ⟨d0,rfl⟩)
 refine W.skip (nrm (sr (va (I 0) (wln (W.seq (sr (va (I b) (vv (I (w64 (b - 1))) (wln (W.block (bn H fun g o0 Z=>lp o0 (fun a=>Jn o fun c l=>Own c G (F)∧l= [(0,v1),(6,I a.1),(7,I a.2)]) (fun X ex e w=>ex= .exit 0∧(Jn o fun c l=>Own c G (F)∧l= [(6,I X)]) e w) ?_ ?_ ?_)))))))))))
 ·clear Z o0;intro a g3 n1 n2 H;revert n1 n2;rintro D P ⟨A,y2,_,rfl,g2,rfl,e0,rfl⟩;refine W.seq (W.seq (bn H fun y0 q0 H=>W.join (Jn A fun c l=>Own c G (F)∧l= [(0,v1),(6,I a.1),(7,I a.2),(61,B y0)]) ?_ ?_))
  ·clear H;refine W.region (va (I a.2) (va (B (decide (a.2≥0))) ?_));rcases bo (decide (a.2≥0)) with k | k
   ·have x:=anT k q0;refine vb k (wa (v1) (wa (I a.2) (wn (bn x fun T s0 x=>?_))));obtain ⟨v2,d2,l2⟩:=Sl.at (f.mono (U.trans (p.trans (t0.trans (u0.trans (f2.trans g2)))))) (aR s0);obtain rfl:=d2;refine vx (ix jR f.m s0) (wa (Qo (sb v1) (so v1+a.2.toNat * 4)) (wn (vx (l1 u_3 (l2 0 _ rfl)) (wa (B (T.Break==6)) ?_))));obtain rfl:=si x;exact va (B (T.Break==6)) (wln (jn A ⟨e0,rfl⟩))
   obtain rfl:=anF k q0;exact vb k (pz (pz (pz (va (B false) (wln (jn A ⟨e0,rfl⟩))))))
  rintro D P ⟨g0,z2,_,rfl,d3,rfl,f0,rfl⟩;refine nrm (cn H (fun e2 H=>?_) (fun e2 H=>?_))
  ·refine W.skip (nrm (W.seq (W.block (W.region (va (I a.1) (vv (I (w64 (a.1+1))) (WL.nil (bkn (nrm (W.region (va (I a.2) (vv (I (w64 (a.2 - 1))) (WL.nil ?_)))))))))))));obtain rfl:=si H;exact ⟨_,rfl,jn g0 ⟨f0,rfl⟩⟩
  refine W.exit (thx ?_);obtain rfl:=si H;exact ⟨_,rfl,rfl,jn g0 ⟨f0,rfl⟩⟩
 ·exact jn o ⟨d0,rfl⟩
 rintro _ D P ⟨rfl,k1,a3,_,rfl,e3,rfl,g1,rfl⟩;refine bke (nrm (sr (va (I g) (va (I (g.tmod 2)) (vv (B ((g.tmod 2)==1)) (wln (W.ret ?_)))))));obtain rfl:=si Z;exact r1 (qq k1 ⟨g1,rfl⟩)
def fa (p0:List Int):Option (List Int):=
 (fp p0).bind fun b=>
 (cv (σ:=(List Int)×Int) (τ:=(List Int)) (((b.length:Int) - 0).toNat+1) (fun a=>
 if (decide (a.2 < (b.length:Int)))=true then
 ((ek b a.2).bind fun d=>
 if (!d)=true then
 (app a.1 ([a.2]:List Int)).bind fun e=>
 some (e)
 else
 some (a.1)).bind fun f=>
 some (.inl (f,(w64 (a.2+1))))
 else
 some (.inr (a.1))) (([]:List Int),0)).bind fun c=>
 some c
theorem pq (O0:Own c0 G F) (x:List Int) {r:List Int} (h2:Sl (RI .i32) c0 v1 x) (H:fa x=some r): Calls prog 85 #[v1] c0.w (aP c0 fun c v=>∃A y2,Own c G (es true (RI .i64) A 3 y2 r :: F)∧v=A∧OA (RI .i64) c A y2 r):=by
 unfold fa at H;refine en func85 rfl rfl (sr (va (Y) (wln (sr (va (Y) (wln (sr (va (v1) (bn H fun f h3 H=>cl (pJ O0 x h2 h3) ?_)))))))));rintro v4 k q1 ⟨_,y,O8,rfl,u⟩;refine va (v4) (wln (W.seq (sr (va (I 0) (wln (W.block (bn H fun g1 t p=>lp t (fun a=>Jn k fun c l=>∃v15 d,Own c G (es true (RI .i64) v15 3 d a.1 :: es false cD v4 238 y f :: F)∧l= [(3,v15),(4,v4),(5,I a.2)]∧OA (RI .i64) c v15 d a.1) (fun g ex e w=>ex= .exit 0∧(Jn k fun c l=>∃v17 h,Own c G (es true (RI .i64) v17 3 h g :: es false cD v4 238 y f :: F)∧l= [(3,v17)]∧OA (RI .i64) c v17 h g) e w) ?_ ?_ ?_)))))))
 ·clear p t;intro a d2 g0 a1 H;revert g0 a1;rintro e_ w_ ⟨s,k1,_,rfl,x0,rfl,v15,d,j,rfl,n⟩;refine W.seq (sr (va (I a.2) (va (v4) (vx (lnO 3 jR u.m) (va (B (decide (a.2 < (f.length:Int)))) (wln (cn H (fun h0 H=>?_) (fun h0 H=>?_))))))))
  ·refine W.skip (nrm (bn H fun o b D=>W.seqJ (Jn s fun c l=>∃v29 i,Own c G (es true (RI .i64) v29 3 i o :: es false cD v4 238 y f :: F)∧l= [(3,v29),(4,v4),(5,I a.2)]∧OA (RI .i64) c v29 i o) ?_ ?_))
   ·refine W.block (sr (va (v4) (va (I a.2) ?_)));have i0:=j.slf 1 rfl (u.mono x0);refine bn b fun z j0 b=>cl (pK j f a.2 i0 j0) ?_;rintro v38 Z s1 ⟨q,rfl⟩;refine va (B (!z)) (wln (cn b (fun k0 b=>?_) (fun k0 b=>?_)))
    ·refine W.region (va (v15) (va (I a.2) (me (sl (RI .i64) 3 [[I a.2]] ([a.2]:List Int) q ⟨rfl,trivial⟩) ?_)));rintro v44 i1 t1 ⟨c2,E,l0⟩;obtain ⟨j1,o0,u1,M,m0⟩:=E.frz 0 rfl l0;refine WL.gh o0 (bn b fun h1 q0 b=>me (ap (RI .i64) (I 0) 8 89 1 M n.m m0 q0 uF) ?_);rintro v54 a0 w1 ⟨y0,N,s0⟩;refine va (v54) (WL.nil (bkn (nrm ?_)));obtain rfl:=si b;have P:=N.sD 3 [1,2];exact jn a0 ⟨v54,y0,P,rfl,s0⟩
    refine W.skip (bkn (nrm ?_));obtain rfl:=si b;exact jn Z ⟨v15,d,q,rfl,n.m⟩
   rintro e_ w_ ⟨b0,m1,_,rfl,x1,rfl,v29,i,R,rfl,t0⟩;refine W.region (va (I a.2) (vv (I (w64 (a.2+1))) (WL.nil ?_)));obtain rfl:=si D;exact ⟨_,rfl,jn b0 ⟨v29,i,R,rfl,t0⟩⟩
  refine W.exit (thx ?_);obtain rfl:=si H;exact ⟨_,rfl,rfl,jn s ⟨v15,d,j,rfl,n⟩⟩
 ·have u0:OA (RI .i64) k (Y) [] []:=OA.nil (aZ _);have S:=O8.addHole (e:=es true (RI .i64) (Y) 3 [] ([]:List Int)) rfl;obtain ⟨d0,v0,z1,T,p1⟩:=S.frz 1 rfl u;exact ⟨d0,_,_,v0.symm,pt,us,(Y),[],T,rfl,u0.m⟩
 rintro _ e_ w_ ⟨rfl,e0,n1,_,rfl,b2,rfl,v17,h,U,rfl,w0⟩;refine bke (nrm (sr (vv (v17) (wln (W.ret ?_)))));obtain rfl:=si p;have X:=U.sD 2 [0];exact r1 (qq e0 ⟨v17,h,X,rfl,w0⟩)
def ep (p0:List Int):Option (List (List Int)):=
 (fa p0).bind fun i=>
 (app i ([(p0.length:Int)]:List Int)).bind fun b=>
 (cv (σ:=(List (List Int))×Int) (τ:=(List (List Int))) (((b.length:Int) - (w64 (0+1))).toNat+1) (fun a=>
 if (decide ((w64 (a.2+1)) < (b.length:Int)))=true then
 (idx b a.2).bind fun d=>
 (idx b (w64 (a.2+1))).bind fun e=>
 (slc p0 d e).bind fun f=>
 (app ([]:List Int) f).bind fun g=>
 (app a.1 ([g]:List (List Int))).bind fun h=>
 some (.inl (h,(w64 (a.2+1))))
 else
 some (.inr (a.1))) (([]:List (List Int)),0)).bind fun c=>
 some c
theorem oe (O0:Own c0 G F) (g:List Int) {r:List (List Int)} (h2:Sl (RI .i32) c0 v1 g) (H:ep g=some r): Calls prog 40 #[v1] c0.w (aP c0 fun c v=>∃y1 y2,Own c G (es true (RL (RI .i32)) y1 32 y2 r :: F)∧v=y1∧OA (RL (RI .i32)) c y1 y2 r):=by
 unfold ep at H;refine en func40 rfl rfl (sr (va (Y) (wln (sr (va (Y) (wln (sr (va (v1) (bn H fun c4 h3 H=>cl (pq O0 g h2 h3) ?_)))))))));rintro v4 m3 g2 ⟨_,u5,O8,rfl,h6⟩;refine va (v1) (vx (ln 3 cy h2.m) (me (sl (RI .i64) 3 [[I (g.length:Int)]] ([(g.length:Int)]:List Int) O8 ⟨rfl,trivial⟩) ?_));rintro v17 n3 l16 ⟨e0,s0,g1⟩;obtain ⟨o3,i1,i2,t0,h1⟩:=s0.frz 0 rfl g1;refine WL.gh i1 (bn H fun b j1 H=>me (ap (RI .i64) (I 0) 8 89 1 t0 h6.m h1 j1 uF) ?_);rintro v27 h j2 ⟨d,u0,f⟩;refine va (v27) (wln (W.seq (sr (va (I 0) (wln (W.block (bn H fun i3 Z y=>lp Z (fun a=>Jn h fun c l=>∃v30 o,Own c G (es true (RL (RI .i32)) v30 32 o a.1 :: es false (RI .i64) v17 3 e0 ([(g.length:Int)]:List Int) :: es true (RI .i64) v27 3 d b :: F)∧l= [(0,v1),(3,v30),(4,v27),(5,I a.2)]∧OA (RL (RI .i32)) c v30 o a.1) (fun n ex e w=>ex= .exit 0∧(Jn h fun c l=>∃v32 p,Own c G (es true (RL (RI .i32)) v32 32 p n :: es false (RI .i64) v17 3 e0 ([(g.length:Int)]:List Int) :: es true (RI .i64) v27 3 d b :: F)∧l= [(3,v32)]∧OA (RL (RI .i32)) c v32 p n) e w) ?_ ?_ ?_)))))))
 ·clear y Z;intro a d4 f1 w2 H;revert f1 w2;rintro e_ w_ ⟨x0,p3,_,rfl,t,rfl,v30,o,z,rfl,a0⟩;refine W.seq (sr (va (I a.2) (va (I (w64 (a.2+1))) (va (v27) (vx (lnO 3 uF f.m) (va (B (decide ((w64 (a.2+1)) < (b.length:Int)))) (wln (cn H (fun k1 H=>?_) (fun k1 H=>?_)))))))))
  ·refine W.skip (nrm (W.seq (W.block (rD [] (Kp G0 [es true (RI .i64) v27 3 d b]) z ?_))));intro y0 u A;have d0:Kp G0 [es true (RI .i64) v27 3 d b] y0:=(Kp.cons (A.on 2 rfl) Kp.nil0);refine ta 0 (v30) (ta 2 (v1) (ta 3 (v27) (ta 4 (I a.2) (bn H fun l0 q H=>tx 5 (fun x i=>ixO uF f.m q) ?_))));obtain ⟨f3,m1,m2⟩:=OA.at (f.mono (t.trans u)) q;obtain rfl:=m1;refine AC.takeK 6 (I l0) d0 rfl (by kernel_rfl) (by kernel_rfl) (by kernel_rfl) (fun x i hk=>(rx (by kernel_rfl) (mE u_3 rfl (hk.on 0 rfl) (f.m.blk q) (at1 (j:=0) m2 rfl)))) (ta 7 (v27) (ta 8 (I a.2) (ta 9 (I (w64 (a.2+1))) (bn H fun m0 s H=>tx 10 (fun x i=>ixO uF f.m s) ?_))));obtain ⟨g3,n1,n2⟩:=OA.at (f.mono (t.trans u)) s;obtain rfl:=n1;refine AC.takeK 11 (I m0) d0 rfl (by kernel_rfl) (by kernel_rfl) (by kernel_rfl) (fun x i hk=>(rx (by kernel_rfl) (mE u_3 rfl (hk.on 0 rfl) (f.m.blk s) (at1 (j:=0) n2 rfl)))) (bn H fun k3 p1 H=>?_);obtain ⟨v54,q1,s1⟩:=Et (k:= .i64) (k':= .i64) cy (by kernel_rfl) (h2.mono (g2.trans (l16.trans (i2.trans (j2.trans (t.trans u)))))) p1;refine AC.take 12 (v54) rfl (by kernel_rfl) (by kernel_rfl) (fun x i=>(rx (by kernel_rfl) (q1 _))) (o1 1 (gm 1 (sl (RI .i32) 21 [] ([]:List Int) A trivial) ?_));rintro z3 z0 q3 ⟨w3,D,t1⟩;have o2:Kp G0 [es true (RI .i64) v27 3 d b] z0:=(Kp.cons (D.on 3 rfl) Kp.nil0);refine ⟨.inr o2,bn H fun o0 u1 H=>o1 13 (gm 13 (ap (RI .i32) (J 0) 4 32 0 D t1 s1.m u1 cy) ?_)⟩;rintro a4 a1 s3 ⟨x3,E,w1⟩;have p2:Kp G0 [es true (RI .i64) v27 3 d b] a1:=(Kp.cons (E.on 3 rfl) Kp.nil0);refine ⟨.inr p2,?_⟩;obtain ⟨b1,x1,k2,M,b0⟩:=E.frz 0 rfl w1;have q2:Kp G0 [es true (RI .i64) v27 3 d b] b1:=(Kp.cons (M.on 3 rfl) Kp.nil0);refine AC.gh x1 k2 (fun _=>q2) ?_;obtain ⟨S,T,U,rfl⟩:=(b0).form;refine o1 14 (gm 14 (sl (RL (RI .i32)) 32 [[.slice S T U]] ([o0]:List (List Int)) M ⟨⟨(.slice S T U),rfl,b0⟩,trivial⟩) ?_);rintro b4 c1 t3 ⟨y3,N,z1⟩;have s2:Kp G0 [es true (RI .i64) v27 3 d b] c1:=(Kp.cons (N.on 4 rfl) Kp.nil0);refine ⟨.inr s2,?_⟩;obtain ⟨d1,c2,l2,P,b2⟩:=N.frz 0 rfl z1;have t2:Kp G0 [es true (RI .i64) v27 3 d b] d1:=(Kp.cons (P.on 4 rfl) Kp.nil0);refine AC.gh c2 l2 (fun _=>t2) (bn H fun l3 d2 H=>o1 15 (gm 15 (ap (RL (RI .i32)) (Y) 24 25 2 P a0.m b2 d2 underlying25) ?_));rintro f0 X u3 ⟨v2,R,e2⟩;have u2:Kp G0 [es true (RI .i64) v27 3 d b] X:=(Kp.cons (R.on 4 rfl) Kp.nil0);refine ⟨.inr u2,ta 16 (f0) (dn (bkn (nrm (W.region (va (I a.2) (vv (I (w64 (a.2+1))) (WL.nil ?_)))))))⟩;obtain rfl:=si H;refine ⟨_,rfl,?_⟩;have v0:=R.sD 5 [2,3,4];exact jn X ⟨f0,v2,v0,rfl,e2⟩
  refine W.exit (thx ?_);obtain rfl:=si H;exact ⟨_,rfl,rfl,jn x0 ⟨v30,o,z,rfl,a0⟩⟩
 ·have f2:OA (RL (RI .i32)) h (Y) [] []:=OA.nil (aZ _);have w0:=u0.addHole (e:=es true (RL (RI .i32)) (Y) 32 [] ([]:List (List Int))) rfl;exact jn h ⟨(Y),[],w0,rfl,f2⟩
 rintro _ e_ w_ ⟨rfl,e1,c3,_,rfl,v3,rfl,v32,p,g0,rfl,i0⟩;refine bke (nrm (sr (vv (v32) (wln (W.ret ?_)))));obtain rfl:=si y;have h0:=g0.sD 3 [0];exact r1 (qq e1 ⟨v32,p,h0,rfl,i0⟩)
def gN (p0:List Int):Option (Int):=
 (cv (σ:=(List am)×Int) (τ:=(List am)) (((p0.length:Int) - 0).toNat+1) (fun a=>
 if (decide (a.2 < (p0.length:Int)))=true then
 (idx p0 a.2).bind fun b=>
 (dL b).bind fun c=>
 (app a.1 ([c]:List am)).bind fun d=>
 some (.inl (d,(w64 (a.2+1))))
 else
 some (.inr (a.1))) (([]:List am),0)).bind fun f=>
 (gk p0 f).bind fun e=>
 some e
theorem rH (O0:Own c0 G F) (h:List Int) {r:Int} (g:Sl (RI .i32) c0 v1 h) (H:gN h=some r): Calls prog 148 #[v1] c0.w (aP c0 fun c v=>Own c G (F)∧v=I r):=by
 unfold gN at H;refine en func148 rfl rfl (sr (va (I 0) (wln (sr (va (Y) (wln (W.seq (sr (va (I 0) (wln (W.block (bn H fun l0 X f=>lp X (fun a=>Jn c0 fun c l=>∃v5 i,Own c G (es true cD v5 238 i a.1 :: F)∧l= [(0,v1),(3,v5),(4,I a.2)]∧OA cD c v5 i a.1) (fun d ex e w=>ex= .exit 0∧(Jn c0 fun c l=>∃v7 o,Own c G (es true cD v7 238 o d :: F)∧l= [(0,v1),(3,v7)]∧OA cD c v7 o d) e w) ?_ ?_ ?_))))))))))))
 ·clear f X;intro a q1 R o0 H;revert R o0;rintro e_ w_ ⟨c9,d1,_,rfl,l9,rfl,v5,i,j,rfl,k⟩;refine W.seq (sr (va (I a.2) (va (v1) (vx (ln 3 cy g.m) (va (B (decide (a.2 < (h.length:Int)))) (wln (cn H (fun S H=>?_) (fun S H=>?_))))))))
  ·refine W.skip (nrm (W.seq (W.block (W.region (va (v5) (va (v1) (va (I a.2) (bn H fun p n H=>?_))))))));obtain ⟨v0,T,k0⟩:=Sl.at (g.mono l9) (aR n);obtain rfl:=T;refine vx (ix cy g.m n) (vx (l1 mh (k0 0 _ rfl)) (bn H fun b U H=>cl (nB j p U) ?_));rintro v27 y0 f1 ⟨s,rfl⟩;refine me (sl cD 238 [[I b.Break,B b.Pict,I b.Conj,I b.East]] ([b]:List am) s ⟨rfl,trivial⟩) ?_;rintro v32 z0 g1 ⟨n1,t,Z⟩;obtain ⟨a1,b0,h1,u,a0⟩:=t.frz 0 rfl Z;refine WL.gh b0 (bn H fun x0 d0 H=>me (ap cD (.agg #[I 0,B false,I 0,I 0]) 32 191 1 u k.m a0 d0 jR) ?_);rintro v42 N i1 ⟨m0,x,e0⟩;refine va (v42) (WL.nil (bkn (nrm (W.region (va (I a.2) (vv (I (w64 (a.2+1))) (WL.nil ?_)))))));obtain rfl:=si H;refine ⟨_,rfl,?_⟩;have y:=x.sD 2 [1];exact jn N ⟨v42,m0,y,rfl,e0⟩
  refine W.exit (thx ?_);obtain rfl:=si H;exact ⟨_,rfl,rfl,jn c9 ⟨v5,i,j,rfl,k⟩⟩
 ·have f0:OA cD c0 (Y) [] []:=OA.nil (aZ _);have z:=O0.addHole (e:=es true cD (Y) 238 [] ([]:List am)) rfl;exact jn c0 ⟨(Y),[],z,rfl,f0⟩
 rintro _ e_ w_ ⟨rfl,b1,e1,_,rfl,j1,rfl,v7,o,A,rfl,g0⟩;refine bke (nrm (sr (va (v1) (va (v7) ?_))));obtain ⟨c1,i0,k1,D,h0⟩:=A.frz 0 rfl g0;refine WL.gh i0 (bn f fun q j0 f=>cl (qU D h l0 g.m h0 j0) ?_);rintro p1 P m1 ⟨E,rfl⟩;refine va (I q) (wln (W.ret ?_));obtain rfl:=si f;have M:=E.sD 1 [];exact r1 (qq P ⟨M,rfl⟩)
def eK (p0:aE) (p1:aE):Option (Bool):=
 (bD (p0.Wide==p1.Wide) (some (p0.High==p1.High))).bind fun a=>
 (bD a (some (p0.At.Row==p1.At.Row && (p0.At.Col==p1.At.Col && (p0.At.Pending==p1.At.Pending && true))))).bind fun b=>
 (bD b (some (p0.Auto==p1.Auto))).bind fun c=>
 (bD c ((fR p0.Lines p1.Lines).bind fun e=>
 some e)).bind fun d=>
 some d
theorem mT (O0:Own c0 G F) (a:aE) (b:aE) {r:Bool} (h2:Sl aL c0 v1 a.Lines) (h4:Sl aL c0 v3 b.Lines) (H:eK a b=some r): Calls prog 34 #[.agg #[I a.Wide,I a.High,v1,I a.At.Row,I a.At.Col,B a.At.Pending,B a.Auto],.agg #[I b.Wide,I b.High,v3,I b.At.Row,I b.At.Col,B b.At.Pending,B b.Auto]] c0.w (aP c0 fun c v=>Own c G (F)∧v=B r):=by
 unfold eK at H;refine en func34 rfl rfl (sr ?_);obtain ⟨a5,a6,a7,rfl⟩:=(h2).form;refine me (bx 45 [I a.Wide,I a.High,.slice a5 a6 a7,I a.At.Row,I a.At.Col,B a.At.Pending,B a.Auto] O0) ?_;rintro v12 v0 j0 ⟨t,rfl,O9,o⟩;obtain ⟨a0,b0,d0,rfl⟩:=((h4.mono j0)).form;refine me (bx 45 [I b.Wide,I b.High,.slice a0 b0 d0,I b.At.Row,I b.At.Col,B b.At.Pending,B b.Auto] O9) ?_;rintro v20 f x0 ⟨e,rfl,d,p⟩;refine va (B false) (wln (W.seq (bn H fun s0 y H=>bn H fun t0 u H=>bn H fun u0 q H=>bn H fun P g H=>W.join (Jn f fun c l=>Own c G (F)∧l= [(4,B P)]) ?_ ?_)))
 ·clear H;refine W.region (va (Q t) (vx (l1 u_3 ((mm o) 0 _ rfl)) (va (Q e) (vx (l1 u_3 (p 0 _ rfl)) (va (B (a.Wide==b.Wide)) ?_)))));rcases bo (a.Wide==b.Wide) with h | h
  ·have R:=anT h y;refine vb h (wa (Qo t (0+1)) (wn (vx (l1 u_3 ((mm o) 1 _ rfl)) (wa (Qo e (0+1)) (wn (vx (l1 u_3 (p 1 _ rfl)) (wa (B (a.High==b.High)) ?_)))))));obtain rfl:=si R;refine va (B (a.High==b.High)) ?_;rcases bo (a.High==b.High) with i | i
   ·have S:=anT i u;refine vb i (wa (Qo t (0+3)) (wn (vx (lN 29 (AH (k:=3) (l:=[I a.At.Row,I a.At.Col,B a.At.Pending]) (mm o) rfl)) (wa (Qo e (0+3)) (wn (vx (lN 29 (AH (k:=3) (l:=[I b.At.Row,I b.At.Col,B b.At.Pending]) p rfl)) (wn (vr (B (a.At.Row==b.At.Row && (a.At.Col==b.At.Col && (a.At.Pending==b.At.Pending && true)))) (yd (T:=29) (xs:= #[I a.At.Row,I a.At.Col,B a.At.Pending]) (ys:= #[I b.At.Row,I b.At.Col,B b.At.Pending]) (r:=(a.At.Row==b.At.Row && (a.At.Col==b.At.Col && (a.At.Pending==b.At.Pending && true)))) underlying29 (by kernel_rfl) (by kernel_rfl) (EqP.int (by kernel_rfl) u_3 rfl rfl (EqP.int (by kernel_rfl) u_3 rfl rfl (EqP.bool (by kernel_rfl) u_4 rfl rfl EqP.nil))) (by kernel_rfl) _) ?_))))))));obtain rfl:=si S;refine va (B (a.At.Row==b.At.Row && (a.At.Col==b.At.Col && (a.At.Pending==b.At.Pending && true)))) ?_;rcases bo ((a.At.Row==b.At.Row && (a.At.Col==b.At.Col && (a.At.Pending==b.At.Pending && true)))) with j | j
    ·have U:=anT j q;refine vb j (wa (Qo t (0+6)) (wn (vx (l1 u_4 ((mm o) 6 _ rfl)) (wa (Qo e (0+6)) (wn (vx (l1 u_4 (p 6 _ rfl)) (wa (B (a.Auto==b.Auto)) ?_)))))));obtain rfl:=si U;refine va (B (a.Auto==b.Auto)) ?_;rcases bo (a.Auto==b.Auto) with n | n
     ·have s:=anT n g;refine vb n (wa (Qo t (0+2)) (wn (vx (l1 fg ((mm o) 2 _ rfl)) (wa (Qo e (0+2)) (wn (vx (l1 fg (p 2 _ rfl)) (wn (bn s fun x h0 s=>cl (qz d a.Lines b.Lines h2.m h4.m h0) ?_))))))));rintro v39 e0 y0 ⟨X,rfl⟩;obtain rfl:=si s;exact vv (B x) (wln (jn e0 ⟨X,rfl⟩))
     obtain rfl:=anF n g;exact vb n (pz (pz (ps (vv (B false) (wln (jn f ⟨d,rfl⟩))))))
    obtain rfl:=anF j q;refine vb j (pz (pz (ps (va (B false) ?_))));have z:false=false:=rfl;obtain rfl:=anF z g;exact vb z (pz (pz (ps (vv (B false) (wln (jn f ⟨d,rfl⟩))))))
   obtain rfl:=anF i u;refine vb i (pz (pz (ps (va (B false) ?_))));have A:false=false:=rfl;obtain rfl:=anF A q;refine vb A (pz (pz (ps (va (B false) ?_))));have D:false=false:=rfl;obtain rfl:=anF D g;exact vb D (pz (pz (ps (vv (B false) (wln (jn f ⟨d,rfl⟩))))))
  obtain rfl:=anF h y;refine vb h (pz (pz (ps (va (B false) ?_))));have E:false=false:=rfl;obtain rfl:=anF E u;refine vb E (pz (pz (ps (va (B false) ?_))));have M:false=false:=rfl;obtain rfl:=anF M q;refine vb M (pz (pz (ps (va (B false) ?_))));have N:false=false:=rfl;obtain rfl:=anF N g;exact vb N (pz (pz (ps (vv (B false) (wln (jn f ⟨d,rfl⟩))))))
 rintro e_ w_ ⟨f0,w0,_,rfl,z0,rfl,Z,rfl⟩;refine nrm (W.ret ?_);obtain rfl:=si H;exact r1 (qq f0 ⟨Z,rfl⟩)
def ny (sg:Sto) (p0:Option Nat):Option (Sto×(Option Nat)):=
 (orE p0.isNone ((p0).bind fun d=>
 (sg.place_Pen[d]?).bind fun b=>
 some b.G.isNone)).bind fun c=>
 if c=true then
 some (sg,(none:Option Nat))
 else
 (some (sg.add_feed_Feeder (⟨p0,(⟨0,0,0,0,0⟩:bB),(⟨false,0,0,0,false⟩:bu),(none:Option Nat)⟩:bC))).bind fun a=>
 some (a,(some sg.feed_Feeder.length))
theorem zY (t:Own c0 G F) (u:Rel c0 sg G) (k:Option Nat) {r:Sto×(Option Nat)} (n:Pt 2 c0 v1 k) (H:ny sg k=some r): Calls prog 80 #[v1] c0.w (aP c0 fun c v=>∃y1,∃G_:Gm,Own c G_ (F)∧Rel c r.1 G_∧eF G G_∧v=y1∧Pt 4 c y1 r.2):=by
 unfold ny at H;refine en func80 rfl rfl (sr (va (.pointer none) (wln (W.seq (W.seq (bn H fun T h3 H=>W.join (Jn c0 fun c l=>Own c G (F)∧l= [(0,v1),(11,B T)]) ?_ ?_))))))
 ·clear H;refine W.region (va (v1) (vr (B k.isNone) (by rcases (n).cs with ⟨d,e⟩ | ⟨b_,d,e⟩ <;> (subst d; rw [e]; kernel_rfl)) ?_));rcases bo (k.isNone) with h | h
  ·obtain rfl:=orT h h3;exact vb h (pz (pz (ps (va (B true) (wln (jn c0 ⟨t,rfl⟩))))))
  have g:=orF h h3;refine vb h (wa (v1) (wn (bn g fun t0 h8 g=>?_)));obtain ⟨R,rfl,h7⟩:=(n).get h8;refine va (Q R) (wa (Q R) (wn (bn g fun j h9 g=>?_)));obtain ⟨v10,X,U⟩:=Rel.open_place_Pen u h9 h7;refine vx (le1 0 eU (t.gon X 0 rfl)) (wn (vr (B j.G.isNone) (by rcases (U).cs with ⟨d,e⟩ | ⟨b_,d,e⟩ <;> (subst d; rw [e]; kernel_rfl)) ?_));obtain rfl:=si g;exact va (B j.G.isNone) (wln (jn c0 ⟨t,rfl⟩))
 rintro e_ w_ ⟨S,o0,_,rfl,i,rfl,o,rfl⟩;refine nrm (cn H (fun Z H=>?_) (fun Z H=>?_))
 ·refine sr (va (.pointer none) (wln (W.ret (thr ?_))));obtain rfl:=si H;exact r1 (qq S ⟨(.pointer none),G,o,u.m,(eF.refl _),rfl,rfl⟩)
 refine W.skip (nrm (sr (va (v1) ?_)));obtain ⟨f,rfl⟩:=((n.mono i)).form;refine va (.agg #[.pointer f,I 0,I 0,.int .u8 0,.int .u8 0,I 0,B false,I 0,I 0,I 0,B false,.pointer none]) (me (al 184 [.pointer f,I 0,I 0,.int .u8 0,.int .u8 0,I 0,B false,I 0,I 0,I 0,B false,.pointer none] o) ?_);rintro v24 m0 s ⟨a,rfl,A⟩;have D:=A.sD 1 [0];refine bn H fun y a0 H=>?_;obtain ⟨q,z,b0,u0,d0,M,p,q0,f0,N⟩:=Rel.new_feed_Feeder (E:=[(Eb a 184 [.pointer f,I 0,I 0,.int .u8 0,.int .u8 0,I 0,B false,I 0,I 0,I 0,B false,.pointer none])]) (F:=F) (x:=(⟨k,(⟨0,0,0,0,0⟩:bB),(⟨false,0,0,0,false⟩:bu),(none:Option Nat)⟩:bC)) (b:=a) D (u.mono (i.trans s)) (fun c_ hle_=>⟨a,(.pointer f),(.pointer none),rfl,rfl,(n.mono ((i.trans s).trans hle_)),rfl⟩);rw [bi a0] at p;refine WL.gh b0.1 ?_;have s0:=eF.nil (eF.refl _) f0;have P:=(eF.refl _).trans N;have g0:Pt 4 q (Q a) (some sg.feed_Feeder.length):=⟨a,rfl,d0⟩;refine va (Q a) (wln (W.ret ?_));obtain rfl:=si H;exact r1 (qq q ⟨(Q a),z,M,p,P,rfl,g0⟩)
def iP (p0:Int):Option (Int):=
 (orE (decide (p0 < 0)) (some (decide (p0 > 13)))).bind fun a=>
 if a=true then
 some 0
 else
 some p0
theorem rk (d:Own c0 G F) (a:Int) {r:Int} (H:iP a=some r): Calls prog 309 #[I a] c0.w (aP c0 fun c v=>Own c G (F)∧v=I r):=by
 unfold iP at H;refine en func309 rfl rfl (sr (va (I 0) (wln (W.seq (W.seq (bn H fun g h H=>W.join (Jn c0 fun c l=>Own c G (F)∧l= [(0,I a),(8,B g)]) ?_ ?_))))))
 ·clear H;refine W.region (va (I a) (va (B (decide (a < 0))) ?_));rcases bo (decide (a < 0)) with b | b
  ·obtain rfl:=orT b h;exact vb b (pz (va (B true) (wln (jn c0 ⟨d,rfl⟩))))
  have j:=orF b h;refine vb b (wa (I a) (wa (B (decide (a > 13))) ?_));obtain rfl:=si j;exact va (B (decide (a > 13))) (wln (jn c0 ⟨d,rfl⟩))
 rintro k o ⟨f,m,_,rfl,n,rfl,e,rfl⟩;refine nrm (cn H (fun i H=>?_) (fun i H=>?_))
 ·refine sr (va (I 0) (wln (W.ret (thr ?_))));obtain rfl:=si H;exact r1 (qq f ⟨e,rfl⟩)
 refine W.skip (nrm (sr (vv (I a) (wln (W.ret ?_)))));obtain rfl:=si H;exact r1 (qq f ⟨e,rfl⟩)
def lL (p0:Int):Option (Bool):=
 if (p0==1)=true then
 some true
 else
 if (p0==2)=true then
 some true
 else
 if (p0==3)=true then
 some true
 else
 some false
theorem qy (b:Own c0 G F) (a:Int) {r:Bool} (H:lL a=some r): Calls prog 310 #[I a] c0.w (aP c0 fun c v=>Own c G (F)∧v=B r):=by
 unfold lL at H;refine en func310 rfl rfl (sr (va (B false) (wln (W.seq (sr (va (I a) (wln (W.block (W.seq (W.block (W.block (W.block (W.seq (W.seq (sr (vv (B (a==1)) (wln (cn H (fun d H=>?_) (fun d H=>?_)))))))))))))))))))
 ·refine W.exit (thx (thx (bke (bkn (bkn (nrm (W.seq (sr (va (B true) (wln (W.ret (thr (bkr (thr ?_))))))))))))));obtain rfl:=si H;exact r1 (qq c0 ⟨b,rfl⟩)
 refine W.skip (nrm (W.seq (sr (vv (B (a==2)) (wln (cn H (fun e H=>?_) (fun e H=>?_)))))))
 ·refine W.exit (thx (thx (bko rfl (bke (bkn (nrm (W.seq (sr (va (B true) (wln (W.ret (thr (bkr (thr ?_))))))))))))));obtain rfl:=si H;exact r1 (qq c0 ⟨b,rfl⟩)
 refine W.skip (nrm (sr (vv (B (a==3)) (wln (cn H (fun f H=>?_) (fun f H=>?_))))))
 ·refine W.exit (thx (bko rfl (bko rfl (bke (nrm (W.seq (sr (va (B true) (wln (W.ret (thr (bkr (thr ?_)))))))))))));obtain rfl:=si H;exact r1 (qq c0 ⟨b,rfl⟩)
 refine W.skip (nrm (W.exit (bko rfl (bko rfl (bko rfl (thx (bke (nrm (sr (va (B false) (wln (W.ret ?_))))))))))));obtain rfl:=si H;exact r1 (qq c0 ⟨b,rfl⟩)
def mo (p0:Int) (p1:Int):Option (Bool):=
 if (p0==9)=true then
 (orE (p1==9) (some (p1==10))).bind fun a=>
 (orE a (some (p1==12))).bind fun b=>
 (orE b (some (p1==13))).bind fun c=>
 some c
 else
 (if (p0==12)=true then
 some (p0==12)
 else
 some (p0==10)).bind fun e=>
 if e=true then
 (orE (p1==10) (some (p1==11))).bind fun d=>
 some d
 else
 (if (p0==13)=true then
 some (p0==13)
 else
 some (p0==11)).bind fun f=>
 if f=true then
 some (p1==11)
 else
 some false
theorem tM (m:Own c0 G F) (b:Int) (a:Int) {r:Bool} (H:mo b a=some r): Calls prog 311 #[I b,I a] c0.w (aP c0 fun c v=>Own c G (F)∧v=B r):=by
 unfold mo at H;refine en func311 rfl rfl (sr (va (B false) (wln (W.seq (sr (va (I b) (wln (W.block (sr (vv (B (b==9)) (wln (cn H (fun h1 H=>?_) (fun h1 H=>?_)))))))))))))
 ·refine W.seq (bn H fun i0 Z H=>bn H fun j0 A H=>bn H fun x p H=>W.join (Jn c0 fun c l=>Own c G (F)∧l= [(4,B x)]) ?_ ?_)
  ·clear H;refine W.region (va (I a) (va (B (a==9)) ?_));rcases bo (a==9) with n | n
   ·obtain rfl:=orT n Z;refine vb n (pz (va (B true) ?_));have h6:true=true:=rfl;obtain rfl:=orT h6 A;refine vb h6 (pz (va (B true) ?_));have h7:true=true:=rfl;obtain rfl:=orT h7 p;exact vb h7 (pz (vv (B true) (wln (jn c0 ⟨m,rfl⟩))))
   have H8:=orF n Z;refine vb n (wa (I a) (wa (B (a==10)) ?_));obtain rfl:=si H8;refine va (B (a==10)) ?_;rcases bo (a==10) with o | o
   ·obtain rfl:=orT o A;refine vb o (pz (va (B true) ?_));have t:true=true:=rfl;obtain rfl:=orT t p;exact vb t (pz (vv (B true) (wln (jn c0 ⟨m,rfl⟩))))
   have N:=orF o A;refine vb o (wa (I a) (wa (B (a==12)) ?_));obtain rfl:=si N;refine va (B (a==12)) ?_;rcases bo (a==12) with i | i
   ·obtain rfl:=orT i p;exact vb i (pz (vv (B true) (wln (jn c0 ⟨m,rfl⟩))))
   have P:=orF i p;refine vb i (wa (I a) (wa (B (a==13)) ?_));obtain rfl:=si P;exact vv (B (a==13)) (wln (jn c0 ⟨m,rfl⟩))
  rintro z D ⟨U,l0,_,rfl,s0,rfl,S,rfl⟩;refine nrm (W.ret (bkr (thr ?_)));obtain rfl:=si H;exact r1 (qq U ⟨S,rfl⟩)
 refine bn H fun E f d=>W.seqJ (Jn c0 fun c l=>Own c G (F)∧l= [(1,I a),(5,I b),(22,B E)]) ?_ ?_
 ·refine sr (vv (B (b==12)) (wln (cn f (fun a0 f=>?_) (fun a0 f=>?_))))
  ·refine W.skip (nrm ?_);obtain rfl:=si f;exact jn c0 ⟨m,rfl⟩
  refine W.region (vv (B (b==10)) (wln ?_));obtain rfl:=si f;exact jn c0 ⟨m,rfl⟩
 rintro z D ⟨e,m0,_,rfl,t0,rfl,k,rfl⟩;refine cn d (fun b0 d=>?_) (fun b0 d=>?_)
 ·refine W.seq (bn d fun y u d=>W.join (Jn e fun c l=>Own c G (F)∧l= [(4,B y)]) ?_ ?_)
  ·clear d;refine W.region (va (I a) (va (B (a==10)) ?_));rcases bo (a==10) with j | j
   ·obtain rfl:=orT j u;exact vb j (pz (vv (B true) (wln (jn e ⟨k,rfl⟩))))
   have R:=orF j u;refine vb j (wa (I a) (wa (B (a==11)) ?_));obtain rfl:=si R;exact vv (B (a==11)) (wln (jn e ⟨k,rfl⟩))
  rintro z D ⟨X,o0,_,rfl,u0,rfl,T,rfl⟩;refine nrm (W.ret (bkr (thr ?_)));obtain rfl:=si d;exact r1 (qq X ⟨T,rfl⟩)
 refine bn d fun M g h=>W.seqJ (Jn e fun c l=>Own c G (F)∧l= [(1,I a),(31,B M)]) ?_ ?_
 ·refine sr (vv (B (b==13)) (wln (cn g (fun d0 g=>?_) (fun d0 g=>?_))))
  ·refine W.skip (nrm ?_);obtain rfl:=si g;exact jn e ⟨k,rfl⟩
  refine W.region (vv (B (b==11)) (wln ?_));obtain rfl:=si g;exact jn e ⟨k,rfl⟩
 rintro z D ⟨s,q0,_,rfl,v0,rfl,q,rfl⟩;refine cn h (fun e0 h=>?_) (fun e0 h=>?_)
 ·refine sr (va (I a) (vv (B (a==11)) (wln (W.ret (bkr (thr ?_))))));obtain rfl:=si h;exact r1 (qq s ⟨q,rfl⟩)
 refine W.skip (bkn (nrm (sr (va (B false) (wln (W.ret ?_))))));obtain rfl:=si h;exact r1 (qq s ⟨q,rfl⟩)
def eZ (p0:Int) (p1:Int):Option (Int):=
 (iP p0).bind fun b=>
 (iP p1).bind fun a=>
 (bD (b==1) (some (a==2))).bind fun e=>
 if e=true then
 some 1
 else
 (lL b).bind fun i=>
 (orE i ((lL a).bind fun j=>
 some j)).bind fun f=>
 if f=true then
 some 0
 else
 ((mo b a).bind fun d=>
 if d=true then
 some (d)
 else
 if (a==4)=true then
 some (a==4)
 else
 if (a==5)=true then
 some (a==5)
 else
 if (a==8)=true then
 some (a==8)
 else
 some (b==7)).bind fun k=>
 if k=true then
 some 1
 else
 ((bD (a==0) ((orE (b==5) (some (b==4))).bind fun g=>
 some g)).bind fun c=>
 if c=true then
 some (c)
 else
 (bD (b==6) (some (a==6))).bind fun h=>
 some (h)).bind fun l=>
 if l=true then
 some 2
 else
 some 0
theorem sN (O0:Own c0 G F) (E:Int) (M:Int) {r:Int} (H:eZ E M=some r): Calls prog 269 #[I E,I M] c0.w (aP c0 fun c v=>Own c G (F)∧v=I r):=by
 unfold eZ at H;refine en func269 rfl rfl (sr (va (I 0) (wln (sr (va (I E) (bn H fun b h1 H=>cl (rk O0 E h1) ?_))))));rintro v7 c6 l6 ⟨O3,rfl⟩;refine va (I M) (bn H fun a h8 H=>cl (rk O3 M h8) ?_);rintro v14 y c2 ⟨N,rfl⟩;refine va (I b) (va (I a) (wln (W.seq (W.block (W.seq (bn H fun g0 a0 H=>W.join (Jn y fun c l=>Own c G (F)∧l= [(0,I b),(1,I a),(9,B g0)]) ?_ ?_))))))
 ·clear H;refine W.region (va (I b) (va (B (b==1)) ?_));rcases bo (b==1) with k | k
  ·have q0:=anT k a0;refine vb k (wa (I a) (wa (B (a==2)) ?_));obtain rfl:=si q0;exact vv (B (a==2)) (wln (jn y ⟨N,rfl⟩))
  obtain rfl:=anF k a0;exact vb k (pz (vv (B false) (wln (jn y ⟨N,rfl⟩))))
 rintro z A ⟨U,v1,_,rfl,d2,rfl,P,rfl⟩;refine nrm (cn H (fun z0 H=>?_) (fun z0 H=>?_))
 ·refine sr (va (I 1) (wln (W.ret (bkr (thr ?_)))));obtain rfl:=si H;exact r1 (qq U ⟨P,rfl⟩)
 refine W.seq (bn H fun k0 a1 H=>bn H fun h0 b0 H=>W.join (Jn U fun c l=>Own c G (F)∧l= [(0,I b),(1,I a),(16,B h0)]) ?_ ?_)
 ·clear H;refine W.region (va (I b) (cl (qy P b a1) ?_));rintro v32 w0 e2 ⟨R,rfl⟩;rcases bo (k0) with m | m
  ·obtain rfl:=orT m b0;exact vb m (pz (vv (B true) (wln (jn w0 ⟨R,rfl⟩))))
  have u:=orF m b0;refine vb m (wa (I a) (wn (bn u fun D b1 u=>cl (qy R a b1) ?_)));rintro v41 x0 f2 ⟨u0,rfl⟩;obtain rfl:=si u;exact vv (B D) (wln (jn x0 ⟨u0,rfl⟩))
 rintro z A ⟨X,w1,_,rfl,g2,rfl,S,rfl⟩;refine nrm (cn H (fun c1 H=>?_) (fun c1 H=>?_))
 ·refine sr (va (I 0) (wln (W.ret (bkr (thr ?_)))));obtain rfl:=si H;exact r1 (qq X ⟨S,rfl⟩)
 refine bn H fun m0 d g=>W.seqJ (Jn X fun c l=>Own c G (F)∧l= [(0,I b),(1,I a),(23,B m0)]) ?_ ?_
 ·refine sr (va (I b) (va (I a) (bn d fun l0 d1 d=>cl (tM S b a d1) ?_)));rintro v57 j h2 ⟨i,rfl⟩;refine va (B l0) (wln (cn d (fun e1 d=>?_) (fun e1 d=>?_)))
  ·refine W.skip (nrm ?_);obtain rfl:=si d;exact jn j ⟨i,rfl⟩
  refine sr (va (I a) (vv (B (a==4)) (wln (cn d (fun f1 d=>?_) (fun f1 d=>?_)))))
  ·refine W.skip (nrm ?_);obtain rfl:=si d;exact jn j ⟨i,rfl⟩
  refine sr (va (I a) (vv (B (a==5)) (wln (cn d (fun g1 d=>?_) (fun g1 d=>?_)))))
  ·refine W.skip (nrm ?_);obtain rfl:=si d;exact jn j ⟨i,rfl⟩
  refine sr (va (I a) (vv (B (a==8)) (wln (cn d (fun i1 d=>?_) (fun i1 d=>?_)))))
  ·refine W.skip (nrm ?_);obtain rfl:=si d;exact jn j ⟨i,rfl⟩
  refine W.region (va (I b) (vv (B (b==7)) (wln ?_)));obtain rfl:=si d;exact jn j ⟨i,rfl⟩
 rintro z A ⟨f,x1,_,rfl,i2,rfl,s,rfl⟩;refine cn g (fun j1 g=>?_) (fun j1 g=>?_)
 ·refine sr (va (I 1) (wln (W.ret (bkr (thr ?_)))));obtain rfl:=si g;exact r1 (qq f ⟨s,rfl⟩)
 refine bn g fun o0 e h=>W.seqJ (Jn f fun c l=>Own c G (F)∧l= [(35,B o0)]) ?_ ?_
 ·refine W.seq (bn e fun i0 d0 e=>W.join (Jn f fun c l=>Own c G (F)∧l= [(0,I b),(1,I a),(35,B i0)]) ?_ ?_)
  ·clear e;refine W.region (va (I a) (va (B (a==0)) ?_));rcases bo (a==0) with n | n
   ·have q:=anT n d0;refine vb n (wa (I b) (wa (B (b==5)) (wn (bn q fun s1 e0 q=>?_))));rcases bo (b==5) with o | o
    ·obtain rfl:=orT o e0;refine vb o (pz (wa (B true) ?_));obtain rfl:=si q;exact vv (B true) (wln (jn f ⟨s,rfl⟩))
    have s0:=orF o e0;refine vb o (wa (I b) (wa (B (b==4)) (wn ?_)));obtain rfl:=si s0;refine va (B (b==4)) ?_;obtain rfl:=si q;exact vv (B (b==4)) (wln (jn f ⟨s,rfl⟩))
   obtain rfl:=anF n d0;exact vb n (pz (pz (pz (vv (B false) (wln (jn f ⟨s,rfl⟩))))))
  rintro z A ⟨t,y1,_,rfl,j2,rfl,x,rfl⟩;refine nrm (cn e (fun k1 e=>?_) (fun k1 e=>?_))
  ·refine W.skip (nrm ?_);obtain rfl:=si e;exact jn t ⟨x,rfl⟩
  refine bn e fun j0 f0 e=>W.join (Jn t fun c l=>Own c G (F)∧l= [(35,B j0)]) ?_ ?_
  ·clear e;refine W.region (va (I b) (va (B (b==6)) ?_));rcases bo (b==6) with p | p
   ·have t0:=anT p f0;refine vb p (wa (I a) (wa (B (a==6)) ?_));obtain rfl:=si t0;exact vv (B (a==6)) (wln (jn t ⟨x,rfl⟩))
   obtain rfl:=anF p f0;exact vb p (pz (vv (B false) (wln (jn t ⟨x,rfl⟩))))
  rintro z A ⟨y0,z1,_,rfl,k2,rfl,v0,rfl⟩;refine nrm ?_;obtain rfl:=si e;exact jn y0 ⟨v0,rfl⟩
 rintro z A ⟨Z,b2,_,rfl,l2,rfl,T,rfl⟩;refine cn h (fun m1 h=>?_) (fun m1 h=>?_)
 ·refine sr (va (I 2) (wln (W.ret (bkr (thr ?_)))));obtain rfl:=si h;exact r1 (qq Z ⟨T,rfl⟩)
 refine W.skip (bkn (nrm (sr (va (I 0) (wln (W.ret ?_))))));obtain rfl:=si h;exact r1 (qq Z ⟨T,rfl⟩)
def dC (p0:bu):Option (bu):=
 if true=true then
 some (⟨false,0,0,0,false⟩:bu)
 else
 some p0
theorem lX {a:Nat} {r0_0:Value} {r0_1:Value} {r0_2:Value} {r0_3:Value} {r0_4:Value} {r0_5:Value} {r0_11:Value} (b:bu) (e:Own c0 G ((Eb a 184 [r0_0,r0_1,r0_2,r0_3,r0_4,r0_5,B b.some,I b.last,I b.pict,I b.conj,B b.odd,r0_11]) :: F)) {r:bu} (H:dC b=some r):
    Calls prog 168 #[.pointer (some ⟨a,6,none⟩)] c0.w (aP c0 fun c v=>Own c G ((Eb a 184 [r0_0,r0_1,r0_2,r0_3,r0_4,r0_5,B r.some,I r.last,I r.pict,I r.conj,B r.odd,r0_11]) :: F)∧v= .tuple #[]):=by
 unfold dC at H
 refine en func168 rfl rfl (sr (va (Qo a 6) (va (B true) (wln (W.cond (t:=true) (by kernel_rfl) (fun d=>?_) (fun d=>?_))))))
 ·have H:=it d H
  refine W.region (va (Qo a 6) (va (.agg #[B false,I 0,I 0,I 0,B false]) (va (Qo a 6) (md (sB 181 6 [B false,I 0,I 0,I 0,B false] [r0_0,r0_1,r0_2,r0_3,r0_4,r0_5,B false,I 0,I 0,I 0,B false,r0_11] 0 e ⟨rfl,rfl,rfl,rfl,rfl,trivial⟩) ?_))))
  rintro g h f
  refine WL.nil ?_
  obtain rfl:=si H
  exact n0 (qq g ⟨f,rfl⟩)
 cases d
def cY (sg:Sto) (p0:Option Nat):Option (Sto):=
 if (!p0.isNone)=true then
 (p0).bind fun c=>
 (sg.feed_Feeder[c]?).bind fun a=>
 (sg.set_feed_Feeder c (⟨a.pen,a.dec,a.seg,(none:Option Nat)⟩:bC)).bind fun d=>
 (dC a.seg).bind fun e=>
 (d.set_feed_Feeder c (⟨a.pen,a.dec,e,(none:Option Nat)⟩:bC)).bind fun b=>
 some b
 else
 some sg
theorem iY (n:Own c0 G F) (i:Rel c0 sg G) (k:Option Nat) {r:Sto} (M:Pt 4 c0 v1 k) (H:cY sg k=some r): Calls prog 109 #[v1] c0.w (aP c0 fun c v=>∃G_:Gm,Own c G_ (F)∧Rel c r G_∧v= .tuple #[]):=by
 unfold cY at H;refine en func109 rfl rfl (sr (va (v1) (vr (B (!k.isNone)) (by rcases (M).cs with ⟨f,g⟩ | ⟨b_,f,g⟩ <;> (subst f; rw [g]; kernel_rfl)) (wln (cn H (fun T H=>?_) (fun T H=>?_))))))
 ·refine sr (va (v1) (bn H fun g0 U H=>?_));obtain ⟨d,rfl,j⟩:=(M).get U;refine va (Q d) (va (Qo d 11) (bn H fun a X H=>?_));obtain ⟨v8,v10,A,R,e0⟩:=Rel.open_feed_Feeder i X j;refine md (gC 182 11 (.pointer none) [v8,I a.dec.held,I a.dec.needs,.int .u8 a.dec.lo,.int .u8 a.dec.hi,I a.dec.bits,B a.seg.some,I a.seg.last,I a.seg.pict,I a.seg.conj,B a.seg.odd,.pointer none] 0 n A ⟨rfl,trivial⟩) ?_;rintro d0 e o;refine bn H fun S E H=>?_;obtain ⟨Z,p,x,D,a0⟩:=Rel.put_feed_Feeder o (i.mono e) (E':=[(Eb d 184 [v8,I a.dec.held,I a.dec.needs,.int .u8 a.dec.lo,.int .u8 a.dec.hi,I a.dec.bits,B a.seg.some,I a.seg.last,I a.seg.pict,I a.seg.conj,B a.seg.odd,.pointer none])]) E ⟨d,v8,(.pointer none),(tm j),rfl,(R.mono e),rfl⟩;refine wln (W.region (vv (Q d) (va (Qo d 6) ?_)));have q:=p.borrow 0 D rfl;refine bn H fun b N H=>cl (lX a.seg q N) ?_;rintro v29 z h ⟨s,rfl⟩;have t:=s.giveB 0 rfl;refine bn H fun l P H=>?_;obtain ⟨m,u,y,f0,b0⟩:=Rel.put_feed_Feeder t (x.mono h) (E':=[(Eb d 184 [v8,I a.dec.held,I a.dec.needs,.int .u8 a.dec.lo,.int .u8 a.dec.hi,I a.dec.bits,B b.some,I b.last,I b.pict,I b.conj,B b.odd,.pointer none])]) P ⟨d,v8,(.pointer none),(tm j),rfl,(R.mono (e.trans h)),rfl⟩;refine WL.nil ?_;obtain rfl:=si H;exact n0 (qq z ⟨m,u,y,rfl⟩)
 refine W.skip ?_;obtain rfl:=si H;exact n0 (qq c0 ⟨G,n,i,rfl⟩)
def cQ (p0:bu) (p1:am):Option (Bool):=
 if (!p0.some)=true then
 some false
 else
 ((bD (p1.Conj==1) (some (p0.conj==2))).bind fun a=>
 if a=true then
 some (a)
 else
 (bD p1.Pict (some (p0.pict==2))).bind fun c=>
 some (c)).bind fun e=>
 if e=true then
 some true
 else
 (eZ p0.last p1.Break).bind fun b=>
 if (b==1)=true then
 some true
 else
 if (b==2)=true then
 (bD (p0.last==6) (some p0.odd)).bind fun d=>
 some d
 else
 some false
theorem lW {b:Nat} {r0_0:Value} {r0_1:Value} {r0_2:Value} {r0_3:Value} {r0_4:Value} {r0_5:Value} {r0_11:Value} (a:bu) (e:am) (O0:Own c0 G ((Eb b 184 [r0_0,r0_1,r0_2,r0_3,r0_4,r0_5,B a.some,I a.last,I a.pict,I a.conj,B a.odd,r0_11]) :: F)) {r:Bool} (H:cQ a e=some r): Calls prog 224 #[.pointer (some ⟨b,6,none⟩),.agg #[I e.Break,B e.Pict,I e.Conj,I e.East]] c0.w (aP c0 fun c v=>Own c G ((Eb b 184 [r0_0,r0_1,r0_2,r0_3,r0_4,r0_5,B a.some,I a.last,I a.pict,I a.conj,B a.odd,r0_11]) :: F)∧v=B r):=by
 unfold cQ at H;refine en func224 rfl rfl (sr (me (bx 238 [I e.Break,B e.Pict,I e.Conj,I e.East] O0) ?_));rintro v5 s l4 ⟨p,rfl,q,M⟩;refine va (B false) (wln (W.seq (sr (vv (Qo b 6) (va (Qo b 6) (vx (le1 6 u_4 (q.on 0 rfl)) (va (B (!a.some)) (wln (cn H (fun h6 H=>?_) (fun h6 H=>?_))))))))))
 ·refine sr (va (B false) (wln (W.ret (thr ?_))));obtain rfl:=si H;exact r1 (qq s ⟨q,rfl⟩)
 refine W.skip (nrm (W.seq (W.block (bn H fun P f d=>W.seqJ (Jn s fun c l=>Own c G ((Eb b 184 [r0_0,r0_1,r0_2,r0_3,r0_4,r0_5,B a.some,I a.last,I a.pict,I a.conj,B a.odd,r0_11]) :: F)∧l= [(0,.pointer (some ⟨b,6,none⟩)),(3,Q p),(10,B P)]) ?_ ?_))))
 ·refine W.seq (bn f fun z h9 f=>W.join (Jn s fun c l=>Own c G ((Eb b 184 [r0_0,r0_1,r0_2,r0_3,r0_4,r0_5,B a.some,I a.last,I a.pict,I a.conj,B a.odd,r0_11]) :: F)∧l= [(0,.pointer (some ⟨b,6,none⟩)),(3,Q p),(10,B z)]) ?_ ?_)
  ·clear f;refine W.region (va (Qo p (0+2)) (vx (l1 u_3 (M 2 _ rfl)) (va (B (e.Conj==1)) ?_)));rcases bo (e.Conj==1) with j | j
   ·have R:=anT j h9;refine vb j (wa (Qo b 6) (wa (Qo b 6) (wa (Qo b 9) (wn (vx (le1 9 u_3 (q.on 0 rfl)) (wa (B (a.conj==2)) ?_))))));obtain rfl:=si R;exact vv (B (a.conj==2)) (wln (jn s ⟨q,rfl⟩))
   obtain rfl:=anF j h9;exact vb j (pz (pz (ps (vv (B false) (wln (jn s ⟨q,rfl⟩))))))
  rintro E N ⟨o,u0,_,rfl,y0,rfl,n,rfl⟩;refine nrm (cn f (fun e0 f=>?_) (fun e0 f=>?_))
  ·refine W.skip (nrm ?_);obtain rfl:=si f;exact jn o ⟨n,rfl⟩
  refine bn f fun A x f=>W.join (Jn o fun c l=>Own c G ((Eb b 184 [r0_0,r0_1,r0_2,r0_3,r0_4,r0_5,B a.some,I a.last,I a.pict,I a.conj,B a.odd,r0_11]) :: F)∧l= [(0,.pointer (some ⟨b,6,none⟩)),(3,Q p),(10,B A)]) ?_ ?_
  ·clear f;refine W.region (va (Qo p (0+1)) (vx (l1 u_4 ((mm M) 1 _ rfl)) ?_));rcases bo (e.Pict) with k | k
   ·have S:=anT k x;refine vb k (wa (Qo b 6) (wa (Qo b 6) (wa (Qo b 8) (wn (vx (le1 8 u_3 (n.on 0 rfl)) (wa (B (a.pict==2)) ?_))))));obtain rfl:=si S;exact vv (B (a.pict==2)) (wln (jn o ⟨n,rfl⟩))
   obtain rfl:=anF k x;exact vb k (pz (pz (ps (vv (B false) (wln (jn o ⟨n,rfl⟩))))))
  rintro E N ⟨Z,v0,_,rfl,z0,rfl,U,rfl⟩;refine nrm ?_;obtain rfl:=si f;exact jn Z ⟨U,rfl⟩
 rintro E N ⟨a0,w0,_,rfl,a1,rfl,t,rfl⟩;refine cn d (fun f0 d=>?_) (fun f0 d=>?_)
 ·refine sr (va (B true) (wln (W.ret (bkr (thr ?_)))));obtain rfl:=si d;exact r1 (qq a0 ⟨t,rfl⟩)
 refine W.skip (bkn (nrm (W.seq (W.seq (rD [] (Kp G0 [(Eb b 184 [r0_0,r0_1,r0_2,r0_3,r0_4,r0_5,B a.some,I a.last,I a.pict,I a.conj,B a.odd,r0_11])]) t ?_)))));intro b0 c1 u;have l0:Kp G0 [(Eb b 184 [r0_0,r0_1,r0_2,r0_3,r0_4,r0_5,B a.some,I a.last,I a.pict,I a.conj,B a.odd,r0_11])] b0:=(Kp.cons (u.on 0 rfl) Kp.nil0);refine ta 0 (.pointer (some ⟨b,6,none⟩)) (ta 1 (Qo b 6) (ta 2 (Qo b 7) (tkx 3 l0 (fun c' k0 hk=>le1 7 u_3 (hk.on 0 rfl)) (ta 4 (Q p) (tx 5 (fun c' k0=>l1 u_3 ((mm M) 0 _ rfl)) (bn d fun i g0 d=>o1 6 (gc 6 (sN u a.last e.Break g0) ?_)))))));rintro v44 h d1 ⟨g,rfl⟩;have m0:Kp G0 [(Eb b 184 [r0_0,r0_1,r0_2,r0_3,r0_4,r0_5,B a.some,I a.last,I a.pict,I a.conj,B a.odd,r0_11])] h:=(Kp.cons (g.on 0 rfl) Kp.nil0);refine ⟨.inr m0,dn (nrm (W.block (sr (vv (B (i==1)) (wln (cn d (fun h0 d=>?_) (fun h0 d=>?_)))))))⟩
 ·refine sr (va (B true) (wln (W.ret (bkr (thr ?_)))));obtain rfl:=si d;exact r1 (qq h ⟨g,rfl⟩)
 refine sr (vv (B (i==2)) (wln (cn d (fun i0 d=>?_) (fun i0 d=>?_))))
 ·refine W.seq (bn d fun D y d=>W.join (Jn h fun c l=>Own c G ((Eb b 184 [r0_0,r0_1,r0_2,r0_3,r0_4,r0_5,B a.some,I a.last,I a.pict,I a.conj,B a.odd,r0_11]) :: F)∧l= [(4,B D)]) ?_ ?_)
  ·clear d;refine W.region (vv (Qo b 6) (va (Qo b 7) (vx (le1 7 u_3 (g.on 0 rfl)) (va (B (a.last==6)) ?_))));rcases bo (a.last==6) with m | m
   ·have T:=anT m y;refine vb m (wa (Qo b 6) (wa (Qo b 6) (wa (Qo b 10) (wn (vx (le1 10 u_4 (g.on 0 rfl)) ?_)))));obtain rfl:=si T;exact vv (B a.odd) (wln (jn h ⟨g,rfl⟩))
   obtain rfl:=anF m y;exact vb m (pz (pz (vv (B false) (wln (jn h ⟨g,rfl⟩)))))
  rintro E N ⟨d0,x0,_,rfl,e1,rfl,X,rfl⟩;refine nrm (W.ret (bkr (thr ?_)));obtain rfl:=si d;exact r1 (qq d0 ⟨X,rfl⟩)
 refine W.skip (bkn (nrm (sr (va (B false) (wln (W.ret ?_))))));obtain rfl:=si d;exact r1 (qq h ⟨g,rfl⟩)
def cN (p0:bu) (p1:am):Option (Int):=
 if p1.Pict=true then
 some 1
 else
 (bD (p0.pict==1) (some (p1.Break==4))).bind fun a=>
 if a=true then
 some 1
 else
 (bD (p0.pict==1) (some (p1.Break==5))).bind fun b=>
 if b=true then
 some 2
 else
 some 0
theorem lv {b:Nat} {r0_0:Value} {r0_1:Value} {r0_2:Value} {r0_3:Value} {r0_4:Value} {r0_5:Value} {r0_11:Value} (a:bu) (d:am) (A:Own c0 G ((Eb b 184 [r0_0,r0_1,r0_2,r0_3,r0_4,r0_5,B a.some,I a.last,I a.pict,I a.conj,B a.odd,r0_11]) :: F)) {r:Int} (H:cN a d=some r): Calls prog 225 #[.pointer (some ⟨b,6,none⟩),.agg #[I d.Break,B d.Pict,I d.Conj,I d.East]] c0.w (aP c0 fun c v=>Own c G ((Eb b 184 [r0_0,r0_1,r0_2,r0_3,r0_4,r0_5,B a.some,I a.last,I a.pict,I a.conj,B a.odd,r0_11]) :: F)∧v=I r):=by
 unfold cN at H;refine en func225 rfl rfl (sr (me (bx 238 [I d.Break,B d.Pict,I d.Conj,I d.East] A) ?_));rintro v5 k T ⟨j,rfl,i,s⟩;refine va (I 0) (wln (W.seq (W.block (sr (va (Qo j (0+1)) (vx (l1 u_4 (s 1 _ rfl)) (va (B d.Pict) (wln (cn H (fun E H=>?_) (fun E H=>?_))))))))))
 ·refine sr (va (I 1) (wln (W.ret (bkr (thr ?_)))));obtain rfl:=si H;exact r1 (qq k ⟨i,rfl⟩)
 refine W.seq (bn H fun p y H=>W.join (Jn k fun c l=>Own c G ((Eb b 184 [r0_0,r0_1,r0_2,r0_3,r0_4,r0_5,B a.some,I a.last,I a.pict,I a.conj,B a.odd,r0_11]) :: F)∧l= [(0,.pointer (some ⟨b,6,none⟩)),(3,Q j),(8,B p)]) ?_ ?_)
 ·clear H;refine W.region (vv (Qo b 6) (va (Qo b 8) (vx (le1 8 u_3 (i.on 0 rfl)) (va (B (a.pict==1)) ?_))));rcases bo (a.pict==1) with h | h
  ·have z:=anT h y;refine vb h (wa (Q j) (wn (vx (l1 u_3 (s 0 _ rfl)) (wa (B (d.Break==4)) ?_))));obtain rfl:=si z;exact vv (B (d.Break==4)) (wln (jn k ⟨i,rfl⟩))
  obtain rfl:=anF h y;exact vb h (pz (ps (vv (B false) (wln (jn k ⟨i,rfl⟩)))))
 rintro D M ⟨g,N,_,rfl,R,rfl,f,rfl⟩;refine nrm (cn H (fun u H=>?_) (fun u H=>?_))
 ·refine sr (va (I 1) (wln (W.ret (bkr (thr ?_)))));obtain rfl:=si H;exact r1 (qq g ⟨f,rfl⟩)
 refine W.seq (bn H fun q o H=>W.join (Jn g fun c l=>Own c G ((Eb b 184 [r0_0,r0_1,r0_2,r0_3,r0_4,r0_5,B a.some,I a.last,I a.pict,I a.conj,B a.odd,r0_11]) :: F)∧l= [(19,B q)]) ?_ ?_)
 ·clear H;refine W.region (vv (Qo b 6) (va (Qo b 8) (vx (le1 8 u_3 (f.on 0 rfl)) (va (B (a.pict==1)) ?_))));rcases bo (a.pict==1) with e | e
  ·have t:=anT e o;refine vb e (wa (Q j) (wn (vx (l1 u_3 ((mm s) 0 _ rfl)) (wa (B (d.Break==5)) ?_))));obtain rfl:=si t;exact vv (B (d.Break==5)) (wln (jn g ⟨f,rfl⟩))
  obtain rfl:=anF e o;exact vb e (pz (ps (vv (B false) (wln (jn g ⟨f,rfl⟩)))))
 rintro D M ⟨n,P,_,rfl,S,rfl,m,rfl⟩;refine nrm (cn H (fun x H=>?_) (fun x H=>?_))
 ·refine sr (va (I 2) (wln (W.ret (bkr (thr ?_)))));obtain rfl:=si H;exact r1 (qq n ⟨m,rfl⟩)
 refine W.skip (bkn (nrm (sr (va (I 0) (wln (W.ret ?_))))));obtain rfl:=si H;exact r1 (qq n ⟨m,rfl⟩)
def cJ (p0:bu) (p1:am):Option (Int):=
 if (p1.Conj==1)=true then
 some 1
 else
 if (p0.conj==0)=true then
 some 0
 else
 if (p1.Conj==2)=true then
 some 2
 else
 if (p1.Conj==3)=true then
 some p0.conj
 else
 some 0
theorem la {b:Nat} {r0_0:Value} {r0_1:Value} {r0_2:Value} {r0_3:Value} {r0_4:Value} {r0_5:Value} {r0_11:Value} (d:bu) (a:am) (i:Own c0 G ((Eb b 184 [r0_0,r0_1,r0_2,r0_3,r0_4,r0_5,B d.some,I d.last,I d.pict,I d.conj,B d.odd,r0_11]) :: F)) {r:Int} (H:cJ d a=some r): Calls prog 226 #[.pointer (some ⟨b,6,none⟩),.agg #[I a.Break,B a.Pict,I a.Conj,I a.East]] c0.w (aP c0 fun c v=>Own c G ((Eb b 184 [r0_0,r0_1,r0_2,r0_3,r0_4,r0_5,B d.some,I d.last,I d.pict,I d.conj,B d.odd,r0_11]) :: F)∧v=I r):=by
 unfold cJ at H;refine en func226 rfl rfl (sr (me (bx 238 [I a.Break,B a.Pict,I a.Conj,I a.East] i) ?_));rintro v5 f n ⟨g,rfl,e,h⟩;refine va (I 0) (wln (W.seq (W.block (sr (va (Qo g (0+2)) (vx (l1 u_3 (h 2 _ rfl)) (vv (B (a.Conj==1)) (wln (cn H (fun j H=>?_) (fun j H=>?_))))))))))
 ·refine sr (va (I 1) (wln (W.ret (bkr (thr ?_)))));obtain rfl:=si H;exact r1 (qq f ⟨e,rfl⟩)
 refine sr (vv (Qo b 6) (va (Qo b 9) (vx (le1 9 u_3 (e.on 0 rfl)) (vv (B (d.conj==0)) (wln (cn H (fun k H=>?_) (fun k H=>?_)))))))
 ·refine sr (va (I 0) (wln (W.ret (bkr (thr ?_)))));obtain rfl:=si H;exact r1 (qq f ⟨e,rfl⟩)
 refine sr (va (Qo g (0+2)) (vx (l1 u_3 (h 2 _ rfl)) (vv (B (a.Conj==2)) (wln (cn H (fun l H=>?_) (fun l H=>?_))))))
 ·refine sr (va (I 2) (wln (W.ret (bkr (thr ?_)))));obtain rfl:=si H;exact r1 (qq f ⟨e,rfl⟩)
 refine sr (va (Qo g (0+2)) (vx (l1 u_3 (h 2 _ rfl)) (vv (B (a.Conj==3)) (wln (cn H (fun m H=>?_) (fun m H=>?_))))))
 ·refine sr (vv (Qo b 6) (va (Qo b 9) (vx (le1 9 u_3 (e.on 0 rfl)) (va (I d.conj) (wln (W.ret (bkr (thr ?_))))))));obtain rfl:=si H;exact r1 (qq f ⟨e,rfl⟩)
 refine W.skip (bkn (nrm (sr (va (I 0) (wln (W.ret ?_))))));obtain rfl:=si H;exact r1 (qq f ⟨e,rfl⟩)
def cG (p0:bu) (p1:am):Option (bu×Bool):=
 if false=true then
 some (p0,false)
 else
 (cQ p0 p1).bind fun d=>
 (cN p0 p1).bind fun e=>
 (cJ p0 p1).bind fun f=>
 (bD (p1.Break==6) ((bD p0.some (some (p0.last==6))).bind fun b=>
 (bD b (some p0.odd)).bind fun c=>
 some (!c))).bind fun a=>
 some ((⟨true,p1.Break,e,f,a⟩:bu),d)
theorem mi {a:Nat} {r0_0:Value} {r0_1:Value} {r0_2:Value} {r0_3:Value} {r0_4:Value} {r0_5:Value} {r0_11:Value} (b:bu) (f:am) (O0:Own c0 G ((Eb a 184 [r0_0,r0_1,r0_2,r0_3,r0_4,r0_5,B b.some,I b.last,I b.pict,I b.conj,B b.odd,r0_11]) :: F)) {r:bu×Bool} (H:cG b f=some r): Calls prog 173 #[.pointer (some ⟨a,6,none⟩),.agg #[I f.Break,B f.Pict,I f.Conj,I f.East]] c0.w (aP c0 fun c v=>Own c G ((Eb a 184 [r0_0,r0_1,r0_2,r0_3,r0_4,r0_5,B r.1.some,I r.1.last,I r.1.pict,I r.1.conj,B r.1.odd,r0_11]) :: F)∧v=B r.2):=by
 unfold cG at H;refine en func173 rfl rfl (sr (me (bx 238 [I f.Break,B f.Pict,I f.Conj,I f.East] O0) ?_));rintro v5 c4 l4 ⟨A,rfl,O2,o⟩;refine va (B false) (wln (W.seq (sr (va (Qo a 6) (va (B false) (wln (W.cond (t:=false) (by kernel_rfl) (fun E=>?_) (fun E=>?_))))))))
 ·cases E
 have H:=ie E H;refine W.skip (nrm (sr (va (Qo a 6) (vx (lN 238 o) (bn H fun i h8 H=>cl (lW b f O2 h8) ?_)))));rintro v14 j1 n1 ⟨P,rfl⟩;refine va (B i) (wln (W.seq (rD [] (Kp G0 []) P ?_)));intro i0 q1 R;have f2:Kp G0 [] i0:=Kp.nil0;refine ta 0 (.pointer (some ⟨a,6,none⟩)) (ta 1 (Qo a 6) (ta 2 (Qo a 6) (tx 3 (fun c' z=>lN 238 (mm o)) (ta 5 (Qo a 6) (tx 6 (fun c' z=>lN 238 (mm o)) (bn H fun d v0 H=>o1 4 (gc 4 (lv b f R v0) ?_)))))));rintro v25 j0 s1 ⟨S,rfl⟩;have y0:Kp G0 [] j0:=Kp.nil0;refine ⟨.inr y0,bn H fun e w0 H=>o1 7 (gc 7 (la b f S w0) ?_)⟩;rintro v34 k0 t1 ⟨T,rfl⟩;have z0:Kp G0 [] k0:=Kp.nil0;refine ⟨.inr z0,ta 8 (.pointer (some ⟨a,6,none⟩)) (ta 9 (Qo a 8) (o1 10 (gD 10 (sC 3 8 (I d) [r0_0,r0_1,r0_2,r0_3,r0_4,r0_5,B b.some,I b.last,I d,I b.conj,B b.odd,r0_11] 0 T ⟨rfl,trivial⟩) ?_)))⟩;rintro l0 u1 U;have a1:Kp G0 [] l0:=Kp.nil0;refine ⟨.inr a1,ta 11 (.pointer (some ⟨a,6,none⟩)) (ta 12 (Qo a 9) (o1 13 (gD 13 (sC 3 9 (I e) [r0_0,r0_1,r0_2,r0_3,r0_4,r0_5,B b.some,I b.last,I d,I e,B b.odd,r0_11] 0 U ⟨rfl,trivial⟩) ?_)))⟩;rintro p v1 h;have c1:Kp G0 [] p:=Kp.nil0;refine ⟨.inr c1,dn (nrm (W.seq (bn H fun n s H=>W.join (Jn p fun c l=>Own c G ((Eb a 184 [r0_0,r0_1,r0_2,r0_3,r0_4,r0_5,B b.some,I b.last,I d,I e,B n,r0_11]) :: F)∧l= [(0,.pointer (some ⟨a,6,none⟩)),(3,Q A),(5,B i)]) ?_ ?_)))⟩
 ·clear H;refine W.region (va (Qo a 6) (va (Q A) (vx (l1 u_3 ((mm o) 0 _ rfl)) (va (B (f.Break==6)) ?_))));rcases bo (f.Break==6) with j | j
  ·have g:=anT j s;refine vb j (wa (Qo a 6) (wa (Qo a 6) (wa (Qo a 6) (wn (vx (le1 6 u_4 (h.on 0 rfl)) (wn (bn g fun h1 u g=>?_)))))));rcases bo (b.some) with k | k
   ·have M:=anT k u;refine vb k (wa (Qo a 6) (wa (Qo a 6) (wa (Qo a 7) (wn (vx (le1 7 u_3 (h.on 0 rfl)) (wa (B (b.last==6)) (wn ?_)))))));obtain rfl:=si M;refine va (B (b.last==6)) (wn (bn g fun D x g=>?_));rcases bo (b.last==6) with m | m
    ·have N:=anT m x;refine vb m (wa (Qo a 6) (wa (Qo a 6) (wa (Qo a 10) (wn (vx (le1 10 u_4 (h.on 0 rfl)) (wn ?_))))));obtain rfl:=si N;refine va (B b.odd) (wa (B (!b.odd)) ?_);obtain rfl:=si g;refine va (B (!b.odd)) (va (Qo a 6) (va (Qo a 10) (md (sC 4 10 (B (!b.odd)) [r0_0,r0_1,r0_2,r0_3,r0_4,r0_5,B b.some,I b.last,I d,I e,B (!b.odd),r0_11] 0 h ⟨rfl,trivial⟩) ?_)));rintro m0 w1 X;exact wln (jn m0 ⟨X,rfl⟩)
    obtain rfl:=anF m x;refine vb m (pz (pz (wa (B false) (wa (B (!false)) ?_))));obtain rfl:=si g;refine va (B (!false)) (va (Qo a 6) (va (Qo a 10) (md (sC 4 10 (B (!false)) [r0_0,r0_1,r0_2,r0_3,r0_4,r0_5,B b.some,I b.last,I d,I e,B (!false),r0_11] 0 h ⟨rfl,trivial⟩) ?_)));rintro o0 x1 Z;exact wln (jn o0 ⟨Z,rfl⟩)
   obtain rfl:=anF k u;refine vb k (pz (pz (ps (wa (B false) (wn (bn g fun D x0 g=>?_))))));have y:false=false:=rfl;obtain rfl:=anF y x0;refine vb y (pz (pz (wa (B false) (wa (B (!false)) ?_))));obtain rfl:=si g;refine va (B (!false)) (va (Qo a 6) (va (Qo a 10) (md (sC 4 10 (B (!false)) [r0_0,r0_1,r0_2,r0_3,r0_4,r0_5,B b.some,I b.last,I d,I e,B (!false),r0_11] 0 h ⟨rfl,trivial⟩) ?_)));rintro q0 y1 a0;exact wln (jn q0 ⟨a0,rfl⟩)
  obtain rfl:=anF j s;refine vb j (pz (pz (pz (pz (pz (pz (pz (pz (pz (va (B false) (va (Qo a 6) (va (Qo a 10) (md (sC 4 10 (B false) [r0_0,r0_1,r0_2,r0_3,r0_4,r0_5,B b.some,I b.last,I d,I e,B false,r0_11] 0 h ⟨rfl,trivial⟩) ?_)))))))))))));rintro s0 z1 b0;exact wln (jn s0 ⟨b0,rfl⟩)
 rintro e_ w_ ⟨k1,m1,_,rfl,b2,rfl,d0,rfl⟩;refine nrm (W.seq (rD [] (Kp G0 []) d0 ?_));intro t0 c2 e0;have g2:Kp G0 [] t0:=Kp.nil0;refine ta 0 (.pointer (some ⟨a,6,none⟩)) (ta 1 (Qo a 6) (ta 2 (Q A) (tx 3 (fun c' z=>l1 u_3 ((mm o) 0 _ rfl)) (ta 4 (Qo a 6) (ta 5 (Qo a 6) (o1 6 (gD 6 (sC 4 6 (B true) [r0_0,r0_1,r0_2,r0_3,r0_4,r0_5,B true,I b.last,I d,I e,B n,r0_11] 0 e0 ⟨rfl,trivial⟩) ?_)))))));rintro u0 d2 f0;have d1:Kp G0 [] u0:=Kp.nil0;refine ⟨.inr d1,ta 7 (.pointer (some ⟨a,6,none⟩)) (ta 8 (Qo a 7) (o1 9 (gD 9 (sC 3 7 (I f.Break) [r0_0,r0_1,r0_2,r0_3,r0_4,r0_5,B true,I f.Break,I d,I e,B n,r0_11] 0 f0 ⟨rfl,trivial⟩) ?_)))⟩;rintro q e2 g0;have e1:Kp G0 [] q:=Kp.nil0;refine ⟨.inr e1,dn (nrm (sr (vv (B i) (wln (W.ret ?_)))))⟩;obtain rfl:=si H;exact r1 (qq q ⟨g0,rfl⟩)
def gn (sg:Sto) (p0:Option Nat) (p1:Int):Option (Sto):=
 (gV p1).bind fun s=>
 if s=true then
 (cY sg p0).bind fun k=>
 (p0).bind fun r=>
 (k.feed_Feeder[r]?).bind fun n=>
 (oH k n.pen p1).bind fun p=>
 some p.1
 else
 (nu p1).bind fun e=>
 (p0).bind fun h=>
 (sg.feed_Feeder[h]?).bind fun a=>
 (cG a.seg e).bind fun j=>
 (sg.set_feed_Feeder h (⟨a.pen,a.dec,j.1,a.open_⟩:bC)).bind fun b=>
 (bD j.2 (some (!a.open_.isNone))).bind fun l=>
 if l=true then
 (p0).bind fun m=>
 (b.feed_Feeder[m]?).bind fun i=>
 (dH b i.open_ i.pen p1 e).bind fun q=>
 some q.1
 else
 (p0).bind fun c=>
 (b.feed_Feeder[c]?).bind fun o=>
 (kP b o.pen p1 e).bind fun f=>
 (f.1.feed_Feeder[c]?).bind fun d=>
 (f.1.set_feed_Feeder c (⟨d.pen,d.dec,d.seg,f.2⟩:bC)).bind fun g=>
 some g
theorem qV (O0:Own c0 G F) (R0:Rel c0 sg G) (hG:Gl [2,4] c0) (p0:Option Nat) (f:Int) {r:Sto} (U:Pt 4 c0 v1 p0) (H:gn sg p0 f=some r): Calls prog 221 #[v1,J f] c0.w (aP c0 fun c v=>∃G_:Gm,Own c G_ (F)∧Rel c r G_∧v= .tuple #[]):=by
 unfold gn at H;refine en func221 rfl rfl (W.seq (sr (va (J f) (bn H fun f5 h3 H=>cl (nC O0 f h3) ?_))));rintro v9 c8 N ⟨O5,rfl⟩;refine wln (cn H (fun x2 H=>?_) (fun x2 H=>?_))
 ·refine sr (va (v1) (bn H fun g5 y2 H=>cl (iY O5 R0.m p0 U.m y2) ?_));rintro v17 u4 l16 ⟨s4,g0,j0,rfl⟩;refine wln (sr (va (v1) (bn H fun a5 a3 H=>?_)));obtain ⟨l0,rfl,z2⟩:=((U.mono (N.trans l16))).get a3;refine vv (Q l0) (bn H fun z1 b3 H=>?_);obtain ⟨v22,v24,d3,c3,z4⟩:=Rel.open_feed_Feeder j0 b3 z2;refine vx (le1 0 tT (g0.gon d3 0 rfl)) (va (J f) (bn H fun p4 e3 H=>cl (B5 g0 j0 z1.pen f c3 e3) ?_));rintro v33 t2 b5 ⟨e2,i2,s2,rfl⟩;refine wln (W.ret (thr ?_));obtain rfl:=si H;exact r0 (qq t2 ⟨e2,i2,s2,rfl⟩)
 refine W.skip (nrm (sr (va (J f) (bn H fun a f3 H=>cl (vq O5 f f3) ?_))));rintro v40 v4 s ⟨j2,rfl⟩;refine me (al 238 [I 0,B false,I 0,I 0] j2) ?_;rintro v44 w4 t ⟨h,rfl,k2⟩;refine md (sA 238 [I a.Break,B a.Pict,I a.Conj,I a.East] 0 k2 ⟨rfl,rfl,rfl,rfl,trivial⟩) ?_;rintro u2 u l2;refine wln (W.seq (W.seq (bn H fun f4 g3 H=>bn H fun d i3 H=>bn H fun g j3 H=>bn H fun P k3 H=>bn H fun k1 s0 H=>W.join (Jn u2 fun c l=>∃G_,Own c G_ ((Eb h 238 [I a.Break,B a.Pict,I a.Conj,I a.East]) :: F)∧l= [(0,v1),(1,J f),(4,Q h),(28,B k1)]∧Rel c P G_) ?_ ?_)))
 ·clear H;refine rD [4,9] (Kp G0 [(Eb h 238 [I a.Break,B a.Pict,I a.Conj,I a.East])]) l2 ?_;intro v2 Z h0;have w3:Kp G0 [(Eb h 238 [I a.Break,B a.Pict,I a.Conj,I a.East])] v2:=(Kp.cons (h0.on 0 rfl) Kp.nil0);refine ta 0 (v1) ?_;obtain ⟨j,rfl,t0⟩:=((U.mono (N.trans (s.trans (t.trans (u.trans Z)))))).get g3;refine ta 1 (Q j) (ta 2 (Qo j 6) (tkx 3 w3 (fun p i k=>leN 238 0 [I a.Break,B a.Pict,I a.Conj,I a.East] (k.on 0 rfl)) ?_));obtain ⟨v57,v59,m3,l3,u0⟩:=Rel.open_feed_Feeder (R0.mono (N.trans (s.trans (t.trans (u.trans Z))))) i3 t0;have n2:=h0.borrow 0 m3 rfl;refine o1 4 (gc 4 (mi d.seg a n2 j3) ?_);rintro c5 m0 a0 ⟨o2,rfl⟩;have p2:=o2.giveB 0 rfl;obtain ⟨f0,R,k0,n3,t4⟩:=Rel.put_feed_Feeder p2 (R0.mono (N.trans (s.trans (t.trans (u.trans (Z.trans a0)))))) (E':=[(Eb j 184 [v57,I d.dec.held,I d.dec.needs,.int .u8 d.dec.lo,.int .u8 d.dec.hi,I d.dec.bits,B g.1.some,I g.1.last,I g.1.pict,I g.1.conj,B g.1.odd,v59])]) k3 ⟨j,v57,v59,(tm t0),rfl,(l3.mono a0),(u0.mono a0)⟩;refine ⟨.inl rfl,?_⟩;rcases bo (g.2) with q | q
  ·have g2:=anT q s0;refine AC.takeb 5 q rfl (by kernel_rfl) (by kernel_rfl) (fun p i=>(by kernel_rfl)) (ta 6 (Q j) (ta 7 (Q j) (ta 8 (Qo j 11) (o1 9 (gl 9 (le1 11 underlying182 (R.gon n3 0 rfl)) (AC.take 10 (B (!d.open_.isNone)) rfl (by kernel_rfl) (by kernel_rfl) (fun p i=>(by rcases u0.m.cs with ⟨o0,q0⟩ | ⟨b_,o0,q0⟩ <;> (subst o0; rw [q0]; kernel_rfl))) ?_))))));obtain rfl:=si g2;exact ta 11 (B (!d.open_.isNone)) (dn (nrm (jn m0 ⟨f0,R,rfl,k0⟩)))
  obtain rfl:=anF q s0;exact AC.takeb 5 q rfl (by kernel_rfl) (by kernel_rfl) (fun p i=>(by kernel_rfl)) (tp 6 (tp 7 (tp 8 (tp 9 (tp 10 (ta 11 (B false) (dn (nrm (jn m0 ⟨f0,R,rfl,k0⟩)))))))))
 rintro e_ w_ ⟨x4,y4,_,rfl,w0,rfl,E,i0,rfl,M⟩;refine nrm (cn H (fun o3 H=>?_) (fun o3 H=>?_))
 ·refine W.seq (rD [10] (Kp E [(Eb h 238 [I a.Break,B a.Pict,I a.Conj,I a.East])]) i0 ?_);intro w2 x0 S;have e0:Kp E [(Eb h 238 [I a.Break,B a.Pict,I a.Conj,I a.East])] w2:=(Kp.cons (S.on 0 rfl) (Kp.nil S));refine ta 0 (v1) (bn H fun g4 q3 H=>?_);obtain ⟨o,rfl,p3⟩:=((U.mono (N.trans (s.trans (t.trans (u.trans (w0.trans x0))))))).get q3;refine ta 1 (Q o) (ta 2 (Qo o 11) (bn H fun b0 s3 H=>?_));obtain ⟨d5,e5,v0,t3,u3⟩:=Rel.open_feed_Feeder (M.mono x0) s3 p3;refine tkx 3 e0 (fun p i k=>le1 11 underlying182 (k.gon v0 0 rfl)) (ta 4 (Q o) (ta 5 (Q o) (ta 6 (Q o) (tkx 7 e0 (fun p i k=>le1 0 tT (k.gon v0 0 rfl)) (ta 8 (J f) (tkx 9 e0 (fun p i k=>leN 238 0 [I a.Break,B a.Pict,I a.Conj,I a.East] (k.on 0 rfl)) (bn H fun q4 v3 H=>o1 10 (gc 10 (qu S M.m (hG.m.le (by decide)) b0.open_ b0.pen f a u3 t3 v3) ?_))))))));rintro k4 h1 i4 ⟨f2,q2,f1,rfl⟩;refine ⟨.inl rfl,dn (nrm (W.ret (thr ?_)))⟩;obtain rfl:=si H;have z0:=q2.sD 1 [];exact r0 (qq h1 ⟨f2,z0,f1,rfl⟩)
 refine W.skip (nrm (rD [7,10] (Kp E [(Eb h 238 [I a.Break,B a.Pict,I a.Conj,I a.East])]) i0 ?_));intro i1 X x;have d0:Kp E [(Eb h 238 [I a.Break,B a.Pict,I a.Conj,I a.East])] i1:=(Kp.cons (x.on 0 rfl) (Kp.nil x));refine ta 0 (v1) (ta 1 (v1) (bn H fun h4 m1 H=>?_));obtain ⟨e,rfl,y⟩:=((U.mono (N.trans (s.trans (t.trans (u.trans (w0.trans X))))))).get m1;refine ta 2 (Q e) (ta 3 (Q e) (bn H fun b2 n1 H=>?_));obtain ⟨l4,m4,s1,q1,b4⟩:=Rel.open_feed_Feeder (M.mono X) n1 y;refine tkx 4 d0 (fun p i k=>le1 0 tT (k.gon s1 0 rfl)) (ta 5 (J f) (tkx 6 d0 (fun p i k=>leN 238 0 [I a.Break,B a.Pict,I a.Conj,I a.East] (k.on 0 rfl)) (bn H fun r4 t1 H=>o1 7 (gc 7 (vS x M.m (hG.m.le (by decide)) b2.pen f a q1 t1) ?_))));rintro n4 a4 j4 ⟨_,x3,a1,T,rfl,z⟩;refine ⟨.inl rfl,ta 8 (Q e) (ta 9 (Qo e 11) ?_)⟩;obtain ⟨n,rfl⟩:=(z).form;refine bn H fun b u1 H=>?_;obtain ⟨D,o4,x1,w1,c4⟩:=Rel.open_feed_Feeder T u1 (tm y);refine o1 10 (gD 10 (gC 182 11 (.pointer n) [D,I b.dec.held,I b.dec.needs,.int .u8 b.dec.lo,.int .u8 b.dec.hi,I b.dec.bits,B b.seg.some,I b.seg.last,I b.seg.pict,I b.seg.conj,B b.seg.odd,.pointer n] 0 a1 x1 ⟨z.one,trivial⟩) ?_);rintro j1 A b1;refine bn H fun d2 y1 H=>?_;obtain ⟨y0,c1,g1,d4,z3⟩:=Rel.put_feed_Feeder b1 (T.mono A) (E':=[(Eb e 184 [D,I b.dec.held,I b.dec.needs,.int .u8 b.dec.lo,.int .u8 b.dec.hi,I b.dec.bits,B b.seg.some,I b.seg.last,I b.seg.pict,I b.seg.conj,B b.seg.odd,.pointer n])]) y1 ⟨e,D,(.pointer n),(tm y),rfl,(w1.mono A),(z.mono A)⟩;refine ⟨.inl rfl,dn ?_⟩;obtain rfl:=si H;have d1:=c1.sD 1 [];exact n0 (qq j1 ⟨y0,d1,g1,rfl⟩)
def gg (sg:Sto) (p0:Option Nat) (p1:List Int):Option (Sto):=
 (cv (σ:=Int×Sto) (τ:=Sto) (((p1.length:Int) - 0).toNat+1) (fun a=>
 if (decide (a.1 < (p1.length:Int)))=true then
 (idx p1 a.1).bind fun d=>
 (gn a.2 p0 d).bind fun b=>
 some (.inl ((w64 (a.1+1)),b))
 else
 some (.inr (a.2))) (0,sg)).bind fun c=>
 some c
theorem nN (S:Own c0 G F) (T:Rel c0 sg G) (hG:Gl [2,4] c0) (j:Option Nat) (d:List Int) {r:Sto} (Z:Pt 4 c0 v1 j) (h:Sl (RI .i32) c0 v3 d) (H:gg sg j d=some r): Calls prog 165 #[v1,v3] c0.w (aP c0 fun c v=>∃G_:Gm,Own c G_ (F)∧Rel c r G_∧v= .tuple #[]):=by
 unfold gg at H;refine en func165 rfl rfl (sr (va (v3) (vx (ln 3 cy h) (va (I 0) (wln (W.block (bn H fun i0 N p=>lp N (fun a=>Jn c0 fun c l=>∃G_,Own c G_ (F)∧l= [(0,v1),(6,v3),(7,I (d.length:Int)),(8,I a.1)]∧Rel c a.2 G_) (fun i ex e w=>ex= .exit 0∧(Jn c0 fun c l=>∃G_,Own c G_ (F)∧l= []∧Rel c i G_) e w) ?_ ?_ ?_)))))))
 ·clear p N;intro a j0 A R H;revert A R;rintro X w_ ⟨U,g8,_,rfl,l7,rfl,k,t,rfl,f⟩;refine sr (va (B (decide (a.1 < (d.length:Int)))) (wln (W.seq (cn H (fun D H=>?_) (fun D H=>?_)))))
  ·refine W.skip (nrm (W.seq (W.block (sr (bn H fun b g H=>?_)))));obtain ⟨b0,E,P⟩:=Sl.at (h.mono l7) (aR g);obtain rfl:=E;refine vx (ix cy h.m g) (vx (l1 mh (P 0 _ rfl)) (va (J b) (wln (W.region (va (v1) (va (J b) (bn H fun e0 M H=>cl (qV t f (hG.m.le (by decide)) j b Z.m M) ?_)))))));rintro v24 y g0 ⟨n,q,u,rfl⟩;refine WL.nil (bkn (nrm (W.region (vv (I (w64 (a.1+1))) (WL.nil ?_)))));obtain rfl:=si H;exact ⟨_,rfl,jn y ⟨n,q,rfl,u⟩⟩
  refine W.exit (thx ?_);obtain rfl:=si H;exact ⟨_,rfl,rfl,jn U ⟨k,t,rfl,f⟩⟩
 ·exact jn c0 ⟨G,S,rfl,T⟩
 rintro _ X w_ ⟨rfl,z,f0,_,rfl,h0,rfl,o,s,rfl,x⟩;refine bke ?_;obtain rfl:=si p;exact n0 (qq z ⟨o,s,x,rfl⟩)
def jq (p0:Int):Option (Int):=
 ((bD (decide (p0≥240)) (some (decide (p0≤244)))).bind fun a=>
 if a=true then
 some ((w64 ((w64 ((w64 ((w64 (0+1))+1))+1))+1)))
 else
 (bD (decide (p0≥224)) (some (decide (p0 < 240)))).bind fun b=>
 if b=true then
 some ((w64 ((w64 ((w64 (0+1))+1))+1)))
 else
 (bD (decide (p0≥194)) (some (decide (p0 < 224)))).bind fun c=>
 if c=true then
 some ((w64 ((w64 (0+1))+1)))
 else
 if (decide (p0 < 128))=true then
 some ((w64 (0+1)))
 else
 some (0)).bind fun d=>
 some d
theorem pm (A:Own c0 G F) (a:Int) {r:Int} (H:jq a=some r): Calls prog 219 #[.int .u8 a] c0.w (aP c0 fun c v=>Own c G (F)∧v=I r):=by
 unfold jq at H;refine en func219 rfl rfl (sr (va (I 0) (wln (sr (va (I 0) (wln (bn H fun k b T=>W.seqJ (Jn c0 fun c l=>Own c G (F)∧l= [(3,I k)]) ?_ ?_)))))))
 ·refine W.block (W.seq (W.block (W.seq (W.block (W.seq (W.block (W.seq (W.block (W.seq (W.seq (W.seq (bn b fun q P b=>W.join (Jn c0 fun c l=>Own c G (F)∧l= [(0,.int .u8 a),(3,I 0),(4,B q)]) ?_ ?_))))))))))))
  ·clear b;refine W.region (va (.int .u8 a) (va (B (decide (a≥240))) ?_));rcases bo (decide (a≥240)) with j | j
   ·have U:=anT j P;refine vb j (wa (.int .u8 a) (wa (B (decide (a≤244))) ?_));obtain rfl:=si U;exact vv (B (decide (a≤244))) (wln (jn c0 ⟨A,rfl⟩))
   obtain rfl:=anF j P;exact vb j (pz (vv (B false) (wln (jn c0 ⟨A,rfl⟩))))
  rintro u x ⟨m,g7,_,rfl,l6,rfl,p,rfl⟩;refine nrm (cn b (fun M b=>?_) (fun M b=>?_))
  ·refine W.exit (thx (thx (bke (nrm (W.region (va (I 0) (vv (I (w64 (0+1))) (WL.nil (bkn (nrm (W.region (va (I (w64 (0+1))) (vv (I (w64 ((w64 (0+1))+1))) (WL.nil (bkn (nrm (W.region (va (I (w64 ((w64 (0+1))+1))) (vv (I (w64 ((w64 ((w64 (0+1))+1))+1))) (WL.nil (bkn (nrm (sr (va (I (w64 ((w64 ((w64 (0+1))+1))+1))) (vv (I (w64 ((w64 ((w64 ((w64 (0+1))+1))+1))+1))) (wln (W.exit (bke (nrm ?_)))))))))))))))))))))))))))));obtain rfl:=si b;exact jn m ⟨p,rfl⟩
  refine W.skip (nrm (W.seq (W.seq (bn b fun s n b=>W.join (Jn m fun c l=>Own c G (F)∧l= [(0,.int .u8 a),(3,I 0),(11,B s)]) ?_ ?_))))
  ·clear b;refine W.region (va (.int .u8 a) (va (B (decide (a≥224))) ?_));rcases bo (decide (a≥224)) with d | d
   ·have y:=anT d n;refine vb d (wa (.int .u8 a) (wa (B (decide (a < 240))) ?_));obtain rfl:=si y;exact vv (B (decide (a < 240))) (wln (jn m ⟨p,rfl⟩))
   obtain rfl:=anF d n;exact vb d (pz (vv (B false) (wln (jn m ⟨p,rfl⟩))))
  rintro u x ⟨f,X,_,rfl,l16,rfl,g,rfl⟩;refine nrm (cn b (fun N b=>?_) (fun N b=>?_))
  ·refine W.exit (thx (thx (bko rfl (thx (bke (nrm (W.region (va (I 0) (vv (I (w64 (0+1))) (WL.nil (bkn (nrm (W.region (va (I (w64 (0+1))) (vv (I (w64 ((w64 (0+1))+1))) (WL.nil (bkn (nrm (sr (va (I (w64 ((w64 (0+1))+1))) (vv (I (w64 ((w64 ((w64 (0+1))+1))+1))) (wln (W.exit (bke (nrm ?_)))))))))))))))))))))))));obtain rfl:=si b;exact jn f ⟨g,rfl⟩
  refine W.skip (nrm (W.seq (W.seq (bn b fun t o b=>W.join (Jn f fun c l=>Own c G (F)∧l= [(0,.int .u8 a),(3,I 0),(18,B t)]) ?_ ?_))))
  ·clear b;refine W.region (va (.int .u8 a) (va (B (decide (a≥194))) ?_));rcases bo (decide (a≥194)) with e | e
   ·have z:=anT e o;refine vb e (wa (.int .u8 a) (wa (B (decide (a < 224))) ?_));obtain rfl:=si z;exact vv (B (decide (a < 224))) (wln (jn f ⟨g,rfl⟩))
   obtain rfl:=anF e o;exact vb e (pz (vv (B false) (wln (jn f ⟨g,rfl⟩))))
  rintro u x ⟨i,Z,_,rfl,b0,rfl,h,rfl⟩;refine nrm (cn b (fun R b=>?_) (fun R b=>?_))
  ·refine W.exit (thx (thx (bko rfl (thx (bko rfl (thx (bke (nrm (W.region (va (I 0) (vv (I (w64 (0+1))) (WL.nil (bkn (nrm (sr (va (I (w64 (0+1))) (vv (I (w64 ((w64 (0+1))+1))) (wln (W.exit (bke (nrm ?_)))))))))))))))))))));obtain rfl:=si b;exact jn i ⟨h,rfl⟩
  refine W.skip (nrm (sr (va (.int .u8 a) (vv (B (decide (a < 128))) (wln (cn b (fun S b=>?_) (fun S b=>?_)))))))
  ·refine W.exit (thx (bko rfl (thx (bko rfl (thx (bko rfl (thx (bke (nrm (sr (va (I 0) (vv (I (w64 (0+1))) (wln (W.exit (bke (nrm ?_))))))))))))))));obtain rfl:=si b;exact jn i ⟨h,rfl⟩
  refine W.skip (nrm (W.exit (bko rfl (thx (bko rfl (thx (bko rfl (thx (bko rfl (thx (bke (nrm ?_))))))))))));obtain rfl:=si b;exact jn i ⟨h,rfl⟩
 rintro u x ⟨E,a0,_,rfl,d0,rfl,D,rfl⟩;refine sr (vv (I k) (wln (W.ret ?_)));obtain rfl:=si T;exact r1 (qq E ⟨D,rfl⟩)
def lM (p0:Int):Option (Int):=
 (jq p0).bind fun a=>
 if (a==0)=true then
 some 0
 else
 if (a==1)=true then
 some (w64 p0)
 else
 (shn (w64 (7 - a))).bind fun b=>
 some (fw .i64 (w64 p0) (w64 ((w64 (1 * 2 ^ (min b 64))) - 1)))
theorem xA (j:Own c0 G F) (e:Int) {r:Int} (H:lM e=some r): Calls prog 266 #[.int .u8 e] c0.w (aP c0 fun c v=>Own c G (F)∧v=I r):=by
 unfold lM at H;refine en func266 rfl rfl (sr (va (I 0) (wln (sr (va (.int .u8 e) (bn H fun d k H=>cl (pm j e k) ?_))))));rintro v7 h n ⟨g,rfl⟩;refine va (I d) (wln (sr (va (I d) (wln (W.block (sr (vv (B (d==0)) (wln (cn H (fun l H=>?_) (fun l H=>?_))))))))))
 ·refine sr (va (I 0) (wln (W.ret (bkr ?_))));obtain rfl:=si H;exact r1 (qq h ⟨g,rfl⟩)
 refine sr (vv (B (d==1)) (wln (cn H (fun m H=>?_) (fun m H=>?_))))
 ·refine sr (va (.int .u8 e) (vv (I (w64 e)) (wln (W.ret (bkr ?_)))));obtain rfl:=si H;exact r1 (qq h ⟨g,rfl⟩)
 refine sr (va (.int .u8 e) (va (I (w64 e)) (va (I d) (va (I (w64 (7 - d))) (bn H fun f i H=>vr (I (w64 (1 * 2 ^ (min f 64)))) (Em (k':= .i64) (a:=1) (b:=(w64 (7 - d))) i (by kernel_rfl) _) (va (I (w64 ((w64 (1 * 2 ^ (min f 64))) - 1))) (vv (I (fw .i64 (w64 e) (w64 ((w64 (1 * 2 ^ (min f 64))) - 1)))) (wln (W.ret (bkr ?_))))))))));obtain rfl:=si H;exact r1 (qq h ⟨g,rfl⟩)
def ka (p0:Int):Option (Int×Int):=
 (jq p0).bind fun b=>
 if (decide (b < 2))=true then
 some (0,0)
 else
 (if (p0==224)=true then
 some (160,191)
 else
 if (p0==240)=true then
 some (144,191)
 else
 if (p0==244)=true then
 some (128,(IntKind.u8.wrap ((IntKind.u8.wrap (191 - 16)) - 32)))
 else
 if (p0==237)=true then
 some (128,(IntKind.u8.wrap (191 - 32)))
 else
 some (128,191)).bind fun a=>
 some (a.1,a.2)
theorem vB (p:Own c0 G F) (b:Int) {r:Int×Int} (H:ka b=some r): Calls prog 220 #[.int .u8 b] c0.w (aP c0 fun c v=>Own c G (F)∧v= .tuple #[.int .u8 r.1,.int .u8 r.2]):=by
 unfold ka at H;refine en func220 rfl rfl (sr (vv (.int .u8 0) (wln (W.seq (sr (va (.int .u8 b) (bn H fun o q H=>cl (pm p b q) ?_)))))));rintro v7 e y ⟨f,rfl⟩;refine va (B (decide (o < 2))) (wln (cn H (fun s H=>?_) (fun s H=>?_)))
 ·refine sr (vv (.int .u8 0) (wln (W.ret (thr ?_))));obtain rfl:=si H;exact r2 (qq e ⟨f,rfl⟩)
 refine W.skip (nrm (sr (va (.int .u8 128) (va (.int .u8 191) (wln (bn H fun d a g=>W.seqJ (Jn e fun c l=>Own c G (F)∧l= [(2,.int .u8 d.1),(3,.int .u8 d.2)]) ?_ ?_))))))
 ·refine sr (va (.int .u8 b) (wln (W.block (W.seq (W.block (W.seq (W.block (W.seq (W.block (W.seq (W.block (W.seq (W.seq (sr (vv (B (b==224)) (wln (cn a (fun j a=>?_) (fun j a=>?_))))))))))))))))))
  ·refine W.exit (thx (thx (bke (nrm (sr (va (.int .u8 160) (wln (W.exit (bko rfl (thx (bko rfl (thx (bko rfl (thx (bke (nrm ?_))))))))))))))));obtain rfl:=si a;exact jn e ⟨f,rfl⟩
  refine W.skip (nrm (W.seq (sr (vv (B (b==240)) (wln (cn a (fun k a=>?_) (fun k a=>?_)))))))
  ·refine W.exit (thx (thx (bko rfl (thx (bke (nrm (sr (va (.int .u8 144) (wln (W.exit (bko rfl (thx (bko rfl (thx (bke (nrm ?_))))))))))))))));obtain rfl:=si a;exact jn e ⟨f,rfl⟩
  refine W.skip (nrm (W.seq (sr (vv (B (b==244)) (wln (cn a (fun m a=>?_) (fun m a=>?_)))))))
  ·refine W.exit (thx (thx (bko rfl (thx (bko rfl (thx (bke (nrm (W.region (va (.int .u8 191) (vv (.int .u8 (IntKind.u8.wrap (191 - 16))) (WL.nil (bkn (nrm (sr (va (.int .u8 (IntKind.u8.wrap (191 - 16))) (vv (.int .u8 (IntKind.u8.wrap ((IntKind.u8.wrap (191 - 16)) - 32))) (wln (W.exit (bke (nrm ?_)))))))))))))))))))));obtain rfl:=si a;exact jn e ⟨f,rfl⟩
  refine W.skip (nrm (sr (vv (B (b==237)) (wln (cn a (fun n a=>?_) (fun n a=>?_))))))
  ·refine W.exit (thx (bko rfl (thx (bko rfl (thx (bko rfl (thx (bke (nrm (sr (va (.int .u8 191) (vv (.int .u8 (IntKind.u8.wrap (191 - 32))) (wln (W.exit (bke (nrm ?_))))))))))))))));obtain rfl:=si a;exact jn e ⟨f,rfl⟩
  refine W.skip (nrm (W.exit (bko rfl (thx (bko rfl (thx (bko rfl (thx (bko rfl (thx (bke (nrm ?_))))))))))));obtain rfl:=si a;exact jn e ⟨f,rfl⟩
 rintro x z ⟨i,t,_,rfl,u,rfl,h,rfl⟩;refine sr (va (.int .u8 d.1) (va (.int .u8 d.2) (va (.int .u8 d.1) (va (.int .u8 d.2) (wln (W.ret ?_))))));obtain rfl:=si g;exact r2 (qq i ⟨h,rfl⟩)
def cz (p0:bB):Option (Int):=
 if false=true then
 some 0
 else
 some p0.held
theorem lU {b:Nat} {r0_0:Value} {r0_6:Value} {r0_7:Value} {r0_8:Value} {r0_9:Value} {r0_10:Value} {r0_11:Value} (a:bB) (e:Own c0 G ((Eb b 184 [r0_0,I a.held,I a.needs,.int .u8 a.lo,.int .u8 a.hi,I a.bits,r0_6,r0_7,r0_8,r0_9,r0_10,r0_11]) :: F)) {r:Int} (H:cz a=some r): Calls prog 223 #[.pointer (some ⟨b,1,none⟩)] c0.w (aP c0 fun c v=>Own c G ((Eb b 184 [r0_0,I a.held,I a.needs,.int .u8 a.lo,.int .u8 a.hi,I a.bits,r0_6,r0_7,r0_8,r0_9,r0_10,r0_11]) :: F)∧v=I r):=by
 unfold cz at H;refine en func223 rfl rfl (sr (va (I 0) (wln (W.seq (sr (va (Qo b 1) (va (B false) (wln (W.cond (t:=false) (by kernel_rfl) (fun d=>?_) (fun d=>?_))))))))))
 ·cases d
 have H:=ie d H;refine W.skip (nrm (sr (vv (Qo b 1) (va (Qo b 1) (vx (le1 1 u_3 (e.on 0 rfl)) (va (I a.held) (wln (W.ret ?_))))))));obtain rfl:=si H;exact r1 (qq c0 ⟨e,rfl⟩)
def bH (p0:bB):Option (bB×(List Int)):=
 (cz p0).bind fun a=>
 if (a==0)=true then
 some (p0,([]:List Int))
 else
 some ((⟨0,0,0,0,0⟩:bB),([65533]:List Int))
theorem iC {a:Nat} {r0_0:Value} {r0_6:Value} {r0_7:Value} {r0_8:Value} {r0_9:Value} {r0_10:Value} {r0_11:Value} (b:bB) (q:Own c0 G ((Eb a 184 [r0_0,I b.held,I b.needs,.int .u8 b.lo,.int .u8 b.hi,I b.bits,r0_6,r0_7,r0_8,r0_9,r0_10,r0_11]) :: F)) {r:bB×(List Int)} (H:bH b=some r): Calls prog 167 #[.pointer (some ⟨a,1,none⟩)] c0.w (aP c0 fun c v=>∃d p,Own c G (es true (RI .i32) d 21 p r.2 :: (Eb a 184 [r0_0,I r.1.held,I r.1.needs,.int .u8 r.1.lo,.int .u8 r.1.hi,I r.1.bits,r0_6,r0_7,r0_8,r0_9,r0_10,r0_11]) :: F)∧v=d∧OA (RI .i32) c d p r.2):=by
 unfold bH at H;refine en func167 rfl rfl (sr (va (Y) (wln (W.seq (sr (va (Qo a 1) (bn H fun o s H=>cl (lU b q s) ?_)))))));rintro v8 k z ⟨i,rfl⟩;refine va (B (o==0)) (wln (cn H (fun t H=>?_) (fun t H=>?_)))
 ·refine sr (va (Y) (wln (W.ret (thr ?_))));obtain rfl:=si H;have l:OA (RI .i32) k (Y) [] []:=OA.nil (aZ _);have f:=i.addHole (e:=es true (RI .i32) (Y) 21 [] ([]:List Int)) rfl;exact r1 (qq k ⟨(Y),[],f,rfl,l⟩)
 refine W.skip (nrm (sr (va (Qo a 1) (va (.agg #[I 0,I 0,.int .u8 0,.int .u8 0,I 0]) (va (Qo a 1) (md (sB 179 1 [I 0,I 0,.int .u8 0,.int .u8 0,I 0] [r0_0,I 0,I 0,.int .u8 0,.int .u8 0,I 0,r0_6,r0_7,r0_8,r0_9,r0_10,r0_11] 0 i ⟨rfl,rfl,rfl,rfl,rfl,trivial⟩) ?_))))));rintro u x g;refine wln (sr (me (sl (RI .i32) 21 [[J 65533]] ([65533]:List Int) g ⟨rfl,trivial⟩) ?_));rintro v18 j y ⟨n,h,m⟩;refine va (v18) (wln (W.ret ?_));obtain rfl:=si H;exact r1 (qq j ⟨v18,n,h,rfl,m⟩)
def cr (p0:bB) (p1:Int):Option (bB×(List Int)):=
 (jq p1).bind fun a=>
 if (a==0)=true then
 some (p0,([65533]:List Int))
 else
 if (a==1)=true then
 some (p0,([(w32 p1)]:List Int))
 else
 (lM p1).bind fun c=>
 (ka p1).bind fun b=>
 some ((⟨1,(w64 (a - 1)),b.1,b.2,c⟩:bB),([]:List Int))
theorem iB {a:Nat} {r0_0:Value} {r0_6:Value} {r0_7:Value} {r0_8:Value} {r0_9:Value} {r0_10:Value} {r0_11:Value} (f:bB) (g:Int) (T:Own c0 G ((Eb a 184 [r0_0,I f.held,I f.needs,.int .u8 f.lo,.int .u8 f.hi,I f.bits,r0_6,r0_7,r0_8,r0_9,r0_10,r0_11]) :: F)) {r:bB×(List Int)} (H:cr f g=some r): Calls prog 222 #[.pointer (some ⟨a,1,none⟩),.int .u8 g] c0.w (aP c0 fun c v=>∃k S,Own c G (es true (RI .i32) k 21 S r.2 :: (Eb a 184 [r0_0,I r.1.held,I r.1.needs,.int .u8 r.1.lo,.int .u8 r.1.hi,I r.1.bits,r0_6,r0_7,r0_8,r0_9,r0_10,r0_11]) :: F)∧v=k∧OA (RI .i32) c k S r.2):=by
 unfold cr at H;refine en func222 rfl rfl (sr (va (Y) (wln (W.seq (sr (va (.int .u8 g) (bn H fun b X H=>cl (pm T g X) ?_)))))));rintro v7 c6 l6 ⟨j,rfl⟩;refine va (I b) (wln (sr (va (I b) (wln (W.block (sr (vv (B (b==0)) (wln (cn H (fun Z H=>?_) (fun Z H=>?_))))))))))
 ·refine sr (me (sl (RI .i32) 21 [[J 65533]] ([65533]:List Int) j ⟨rfl,trivial⟩) ?_);rintro v13 x h0 ⟨P,U,z⟩;refine va (v13) (wln (W.ret (bkr (thr ?_))));obtain rfl:=si H;exact r1 (qq x ⟨v13,P,U,rfl,z⟩)
 refine sr (vv (B (b==1)) (wln (cn H (fun A H=>?_) (fun A H=>?_))))
 ·refine sr (va (.int .u8 g) (va (J (w32 g)) (me (sl (RI .i32) 21 [[J (w32 g)]] ([(w32 g)]:List Int) j ⟨rfl,trivial⟩) ?_)));rintro v19 y i0 ⟨R,l,D⟩;refine va (v19) (wln (W.ret (bkr (thr ?_))));obtain rfl:=si H;exact r1 (qq y ⟨v19,R,l,rfl,D⟩)
 refine sr (vv (Qo a 1) (va (Qo a 1) (va (I b) (va (I (w64 (b - 1))) (va (.int .u8 g) (bn H fun h E H=>cl (xA j g E) ?_))))));rintro v26 a0 j0 ⟨m,rfl⟩;refine va (.pointer (some ⟨a,1,none⟩)) (va (Qo a 1) (md (sC 3 1 (I 1) [r0_0,I 1,I f.needs,.int .u8 f.lo,.int .u8 f.hi,I f.bits,r0_6,r0_7,r0_8,r0_9,r0_10,r0_11] 0 m ⟨rfl,trivial⟩) ?_));rintro b0 k0 n;refine va (.pointer (some ⟨a,1,none⟩)) (va (Qo a 2) (md (sC 3 2 (I (w64 (b - 1))) [r0_0,I 1,I (w64 (b - 1)),.int .u8 f.lo,.int .u8 f.hi,I f.bits,r0_6,r0_7,r0_8,r0_9,r0_10,r0_11] 0 n ⟨rfl,trivial⟩) ?_));rintro d0 l0 o;refine va (.pointer (some ⟨a,1,none⟩)) (va (Qo a 5) (md (sC 3 5 (I h) [r0_0,I 1,I (w64 (b - 1)),.int .u8 f.lo,.int .u8 f.hi,I h,r0_6,r0_7,r0_8,r0_9,r0_10,r0_11] 0 o ⟨rfl,trivial⟩) ?_));rintro e0 m0 p;refine wln (W.region (vv (Qo a 1) (va (.int .u8 g) (bn H fun d M H=>cl (vB p g M) ?_))));rintro v39 f0 o0 ⟨q,rfl⟩;refine va (.tuple #[.int .u8 d.1,.int .u8 d.2]) (va (.int .u8 d.1) (va (.int .u8 d.2) (va (Qo a 1) (va (Qo a 3) (md (sC 5 3 (.int .u8 d.1) [r0_0,I 1,I (w64 (b - 1)),.int .u8 d.1,.int .u8 f.hi,I h,r0_6,r0_7,r0_8,r0_9,r0_10,r0_11] 0 q ⟨rfl,trivial⟩) ?_)))));rintro g0 q0 s;refine va (.pointer (some ⟨a,1,none⟩)) (va (Qo a 4) (md (sC 5 4 (.int .u8 d.2) [r0_0,I 1,I (w64 (b - 1)),.int .u8 d.1,.int .u8 d.2,I h,r0_6,r0_7,r0_8,r0_9,r0_10,r0_11] 0 s ⟨rfl,trivial⟩) ?_));rintro i s0 t;refine WL.nil (bkn (nrm (sr (va (Y) (wln (W.ret ?_))))));obtain rfl:=si H;have N:OA (RI .i32) i (Y) [] []:=OA.nil (aZ _);have u:=t.addHole (e:=es true (RI .i32) (Y) 21 [] ([]:List Int)) rfl;exact r1 (qq i ⟨(Y),[],u,rfl,N⟩)
def cP (p0:bB) (p1:Int):Option (bB×(List Int)):=
 if false=true then
 some (p0,([]:List Int))
 else
 if (p0.held==0)=true then
 (cr p0 p1).bind fun a=>
 some (a.1,a.2)
 else
 (orE (decide (p1 < p0.lo)) (some (decide (p1 > p0.hi)))).bind fun d=>
 if d=true then
 (bH p0).bind fun b=>
 (cr b.1 p1).bind fun c=>
 (app b.2 c.2).bind fun e=>
 some (c.1,e)
 else
 if (decide ((w64 (p0.needs - 1)) > 0))=true then
 some ((⟨(w64 (p0.held+1)),(w64 (p0.needs - 1)),128,191,(iW .i64 (w64 (p0.bits * 2 ^ 6)) (w64 (fw .u8 p1 63)))⟩:bB),([]:List Int))
 else
 some ((⟨0,0,0,0,0⟩:bB),([(w32 (iW .i64 (w64 (p0.bits * 2 ^ 6)) (w64 (fw .u8 p1 63))))]:List Int))
theorem lT {a:Nat} {r0_0:Value} {r0_6:Value} {r0_7:Value} {r0_8:Value} {r0_9:Value} {r0_10:Value} {r0_11:Value} (b:bB) (d:Int) (h:Own c0 G ((Eb a 184 [r0_0,I b.held,I b.needs,.int .u8 b.lo,.int .u8 b.hi,I b.bits,r0_6,r0_7,r0_8,r0_9,r0_10,r0_11]) :: F)) {r:bB×(List Int)} (H:cP b d=some r): Calls prog 166 #[.pointer (some ⟨a,1,none⟩),.int .u8 d] c0.w (aP c0 fun c v=>∃x y2,Own c G (es true (RI .i32) x 21 y2 r.2 :: (Eb a 184 [r0_0,I r.1.held,I r.1.needs,.int .u8 r.1.lo,.int .u8 r.1.hi,I r.1.bits,r0_6,r0_7,r0_8,r0_9,r0_10,r0_11]) :: F)∧v=x∧OA (RI .i32) c x y2 r.2):=by
 unfold cP at H;refine en func166 rfl rfl (sr (va (Y) (wln (W.seq (W.block (sr (va (Qo a 1) (vv (B false) (wln (W.cond (t:=false) (by kernel_rfl) (fun s=>?_) (fun s=>?_)))))))))))
 ·cases s
 have H:=ie s H;refine sr (vv (Qo a 1) (va (Qo a 1) (vx (le1 1 u_3 (h.on 0 rfl)) (vv (B (b.held==0)) (wln (cn H (fun h2 H=>?_) (fun h2 H=>?_)))))))
 ·refine sr (va (Qo a 1) (va (.int .u8 d) (bn H fun z0 h4 H=>cl (iB b d h h4) ?_)));rintro v5 X q1 ⟨_,u6,O9,rfl,h7⟩;refine va (v5) (wln (W.ret (bkr (thr ?_))));obtain rfl:=si H;exact r1 (qq X ⟨v5,u6,O9,rfl,h7⟩)
 refine W.seq (bn H fun q o H=>W.join (Jn c0 fun c l=>Own c G ((Eb a 184 [r0_0,I b.held,I b.needs,.int .u8 b.lo,.int .u8 b.hi,I b.bits,r0_6,r0_7,r0_8,r0_9,r0_10,r0_11]) :: F)∧l= [(0,.pointer (some ⟨a,1,none⟩)),(1,.int .u8 d),(18,B q)]) ?_ ?_)
 ·clear H;refine W.region (va (.int .u8 d) (vv (Qo a 1) (va (Qo a 3) (vx (le1 3 u_5 (h.on 0 rfl)) (va (B (decide (d < b.lo))) ?_)))));rcases bo (decide (d < b.lo)) with f | f
  ·obtain rfl:=orT f o;exact vb f (pz (pz (pz (vv (B true) (wln (jn c0 ⟨h,rfl⟩))))))
  have y:=orF f o;refine vb f (wa (.int .u8 d) (wa (Qo a 1) (wa (Qo a 1) (wa (Qo a 4) (wn (vx (le1 4 u_5 (h.on 0 rfl)) (wa (B (decide (d > b.hi))) ?_)))))));obtain rfl:=si y;exact vv (B (decide (d > b.hi))) (wln (jn c0 ⟨h,rfl⟩))
 rintro e_ w_ ⟨c1,n1,_,rfl,s1,rfl,i,rfl⟩;refine nrm (cn H (fun b0 H=>?_) (fun b0 H=>?_))
 ·refine sr (va (Qo a 1) (bn H fun u d0 H=>cl (iC b i d0) ?_));rintro v26 d1 t1 ⟨_,g2,z,rfl,e0⟩;refine va (.pointer (some ⟨a,1,none⟩)) (va (.int .u8 d) ?_);have A:=z.sD 2 [1,0];refine bn H fun a1 f0 H=>cl (iB u.1 d A f0) ?_;rintro v37 e1 u1 ⟨_,i2,D,rfl,g0⟩;obtain ⟨f1,i0,v1,E,h0⟩:=D.frz 0 rfl g0;refine WL.gh i0 (bn H fun b1 j0 H=>me (ap (RI .i32) (J 0) 4 32 2 E e0.m h0 j0 cy) ?_);rintro v55 Z w1 ⟨q0,M,k0⟩;refine va (v55) (wln (W.ret (bkr (thr ?_))));obtain rfl:=si H;have N:=M.sD 3 [2,1];exact r1 (qq Z ⟨v55,q0,N,rfl,k0⟩)
 refine W.skip (bkn (nrm (sr (vv (Qo a 1) (va (Qo a 1) (va (Qo a 5) (vx (le1 5 u_3 (i.on 0 rfl)) (va (I (w64 (b.bits * 2 ^ 6))) (va (.int .u8 d) (va (.int .u8 (fw .u8 d 63)) (va (I (w64 (fw .u8 d 63))) (va (I (iW .i64 (w64 (b.bits * 2 ^ 6)) (w64 (fw .u8 d 63)))) (va (Qo a 1) (va (Qo a 5) (md (sC 3 5 (I (iW .i64 (w64 (b.bits * 2 ^ 6)) (w64 (fw .u8 d 63)))) [r0_0,I b.held,I b.needs,.int .u8 b.lo,.int .u8 b.hi,I (iW .i64 (w64 (b.bits * 2 ^ 6)) (w64 (fw .u8 d 63))),r0_6,r0_7,r0_8,r0_9,r0_10,r0_11] 0 i ⟨rfl,trivial⟩) ?_)))))))))))))));rintro g1 x1 P;refine wln (sr (vv (Qo a 1) (va (Qo a 1) (va (Qo a 3) (md (sC 5 3 (.int .u8 128) [r0_0,I b.held,I b.needs,.int .u8 128,.int .u8 b.hi,I (iW .i64 (w64 (b.bits * 2 ^ 6)) (w64 (fw .u8 d 63))),r0_6,r0_7,r0_8,r0_9,r0_10,r0_11] 0 P ⟨rfl,trivial⟩) ?_)))));rintro i1 z1 R;refine va (.pointer (some ⟨a,1,none⟩)) (va (Qo a 4) (md (sC 5 4 (.int .u8 191) [r0_0,I b.held,I b.needs,.int .u8 128,.int .u8 191,I (iW .i64 (w64 (b.bits * 2 ^ 6)) (w64 (fw .u8 d 63))),r0_6,r0_7,r0_8,r0_9,r0_10,r0_11] 0 R ⟨rfl,trivial⟩) ?_));rintro j1 b2 j;refine wln (sr (vv (Qo a 1) (va (Qo a 1) (vx (le1 1 u_3 (j.on 0 rfl)) (va (I (w64 (b.held+1))) (vv (Qo a 1) (md (sC 3 1 (I (w64 (b.held+1))) [r0_0,I (w64 (b.held+1)),I b.needs,.int .u8 128,.int .u8 191,I (iW .i64 (w64 (b.bits * 2 ^ 6)) (w64 (fw .u8 d 63))),r0_6,r0_7,r0_8,r0_9,r0_10,r0_11] 0 j ⟨rfl,trivial⟩) ?_)))))));rintro k1 c2 k;refine wln (sr (vv (Qo a 1) (va (Qo a 2) (vx (le1 2 u_3 (k.on 0 rfl)) (va (I (w64 (b.needs - 1))) (va (Qo a 1) (va (Qo a 2) (md (sC 3 2 (I (w64 (b.needs - 1))) [r0_0,I (w64 (b.held+1)),I (w64 (b.needs - 1)),.int .u8 128,.int .u8 191,I (iW .i64 (w64 (b.bits * 2 ^ 6)) (w64 (fw .u8 d 63))),r0_6,r0_7,r0_8,r0_9,r0_10,r0_11] 0 k ⟨rfl,trivial⟩) ?_))))))));rintro n d2 g;refine wln (W.seq (sr (vv (Qo a 1) (va (Qo a 2) (vx (le1 2 u_3 (g.on 0 rfl)) (va (B (decide ((w64 (b.needs - 1)) > 0))) (wln (cn H (fun l0 H=>?_) (fun l0 H=>?_)))))))))
 ·refine sr (va (Y) (wln (W.ret (thr ?_))));obtain rfl:=si H;have m0:OA (RI .i32) n (Y) [] []:=OA.nil (aZ _);have S:=g.addHole (e:=es true (RI .i32) (Y) 21 [] ([]:List Int)) rfl;exact r1 (qq n ⟨(Y),[],S,rfl,m0⟩)
 refine W.skip (nrm (sr (vv (Qo a 1) (va (Qo a 5) (vx (le1 5 u_3 (g.on 0 rfl)) (vv (J (w32 (iW .i64 (w64 (b.bits * 2 ^ 6)) (w64 (fw .u8 d 63))))) (wln (sr (va (Qo a 1) (va (.agg #[I 0,I 0,.int .u8 0,.int .u8 0,I 0]) (va (Qo a 1) (md (sB 179 1 [I 0,I 0,.int .u8 0,.int .u8 0,I 0] [r0_0,I 0,I 0,.int .u8 0,.int .u8 0,I 0,r0_6,r0_7,r0_8,r0_9,r0_10,r0_11] 0 g ⟨rfl,rfl,rfl,rfl,rfl,trivial⟩) ?_))))))))))));rintro m1 e2 T;refine wln (sr (va (J (w32 (iW .i64 (w64 (b.bits * 2 ^ 6)) (w64 (fw .u8 d 63))))) (me (sl (RI .i32) 21 [[J (w32 (iW .i64 (w64 (b.bits * 2 ^ 6)) (w64 (fw .u8 d 63))))]] ([(w32 (iW .i64 (w64 (b.bits * 2 ^ 6)) (w64 (fw .u8 d 63))))]:List Int) T ⟨rfl,trivial⟩) ?_)));rintro p a0 f2 ⟨s0,U,o0⟩;refine va (p) (wln (W.ret ?_));obtain rfl:=si H;exact r1 (qq a0 ⟨p,s0,U,rfl,o0⟩)
def gp (sg:Sto) (p0:Option Nat) (p1:List Int):Option (Sto):=
 if p0.isNone=true then
 some sg
 else
 (cv (σ:=Int×Sto) (τ:=Sto) (((p1.length:Int) - 0).toNat+1) (fun b=>
 if (decide (b.1 < (p1.length:Int)))=true then
 (idx p1 b.1).bind fun f=>
 (p0).bind fun d=>
 (b.2.feed_Feeder[d]?).bind fun a=>
 (cP a.dec f).bind fun e=>
 (b.2.set_feed_Feeder d (⟨a.pen,e.1,a.seg,a.open_⟩:bC)).bind fun c=>
 (gg c p0 e.2).bind fun g=>
 some (.inl ((w64 (b.1+1)),g))
 else
 some (.inr (b.2))) (0,sg)).bind fun h=>
 some h
theorem qX (M:Own c0 G F) (R0:Rel c0 sg G) (hG:Gl [2,4] c0) (j:Option Nat) (k:List Int) {r:Sto} (t:Pt 4 c0 v1 j) (u:Sl (RI .u8) c0 v3 k) (H:gp sg j k=some r): Calls prog 107 #[v1,v3] c0.w (aP c0 fun c v=>∃G_:Gm,Own c G_ (F)∧Rel c r G_∧v= .tuple #[]):=by
 unfold gp at H;refine en func107 rfl rfl (W.seq (sr (va (v1) (vr (B j.isNone) (by rcases (t).cs with ⟨p,s⟩ | ⟨b_,p,s⟩ <;> (subst p; rw [s]; kernel_rfl)) (wln (cn H (fun h5 H=>?_) (fun h5 H=>?_)))))))
 ·refine W.ret (thr ?_);obtain rfl:=si H;exact r0 (qq c0 ⟨G,M,R0,rfl⟩)
 refine W.skip (nrm (sr (va (v3) (vx (ln 3 tg u) (va (I 0) (wln (W.block (bn H fun y1 h6 E=>lp h6 (fun d=>Jn c0 fun c l=>∃G_,Own c G_ (F)∧l= [(0,v1),(8,v3),(9,I (k.length:Int)),(10,I d.1)]∧Rel c d.2 G_) (fun x ex e w=>ex= .exit 0∧(Jn c0 fun c l=>∃G_,Own c G_ (F)∧l= []∧Rel c x G_) e w) ?_ ?_ ?_))))))))
 ·clear E h6;intro d b2 i0 c1 H;revert i0 c1;rintro e_ w_ ⟨c8,g9,_,rfl,l8,rfl,z,n,rfl,h⟩;refine sr (va (B (decide (d.1 < (k.length:Int)))) (wln (W.seq (cn H (fun j0 H=>?_) (fun j0 H=>?_)))))
  ·refine W.skip (nrm (W.seq (W.block (sr (bn H fun f o H=>?_)))));obtain ⟨h1,k0,b1⟩:=Sl.at (u.mono l8) (aR o);obtain rfl:=k0;refine vx (ix tg u.m o) (vx (l1 u_5 (b1 0 _ rfl)) (va (.int .u8 f) (wln (W.region (vv (v1) (bn H fun g1 l0 H=>?_))))));obtain ⟨g,rfl,q⟩:=((t.mono l8)).get l0;refine va (Q g) (va (Qo g 1) (va (.int .u8 f) (bn H fun a m0 H=>?_)));obtain ⟨v23,v25,s0,o0,q0⟩:=Rel.open_feed_Feeder h m0 q;have N:=n.borrow 0 s0 rfl;refine bn H fun b t0 H=>cl (lT a.dec f N t0) ?_;rintro v31 n1 i ⟨_,z1,P,rfl,u0⟩;have S:=P.sD 2 [1,0];have R:=S.giveB 0 rfl;refine bn H fun y v0 H=>?_;obtain ⟨k1,T,d0,t1,m1⟩:=Rel.put_feed_Feeder R (h.mono i) (E':=[(Eb g 184 [v23,I b.1.held,I b.1.needs,.int .u8 b.1.lo,.int .u8 b.1.hi,I b.1.bits,B a.seg.some,I a.seg.last,I a.seg.pict,I a.seg.conj,B a.seg.odd,v25])]) v0 ⟨g,v23,v25,(tm q),rfl,(o0.mono i),(q0.mono i)⟩;obtain ⟨q1,x0,u1,U,w0⟩:=T.frz 0 rfl u0;refine WL.gh x0 (bn H fun j1 y0 H=>cl (nN U d0.m (hG.m.le (by decide)) j b.2 t.m w0 y0) ?_);rintro v58 g0 w1 ⟨A,X,e0,rfl⟩;refine WL.nil (bkn (nrm (W.region (vv (I (w64 (d.1+1))) (WL.nil ?_)))));obtain rfl:=si H;refine ⟨_,rfl,?_⟩;have Z:=X.sD 1 [];exact jn g0 ⟨A,Z,rfl,e0⟩
  refine W.exit (thx ?_);obtain rfl:=si H;exact ⟨_,rfl,rfl,jn c8 ⟨z,n,rfl,h⟩⟩
 ·exact jn c0 ⟨G,M,rfl,R0⟩
 rintro _ e_ w_ ⟨rfl,h0,s1,_,rfl,x1,rfl,D,a0,rfl,f0⟩;refine bke ?_;obtain rfl:=si E;exact n0 (qq h0 ⟨D,a0,f0,rfl⟩)
def go (sg:Sto) (p0:Option Nat):Option (Sto):=
 if p0.isNone=true then
 some sg
 else
 (p0).bind fun c=>
 (sg.feed_Feeder[c]?).bind fun a=>
 (bH a.dec).bind fun d=>
 (sg.set_feed_Feeder c (⟨a.pen,d.1,a.seg,a.open_⟩:bC)).bind fun b=>
 (gg b p0 d.2).bind fun f=>
 (cY f p0).bind fun e=>
 some e
theorem qW (l:Own c0 G F) (j:Rel c0 sg G) (hG:Gl [2,4] c0) (f:Option Nat) {r:Sto} (g:Pt 4 c0 v1 f) (H:go sg f=some r): Calls prog 108 #[v1] c0.w (aP c0 fun c v=>∃G_:Gm,Own c G_ (F)∧Rel c r G_∧v= .tuple #[]):=by
 unfold go at H;refine en func108 rfl rfl (W.seq (sr (va (v1) (vr (B f.isNone) (by rcases (g).cs with ⟨h,i⟩ | ⟨b_,h,i⟩ <;> (subst h; rw [i]; kernel_rfl)) (wln (cn H (fun h3 H=>?_) (fun h3 H=>?_)))))))
 ·refine W.ret (thr ?_);obtain rfl:=si H;exact r0 (qq c0 ⟨G,l,j,rfl⟩)
 refine W.skip (nrm (sr (vv (v1) (bn H fun s0 h6 H=>?_))));obtain ⟨d,rfl,h5⟩:=(g).get h6;refine va (Q d) (va (Qo d 1) (bn H fun a h7 H=>?_));obtain ⟨v8,v10,N,h9,M⟩:=Rel.open_feed_Feeder j h7 h5;have n:=l.borrow 0 N rfl;refine bn H fun b P H=>cl (iC a.dec n P) ?_;rintro v16 l0 e ⟨_,w0,o,rfl,R⟩;have q:=o.sD 2 [1,0];have p:=q.giveB 0 rfl;refine bn H fun b0 S H=>?_;obtain ⟨i0,s,z,q0,k0⟩:=Rel.put_feed_Feeder p (j.mono e) (E':=[(Eb d 184 [v8,I b.1.held,I b.1.needs,.int .u8 b.1.lo,.int .u8 b.1.hi,I b.1.bits,B a.seg.some,I a.seg.last,I a.seg.pict,I a.seg.conj,B a.seg.odd,v10])]) S ⟨d,v8,v10,(tm h5),rfl,(h9.mono e),(M.mono e)⟩;obtain ⟨m0,U,t0,t,T⟩:=s.frz 0 rfl R;refine WL.gh U (bn H fun x0 X H=>cl (nN t z.m (hG.m.le (by decide)) f b.2 g.m T X) ?_);rintro v43 o0 u0 ⟨j0,u,A,rfl⟩;refine wln (W.region (va (Q d) (bn H fun h0 Z H=>cl (iY u A f g.m Z) ?_)));rintro v50 E v0 ⟨k,x,D,rfl⟩;refine WL.nil ?_;obtain rfl:=si H;have y:=x.sD 1 [];exact n0 (qq E ⟨k,y,D,rfl⟩)
end Go.Proofs.YtclmdpamofdoiaaGreatDoor
