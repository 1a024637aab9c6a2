/- Parts of the proofs of ScreenRuns: the walk through the code, and plain Lean. No condition. -/
import Derived.Test.YthokmpbbkpjhbaaGreatDoorSrA
import Derived.Test.YthokmpbbkpjhbaaGreatDoorProg
import Derived.Test.YthokmpbbkpjhbaaGreatDoorSrB
set_option linter.unusedVariables false
set_option linter.unusedSimpArgs false
namespace Go.Proofs.YthokmpbbkpjhbaaGreatDoor
open Go Go.Lt
set_option maxRecDepth 10000
set_option linter.unusedVariables false
attribute [local irreducible] W WL AC
open Tryz
variable {c0:Cx} {G:Gm} {F:List En} {sg:Sto} {v1 v2 v3 v4 v5 v6 v7 v8 v9 v10 v11 v12 v13 v14 v15 v16 v17 v18 v19 v20 v21 v22 v23 v24 v25 v26 v27 v28 v29 v30 v31 v32 v33 v34 v35 v36 v37 v38 v39 v40 v41 v42 v43 v44 v45 v46 v47 v48 v49 v50 v51 v52 v53 v54 v55 v56 v57 v58 v59 v60:Value}
def iI:Option (List (Int×Int)):=
 some ([(13,13)]:List (Int×Int))
theorem qd (d:Own c0 G F) {r:List (Int×Int)} (H:iI=some r): Calls prog 131 #[] c0.w (aN c0 fun c v=>∃a b,Own c G (es true aX a 242 b r :: F)∧v=a∧OA aX c a b r):=by
 unfold iI at H;refine en func131 rfl rfl (sr (va (Y) (wln (sr (va (III 13 13) (me (sl aX 242 [[I 13,I 13]] ([(13,13)]:List (Int×Int)) d ⟨rfl,trivial⟩) ?_))))));rintro v5 f i ⟨h,e,g⟩;refine va (v5) (wln (W.ret ?_));obtain rfl:=si H;exact r1 (qq f ⟨v5,h,e,rfl,g⟩)
def iH:Option (List (Int×Int)):=
 some ([(10,10)]:List (Int×Int))
theorem qc (d:Own c0 G F) {r:List (Int×Int)} (H:iH=some r): Calls prog 132 #[] c0.w (aN c0 fun c v=>∃a b,Own c G (es true aX a 242 b r :: F)∧v=a∧OA aX c a b r):=by
 unfold iH at H;refine en func132 rfl rfl (sr (va (Y) (wln (sr (va (III 10 10) (me (sl aX 242 [[I 10,I 10]] ([(10,10)]:List (Int×Int)) d ⟨rfl,trivial⟩) ?_))))));rintro v5 f i ⟨h,e,g⟩;refine va (v5) (wln (W.ret ?_));obtain rfl:=si H;exact r1 (qq f ⟨v5,h,e,rfl,g⟩)
def iG:Option (List (Int×Int)):=
 some ([(0,9),(11,12),(14,31),(127,159),(173,173),(1564,1564),(6158,6158),(8203,8203),(8206,8207),(8232,8238),(8288,8303),(65279,65279),(65520,65531),(917504,917535),(917632,917759),(918000,921599)]:List (Int×Int))
theorem qb (d:Own c0 G F) {r:List (Int×Int)} (H:iG=some r): Calls prog 133 #[] c0.w (aN c0 fun c v=>∃a b,Own c G (es true aX a 242 b r :: F)∧v=a∧OA aX c a b r):=by
 unfold iG at H;refine en func133 rfl rfl (sr (va (Y) (wln (sr (va (III 0 9) (va (III 11 12) (va (III 14 31) (va (III 127 159) (va (III 173 173) (va (III 1564 1564) (va (III 6158 6158) (va (III 8203 8203) (va (III 8206 8207) (va (III 8232 8238) (va (III 8288 8303) (va (III 65279 65279) (va (III 65520 65531) (va (III 917504 917535) (va (III 917632 917759) (va (III 918000 921599) (me (sl aX 242 [[I 0,I 9],[I 11,I 12],[I 14,I 31],[I 127,I 159],[I 173,I 173],[I 1564,I 1564],[I 6158,I 6158],[I 8203,I 8203],[I 8206,I 8207],[I 8232,I 8238],[I 8288,I 8303],[I 65279,I 65279],[I 65520,I 65531],[I 917504,I 917535],[I 917632,I 917759],[I 918000,I 921599]] ([(0,9),(11,12),(14,31),(127,159),(173,173),(1564,1564),(6158,6158),(8203,8203),(8206,8207),(8232,8238),(8288,8303),(65279,65279),(65520,65531),(917504,917535),(917632,917759),(918000,921599)]:List (Int×Int)) d ⟨rfl,rfl,rfl,rfl,rfl,rfl,rfl,rfl,rfl,rfl,rfl,rfl,rfl,rfl,rfl,rfl,trivial⟩) ?_)))))))))))))))))))));rintro v5 f i ⟨h,e,g⟩;refine va (v5) (wln (W.ret ?_));obtain rfl:=si H;exact r1 (qq f ⟨v5,h,e,rfl,g⟩)
def fK:List (Int×Int):=[(768,879),(1155,1161),(1425,1469),(1471,1471),(1473,1474),(1476,1477),(1479,1479),(1552,1562),(1611,1631),(1648,1648),(1750,1756),(1759,1764),(1767,1768),(1770,1773),(1809,1809),(1840,1866),(1958,1968),(2027,2035),(2070,2073),(2075,2083),(2259,2273),(2275,2306),(2362,2362),(2364,2364),(2369,2376),(2381,2381),(2385,2391),(2402,2403),(2433,2433),(2492,2492),(2494,2494),(2497,2500),(2509,2509),(2519,2519),(2530,2531),(2561,2562),(2620,2620),(2625,2626),(2631,2632),(2635,2637),(2748,2748),(2753,2757),(2765,2765),(2876,2876),(2878,2879),(2881,2884),(2893,2893),(2902,2903),(3132,3132),(3134,3136),(3142,3144),(3146,3149),(3276,3277),(3390,3390),(3393,3396),(3405,3405),(3633,3633),(3636,3642),(3655,3662),(3761,3761),(3764,3772),(3864,3865),(3953,3966),(4957,4959),(6832,6862),(7616,7679),(8204,8204),(8400,8432),(12330,12335),(12441,12442),(42607,42610),(64286,64286),(65024,65039),(65056,65071),(127995,127999),(917536,917631),(917760,917999)]
def iF:Option (List (Int×Int)):=
 some fK
theorem qa (d:Own c0 G F) {r:List (Int×Int)} (H:iF=some r): Calls prog 134 #[] c0.w (aN c0 fun c v=>∃a b,Own c G (es true aX a 242 b r :: F)∧v=a∧OA aX c a b r):=by
 unfold iF at H;refine en func134 rfl rfl (sr (va (Y) (wln (sr (va (III 768 879) (va (III 1155 1161) (va (III 1425 1469) (va (III 1471 1471) (va (III 1473 1474) (va (III 1476 1477) (va (III 1479 1479) (va (III 1552 1562) (va (III 1611 1631) (va (III 1648 1648) (va (III 1750 1756) (va (III 1759 1764) (va (III 1767 1768) (va (III 1770 1773) (va (III 1809 1809) (va (III 1840 1866) (va (III 1958 1968) (va (III 2027 2035) (va (III 2070 2073) (va (III 2075 2083) (va (III 2259 2273) (va (III 2275 2306) (va (III 2362 2362) (va (III 2364 2364) (va (III 2369 2376) (va (III 2381 2381) (va (III 2385 2391) (va (III 2402 2403) (va (III 2433 2433) (va (III 2492 2492) (va (III 2494 2494) (va (III 2497 2500) (va (III 2509 2509) (va (III 2519 2519) (va (III 2530 2531) (va (III 2561 2562) (va (III 2620 2620) (va (III 2625 2626) (va (III 2631 2632) (va (III 2635 2637) (va (III 2748 2748) (va (III 2753 2757) (va (III 2765 2765) (va (III 2876 2876) (va (III 2878 2879) (va (III 2881 2884) (va (III 2893 2893) (va (III 2902 2903) (va (III 3132 3132) (va (III 3134 3136) (va (III 3142 3144) (va (III 3146 3149) (va (III 3276 3277) (va (III 3390 3390) (va (III 3393 3396) (va (III 3405 3405) (va (III 3633 3633) (va (III 3636 3642) (va (III 3655 3662) (va (III 3761 3761) (va (III 3764 3772) (va (III 3864 3865) (va (III 3953 3966) (va (III 4957 4959) (va (III 6832 6862) (va (III 7616 7679) (va (III 8204 8204) (va (III 8400 8432) (va (III 12330 12335) (va (III 12441 12442) (va (III 42607 42610) (va (III 64286 64286) (va (III 65024 65039) (va (III 65056 65071) (va (III 127995 127999) (va (III 917536 917631) (va (III 917760 917999) (me (Own.sl (R:=aX) (E:=242) (ls:=fK.map (fun x=>[I x.1,I x.2])) (vs:=(fK.map (fun x=>[I x.1,I x.2])).flatten) (xs:=fK) true d (aM _) rfl (oo.map _ (fun _=>rfl) _) (by kernel_rfl) (by kernel_rfl)) ?_))))))))))))))))))))))))))))))))))))))))))))))))))))))))))))))))))))))))))))))))));rintro v5 f i ⟨h,e,g⟩;refine va (v5) (wln (W.ret ?_));obtain rfl:=si H;exact r1 (qq f ⟨v5,h,e,rfl,g⟩)
def iE:Option (List (Int×Int)):=
 some ([(8205,8205)]:List (Int×Int))
theorem pZ (d:Own c0 G F) {r:List (Int×Int)} (H:iE=some r): Calls prog 135 #[] c0.w (aN c0 fun c v=>∃a b,Own c G (es true aX a 242 b r :: F)∧v=a∧OA aX c a b r):=by
 unfold iE at H;refine en func135 rfl rfl (sr (va (Y) (wln (sr (va (III 8205 8205) (me (sl aX 242 [[I 8205,I 8205]] ([(8205,8205)]:List (Int×Int)) d ⟨rfl,trivial⟩) ?_))))));rintro v5 f i ⟨h,e,g⟩;refine va (v5) (wln (W.ret ?_));obtain rfl:=si H;exact r1 (qq f ⟨v5,h,e,rfl,g⟩)
def iD:Option (List (Int×Int)):=
 some ([(127462,127487)]:List (Int×Int))
theorem pY (d:Own c0 G F) {r:List (Int×Int)} (H:iD=some r): Calls prog 136 #[] c0.w (aN c0 fun c v=>∃a b,Own c G (es true aX a 242 b r :: F)∧v=a∧OA aX c a b r):=by
 unfold iD at H;refine en func136 rfl rfl (sr (va (Y) (wln (sr (va (III 127462 127487) (me (sl aX 242 [[I 127462,I 127487]] ([(127462,127487)]:List (Int×Int)) d ⟨rfl,trivial⟩) ?_))))));rintro v5 f i ⟨h,e,g⟩;refine va (v5) (wln (W.ret ?_));obtain rfl:=si H;exact r1 (qq f ⟨v5,h,e,rfl,g⟩)
def iC:Option (List (Int×Int)):=
 some ([(1536,1541),(1757,1757),(1807,1807),(2192,2193),(2274,2274),(3406,3406),(69821,69821),(69837,69837)]:List (Int×Int))
theorem pX (d:Own c0 G F) {r:List (Int×Int)} (H:iC=some r): Calls prog 137 #[] c0.w (aN c0 fun c v=>∃a b,Own c G (es true aX a 242 b r :: F)∧v=a∧OA aX c a b r):=by
 unfold iC at H;refine en func137 rfl rfl (sr (va (Y) (wln (sr (va (III 1536 1541) (va (III 1757 1757) (va (III 1807 1807) (va (III 2192 2193) (va (III 2274 2274) (va (III 3406 3406) (va (III 69821 69821) (va (III 69837 69837) (me (sl aX 242 [[I 1536,I 1541],[I 1757,I 1757],[I 1807,I 1807],[I 2192,I 2193],[I 2274,I 2274],[I 3406,I 3406],[I 69821,I 69821],[I 69837,I 69837]] ([(1536,1541),(1757,1757),(1807,1807),(2192,2193),(2274,2274),(3406,3406),(69821,69821),(69837,69837)]:List (Int×Int)) d ⟨rfl,rfl,rfl,rfl,rfl,rfl,rfl,rfl,trivial⟩) ?_)))))))))))));rintro v5 f i ⟨h,e,g⟩;refine va (v5) (wln (W.ret ?_));obtain rfl:=si H;exact r1 (qq f ⟨v5,h,e,rfl,g⟩)
def fJ:List (Int×Int):=[(2307,2307),(2363,2363),(2366,2368),(2377,2380),(2382,2383),(2434,2435),(2495,2496),(2503,2504),(2507,2508),(2563,2563),(2622,2624),(2691,2691),(2750,2752),(2761,2761),(2818,2819),(2880,2880),(2887,2888),(3073,3075),(3137,3140),(3330,3331),(3391,3392),(3398,3400),(3635,3635),(3763,3763),(3902,3903),(4155,4156)]
def iB:Option (List (Int×Int)):=
 some fJ
theorem pW (d:Own c0 G F) {r:List (Int×Int)} (H:iB=some r): Calls prog 138 #[] c0.w (aN c0 fun c v=>∃a b,Own c G (es true aX a 242 b r :: F)∧v=a∧OA aX c a b r):=by
 unfold iB at H;refine en func138 rfl rfl (sr (va (Y) (wln (sr (va (III 2307 2307) (va (III 2363 2363) (va (III 2366 2368) (va (III 2377 2380) (va (III 2382 2383) (va (III 2434 2435) (va (III 2495 2496) (va (III 2503 2504) (va (III 2507 2508) (va (III 2563 2563) (va (III 2622 2624) (va (III 2691 2691) (va (III 2750 2752) (va (III 2761 2761) (va (III 2818 2819) (va (III 2880 2880) (va (III 2887 2888) (va (III 3073 3075) (va (III 3137 3140) (va (III 3330 3331) (va (III 3391 3392) (va (III 3398 3400) (va (III 3635 3635) (va (III 3763 3763) (va (III 3902 3903) (va (III 4155 4156) (me (Own.sl (R:=aX) (E:=242) (ls:=fJ.map (fun x=>[I x.1,I x.2])) (vs:=(fJ.map (fun x=>[I x.1,I x.2])).flatten) (xs:=fJ) true d (aM _) rfl (oo.map _ (fun _=>rfl) _) (by kernel_rfl) (by kernel_rfl)) ?_)))))))))))))))))))))))))))))));rintro v5 f i ⟨h,e,g⟩;refine va (v5) (wln (W.ret ?_));obtain rfl:=si H;exact r1 (qq f ⟨v5,h,e,rfl,g⟩)
def dK (p0:List (Int×Int)) (p1:Int):Option (Bool):=
 (cE (σ:=Int) (τ:=Bool ⊕ Unit) (((p0.length:Int) - 0).toNat+1) (fun b=>
 if (decide (b < (p0.length:Int)))=true then
 (idx p0 b).bind fun d=>
 (bI (decide ((w64 p1)≥d.1)) ((idx p0 b).bind fun e=>
 some (decide ((w64 p1)≤e.2)))).bind fun c=>
 if c=true then
 some (.inr (.inl true))
 else
 some (.inl ((w64 (b+1))))
 else
 some (.inr (.inr ()))) (0)).bind fun a=>
 match a with
 | .inl a=>
 some a
 | .inr a=>
 some false
theorem jJ (O0:Own c0 G F) (A:List (Int×Int)) (b:Int) {r:Bool} (g:Sl aX c0 v1 A) (H:dK A b=some r): Calls prog 139 #[v1,J b] c0.w (aN c0 fun c v=>Own c G (F)∧v=B r):=by
 unfold dK at H;refine en func139 rfl rfl (sr (va (B false) (wln (W.seq (sr (va (I 0) (wln (W.block (bn H fun h h3 u=>lp h3 (fun a=>Jn c0 fun c l=>Own c G (F)∧l= [(0,v1),(1,J b),(5,I a)]) (fun t=>match t with | .inl E=>(fun g0 ex e w=>ex= .ret∧(Jn c0 fun c l=>Own c G (F)∧l= [(4,B g0)]) e w) E | .inr E=>(fun l0 ex e w=>ex= .exit 0∧(Jn c0 fun c l=>Own c G (F)∧l= []) e w) E) ?_ ?_ ?_)))))))))
 ·clear u h3;intro a v0 S h0 H;revert S h0;rintro z D ⟨k,g6,_,rfl,l5,rfl,x,rfl⟩;refine W.seq (sr (va (I a) (va (v1) (vx (ln 3 wB g.m) (va (B (decide (a < (A.length:Int)))) (wln (cn H (fun U H=>?_) (fun U H=>?_))))))))
  ·refine W.skip (nrm (W.seq (W.block (W.seq (bn H fun i p H=>bn H fun y q H=>W.join (Jn k fun c l=>Own c G (F)∧l= [(0,v1),(1,J b),(5,I a),(29,B y)]) ?_ ?_)))))
   ·clear H;refine W.region (va (J b) (va (I (w64 b)) (va (v1) (va (I a) ?_))));obtain ⟨j0,X,e0⟩:=Sl.at (g.mono l5) (aT p);obtain rfl:=X;refine vx (ix wB g.m p) (va (Qo (sb v1) (so v1+a.toNat * 2)) (vx (l1 u_3 (e0 0 _ rfl)) (va (B (decide ((w64 b)≥i.1))) ?_)));rcases bo (decide ((w64 b)≥i.1)) with d | d
    ·have f:=anT d q;refine vb d (wa (J b) (wa (I (w64 b)) (wa (v1) (wa (I a) (wn (bn f fun j s f=>?_))))));obtain ⟨k0,Z,f0⟩:=Sl.at (g.mono l5) (aT s);obtain rfl:=Z;refine vx (ix wB g.m s) (wa (Qo (sb v1) (so v1+a.toNat * 2+1)) (wn (vx (l1 u_3 (f0 1 _ rfl)) (wa (B (decide ((w64 b)≤j.2))) ?_))));obtain rfl:=si f;exact va (B (decide ((w64 b)≤j.2))) (wln (jn k ⟨x,rfl⟩))
    obtain rfl:=anF d q;exact vb d (pz (pz (pz (pz (va (B false) (wln (jn k ⟨x,rfl⟩)))))))
   rintro z D ⟨o,m0,_,rfl,s0,rfl,n,rfl⟩;refine nrm (cn H (fun a0 H=>?_) (fun a0 H=>?_))
   ·refine sr (va (B true) (wln (W.ret (bkr (thr ?_)))));obtain rfl:=si H;exact ⟨_,rfl,⟨rfl,jn o ⟨n,rfl⟩⟩⟩
   refine W.skip (bkn (nrm (W.region (va (I a) (vv (I (w64 (a+1))) (WL.nil ?_))))));obtain rfl:=si H;exact ⟨_,rfl,jn o ⟨n,rfl⟩⟩
  refine W.exit (thx ?_);obtain rfl:=si H;exact ⟨_,rfl,rfl,jn k ⟨x,rfl⟩⟩
 ·exact jn c0 ⟨O0,rfl⟩
 rcases h with h | h
 ·intro T; revert T;rintro _ z D ⟨rfl,P,o0,_,rfl,t0,rfl,M,rfl⟩;refine bkr (thr ?_);obtain rfl:=si u;exact r1 (qq P ⟨M,rfl⟩)
 rintro _ z D ⟨rfl,R,q0,_,rfl,u0,rfl,N,rfl⟩;refine bke (nrm (sr (va (B false) (wln (W.ret ?_)))));obtain rfl:=si u;exact r1 (qq R ⟨N,rfl⟩)
def dw (p0:Int):Option (Int×Int×Int):=
 (orE (decide ((w64 p0) < 44032)) (some (decide ((w64 p0) > 55203)))).bind fun e=>
 if e=true then
 some (0,0,0)
 else
 (cE (σ:=Int×Int) (τ:=(Int×Int×Int) ⊕ Unit) (((4370:Int) - 4352).toNat+2) (fun d=>
 if (decide (d.2≤4370))=true then
 (cE (σ:=Int×Int) (τ:=(Int×Int×Int) ⊕ Int) (((4469:Int) - 4449).toNat+2) (fun a=>
 if (decide (a.2≤4469))=true then
 if (decide ((w64 p0) < (w64 (a.1+28))))=true then
 (if ((w64 ((w64 (4519+(w64 p0))) - a.1))==4519)=true then
 some (0)
 else
 some ((w64 ((w64 (4519+(w64 p0))) - a.1)))).bind fun f=>
 some (.inr (.inl (d.2,a.2,f)))
 else
 some (.inl ((w64 (a.1+28)),(w64 (a.2+1))))
 else
 some (.inr (.inr (a.1)))) (d.1,4449)).bind fun b=>
 match b with
 | .inl b=>
 some (.inr (.inl b))
 | .inr b=>
 some (.inl (b,(w64 (d.2+1))))
 else
 some (.inr (.inr ()))) (44032,4352)).bind fun c=>
 match c with
 | .inl c=>
 some c
 | .inr c=>
 some (0,0,0)
theorem qe (T:Own c0 G F) (d:Int) {r:Int×Int×Int} (H:dw d=some r): Calls prog 201 #[J d] c0.w (aN c0 fun c v=>Own c G (F)∧v= .tuple #[I r.1,I r.2.1,I r.2.2]):=by
 unfold dw at H;refine en func201 rfl rfl (sr (vv (I 0) (va (I 0) (wln (sr (va (J d) (vv (I (w64 d)) (wln (W.seq (W.seq (bn H fun R h1 H=>W.join (Jn c0 fun c l=>Own c G (F)∧l= [(5,I (w64 d)),(17,B R)]) ?_ ?_)))))))))))
 ·clear H;refine W.region (va (I (w64 d)) (va (B (decide ((w64 d) < 44032))) ?_));rcases bo (decide ((w64 d) < 44032)) with A | A
  ·obtain rfl:=orT A h1;exact vb A (pz (va (B true) (wln (jn c0 ⟨T,rfl⟩))))
  have H3:=orF A h1;refine vb A (wa (I (w64 d)) (wa (B (decide ((w64 d) > 55203))) ?_));obtain rfl:=si H3;exact va (B (decide ((w64 d) > 55203))) (wln (jn c0 ⟨T,rfl⟩))
 rintro j n ⟨x,g5,_,rfl,l4,rfl,O6,rfl⟩;refine nrm (cn H (fun k0 H=>?_) (fun k0 H=>?_))
 ·refine sr (vv (I 0) (va (I 0) (wln (W.ret (thr ?_)))));obtain rfl:=si H;exact r3 (qq x ⟨O6,rfl⟩)
 refine W.skip (nrm (sr (va (I 44032) (wln (W.seq (sr (va (I 4352) (wln (W.block (bn H fun k N s=>lp N (fun b=>Jn x fun c l=>Own c G (F)∧l= [(5,I (w64 d)),(6,I b.1),(7,I b.2)]) (fun t=>match t with | .inl o=>(fun f ex e w=>ex= .ret∧(Jn x fun c l=>Own c G (F)∧l= [(2,I f.1),(3,I f.2.1),(4,I f.2.2)]) e w) o | .inr o=>(fun t0 ex e w=>ex= .exit 0∧(Jn x fun c l=>Own c G (F)∧l= []) e w) o) ?_ ?_ ?_))))))))))
 ·clear s N;intro b s0 y D H;revert y D;rintro j n ⟨h,v0,_,rfl,c1,rfl,M,rfl⟩;refine W.seq (sr (va (I b.2) (va (B (decide (b.2≤4370))) (wln (cn H (fun l0 H=>?_) (fun l0 H=>?_))))))
  ·refine W.skip (nrm (W.seq (W.block (sr (va (I 4449) (wln (W.block (bn H fun m P u=>lp P (fun a=>Jn h fun c l=>Own c G (F)∧l= [(5,I (w64 d)),(6,I a.1),(7,I b.2),(8,I a.2)]) (fun t=>match t with | .inl o=>(fun f ex e w=>ex= .ret∧(Jn h fun c l=>Own c G (F)∧l= [(2,I f.1),(3,I f.2.1),(4,I f.2.2)]) e w) o | .inr o=>(fun E ex e w=>ex= .exit 2∧(Jn h fun c l=>Own c G (F)∧l= [(5,I (w64 d)),(6,I E),(7,I b.2)]) e w) o) ?_ ?_ ?_))))))))
   ·clear u P;intro a s0 y D H;revert y D;rintro j n ⟨i,w0,_,rfl,d1,rfl,q,rfl⟩;refine W.seq (sr (va (I a.2) (va (B (decide (a.2≤4469))) (wln (cn H (fun m0 H=>?_) (fun m0 H=>?_))))))
    ·refine W.skip (nrm (W.seq (W.block (W.seq (sr (va (I (w64 d)) (va (I a.1) (va (I (w64 (a.1+28))) (va (B (decide ((w64 d) < (w64 (a.1+28))))) (wln (cn H (fun o0 H=>?_) (fun o0 H=>?_))))))))))))
     ·refine sr (va (I (w64 d)) (va (I (w64 (4519+(w64 d)))) (va (I a.1) (vv (I (w64 ((w64 (4519+(w64 d))) - a.1))) (wln (bn H fun p g S=>W.seqJ (Jn i fun c l=>Own c G (F)∧l= [(7,I b.2),(8,I a.2),(9,I p)]) ?_ ?_))))))
      ·refine sr (va (I (w64 ((w64 (4519+(w64 d))) - a.1))) (va (B ((w64 ((w64 (4519+(w64 d))) - a.1))==4519)) (wln (cn g (fun q0 g=>?_) (fun q0 g=>?_)))))
       ·refine W.region (va (I 0) (wln ?_));obtain rfl:=si g;exact jn i ⟨q,rfl⟩
       refine W.skip (nrm ?_);obtain rfl:=si g;exact jn i ⟨q,rfl⟩
      rintro j n ⟨e0,x0,_,rfl,e1,rfl,U,rfl⟩;refine sr (va (I b.2) (va (I a.2) (va (I p) (va (I b.2) (va (I a.2) (va (I p) (wln (W.ret (thr (bkr (thr ?_)))))))))));obtain rfl:=si S;exact ⟨_,rfl,⟨rfl,jn e0 ⟨U,rfl⟩⟩⟩
     refine W.skip (nrm (W.region (va (I a.1) (vv (I (w64 (a.1+28))) (WL.nil (bkn (nrm (W.region (va (I a.2) (vv (I (w64 (a.2+1))) (WL.nil ?_)))))))))));obtain rfl:=si H;exact ⟨_,rfl,jn i ⟨q,rfl⟩⟩
    refine W.exit (thx ?_);obtain rfl:=si H;exact ⟨_,rfl,rfl,jn i ⟨q,rfl⟩⟩
   ·exact jn h ⟨M,rfl⟩
   rcases m with m | m
   ·intro z; revert z;rintro _ j n ⟨rfl,f0,y0,_,rfl,f1,rfl,X,rfl⟩;refine bkr (bkr (thr ?_));obtain rfl:=si u;exact ⟨_,rfl,⟨rfl,jn f0 ⟨X,rfl⟩⟩⟩
   rintro _ j n ⟨rfl,g0,z0,_,rfl,g1,rfl,Z,rfl⟩;refine bke (bkn (nrm (W.region (va (I b.2) (vv (I (w64 (b.2+1))) (WL.nil ?_))))));obtain rfl:=si u;exact ⟨_,rfl,jn g0 ⟨Z,rfl⟩⟩
  refine W.exit (thx ?_);obtain rfl:=si H;exact ⟨_,rfl,rfl,jn h ⟨M,rfl⟩⟩
 ·exact jn x ⟨O6,rfl⟩
 rcases k with k | k
 ·intro z; revert z;rintro _ j n ⟨rfl,h0,a1,_,rfl,i1,rfl,a0,rfl⟩;refine bkr (thr ?_);obtain rfl:=si s;exact r3 (qq h0 ⟨a0,rfl⟩)
 rintro _ j n ⟨rfl,i0,b1,_,rfl,j1,rfl,b0,rfl⟩;refine bke (nrm (sr (vv (I 0) (va (I 0) (wln (W.ret ?_))))));obtain rfl:=si s;exact r3 (qq i0 ⟨b0,rfl⟩)
def ep (p0:Int):Option (Int):=
 (bI (decide ((w64 p0)≥4352)) (some (decide ((w64 p0)≤4447)))).bind fun j=>
 (orE j ((bI (decide ((w64 p0)≥43360)) (some (decide ((w64 p0)≤43388)))).bind fun c=>
 some c)).bind fun b=>
 if b=true then
 some 9
 else
 (bI (decide ((w64 p0)≥4448)) (some (decide ((w64 p0)≤4519)))).bind fun d=>
 (orE d ((bI (decide ((w64 p0)≥55216)) (some (decide ((w64 p0)≤55238)))).bind fun f=>
 some f)).bind fun e=>
 if e=true then
 some 10
 else
 (bI (decide ((w64 p0)≥4520)) (some (decide ((w64 p0)≤4607)))).bind fun g=>
 (orE g ((bI (decide ((w64 p0)≥55243)) (some (decide ((w64 p0)≤55291)))).bind fun i=>
 some i)).bind fun h=>
 if h=true then
 some 11
 else
 (dw p0).bind fun a=>
 if (a.1==0)=true then
 some 0
 else
 if (a.2.2==0)=true then
 some 12
 else
 some 13
theorem qf (z:Own c0 G F) (a:Int) {r:Int} (H:ep a=some r): Calls prog 140 #[J a] c0.w (aN c0 fun c v=>Own c G (F)∧v=I r):=by
 unfold ep at H;refine en func140 rfl rfl (sr (va (I 0) (wln (sr (va (J a) (vv (I (w64 a)) (wln (W.seq (W.seq (bn H fun s1 h1 H=>bn H fun i0 h2 H=>W.join (Jn c0 fun c l=>Own c G (F)∧l= [(0,J a),(3,I (w64 a)),(22,B i0)]) ?_ ?_))))))))))
 ·clear H;refine W.region (va (I (w64 a)) (va (B (decide ((w64 a)≥4352))) ?_));rcases bo (decide ((w64 a)≥4352)) with M | M
  ·have H4:=anT M h1;refine vb M (wa (I (w64 a)) (wa (B (decide ((w64 a)≤4447))) ?_));obtain rfl:=si H4;refine va (B (decide ((w64 a)≤4447))) ?_;rcases bo (decide ((w64 a)≤4447)) with P | P
   ·obtain rfl:=orT P h2;exact vb P (pz (pz (pz (va (B true) (wln (jn c0 ⟨z,rfl⟩))))))
   have S:=orF P h2;refine vb P (wa (I (w64 a)) (wa (B (decide ((w64 a)≥43360))) (wn (bn S fun j0 h7 S=>?_))));rcases bo (decide ((w64 a)≥43360)) with R | R
   ·have H9:=anT R h7;refine vb R (wa (I (w64 a)) (wa (B (decide ((w64 a)≤43388))) (wn ?_)));obtain rfl:=si H9;refine va (B (decide ((w64 a)≤43388))) ?_;obtain rfl:=si S;exact va (B (decide ((w64 a)≤43388))) (wln (jn c0 ⟨z,rfl⟩))
   obtain rfl:=anF R h7;refine vb R (pz (wa (B false) ?_));obtain rfl:=si S;exact va (B false) (wln (jn c0 ⟨z,rfl⟩))
  obtain rfl:=anF M h1;refine vb M (pz (va (B false) ?_));have U:false=false:=rfl;have s:=orF U h2;refine vb U (wa (I (w64 a)) (wa (B (decide ((w64 a)≥43360))) (wn (bn s fun j0 X s=>?_))));rcases bo (decide ((w64 a)≥43360)) with h | h
  ·have s0:=anT h X;refine vb h (wa (I (w64 a)) (wa (B (decide ((w64 a)≤43388))) (wn ?_)));obtain rfl:=si s0;refine va (B (decide ((w64 a)≤43388))) ?_;obtain rfl:=si s;exact va (B (decide ((w64 a)≤43388))) (wln (jn c0 ⟨z,rfl⟩))
  obtain rfl:=anF h X;refine vb h (pz (wa (B false) ?_));obtain rfl:=si s;exact va (B false) (wln (jn c0 ⟨z,rfl⟩))
 rintro e_ w_ ⟨d,t1,_,rfl,w1,rfl,f,rfl⟩;refine nrm (cn H (fun c1 H=>?_) (fun c1 H=>?_))
 ·refine sr (va (I 9) (wln (W.ret (thr ?_))));obtain rfl:=si H;exact r1 (qq d ⟨f,rfl⟩)
 refine W.skip (nrm (W.seq (W.seq (bn H fun p1 Z H=>bn H fun k0 E H=>W.join (Jn d fun c l=>Own c G (F)∧l= [(0,J a),(3,I (w64 a)),(36,B k0)]) ?_ ?_))))
 ·clear H;refine W.region (va (I (w64 a)) (va (B (decide ((w64 a)≥4448))) ?_));rcases bo (decide ((w64 a)≥4448)) with i | i
  ·have t0:=anT i Z;refine vb i (wa (I (w64 a)) (wa (B (decide ((w64 a)≤4519))) ?_));obtain rfl:=si t0;refine va (B (decide ((w64 a)≤4519))) ?_;rcases bo (decide ((w64 a)≤4519)) with j | j
   ·obtain rfl:=orT j E;exact vb j (pz (pz (pz (va (B true) (wln (jn d ⟨f,rfl⟩))))))
   have t:=orF j E;refine vb j (wa (I (w64 a)) (wa (B (decide ((w64 a)≥55216))) (wn (bn t fun l0 a0 t=>?_))));rcases bo (decide ((w64 a)≥55216)) with k | k
   ·have u0:=anT k a0;refine vb k (wa (I (w64 a)) (wa (B (decide ((w64 a)≤55238))) (wn ?_)));obtain rfl:=si u0;refine va (B (decide ((w64 a)≤55238))) ?_;obtain rfl:=si t;exact va (B (decide ((w64 a)≤55238))) (wln (jn d ⟨f,rfl⟩))
   obtain rfl:=anF k a0;refine vb k (pz (wa (B false) ?_));obtain rfl:=si t;exact va (B false) (wln (jn d ⟨f,rfl⟩))
  obtain rfl:=anF i Z;refine vb i (pz (va (B false) ?_));have b0:false=false:=rfl;have u:=orF b0 E;refine vb b0 (wa (I (w64 a)) (wa (B (decide ((w64 a)≥55216))) (wn (bn u fun l0 d0 u=>?_))));rcases bo (decide ((w64 a)≥55216)) with m | m
  ·have v0:=anT m d0;refine vb m (wa (I (w64 a)) (wa (B (decide ((w64 a)≤55238))) (wn ?_)));obtain rfl:=si v0;refine va (B (decide ((w64 a)≤55238))) ?_;obtain rfl:=si u;exact va (B (decide ((w64 a)≤55238))) (wln (jn d ⟨f,rfl⟩))
  obtain rfl:=anF m d0;refine vb m (pz (wa (B false) ?_));obtain rfl:=si u;exact va (B false) (wln (jn d ⟨f,rfl⟩))
 rintro e_ w_ ⟨e,u1,_,rfl,x1,rfl,g,rfl⟩;refine nrm (cn H (fun d1 H=>?_) (fun d1 H=>?_))
 ·refine sr (va (I 10) (wln (W.ret (thr ?_))));obtain rfl:=si H;exact r1 (qq e ⟨g,rfl⟩)
 refine W.skip (nrm (W.seq (W.seq (bn H fun q1 e0 H=>bn H fun m0 N H=>W.join (Jn e fun c l=>Own c G (F)∧l= [(0,J a),(50,B m0)]) ?_ ?_))))
 ·clear H;refine W.region (va (I (w64 a)) (va (B (decide ((w64 a)≥4520))) ?_));rcases bo (decide ((w64 a)≥4520)) with n | n
  ·have w0:=anT n e0;refine vb n (wa (I (w64 a)) (wa (B (decide ((w64 a)≤4607))) ?_));obtain rfl:=si w0;refine va (B (decide ((w64 a)≤4607))) ?_;rcases bo (decide ((w64 a)≤4607)) with o | o
   ·obtain rfl:=orT o N;exact vb o (pz (pz (pz (va (B true) (wln (jn e ⟨g,rfl⟩))))))
   have x:=orF o N;refine vb o (wa (I (w64 a)) (wa (B (decide ((w64 a)≥55243))) (wn (bn x fun o0 f0 x=>?_))));rcases bo (decide ((w64 a)≥55243)) with p | p
   ·have x0:=anT p f0;refine vb p (wa (I (w64 a)) (wa (B (decide ((w64 a)≤55291))) (wn ?_)));obtain rfl:=si x0;refine va (B (decide ((w64 a)≤55291))) ?_;obtain rfl:=si x;exact va (B (decide ((w64 a)≤55291))) (wln (jn e ⟨g,rfl⟩))
   obtain rfl:=anF p f0;refine vb p (pz (wa (B false) ?_));obtain rfl:=si x;exact va (B false) (wln (jn e ⟨g,rfl⟩))
  obtain rfl:=anF n e0;refine vb n (pz (va (B false) ?_));have g0:false=false:=rfl;have y:=orF g0 N;refine vb g0 (wa (I (w64 a)) (wa (B (decide ((w64 a)≥55243))) (wn (bn y fun o0 h0 y=>?_))));rcases bo (decide ((w64 a)≥55243)) with q | q
  ·have y0:=anT q h0;refine vb q (wa (I (w64 a)) (wa (B (decide ((w64 a)≤55291))) (wn ?_)));obtain rfl:=si y0;refine va (B (decide ((w64 a)≤55291))) ?_;obtain rfl:=si y;exact va (B (decide ((w64 a)≤55291))) (wln (jn e ⟨g,rfl⟩))
  obtain rfl:=anF q h0;refine vb q (pz (wa (B false) ?_));obtain rfl:=si y;exact va (B false) (wln (jn e ⟨g,rfl⟩))
 rintro e_ w_ ⟨z0,v1,_,rfl,y1,rfl,T,rfl⟩;refine nrm (cn H (fun e1 H=>?_) (fun e1 H=>?_))
 ·refine sr (va (I 11) (wln (W.ret (thr ?_))));obtain rfl:=si H;exact r1 (qq z0 ⟨T,rfl⟩)
 refine W.skip (nrm (sr (va (J a) (bn H fun b f1 H=>cl (qe T a f1) ?_))));rintro a2 D z1 ⟨A,rfl⟩;refine va (.tuple #[I b.1,I b.2.1,I b.2.2]) (va (I b.1) (va (I b.2.1) (va (I b.2.2) (va (I b.1) (va (I b.2.1) (va (I b.2.2) (wln (W.seq (sr (va (I b.1) (va (B (b.1==0)) (wln (cn H (fun i1 H=>?_) (fun i1 H=>?_))))))))))))))
 ·refine sr (va (I 0) (wln (W.ret (thr ?_))));obtain rfl:=si H;exact r1 (qq D ⟨A,rfl⟩)
 refine W.skip (nrm (W.seq (sr (va (I b.2.2) (va (B (b.2.2==0)) (wln (cn H (fun j1 H=>?_) (fun j1 H=>?_))))))))
 ·refine sr (va (I 12) (wln (W.ret (thr ?_))));obtain rfl:=si H;exact r1 (qq D ⟨A,rfl⟩)
 refine W.skip (nrm (sr (va (I 13) (wln (W.ret ?_)))));obtain rfl:=si H;exact r1 (qq D ⟨A,rfl⟩)
def ig (p0:Int):Option (Int):=
 (iI).bind fun d=>
 (iH).bind fun e=>
 (iG).bind fun f=>
 (iF).bind fun g=>
 (iE).bind fun h=>
 (iD).bind fun i=>
 (iC).bind fun j=>
 (iB).bind fun c=>
 (cE (σ:=Int) (τ:=Int ⊕ Unit) (((([d,e,f,g,h,i,j,c]:List (List (Int×Int))).length:Int) - 0).toNat+1) (fun b=>
 if (decide (b < (([d,e,f,g,h,i,j,c]:List (List (Int×Int))).length:Int)))=true then
 (idx ([d,e,f,g,h,i,j,c]:List (List (Int×Int))) b).bind fun k=>
 (dK k p0).bind fun l=>
 if l=true then
 some (.inr (.inl (w64 (b+1))))
 else
 some (.inl ((w64 (b+1))))
 else
 some (.inr (.inr ()))) (0)).bind fun a=>
 match a with
 | .inl a=>
 some a
 | .inr a=>
 (ep p0).bind fun m=>
 some m
theorem sq (O0:Own c0 G F) (p0:Int) {r:Int} (H:ig p0=some r): Calls prog 74 #[J p0] c0.w (aN c0 fun c v=>Own c G (F)∧v=I r):=by
 unfold ig at H;refine en func74 rfl rfl (sr (va (I 0) (wln (sr (bn H fun x h1 H=>cl (qd O0 h1) ?_)))));rintro v2 c9 l9 ⟨_,u3,O6,rfl,h4⟩;refine bn H fun y w3 H=>cl (qc O6 w3) ?_;rintro v12 p5 p4 ⟨_,u1,f3,rfl,x3⟩;refine bn H fun z y3 H=>cl (qb f3 y3) ?_;rintro v22 q5 t1 ⟨_,v1,g3,rfl,z3⟩;refine bn H fun A a4 H=>cl (qa g3 a4) ?_;rintro v32 r5 j1 ⟨_,w1,h3,rfl,b4⟩;refine bn H fun D c4 H=>cl (pZ h3 c4) ?_;rintro v42 s5 b1 ⟨_,x1,i3,rfl,d4⟩;refine bn H fun E e4 H=>cl (pY i3 e4) ?_;rintro v52 t5 w0 ⟨_,y1,j3,rfl,f4⟩;refine bn H fun M g4 H=>cl (pX j3 g4) ?_;rintro b6 u5 u ⟨_,z1,k3,rfl,i4⟩;refine bn H fun h j4 H=>cl (pW k3 j4) ?_;rintro c6 v5 k ⟨_,a2,l3,rfl,k4⟩;obtain ⟨w5,l4,n,m3,m1⟩:=l3.frz 7 rfl (h4.mono (p4.trans (t1.trans (j1.trans (b1.trans (w0.trans (u.trans k)))))));refine WL.gh l4 ?_;obtain ⟨x5,m4,o,n3,n1⟩:=m3.frz 6 rfl (x3.mono (t1.trans (j1.trans (b1.trans (w0.trans (u.trans (k.trans n)))))));refine WL.gh m4 ?_;obtain ⟨y5,n4,p,o3,p1⟩:=n3.frz 5 rfl (z3.mono (j1.trans (b1.trans (w0.trans (u.trans (k.trans (n.trans o)))))));refine WL.gh n4 ?_;obtain ⟨z5,o4,q,p3,q1⟩:=o3.frz 4 rfl (b4.mono (b1.trans (w0.trans (u.trans (k.trans (n.trans (o.trans p)))))));refine WL.gh o4 ?_;obtain ⟨a6,n2,s,q3,s1⟩:=p3.frz 3 rfl (d4.mono (w0.trans (u.trans (k.trans (n.trans (o.trans (p.trans q)))))));refine WL.gh n2 ?_;obtain ⟨y4,o2,b,b2,e1⟩:=q3.frz 2 rfl (f4.mono (u.trans (k.trans (n.trans (o.trans (p.trans (q.trans s)))))));refine WL.gh o2 ?_;obtain ⟨z4,p2,d,c2,f1⟩:=b2.frz 1 rfl (i4.mono (k.trans (n.trans (o.trans (p.trans (q.trans (s.trans b)))))));refine WL.gh p2 ?_;obtain ⟨a5,q2,f,d2,g1⟩:=c2.frz 0 rfl (k4.mono (n.trans (o.trans (p.trans (q.trans (s.trans (b.trans d)))))));refine WL.gh q2 ?_;obtain ⟨N,P,R,rfl⟩:=((m1.mono (o.trans (p.trans (q.trans (s.trans (b.trans (d.trans f)))))))).form;obtain ⟨S,T,U,rfl⟩:=((n1.mono (p.trans (q.trans (s.trans (b.trans (d.trans f))))))).form;obtain ⟨X,Z,a0,rfl⟩:=((p1.mono (q.trans (s.trans (b.trans (d.trans f)))))).form;obtain ⟨b0,d0,e0,rfl⟩:=((q1.mono (s.trans (b.trans (d.trans f))))).form;obtain ⟨f0,g0,h0,rfl⟩:=((s1.mono (b.trans (d.trans f)))).form;obtain ⟨i0,j0,k0,rfl⟩:=((e1.mono (d.trans f))).form;obtain ⟨l0,m0,o0,rfl⟩:=((f1.mono f)).form;obtain ⟨q0,s0,t0,rfl⟩:=(g1).form;refine me (sl (RL aX) 189 [[.slice N P R],[.slice S T U],[.slice X Z a0],[.slice b0 d0 e0],[.slice f0 g0 h0],[.slice i0 j0 k0],[.slice l0 m0 o0],[.slice q0 s0 t0]] ([x,y,z,A,D,E,M,h]:List (List (Int×Int))) d2 ⟨⟨(.slice N P R),rfl,m1.m⟩,⟨(.slice S T U),rfl,n1.m⟩,⟨(.slice X Z a0),rfl,p1.m⟩,⟨(.slice b0 d0 e0),rfl,q1.m⟩,⟨(.slice f0 g0 h0),rfl,s1.m⟩,⟨(.slice i0 j0 k0),rfl,e1.m⟩,⟨(.slice l0 m0 o0),rfl,f1.m⟩,⟨(.slice q0 s0 t0),rfl,g1⟩,trivial⟩) ?_;rintro g u0 h5 ⟨k1,e2,v0⟩;refine va (g) (wln (W.seq (sr (va (I 0) (wln (W.block (bn H fun a1 i1 i=>lp i1 (fun a=>Jn u0 fun c l=>Own c G (es true (RL aX) g 189 k1 ([x,y,z,A,D,E,M,h]:List (List (Int×Int))) :: es false aX (.slice q0 s0 t0) 242 a2 h :: es false aX (.slice l0 m0 o0) 242 z1 M :: es false aX (.slice i0 j0 k0) 242 y1 E :: es false aX (.slice f0 g0 h0) 242 x1 D :: es false aX (.slice b0 d0 e0) 242 w1 A :: es false aX (.slice X Z a0) 242 v1 z :: es false aX (.slice S T U) 242 u1 y :: es false aX (.slice N P R) 242 u3 x :: F)∧l= [(0,J p0),(3,g),(4,I a)]) (fun t=>match t with | .inl x_=>(fun q4 ex e w=>ex= .ret∧(Jn u0 fun c l=>Own c G (F)∧l= [(2,I q4)]) e w) x_ | .inr x_=>(fun v4 ex e w=>ex= .exit 0∧(Jn u0 fun c l=>Own c G (es true (RL aX) g 189 k1 ([x,y,z,A,D,E,M,h]:List (List (Int×Int))) :: es false aX (.slice q0 s0 t0) 242 a2 h :: es false aX (.slice l0 m0 o0) 242 z1 M :: es false aX (.slice i0 j0 k0) 242 y1 E :: es false aX (.slice f0 g0 h0) 242 x1 D :: es false aX (.slice b0 d0 e0) 242 w1 A :: es false aX (.slice X Z a0) 242 v1 z :: es false aX (.slice S T U) 242 u1 y :: es false aX (.slice N P R) 242 u3 x :: F)∧l= [(0,J p0)]) e w) x_) ?_ ?_ ?_)))))))
 ·clear i i1;intro a d6 t3 t4 H;revert t3 t4;rintro e_ w_ ⟨k2,c5,_,rfl,z2,rfl,y0,rfl⟩;refine W.seq (sr (va (I a) (va (g) (vx (lnO 3 wA v0.m) (va (B (decide (a < (([x,y,z,A,D,E,M,h]:List (List (Int×Int))).length:Int)))) (wln (cn H (fun s2 H=>?_) (fun s2 H=>?_))))))))
  ·refine W.skip (nrm (W.seq (W.block (sr (va (g) (va (I a) (bn H fun d3 z0 H=>vx (ixO wA v0.m z0) ?_)))))));obtain ⟨u4,t2,a3⟩:=OA.at (v0.mono z2) z0;obtain ⟨b3,rfl,u2⟩:=t2;refine vr b3 (rx (by kernel_rfl) (lF wB rfl (y0.on 0 rfl) (v0.m.blk z0) (at1 (j:=0) a3 rfl))) (va (J p0) (bn H fun o5 w2 H=>cl (jJ y0 d3 p0 u2 w2) ?_));rintro m5 d1 i5 ⟨c1,rfl⟩;refine wln (cn H (fun x2 H=>?_) (fun x2 H=>?_))
   ·refine sr (va (I a) (vv (I (w64 (a+1))) (wln (W.ret (bkr (thr ?_))))));obtain rfl:=si H;refine ⟨_,rfl,⟨rfl,?_⟩⟩;have f2:=c1.sD 9 [];exact jn d1 ⟨f2,rfl⟩
   refine W.skip (bkn (nrm (W.region (va (I a) (vv (I (w64 (a+1))) (WL.nil ?_))))));obtain rfl:=si H;exact ⟨_,rfl,jn d1 ⟨c1,rfl⟩⟩
  refine W.exit (thx ?_);obtain rfl:=si H;exact ⟨_,rfl,rfl,jn k2 ⟨y0,rfl⟩⟩
 ·exact jn u0 ⟨e2,rfl⟩
 rcases a1 with a1 | a1
 ·intro v3; revert v3;rintro _ e_ w_ ⟨rfl,l2,d5,_,rfl,j5,rfl,g2,rfl⟩;refine bkr (thr ?_);obtain rfl:=si i;exact r1 (qq l2 ⟨g2,rfl⟩)
 rintro _ e_ w_ ⟨rfl,b5,e5,_,rfl,k5,rfl,h2,rfl⟩;refine bke (nrm (sr (va (J p0) (bn i fun e3 y2 i=>cl (qf h2 p0 y2) ?_))));rintro n5 m2 l5 ⟨i2,rfl⟩;refine va (I e3) (wln (W.ret ?_));obtain rfl:=si i;have j2:=i2.sD 9 [];exact r1 (qq m2 ⟨j2,rfl⟩)
def gj:List (Int×Int):=[(169,169),(174,174),(8252,8252),(8265,8265),(8482,8482),(8505,8505),(8596,8601),(8617,8618),(8986,8987),(9000,9000),(9096,9096),(9167,9167),(9193,9203),(9208,9210),(9410,9410),(9642,9643),(9654,9654),(9664,9664),(9723,9726),(9728,9733),(9735,9746),(9748,9861),(9872,9989),(9992,10002),(10004,10004),(10006,10006),(10013,10013),(10017,10017),(10024,10024),(10035,10036),(10052,10052),(10055,10055),(10060,10060),(10062,10062),(10067,10069),(10071,10071),(10083,10087),(10133,10135),(10145,10145),(10160,10160),(10175,10175),(10548,10549),(11013,11015),(11035,11036),(11088,11088),(11093,11093),(12336,12336),(12349,12349),(12951,12951),(12953,12953),(126976,127231),(127245,127247),(127279,127279),(127340,127345),(127358,127359),(127374,127374),(127377,127386),(127405,127461),(127489,127503),(127514,127514),(127535,127535),(127538,127546),(127548,127551),(127561,127994),(128000,128317),(128326,128591),(128640,128767),(128884,128895),(128981,129023),(129036,129039),(129096,129103),(129114,129119),(129160,129167),(129198,129279),(129292,129338),(129340,129349),(129351,129791),(130048,131069)]
def iV:Option (List (Int×Int)):=
 some gj
theorem qP (d:Own c0 G F) {r:List (Int×Int)} (H:iV=some r): Calls prog 141 #[] c0.w (aN c0 fun c v=>∃a b,Own c G (es true aX a 242 b r :: F)∧v=a∧OA aX c a b r):=by
 unfold iV at H;refine en func141 rfl rfl (sr (va (Y) (wln (sr (va (III 169 169) (va (III 174 174) (va (III 8252 8252) (va (III 8265 8265) (va (III 8482 8482) (va (III 8505 8505) (va (III 8596 8601) (va (III 8617 8618) (va (III 8986 8987) (va (III 9000 9000) (va (III 9096 9096) (va (III 9167 9167) (va (III 9193 9203) (va (III 9208 9210) (va (III 9410 9410) (va (III 9642 9643) (va (III 9654 9654) (va (III 9664 9664) (va (III 9723 9726) (va (III 9728 9733) (va (III 9735 9746) (va (III 9748 9861) (va (III 9872 9989) (va (III 9992 10002) (va (III 10004 10004) (va (III 10006 10006) (va (III 10013 10013) (va (III 10017 10017) (va (III 10024 10024) (va (III 10035 10036) (va (III 10052 10052) (va (III 10055 10055) (va (III 10060 10060) (va (III 10062 10062) (va (III 10067 10069) (va (III 10071 10071) (va (III 10083 10087) (va (III 10133 10135) (va (III 10145 10145) (va (III 10160 10160) (va (III 10175 10175) (va (III 10548 10549) (va (III 11013 11015) (va (III 11035 11036) (va (III 11088 11088) (va (III 11093 11093) (va (III 12336 12336) (va (III 12349 12349) (va (III 12951 12951) (va (III 12953 12953) (va (III 126976 127231) (va (III 127245 127247) (va (III 127279 127279) (va (III 127340 127345) (va (III 127358 127359) (va (III 127374 127374) (va (III 127377 127386) (va (III 127405 127461) (va (III 127489 127503) (va (III 127514 127514) (va (III 127535 127535) (va (III 127538 127546) (va (III 127548 127551) (va (III 127561 127994) (va (III 128000 128317) (va (III 128326 128591) (va (III 128640 128767) (va (III 128884 128895) (va (III 128981 129023) (va (III 129036 129039) (va (III 129096 129103) (va (III 129114 129119) (va (III 129160 129167) (va (III 129198 129279) (va (III 129292 129338) (va (III 129340 129349) (va (III 129351 129791) (va (III 130048 131069) (me (Own.sl (R:=aX) (E:=242) (ls:=gj.map (fun x=>[I x.1,I x.2])) (vs:=(gj.map (fun x=>[I x.1,I x.2])).flatten) (xs:=gj) true d (aM _) rfl (oo.map _ (fun _=>rfl) _) (by kernel_rfl) (by kernel_rfl)) ?_)))))))))))))))))))))))))))))))))))))))))))))))))))))))))))))))))))))))))))))))))));rintro v5 f i ⟨h,e,g⟩;refine va (v5) (wln (W.ret ?_));obtain rfl:=si H;exact r1 (qq f ⟨v5,h,e,rfl,g⟩)
def ic (p0:Int):Option (Bool):=
 (iV).bind fun a=>
 (dK a p0).bind fun b=>
 some b
theorem sn (l:Own c0 G F) (a:Int) {r:Bool} (H:ic a=some r): Calls prog 75 #[J a] c0.w (aN c0 fun c v=>Own c G (F)∧v=B r):=by
 unfold ic at H;refine en func75 rfl rfl (sr (va (B false) (wln (sr (bn H fun j n H=>cl (qP l n) ?_)))));rintro v2 t u ⟨_,x,m,rfl,o⟩;refine va (J a) ?_;obtain ⟨p,h,q,b,g⟩:=m.frz 0 rfl o;refine WL.gh h (bn H fun k i H=>cl (jJ b j a g i) ?_);rintro v21 f s ⟨d,rfl⟩;refine va (B k) (wln (W.ret ?_));obtain rfl:=si H;have e:=d.sD 1 [];exact r1 (qq f ⟨e,rfl⟩)
def fI:List (Int×Int):=[(2325,2361),(2392,2399),(2424,2431),(2453,2472),(2474,2480),(2482,2482),(2486,2489),(2524,2525),(2527,2527),(2544,2545),(2709,2728),(2730,2736),(2738,2739),(2741,2745),(2809,2809),(2837,2856),(2858,2864),(2866,2867),(2869,2873),(2908,2909),(2911,2911),(2929,2929),(3093,3112),(3114,3129),(3160,3162),(3349,3386)]
def iA:Option (List (Int×Int)):=
 some fI
theorem pV (d:Own c0 G F) {r:List (Int×Int)} (H:iA=some r): Calls prog 142 #[] c0.w (aN c0 fun c v=>∃a b,Own c G (es true aX a 242 b r :: F)∧v=a∧OA aX c a b r):=by
 unfold iA at H;refine en func142 rfl rfl (sr (va (Y) (wln (sr (va (III 2325 2361) (va (III 2392 2399) (va (III 2424 2431) (va (III 2453 2472) (va (III 2474 2480) (va (III 2482 2482) (va (III 2486 2489) (va (III 2524 2525) (va (III 2527 2527) (va (III 2544 2545) (va (III 2709 2728) (va (III 2730 2736) (va (III 2738 2739) (va (III 2741 2745) (va (III 2809 2809) (va (III 2837 2856) (va (III 2858 2864) (va (III 2866 2867) (va (III 2869 2873) (va (III 2908 2909) (va (III 2911 2911) (va (III 2929 2929) (va (III 3093 3112) (va (III 3114 3129) (va (III 3160 3162) (va (III 3349 3386) (me (Own.sl (R:=aX) (E:=242) (ls:=fI.map (fun x=>[I x.1,I x.2])) (vs:=(fI.map (fun x=>[I x.1,I x.2])).flatten) (xs:=fI) true d (aM _) rfl (oo.map _ (fun _=>rfl) _) (by kernel_rfl) (by kernel_rfl)) ?_)))))))))))))))))))))))))))))));rintro v5 f i ⟨h,e,g⟩;refine va (v5) (wln (W.ret ?_));obtain rfl:=si H;exact r1 (qq f ⟨v5,h,e,rfl,g⟩)
def iz:Option (List (Int×Int)):=
 some ([(2381,2381),(2509,2509),(2765,2765),(2893,2893),(3149,3149),(3405,3405)]:List (Int×Int))
theorem pU (d:Own c0 G F) {r:List (Int×Int)} (H:iz=some r): Calls prog 143 #[] c0.w (aN c0 fun c v=>∃a b,Own c G (es true aX a 242 b r :: F)∧v=a∧OA aX c a b r):=by
 unfold iz at H;refine en func143 rfl rfl (sr (va (Y) (wln (sr (va (III 2381 2381) (va (III 2509 2509) (va (III 2765 2765) (va (III 2893 2893) (va (III 3149 3149) (va (III 3405 3405) (me (sl aX 242 [[I 2381,I 2381],[I 2509,I 2509],[I 2765,I 2765],[I 2893,I 2893],[I 3149,I 3149],[I 3405,I 3405]] ([(2381,2381),(2509,2509),(2765,2765),(2893,2893),(3149,3149),(3405,3405)]:List (Int×Int)) d ⟨rfl,rfl,rfl,rfl,rfl,rfl,trivial⟩) ?_)))))))))));rintro v5 f i ⟨h,e,g⟩;refine va (v5) (wln (W.ret ?_));obtain rfl:=si H;exact r1 (qq f ⟨v5,h,e,rfl,g⟩)
def iy:Option (List (Int×Int)):=
 some ([(768,879),(1155,1159),(1425,1469),(1552,1562),(1611,1631),(2364,2364),(2385,2388),(2492,2492),(2748,2748),(2876,2876),(3132,3132),(6832,6845),(7616,7679),(8205,8205),(8400,8412),(12330,12335),(12441,12442),(65056,65071)]:List (Int×Int))
theorem pS (d:Own c0 G F) {r:List (Int×Int)} (H:iy=some r): Calls prog 144 #[] c0.w (aN c0 fun c v=>∃a b,Own c G (es true aX a 242 b r :: F)∧v=a∧OA aX c a b r):=by
 unfold iy at H;refine en func144 rfl rfl (sr (va (Y) (wln (sr (va (III 768 879) (va (III 1155 1159) (va (III 1425 1469) (va (III 1552 1562) (va (III 1611 1631) (va (III 2364 2364) (va (III 2385 2388) (va (III 2492 2492) (va (III 2748 2748) (va (III 2876 2876) (va (III 3132 3132) (va (III 6832 6845) (va (III 7616 7679) (va (III 8205 8205) (va (III 8400 8412) (va (III 12330 12335) (va (III 12441 12442) (va (III 65056 65071) (me (sl aX 242 [[I 768,I 879],[I 1155,I 1159],[I 1425,I 1469],[I 1552,I 1562],[I 1611,I 1631],[I 2364,I 2364],[I 2385,I 2388],[I 2492,I 2492],[I 2748,I 2748],[I 2876,I 2876],[I 3132,I 3132],[I 6832,I 6845],[I 7616,I 7679],[I 8205,I 8205],[I 8400,I 8412],[I 12330,I 12335],[I 12441,I 12442],[I 65056,I 65071]] ([(768,879),(1155,1159),(1425,1469),(1552,1562),(1611,1631),(2364,2364),(2385,2388),(2492,2492),(2748,2748),(2876,2876),(3132,3132),(6832,6845),(7616,7679),(8205,8205),(8400,8412),(12330,12335),(12441,12442),(65056,65071)]:List (Int×Int)) d ⟨rfl,rfl,rfl,rfl,rfl,rfl,rfl,rfl,rfl,rfl,rfl,rfl,rfl,rfl,rfl,rfl,rfl,rfl,trivial⟩) ?_)))))))))))))))))))))));rintro v5 f i ⟨h,e,g⟩;refine va (v5) (wln (W.ret ?_));obtain rfl:=si H;exact r1 (qq f ⟨v5,h,e,rfl,g⟩)
def ib (p0:Int):Option (Int):=
 (iA).bind fun c=>
 (iz).bind fun d=>
 (iy).bind fun e=>
 (cE (σ:=Int) (τ:=Int ⊕ Unit) (((([c,d,e]:List (List (Int×Int))).length:Int) - 0).toNat+1) (fun b=>
 if (decide (b < (([c,d,e]:List (List (Int×Int))).length:Int)))=true then
 (idx ([c,d,e]:List (List (Int×Int))) b).bind fun f=>
 (dK f p0).bind fun g=>
 if g=true then
 some (.inr (.inl (w64 (b+1))))
 else
 some (.inl ((w64 (b+1))))
 else
 some (.inr (.inr ()))) (0)).bind fun a=>
 match a with
 | .inl a=>
 some a
 | .inr a=>
 some 0
theorem sm (O0:Own c0 G F) (E:Int) {r:Int} (H:ib E=some r): Calls prog 76 #[J E] c0.w (aN c0 fun c v=>Own c G (F)∧v=I r):=by
 unfold ib at H;refine en func76 rfl rfl (sr (va (I 0) (wln (sr (bn H fun b h1 H=>cl (pV O0 h1) ?_)))));rintro v2 c9 l9 ⟨_,u3,O6,rfl,h4⟩;refine bn H fun d a1 H=>cl (pU O6 a1) ?_;rintro v12 f2 p1 ⟨_,b0,h0,rfl,b1⟩;refine bn H fun f c1 H=>cl (pS h0 c1) ?_;rintro v22 g2 U ⟨_,d0,i0,rfl,d1⟩;obtain ⟨h2,e1,X,j0,P⟩:=i0.frz 2 rfl (h4.mono (p1.trans U));refine WL.gh e1 ?_;obtain ⟨i2,f1,Z,k0,R⟩:=j0.frz 1 rfl (b1.mono (U.trans X));refine WL.gh f1 ?_;obtain ⟨j2,g1,a0,l0,S⟩:=k0.frz 0 rfl (d1.mono (X.trans Z));refine WL.gh g1 ?_;obtain ⟨h,i,k,rfl⟩:=((P.mono (Z.trans a0))).form;obtain ⟨n,o,p,rfl⟩:=((R.mono a0)).form;obtain ⟨q,s,u,rfl⟩:=(S).form;refine me (sl (RL aX) 189 [[.slice h i k],[.slice n o p],[.slice q s u]] ([b,d,f]:List (List (Int×Int))) l0 ⟨⟨(.slice h i k),rfl,P.m⟩,⟨(.slice n o p),rfl,R.m⟩,⟨(.slice q s u),rfl,S⟩,trivial⟩) ?_;rintro v56 x n2 ⟨e0,m0,y⟩;refine va (v56) (wln (W.seq (sr (va (I 0) (wln (W.block (bn H fun g T z=>lp T (fun a=>Jn x fun c l=>Own c G (es true (RL aX) v56 189 e0 ([b,d,f]:List (List (Int×Int))) :: es false aX (.slice q s u) 242 d0 f :: es false aX (.slice n o p) 242 b0 d :: es false aX (.slice h i k) 242 u3 b :: F)∧l= [(0,J E),(3,v56),(4,I a)]) (fun t=>match t with | .inl x_=>(fun t1 ex e w=>ex= .ret∧(Jn x fun c l=>Own c G (F)∧l= [(2,I t1)]) e w) x_ | .inr x_=>(fun y1 ex e w=>ex= .exit 0∧(Jn x fun c l=>Own c G (es true (RL aX) v56 189 e0 ([b,d,f]:List (List (Int×Int))) :: es false aX (.slice q s u) 242 d0 f :: es false aX (.slice n o p) 242 b0 d :: es false aX (.slice h i k) 242 u3 b :: F)∧l= []) e w) x_) ?_ ?_ ?_)))))))
 ·clear z T;intro a t2 y0 x1 H;revert y0 x1;rintro e_ w_ ⟨u0,k2,_,rfl,q1,rfl,A,rfl⟩;refine W.seq (sr (va (I a) (va (v56) (vx (lnO 3 wA y.m) (va (B (decide (a < (([b,d,f]:List (List (Int×Int))).length:Int)))) (wln (cn H (fun i1 H=>?_) (fun i1 H=>?_))))))))
  ·refine W.skip (nrm (W.seq (W.block (sr (va (v56) (va (I a) (bn H fun g0 D H=>vx (ixO wA y.m D) ?_)))))));obtain ⟨d2,j1,s1⟩:=OA.at (y.mono q1) D;obtain ⟨v1,rfl,k1⟩:=j1;refine vr v1 (rx (by kernel_rfl) (lF wB rfl (A.on 0 rfl) (y.m.blk D) (at1 (j:=0) s1 rfl))) (va (J E) (bn H fun e2 m1 H=>cl (jJ A g0 E k1 m1) ?_));rintro s2 N o2 ⟨M,rfl⟩;refine wln (cn H (fun n1 H=>?_) (fun n1 H=>?_))
   ·refine sr (va (I a) (vv (I (w64 (a+1))) (wln (W.ret (bkr (thr ?_))))));obtain rfl:=si H;refine ⟨_,rfl,⟨rfl,?_⟩⟩;have o0:=M.sD 4 [];exact jn N ⟨o0,rfl⟩
   refine W.skip (bkn (nrm (W.region (va (I a) (vv (I (w64 (a+1))) (WL.nil ?_))))));obtain rfl:=si H;exact ⟨_,rfl,jn N ⟨M,rfl⟩⟩
  refine W.exit (thx ?_);obtain rfl:=si H;exact ⟨_,rfl,rfl,jn u0 ⟨A,rfl⟩⟩
 ·exact jn x ⟨m0,rfl⟩
 rcases g with g | g
 ·intro z0; revert z0;rintro _ e_ w_ ⟨rfl,v0,l2,_,rfl,p2,rfl,q0,rfl⟩;refine bkr (thr ?_);obtain rfl:=si z;exact r1 (qq v0 ⟨q0,rfl⟩)
 rintro _ e_ w_ ⟨rfl,w0,m2,_,rfl,q2,rfl,s0,rfl⟩;refine bke (nrm (sr (va (I 0) (wln (W.ret ?_)))));obtain rfl:=si z;have t0:=s0.sD 4 [];exact r1 (qq w0 ⟨t0,rfl⟩)
def ft:List (Int×Int):=[(4352,4447),(8986,8987),(9001,9002),(9193,9196),(9200,9200),(9203,9203),(9725,9726),(9748,9749),(9800,9811),(9855,9855),(9875,9875),(9889,9889),(9898,9899),(9917,9918),(9924,9925),(9934,9934),(9940,9940),(9962,9962),(9970,9971),(9973,9973),(9978,9978),(9981,9981),(9989,9989),(9994,9995),(10024,10024),(10060,10060),(10062,10062),(10067,10069),(10071,10071),(10133,10135),(10160,10160),(10175,10175),(11035,11036),(11088,11088),(11093,11093),(11904,11929),(11931,12019),(12032,12245),(12272,12287),(12289,12350),(12353,12438),(12441,12543),(12549,12591),(12593,12686),(12688,12771),(12784,12830),(12832,12871),(12880,19903),(19968,42124),(42128,42182),(43360,43388),(44032,55203),(63744,64255),(65040,65049),(65072,65106),(65108,65126),(65128,65131),(94176,94180),(94208,100343),(100352,101589),(110592,110882),(126980,126980),(127183,127183),(127374,127374),(127377,127386),(127488,127490),(127504,127547),(127552,127560),(127568,127569),(127584,127589),(127744,127776),(127789,127797),(127799,127868),(127870,127891),(127904,127946),(127951,127955),(127968,127984),(127988,127988),(127992,128062),(128064,128064),(128066,128252),(128255,128317),(128331,128334),(128336,128359),(128378,128378),(128405,128406),(128420,128420),(128507,128591),(128640,128709),(128716,128716),(128720,128722),(128725,128727),(128732,128735),(128747,128748),(128756,128764),(128992,129003),(129008,129008),(129292,129338),(129340,129349),(129351,129535),(129648,129660),(129664,129672),(129680,129725),(129727,129733),(129742,129755),(129760,129768),(129776,129784),(131072,196605),(196608,262141)]
def iw:Option (List (Int×Int)):=
 some ft
theorem pR (d:Own c0 G F) {r:List (Int×Int)} (H:iw=some r): Calls prog 145 #[] c0.w (aN c0 fun c v=>∃a b,Own c G (es true aX a 242 b r :: F)∧v=a∧OA aX c a b r):=by
 unfold iw at H;refine en func145 rfl rfl (sr (va (Y) (wln (sr (va (III 4352 4447) (va (III 8986 8987) (va (III 9001 9002) (va (III 9193 9196) (va (III 9200 9200) (va (III 9203 9203) (va (III 9725 9726) (va (III 9748 9749) (va (III 9800 9811) (va (III 9855 9855) (va (III 9875 9875) (va (III 9889 9889) (va (III 9898 9899) (va (III 9917 9918) (va (III 9924 9925) (va (III 9934 9934) (va (III 9940 9940) (va (III 9962 9962) (va (III 9970 9971) (va (III 9973 9973) (va (III 9978 9978) (va (III 9981 9981) (va (III 9989 9989) (va (III 9994 9995) (va (III 10024 10024) (va (III 10060 10060) (va (III 10062 10062) (va (III 10067 10069) (va (III 10071 10071) (va (III 10133 10135) (va (III 10160 10160) (va (III 10175 10175) (va (III 11035 11036) (va (III 11088 11088) (va (III 11093 11093) (va (III 11904 11929) (va (III 11931 12019) (va (III 12032 12245) (va (III 12272 12287) (va (III 12289 12350) (va (III 12353 12438) (va (III 12441 12543) (va (III 12549 12591) (va (III 12593 12686) (va (III 12688 12771) (va (III 12784 12830) (va (III 12832 12871) (va (III 12880 19903) (va (III 19968 42124) (va (III 42128 42182) (va (III 43360 43388) (va (III 44032 55203) (va (III 63744 64255) (va (III 65040 65049) (va (III 65072 65106) (va (III 65108 65126) (va (III 65128 65131) (va (III 94176 94180) (va (III 94208 100343) (va (III 100352 101589) (va (III 110592 110882) (va (III 126980 126980) (va (III 127183 127183) (va (III 127374 127374) (va (III 127377 127386) (va (III 127488 127490) (va (III 127504 127547) (va (III 127552 127560) (va (III 127568 127569) (va (III 127584 127589) (va (III 127744 127776) (va (III 127789 127797) (va (III 127799 127868) (va (III 127870 127891) (va (III 127904 127946) (va (III 127951 127955) (va (III 127968 127984) (va (III 127988 127988) (va (III 127992 128062) (va (III 128064 128064) (va (III 128066 128252) (va (III 128255 128317) (va (III 128331 128334) (va (III 128336 128359) (va (III 128378 128378) (va (III 128405 128406) (va (III 128420 128420) (va (III 128507 128591) (va (III 128640 128709) (va (III 128716 128716) (va (III 128720 128722) (va (III 128725 128727) (va (III 128732 128735) (va (III 128747 128748) (va (III 128756 128764) (va (III 128992 129003) (va (III 129008 129008) (va (III 129292 129338) (va (III 129340 129349) (va (III 129351 129535) (va (III 129648 129660) (va (III 129664 129672) (va (III 129680 129725) (va (III 129727 129733) (va (III 129742 129755) (va (III 129760 129768) (va (III 129776 129784) (va (III 131072 196605) (va (III 196608 262141) (me (Own.sl (R:=aX) (E:=242) (ls:=ft.map (fun x=>[I x.1,I x.2])) (vs:=(ft.map (fun x=>[I x.1,I x.2])).flatten) (xs:=ft) true d (aM _) rfl (oo.map _ (fun _=>rfl) _) (by kernel_rfl) (by kernel_rfl)) ?_))))))))))))))))))))))))))))))))))))))))))))))))))))))))))))))))))))))))))))))))))))))))))))))))))))))))))))))))));rintro v5 f i ⟨h,e,g⟩;refine va (v5) (wln (W.ret ?_));obtain rfl:=si H;exact r1 (qq f ⟨v5,h,e,rfl,g⟩)
def iv:Option (List (Int×Int)):=
 some ([(12288,12288),(65281,65376),(65504,65510)]:List (Int×Int))
theorem pQ (d:Own c0 G F) {r:List (Int×Int)} (H:iv=some r): Calls prog 146 #[] c0.w (aN c0 fun c v=>∃a b,Own c G (es true aX a 242 b r :: F)∧v=a∧OA aX c a b r):=by
 unfold iv at H;refine en func146 rfl rfl (sr (va (Y) (wln (sr (va (III 12288 12288) (va (III 65281 65376) (va (III 65504 65510) (me (sl aX 242 [[I 12288,I 12288],[I 65281,I 65376],[I 65504,I 65510]] ([(12288,12288),(65281,65376),(65504,65510)]:List (Int×Int)) d ⟨rfl,rfl,rfl,trivial⟩) ?_))))))));rintro v5 f i ⟨h,e,g⟩;refine va (v5) (wln (W.ret ?_));obtain rfl:=si H;exact r1 (qq f ⟨v5,h,e,rfl,g⟩)
def iu:Option (List (Int×Int)):=
 some ([(8361,8361),(65377,65470),(65474,65479),(65482,65487),(65490,65495),(65498,65500),(65512,65518)]:List (Int×Int))
theorem pP (d:Own c0 G F) {r:List (Int×Int)} (H:iu=some r): Calls prog 147 #[] c0.w (aN c0 fun c v=>∃a b,Own c G (es true aX a 242 b r :: F)∧v=a∧OA aX c a b r):=by
 unfold iu at H;refine en func147 rfl rfl (sr (va (Y) (wln (sr (va (III 8361 8361) (va (III 65377 65470) (va (III 65474 65479) (va (III 65482 65487) (va (III 65490 65495) (va (III 65498 65500) (va (III 65512 65518) (me (sl aX 242 [[I 8361,I 8361],[I 65377,I 65470],[I 65474,I 65479],[I 65482,I 65487],[I 65490,I 65495],[I 65498,I 65500],[I 65512,I 65518]] ([(8361,8361),(65377,65470),(65474,65479),(65482,65487),(65490,65495),(65498,65500),(65512,65518)]:List (Int×Int)) d ⟨rfl,rfl,rfl,rfl,rfl,rfl,rfl,trivial⟩) ?_))))))))))));rintro v5 f i ⟨h,e,g⟩;refine va (v5) (wln (W.ret ?_));obtain rfl:=si H;exact r1 (qq f ⟨v5,h,e,rfl,g⟩)
def hU (p0:Int):Option (Int):=
 (iw).bind fun c=>
 (iv).bind fun d=>
 (iu).bind fun e=>
 (cE (σ:=Int) (τ:=Int ⊕ Unit) (((([c,d,e]:List (List (Int×Int))).length:Int) - 0).toNat+1) (fun b=>
 if (decide (b < (([c,d,e]:List (List (Int×Int))).length:Int)))=true then
 (idx ([c,d,e]:List (List (Int×Int))) b).bind fun f=>
 (dK f p0).bind fun g=>
 if g=true then
 some (.inr (.inl (w64 (b+1))))
 else
 some (.inl ((w64 (b+1))))
 else
 some (.inr (.inr ()))) (0)).bind fun a=>
 match a with
 | .inl a=>
 some a
 | .inr a=>
 some 0
theorem sk (O0:Own c0 G F) (E:Int) {r:Int} (H:hU E=some r): Calls prog 77 #[J E] c0.w (aN c0 fun c v=>Own c G (F)∧v=I r):=by
 unfold hU at H;refine en func77 rfl rfl (sr (va (I 0) (wln (sr (bn H fun b h1 H=>cl (pR O0 h1) ?_)))));rintro v2 c9 l9 ⟨_,u3,O6,rfl,h4⟩;refine bn H fun d a1 H=>cl (pQ O6 a1) ?_;rintro v12 f2 p1 ⟨_,b0,h0,rfl,b1⟩;refine bn H fun f c1 H=>cl (pP h0 c1) ?_;rintro v22 g2 U ⟨_,d0,i0,rfl,d1⟩;obtain ⟨h2,e1,X,j0,P⟩:=i0.frz 2 rfl (h4.mono (p1.trans U));refine WL.gh e1 ?_;obtain ⟨i2,f1,Z,k0,R⟩:=j0.frz 1 rfl (b1.mono (U.trans X));refine WL.gh f1 ?_;obtain ⟨j2,g1,a0,l0,S⟩:=k0.frz 0 rfl (d1.mono (X.trans Z));refine WL.gh g1 ?_;obtain ⟨h,i,k,rfl⟩:=((P.mono (Z.trans a0))).form;obtain ⟨n,o,p,rfl⟩:=((R.mono a0)).form;obtain ⟨q,s,u,rfl⟩:=(S).form;refine me (sl (RL aX) 189 [[.slice h i k],[.slice n o p],[.slice q s u]] ([b,d,f]:List (List (Int×Int))) l0 ⟨⟨(.slice h i k),rfl,P.m⟩,⟨(.slice n o p),rfl,R.m⟩,⟨(.slice q s u),rfl,S⟩,trivial⟩) ?_;rintro v56 x n2 ⟨e0,m0,y⟩;refine va (v56) (wln (W.seq (sr (va (I 0) (wln (W.block (bn H fun g T z=>lp T (fun a=>Jn x fun c l=>Own c G (es true (RL aX) v56 189 e0 ([b,d,f]:List (List (Int×Int))) :: es false aX (.slice q s u) 242 d0 f :: es false aX (.slice n o p) 242 b0 d :: es false aX (.slice h i k) 242 u3 b :: F)∧l= [(0,J E),(3,v56),(4,I a)]) (fun t=>match t with | .inl x_=>(fun t1 ex e w=>ex= .ret∧(Jn x fun c l=>Own c G (F)∧l= [(2,I t1)]) e w) x_ | .inr x_=>(fun y1 ex e w=>ex= .exit 0∧(Jn x fun c l=>Own c G (es true (RL aX) v56 189 e0 ([b,d,f]:List (List (Int×Int))) :: es false aX (.slice q s u) 242 d0 f :: es false aX (.slice n o p) 242 b0 d :: es false aX (.slice h i k) 242 u3 b :: F)∧l= []) e w) x_) ?_ ?_ ?_)))))))
 ·clear z T;intro a t2 y0 x1 H;revert y0 x1;rintro e_ w_ ⟨u0,k2,_,rfl,q1,rfl,A,rfl⟩;refine W.seq (sr (va (I a) (va (v56) (vx (lnO 3 wA y.m) (va (B (decide (a < (([b,d,f]:List (List (Int×Int))).length:Int)))) (wln (cn H (fun i1 H=>?_) (fun i1 H=>?_))))))))
  ·refine W.skip (nrm (W.seq (W.block (sr (va (v56) (va (I a) (bn H fun g0 D H=>vx (ixO wA y.m D) ?_)))))));obtain ⟨d2,j1,s1⟩:=OA.at (y.mono q1) D;obtain ⟨v1,rfl,k1⟩:=j1;refine vr v1 (rx (by kernel_rfl) (lF wB rfl (A.on 0 rfl) (y.m.blk D) (at1 (j:=0) s1 rfl))) (va (J E) (bn H fun e2 m1 H=>cl (jJ A g0 E k1 m1) ?_));rintro s2 N o2 ⟨M,rfl⟩;refine wln (cn H (fun n1 H=>?_) (fun n1 H=>?_))
   ·refine sr (va (I a) (vv (I (w64 (a+1))) (wln (W.ret (bkr (thr ?_))))));obtain rfl:=si H;refine ⟨_,rfl,⟨rfl,?_⟩⟩;have o0:=M.sD 4 [];exact jn N ⟨o0,rfl⟩
   refine W.skip (bkn (nrm (W.region (va (I a) (vv (I (w64 (a+1))) (WL.nil ?_))))));obtain rfl:=si H;exact ⟨_,rfl,jn N ⟨M,rfl⟩⟩
  refine W.exit (thx ?_);obtain rfl:=si H;exact ⟨_,rfl,rfl,jn u0 ⟨A,rfl⟩⟩
 ·exact jn x ⟨m0,rfl⟩
 rcases g with g | g
 ·intro z0; revert z0;rintro _ e_ w_ ⟨rfl,v0,l2,_,rfl,p2,rfl,q0,rfl⟩;refine bkr (thr ?_);obtain rfl:=si z;exact r1 (qq v0 ⟨q0,rfl⟩)
 rintro _ e_ w_ ⟨rfl,w0,m2,_,rfl,q2,rfl,s0,rfl⟩;refine bke (nrm (sr (va (I 0) (wln (W.ret ?_)))));obtain rfl:=si z;have t0:=s0.sD 4 [];exact r1 (qq w0 ⟨t0,rfl⟩)
def dJ (p0:Int):Option (ax):=
 (ig p0).bind fun b=>
 (ic p0).bind fun c=>
 (ib p0).bind fun d=>
 (hU p0).bind fun a=>
 some (⟨b,c,d,a⟩:ax)
theorem nC (p:Own c0 G F) (a:Int) {r:ax} (H:dJ a=some r): Calls prog 15 #[J a] c0.w (aN c0 fun c v=>Own c G (F)∧v= .agg #[I r.Break,B r.Pict,I r.Conj,I r.East]):=by
 unfold dJ at H;refine en func15 rfl rfl (sr (me (al 33 [I 0,B false,I 0,I 0] p) ?_));rintro v4 R S ⟨P,rfl,q⟩;refine wln (sr (va (J a) (bn H fun d t H=>cl (sq q a t) ?_)));rintro v11 u A ⟨s,rfl⟩;refine va (J a) (bn H fun e m H=>cl (sn s a m) ?_);rintro v18 x D ⟨i,rfl⟩;refine va (J a) (bn H fun f n H=>cl (sm i a n) ?_);rintro v25 y E ⟨j,rfl⟩;refine va (J a) (bn H fun b o H=>cl (sk j a o) ?_);rintro v32 z M ⟨k,rfl⟩;refine va (.agg #[I d,B e,I f,I b]) (md (sA 33 [I d,B e,I f,I b] 0 k ⟨rfl,rfl,rfl,rfl,trivial⟩) ?_);rintro h N g;refine wln (W.ret ?_);obtain rfl:=si H;have l:=g.sD 1 [];exact jZ (c:=h) (vs:=[I d,B e,I f,I b]) rfl (by kernel_rfl) (by kernel_rfl) (by kernel_rfl) (g.on 0 rfl _ rfl).1 ⟨_,h,rfl,rfl,pt,l,rfl⟩
def cV (p0:bH):Option (Int):=
 if false=true then
 some 0
 else
 some p0.n
theorem kv {b:Nat} {r0_0:Value} {r0_1:Value} {r0_2:Value} {r0_3:Value} {r0_21:Value} {r0_22:Value} {r0_23:Value} (a:bH) (e:Own c0 G ((Eb b 133 [r0_0,r0_1,r0_2,r0_3,J a.text.1,J a.text.2.1,J a.text.2.2.1,J a.text.2.2.2.1,J a.text.2.2.2.2.1,J a.text.2.2.2.2.2.1,J a.text.2.2.2.2.2.2.1,J a.text.2.2.2.2.2.2.2.1,J a.text.2.2.2.2.2.2.2.2.1,J a.text.2.2.2.2.2.2.2.2.2.1,J a.text.2.2.2.2.2.2.2.2.2.2.1,J a.text.2.2.2.2.2.2.2.2.2.2.2.1,J a.text.2.2.2.2.2.2.2.2.2.2.2.2.1,J a.text.2.2.2.2.2.2.2.2.2.2.2.2.2.1,J a.text.2.2.2.2.2.2.2.2.2.2.2.2.2.2.1,J a.text.2.2.2.2.2.2.2.2.2.2.2.2.2.2.2,I a.n,r0_21,r0_22,r0_23]) :: F)) {r:Int} (H:cV a=some r): Calls prog 154 #[.pointer (some ⟨b,4,none⟩)] c0.w (aN c0 fun c v=>Own c G ((Eb b 133 [r0_0,r0_1,r0_2,r0_3,J a.text.1,J a.text.2.1,J a.text.2.2.1,J a.text.2.2.2.1,J a.text.2.2.2.2.1,J a.text.2.2.2.2.2.1,J a.text.2.2.2.2.2.2.1,J a.text.2.2.2.2.2.2.2.1,J a.text.2.2.2.2.2.2.2.2.1,J a.text.2.2.2.2.2.2.2.2.2.1,J a.text.2.2.2.2.2.2.2.2.2.2.1,J a.text.2.2.2.2.2.2.2.2.2.2.2.1,J a.text.2.2.2.2.2.2.2.2.2.2.2.2.1,J a.text.2.2.2.2.2.2.2.2.2.2.2.2.2.1,J a.text.2.2.2.2.2.2.2.2.2.2.2.2.2.2.1,J a.text.2.2.2.2.2.2.2.2.2.2.2.2.2.2.2,I a.n,r0_21,r0_22,r0_23]) :: F)∧v=I r):=by
 unfold cV at H;refine en func154 rfl rfl (sr (va (I 0) (wln (W.seq (sr (va (Qo b 4) (va (B false) (wln (W.cond (t:=false) (by kernel_rfl) (fun d=>?_) (fun d=>?_))))))))))
 ·cases d
 have H:=ie d H;refine W.skip (nrm (sr (vv (Qo b 4) (va (Qo b 20) (vx (le1 20 u_3 (e.on 0 rfl)) (va (I a.n) (wln (W.ret ?_))))))));obtain rfl:=si H;exact r1 (qq c0 ⟨e,rfl⟩)
def bR (p0:bH):Option (Bool):=
 (cV p0).bind fun a=>
 some (a==16)
theorem fH {b:Nat} {r0_0:Value} {r0_1:Value} {r0_2:Value} {r0_3:Value} {r0_21:Value} {r0_22:Value} {r0_23:Value} (a:bH) (e:Own c0 G ((Eb b 133 [r0_0,r0_1,r0_2,r0_3,J a.text.1,J a.text.2.1,J a.text.2.2.1,J a.text.2.2.2.1,J a.text.2.2.2.2.1,J a.text.2.2.2.2.2.1,J a.text.2.2.2.2.2.2.1,J a.text.2.2.2.2.2.2.2.1,J a.text.2.2.2.2.2.2.2.2.1,J a.text.2.2.2.2.2.2.2.2.2.1,J a.text.2.2.2.2.2.2.2.2.2.2.1,J a.text.2.2.2.2.2.2.2.2.2.2.2.1,J a.text.2.2.2.2.2.2.2.2.2.2.2.2.1,J a.text.2.2.2.2.2.2.2.2.2.2.2.2.2.1,J a.text.2.2.2.2.2.2.2.2.2.2.2.2.2.2.1,J a.text.2.2.2.2.2.2.2.2.2.2.2.2.2.2.2,I a.n,r0_21,r0_22,r0_23]) :: F)) {r:Bool} (H:bR a=some r): Calls prog 84 #[.pointer (some ⟨b,4,none⟩)] c0.w (aN c0 fun c v=>Own c G ((Eb b 133 [r0_0,r0_1,r0_2,r0_3,J a.text.1,J a.text.2.1,J a.text.2.2.1,J a.text.2.2.2.1,J a.text.2.2.2.2.1,J a.text.2.2.2.2.2.1,J a.text.2.2.2.2.2.2.1,J a.text.2.2.2.2.2.2.2.1,J a.text.2.2.2.2.2.2.2.2.1,J a.text.2.2.2.2.2.2.2.2.2.1,J a.text.2.2.2.2.2.2.2.2.2.2.1,J a.text.2.2.2.2.2.2.2.2.2.2.2.1,J a.text.2.2.2.2.2.2.2.2.2.2.2.2.1,J a.text.2.2.2.2.2.2.2.2.2.2.2.2.2.1,J a.text.2.2.2.2.2.2.2.2.2.2.2.2.2.2.1,J a.text.2.2.2.2.2.2.2.2.2.2.2.2.2.2.2,I a.n,r0_21,r0_22,r0_23]) :: F)∧v=B r):=by
 unfold bR at H;refine en func84 rfl rfl (sr (va (B false) (wln (sr (va (Qo b 4) (bn H fun d h H=>cl (kv a e h) ?_))))));rintro v8 g i ⟨f,rfl⟩;refine vv (B (d==16)) (wln (W.ret ?_));obtain rfl:=si H;exact r1 (qq g ⟨f,rfl⟩)
def cu (p0:bH) (p1:Int):Option (bH×Bool):=
 (orE false ((bR p0).bind fun c=>
 some c)).bind fun b=>
 if b=true then
 some (p0,false)
 else
 (idx (a16 p0.text) p0.n).bind fun d=>
 (some (Al p0.text p0.n p1)).bind fun a=>
 some ((⟨a,(w64 (p0.n+1))⟩:bH),true)
theorem kw {d:Nat} {r0_0:Value} {r0_1:Value} {r0_2:Value} {r0_3:Value} {r0_21:Value} {r0_22:Value} {r0_23:Value} (a:bH) (f:Int) (M:Own c0 G ((Eb d 133 [r0_0,r0_1,r0_2,r0_3,J a.text.1,J a.text.2.1,J a.text.2.2.1,J a.text.2.2.2.1,J a.text.2.2.2.2.1,J a.text.2.2.2.2.2.1,J a.text.2.2.2.2.2.2.1,J a.text.2.2.2.2.2.2.2.1,J a.text.2.2.2.2.2.2.2.2.1,J a.text.2.2.2.2.2.2.2.2.2.1,J a.text.2.2.2.2.2.2.2.2.2.2.1,J a.text.2.2.2.2.2.2.2.2.2.2.2.1,J a.text.2.2.2.2.2.2.2.2.2.2.2.2.1,J a.text.2.2.2.2.2.2.2.2.2.2.2.2.2.1,J a.text.2.2.2.2.2.2.2.2.2.2.2.2.2.2.1,J a.text.2.2.2.2.2.2.2.2.2.2.2.2.2.2.2,I a.n,r0_21,r0_22,r0_23]) :: F)) {r:bH×Bool} (H:cu a f=some r): Calls prog 151 #[.pointer (some ⟨d,4,none⟩),J f] c0.w (aN c0 fun c v=>Own c G ((Eb d 133 [r0_0,r0_1,r0_2,r0_3,J r.1.text.1,J r.1.text.2.1,J r.1.text.2.2.1,J r.1.text.2.2.2.1,J r.1.text.2.2.2.2.1,J r.1.text.2.2.2.2.2.1,J r.1.text.2.2.2.2.2.2.1,J r.1.text.2.2.2.2.2.2.2.1,J r.1.text.2.2.2.2.2.2.2.2.1,J r.1.text.2.2.2.2.2.2.2.2.2.1,J r.1.text.2.2.2.2.2.2.2.2.2.2.1,J r.1.text.2.2.2.2.2.2.2.2.2.2.2.1,J r.1.text.2.2.2.2.2.2.2.2.2.2.2.2.1,J r.1.text.2.2.2.2.2.2.2.2.2.2.2.2.2.1,J r.1.text.2.2.2.2.2.2.2.2.2.2.2.2.2.2.1,J r.1.text.2.2.2.2.2.2.2.2.2.2.2.2.2.2.2,I r.1.n,r0_21,r0_22,r0_23]) :: F)∧v=B r.2):=by
 unfold cu at H;refine en func151 rfl rfl (sr (va (B false) (wln (W.seq (W.seq (bn H fun u R H=>W.join (Jn c0 fun c l=>Own c G ((Eb d 133 [r0_0,r0_1,r0_2,r0_3,J a.text.1,J a.text.2.1,J a.text.2.2.1,J a.text.2.2.2.1,J a.text.2.2.2.2.1,J a.text.2.2.2.2.2.1,J a.text.2.2.2.2.2.2.1,J a.text.2.2.2.2.2.2.2.1,J a.text.2.2.2.2.2.2.2.2.1,J a.text.2.2.2.2.2.2.2.2.2.1,J a.text.2.2.2.2.2.2.2.2.2.2.1,J a.text.2.2.2.2.2.2.2.2.2.2.2.1,J a.text.2.2.2.2.2.2.2.2.2.2.2.2.1,J a.text.2.2.2.2.2.2.2.2.2.2.2.2.2.1,J a.text.2.2.2.2.2.2.2.2.2.2.2.2.2.2.1,J a.text.2.2.2.2.2.2.2.2.2.2.2.2.2.2.2,I a.n,r0_21,r0_22,r0_23]) :: F)∧l= [(0,.pointer (some ⟨d,4,none⟩)),(1,J f),(10,B u)]) ?_ ?_))))))
 ·clear H;refine W.region (va (Qo d 4) (va (B false) ?_));have y:false=false:=rfl;have m:=orF y R;refine vb y (wa (Qo d 4) (wn (bn m fun E S m=>cl (fH a M S) ?_)));rintro v11 p b0 ⟨N,rfl⟩;obtain rfl:=si m;exact va (B E) (wln (jn p ⟨N,rfl⟩))
 rintro e_ w_ ⟨q,a0,_,rfl,d0,rfl,g,rfl⟩;refine nrm (cn H (fun x H=>?_) (fun x H=>?_))
 ·refine sr (va (B false) (wln (W.ret (thr ?_))));obtain rfl:=si H;exact r1 (qq q ⟨g,rfl⟩)
 refine W.skip (nrm (W.seq (rD [9] (Kp G0 [(Eb d 133 [r0_0,r0_1,r0_2,r0_3,J a.text.1,J a.text.2.1,J a.text.2.2.1,J a.text.2.2.2.1,J a.text.2.2.2.2.1,J a.text.2.2.2.2.2.1,J a.text.2.2.2.2.2.2.1,J a.text.2.2.2.2.2.2.2.1,J a.text.2.2.2.2.2.2.2.2.1,J a.text.2.2.2.2.2.2.2.2.2.1,J a.text.2.2.2.2.2.2.2.2.2.2.1,J a.text.2.2.2.2.2.2.2.2.2.2.2.1,J a.text.2.2.2.2.2.2.2.2.2.2.2.2.1,J a.text.2.2.2.2.2.2.2.2.2.2.2.2.2.1,J a.text.2.2.2.2.2.2.2.2.2.2.2.2.2.2.1,J a.text.2.2.2.2.2.2.2.2.2.2.2.2.2.2.2,I a.n,r0_21,r0_22,r0_23])]) g ?_)));intro s e0 h;have D:Kp G0 [(Eb d 133 [r0_0,r0_1,r0_2,r0_3,J a.text.1,J a.text.2.1,J a.text.2.2.1,J a.text.2.2.2.1,J a.text.2.2.2.2.1,J a.text.2.2.2.2.2.1,J a.text.2.2.2.2.2.2.1,J a.text.2.2.2.2.2.2.2.1,J a.text.2.2.2.2.2.2.2.2.1,J a.text.2.2.2.2.2.2.2.2.2.1,J a.text.2.2.2.2.2.2.2.2.2.2.1,J a.text.2.2.2.2.2.2.2.2.2.2.2.1,J a.text.2.2.2.2.2.2.2.2.2.2.2.2.1,J a.text.2.2.2.2.2.2.2.2.2.2.2.2.2.1,J a.text.2.2.2.2.2.2.2.2.2.2.2.2.2.2.1,J a.text.2.2.2.2.2.2.2.2.2.2.2.2.2.2.2,I a.n,r0_21,r0_22,r0_23])] s:=(Kp.cons (h.on 0 rfl) Kp.nil0);refine ta 0 (.pointer (some ⟨d,4,none⟩)) (ta 1 (Qo d 4) (ta 2 (Qo d 4) (ta 3 (Qo d 20) (tkx 4 D (fun P A U=>le1 20 u_3 (U.on 0 rfl)) (ta 5 (J f) (ta 6 (Qo d 4) (ta 7 (Qo d 4) (bn H fun X e H=>AC.take 8 (.pointer (some ⟨d,4+a.n.toNat * 1,none⟩)) rfl (by kernel_rfl) (by kernel_rfl) (fun P A=>(rx (by kernel_rfl) (zH (k:= .i64) underlying127 (by kernel_rfl) (tU e).1 (tU e).2 _))) (bn H fun b z H=>o1 9 (gD 9 (Own.st (T:=21) (j:=4+a.n.toNat * 1) (us:=[J f]) (nw:=[r0_0,r0_1,r0_2,r0_3,J b.1,J b.2.1,J b.2.2.1,J b.2.2.2.1,J b.2.2.2.2.1,J b.2.2.2.2.2.1,J b.2.2.2.2.2.2.1,J b.2.2.2.2.2.2.2.1,J b.2.2.2.2.2.2.2.2.1,J b.2.2.2.2.2.2.2.2.2.1,J b.2.2.2.2.2.2.2.2.2.2.1,J b.2.2.2.2.2.2.2.2.2.2.2.1,J b.2.2.2.2.2.2.2.2.2.2.2.2.1,J b.2.2.2.2.2.2.2.2.2.2.2.2.2.1,J b.2.2.2.2.2.2.2.2.2.2.2.2.2.2.1,J b.2.2.2.2.2.2.2.2.2.2.2.2.2.2.2,I a.n,r0_21,r0_22,r0_23]) (v:=J f) 0 h (by kernel_rfl) rfl rfl rfl rfl (by kernel_rfl) ⟨rfl,trivial⟩ (Hx e (bN rfl)) (GV (k:= .i32) e z [r0_0,r0_1,r0_2,r0_3] [I a.n,r0_21,r0_22,r0_23])) ?_))))))))));rintro Z f0 i;refine ⟨.inl rfl,dn (nrm (sr (vv (Qo d 4) (va (Qo d 20) (vx (le1 20 u_3 (i.on 0 rfl)) (va (I (w64 (a.n+1))) (va (Qo d 4) (va (Qo d 20) (md (sC 3 20 (I (w64 (a.n+1))) [r0_0,r0_1,r0_2,r0_3,J b.1,J b.2.1,J b.2.2.1,J b.2.2.2.1,J b.2.2.2.2.1,J b.2.2.2.2.2.1,J b.2.2.2.2.2.2.1,J b.2.2.2.2.2.2.2.1,J b.2.2.2.2.2.2.2.2.1,J b.2.2.2.2.2.2.2.2.2.1,J b.2.2.2.2.2.2.2.2.2.2.1,J b.2.2.2.2.2.2.2.2.2.2.2.1,J b.2.2.2.2.2.2.2.2.2.2.2.2.1,J b.2.2.2.2.2.2.2.2.2.2.2.2.2.1,J b.2.2.2.2.2.2.2.2.2.2.2.2.2.2.1,J b.2.2.2.2.2.2.2.2.2.2.2.2.2.2.2,I (w64 (a.n+1)),r0_21,r0_22,r0_23] 0 i ⟨rfl,trivial⟩) ?_)))))))))⟩;rintro t g0 o;refine wln (sr (va (B true) (wln (W.ret ?_))));obtain rfl:=si H;exact r1 (qq t ⟨o,rfl⟩)
def lP (p0:Int):Option (Bool):=
 (if (p0==1)=true then
 some (p0==1)
 else
 if (p0==2)=true then
 some (p0==2)
 else
 some (p0==3)).bind fun c=>
 if c=true then
 some true
 else
 (if (p0==4)=true then
 some (p0==4)
 else
 some (p0==5)).bind fun a=>
 if a=true then
 some true
 else
 (if (p0==10)=true then
 some (p0==10)
 else
 some (p0==11)).bind fun b=>
 if b=true then
 some true
 else
 some false
theorem xO (o:Own c0 G F) (a:Int) {r:Bool} (H:lP a=some r): Calls prog 267 #[I a] c0.w (aN c0 fun c v=>Own c G (F)∧v=B r):=by
 unfold lP at H;refine en func267 rfl rfl (sr (va (B false) (wln (W.seq (sr (va (I a) (wln (W.block (W.seq (W.block (W.block (W.block (W.seq (W.seq (bn H fun E b i=>W.seqJ (Jn c0 fun c l=>Own c G (F)∧l= [(3,I a),(4,B E)]) ?_ ?_)))))))))))))))
 ·refine sr (vv (B (a==1)) (wln (cn b (fun M b=>?_) (fun M b=>?_))))
  ·refine W.skip (nrm ?_);obtain rfl:=si b;exact jn c0 ⟨o,rfl⟩
  refine sr (vv (B (a==2)) (wln (cn b (fun N b=>?_) (fun N b=>?_))))
  ·refine W.skip (nrm ?_);obtain rfl:=si b;exact jn c0 ⟨o,rfl⟩
  refine W.region (vv (B (a==3)) (wln ?_));obtain rfl:=si b;exact jn c0 ⟨o,rfl⟩
 rintro t D ⟨k,U,_,rfl,X,rfl,p,rfl⟩;refine cn i (fun u i=>?_) (fun u i=>?_)
 ·refine W.exit (thx (thx (bke (bkn (bkn (nrm (W.seq (sr (va (B true) (wln (W.ret (thr (bkr (thr ?_))))))))))))));obtain rfl:=si i;exact r1 (qq k ⟨p,rfl⟩)
 refine W.skip (nrm (W.seq (bn i fun q d e=>W.seqJ (Jn k fun c l=>Own c G (F)∧l= [(3,I a),(8,B q)]) ?_ ?_)))
 ·refine sr (vv (B (a==4)) (wln (cn d (fun x d=>?_) (fun x d=>?_))))
  ·refine W.skip (nrm ?_);obtain rfl:=si d;exact jn k ⟨p,rfl⟩
  refine W.region (vv (B (a==5)) (wln ?_));obtain rfl:=si d;exact jn k ⟨p,rfl⟩
 rintro t D ⟨h,P,_,rfl,S,rfl,j,rfl⟩;refine cn e (fun y e=>?_) (fun y e=>?_)
 ·refine W.exit (thx (thx (bko rfl (bke (bkn (nrm (W.seq (sr (va (B true) (wln (W.ret (thr (bkr (thr ?_))))))))))))));obtain rfl:=si e;exact r1 (qq h ⟨j,rfl⟩)
 refine W.skip (nrm (bn e fun s f g=>W.seqJ (Jn h fun c l=>Own c G (F)∧l= [(11,B s)]) ?_ ?_))
 ·refine sr (vv (B (a==10)) (wln (cn f (fun z f=>?_) (fun z f=>?_))))
  ·refine W.skip (nrm ?_);obtain rfl:=si f;exact jn h ⟨j,rfl⟩
  refine W.region (vv (B (a==11)) (wln ?_));obtain rfl:=si f;exact jn h ⟨j,rfl⟩
 rintro t D ⟨n,R,_,rfl,T,rfl,m,rfl⟩;refine cn g (fun A g=>?_) (fun A g=>?_)
 ·refine W.exit (thx (bko rfl (bko rfl (bke (nrm (W.seq (sr (va (B true) (wln (W.ret (thr (bkr (thr ?_)))))))))))));obtain rfl:=si g;exact r1 (qq n ⟨m,rfl⟩)
 refine W.skip (nrm (W.exit (bko rfl (bko rfl (bko rfl (thx (bke (nrm (sr (va (B false) (wln (W.ret ?_))))))))))));obtain rfl:=si g;exact r1 (qq n ⟨m,rfl⟩)
def nu (p0:ax):Option (Int):=
 (lP p0.Break).bind fun b=>
 if b=true then
 some 0
 else
 (orE (p0.East==1) (some (p0.East==2))).bind fun a=>
 if a=true then
 some 2
 else
 some 1
theorem Ai (q:Own c0 G F) (a:ax) {r:Int} (H:nu a=some r): Calls prog 248 #[.agg #[I a.Break,B a.Pict,I a.Conj,I a.East]] c0.w (aN c0 fun c v=>Own c G (F)∧v=I r):=by
 unfold nu at H;refine en func248 rfl rfl (sr (me (bx 33 [I a.Break,B a.Pict,I a.Conj,I a.East] q) ?_));rintro v5 z D ⟨i,rfl,s,k⟩;refine va (I 0) (wln (W.seq (W.block (sr (va (Q i) (vx (l1 u_3 (k 0 _ rfl)) (bn H fun p t H=>cl (xO s a.Break t) ?_)))))));rintro v12 d x ⟨h,rfl⟩;refine va (B p) (wln (cn H (fun n H=>?_) (fun n H=>?_)))
 ·refine sr (va (I 0) (wln (W.ret (bkr (thr ?_)))));obtain rfl:=si H;exact r1 (qq d ⟨h,rfl⟩)
 refine W.seq (bn H fun j g H=>W.join (Jn d fun c l=>Own c G (F)∧l= [(7,B j)]) ?_ ?_)
 ·clear H;refine W.region (va (Qo i (0+3)) (vx (l1 u_3 ((mm k) 3 _ rfl)) (va (B (a.East==1)) ?_)));rcases bo (a.East==1) with b | b
  ·obtain rfl:=orT b g;exact vb b (pz (ps (vv (B true) (wln (jn d ⟨h,rfl⟩)))))
  have m:=orF b g;refine vb b (wa (Qo i (0+3)) (wn (vx (l1 u_3 ((mm k) 3 _ rfl)) (wa (B (a.East==2)) ?_))));obtain rfl:=si m;exact vv (B (a.East==2)) (wln (jn d ⟨h,rfl⟩))
 rintro A E ⟨f,u,_,rfl,y,rfl,e,rfl⟩;refine nrm (cn H (fun o H=>?_) (fun o H=>?_))
 ·refine sr (va (I 2) (wln (W.ret (bkr (thr ?_)))));obtain rfl:=si H;exact r1 (qq f ⟨e,rfl⟩)
 refine W.skip (bkn (nrm (sr (va (I 1) (wln (W.ret ?_))))));obtain rfl:=si H;exact r1 (qq f ⟨e,rfl⟩)
def co (p0:bz) (p1:Int) (p2:ax):Option (Bool):=
 (nu p2).bind fun d=>
 if (d==2)=true then
 some true
 else
 if (!p0.some)=true then
 some false
 else
 (bI (p1==65039) (some p0.pict)).bind fun a=>
 (orE a (some p2.Pict)).bind fun b=>
 (orE b (some (p2.Break==6))).bind fun c=>
 some c
theorem jY {b:Nat} {r0_0:Value} {r0_1:Value} {r0_2:Value} {r0_3:Value} {r0_4:Value} {r0_5:Value} {r0_6:Value} {r0_7:Value} {r0_8:Value} {r0_9:Value} {r0_10:Value} {r0_11:Value} {r0_12:Value} {r0_13:Value} {r0_14:Value} {r0_15:Value} {r0_16:Value} {r0_17:Value} {r0_18:Value} {r0_19:Value} {r0_20:Value} (d:bz) (o:Int) (a:ax) (S:Own c0 G ((Eb b 133 [r0_0,r0_1,r0_2,r0_3,r0_4,r0_5,r0_6,r0_7,r0_8,r0_9,r0_10,r0_11,r0_12,r0_13,r0_14,r0_15,r0_16,r0_17,r0_18,r0_19,r0_20,B d.some,B d.pict,B d.wide]) :: F)) {r:Bool} (H:co d o a=some r): Calls prog 203 #[.pointer (some ⟨b,21,none⟩),J o,.agg #[I a.Break,B a.Pict,I a.Conj,I a.East]] c0.w (aN c0 fun c v=>Own c G ((Eb b 133 [r0_0,r0_1,r0_2,r0_3,r0_4,r0_5,r0_6,r0_7,r0_8,r0_9,r0_10,r0_11,r0_12,r0_13,r0_14,r0_15,r0_16,r0_17,r0_18,r0_19,r0_20,B d.some,B d.pict,B d.wide]) :: F)∧v=B r):=by
 unfold co at H;refine en func203 rfl rfl (sr (me (bx 33 [I a.Break,B a.Pict,I a.Conj,I a.East] S) ?_));rintro v5 c4 l4 ⟨p,rfl,T,n⟩;refine va (B false) (wln (W.seq (W.block (sr (vx (lN 33 n) (bn H fun u Z H=>cl (Ai T a Z) ?_))))));rintro v12 e b0 ⟨f,rfl⟩;refine vv (B (u==2)) (wln (cn H (fun P H=>?_) (fun P H=>?_)))
 ·refine sr (va (B true) (wln (W.ret (bkr (thr ?_)))));obtain rfl:=si H;exact r1 (qq e ⟨f,rfl⟩)
 refine sr (vv (Qo b 21) (va (Qo b 21) (vx (le1 21 u_4 (f.on 0 rfl)) (vv (B (!d.some)) (wln (cn H (fun R H=>?_) (fun R H=>?_)))))))
 ·refine sr (va (B false) (wln (W.ret (bkr (thr ?_)))));obtain rfl:=si H;exact r1 (qq e ⟨f,rfl⟩)
 refine W.skip (bkn (nrm (W.seq (bn H fun U q H=>bn H fun X m H=>bn H fun x g H=>W.join (Jn e fun c l=>Own c G ((Eb b 133 [r0_0,r0_1,r0_2,r0_3,r0_4,r0_5,r0_6,r0_7,r0_8,r0_9,r0_10,r0_11,r0_12,r0_13,r0_14,r0_15,r0_16,r0_17,r0_18,r0_19,r0_20,B d.some,B d.pict,B d.wide]) :: F)∧l= [(6,B x)]) ?_ ?_))))
 ·clear H;refine W.region (va (J o) (va (B (o==65039)) ?_));rcases bo (o==65039) with h | h
  ·have y:=anT h q;refine vb h (wa (Qo b 21) (wa (Qo b 21) (wa (Qo b 22) (wn (vx (le1 22 u_4 (f.on 0 rfl)) ?_)))));obtain rfl:=si y;refine va (B d.pict) ?_;rcases bo (d.pict) with i | i
   ·obtain rfl:=orT i m;refine vb i (pz (va (B true) ?_));have s:true=true:=rfl;obtain rfl:=orT s g;exact vb s (pz (ps (vv (B true) (wln (jn e ⟨f,rfl⟩)))))
   have z:=orF i m;refine vb i (wa (Qo p (0+1)) (wn (vx (l1 u_4 ((mm n) 1 _ rfl)) ?_)));obtain rfl:=si z;refine va (B a.Pict) ?_;rcases bo (a.Pict) with j | j
   ·obtain rfl:=orT j g;exact vb j (pz (ps (vv (B true) (wln (jn e ⟨f,rfl⟩)))))
   have A:=orF j g;refine vb j (wa (Q p) (wn (vx (l1 u_3 ((mm n) 0 _ rfl)) (wa (B (a.Break==6)) ?_))));obtain rfl:=si A;exact vv (B (a.Break==6)) (wln (jn e ⟨f,rfl⟩))
  obtain rfl:=anF h q;refine vb h (pz (pz (va (B false) ?_)));have t:false=false:=rfl;have D:=orF t m;refine vb t (wa (Qo p (0+1)) (wn (vx (l1 u_4 ((mm n) 1 _ rfl)) ?_)));obtain rfl:=si D;refine va (B a.Pict) ?_;rcases bo (a.Pict) with k | k
  ·obtain rfl:=orT k g;exact vb k (pz (ps (vv (B true) (wln (jn e ⟨f,rfl⟩)))))
  have E:=orF k g;refine vb k (wa (Q p) (wn (vx (l1 u_3 ((mm n) 0 _ rfl)) (wa (B (a.Break==6)) ?_))));obtain rfl:=si E;exact vv (B (a.Break==6)) (wln (jn e ⟨f,rfl⟩))
 rintro e_ w_ ⟨N,a0,_,rfl,d0,rfl,M,rfl⟩;refine nrm (W.ret ?_);obtain rfl:=si H;exact r1 (qq N ⟨M,rfl⟩)
def cv (p0:bz) (p1:Int) (p2:ax):Option (bz×Int):=
 if false=true then
 some (p0,1)
 else
 (orE p0.wide ((co p0 p1 p2).bind fun b=>
 some b)).bind fun a=>
 if a=true then
 some ((⟨true,p2.Pict,a⟩:bz),2)
 else
 some ((⟨true,p2.Pict,a⟩:bz),1)
theorem kG {a:Nat} {r0_0:Value} {r0_1:Value} {r0_2:Value} {r0_3:Value} {r0_4:Value} {r0_5:Value} {r0_6:Value} {r0_7:Value} {r0_8:Value} {r0_9:Value} {r0_10:Value} {r0_11:Value} {r0_12:Value} {r0_13:Value} {r0_14:Value} {r0_15:Value} {r0_16:Value} {r0_17:Value} {r0_18:Value} {r0_19:Value} {r0_20:Value} (b:bz) (k:Int) (d:ax) (T:Own c0 G ((Eb a 133 [r0_0,r0_1,r0_2,r0_3,r0_4,r0_5,r0_6,r0_7,r0_8,r0_9,r0_10,r0_11,r0_12,r0_13,r0_14,r0_15,r0_16,r0_17,r0_18,r0_19,r0_20,B b.some,B b.pict,B b.wide]) :: F)) {r:bz×Int} (H:cv b k d=some r): Calls prog 152 #[.pointer (some ⟨a,21,none⟩),J k,.agg #[I d.Break,B d.Pict,I d.Conj,I d.East]] c0.w (aN c0 fun c v=>Own c G ((Eb a 133 [r0_0,r0_1,r0_2,r0_3,r0_4,r0_5,r0_6,r0_7,r0_8,r0_9,r0_10,r0_11,r0_12,r0_13,r0_14,r0_15,r0_16,r0_17,r0_18,r0_19,r0_20,B r.1.some,B r.1.pict,B r.1.wide]) :: F)∧v=I r.2):=by
 unfold cv at H;refine en func152 rfl rfl (sr (me (bx 33 [I d.Break,B d.Pict,I d.Conj,I d.East] T) ?_));rintro v5 X l4 ⟨x,rfl,m,P⟩;refine va (I 0) (wln (W.seq (sr (va (Qo a 21) (va (B false) (wln (W.cond (t:=false) (by kernel_rfl) (fun n=>?_) (fun n=>?_))))))))
 ·cases n
 have H:=ie n H;refine W.skip (nrm (W.seq (bn H fun e N H=>W.join (Jn X fun c l=>Own c G ((Eb a 133 [r0_0,r0_1,r0_2,r0_3,r0_4,r0_5,r0_6,r0_7,r0_8,r0_9,r0_10,r0_11,r0_12,r0_13,r0_14,r0_15,r0_16,r0_17,r0_18,r0_19,r0_20,B b.some,B b.pict,B e]) :: F)∧l= [(0,.pointer (some ⟨a,21,none⟩)),(5,Q x)]) ?_ ?_)))
 ·clear H;refine W.region (vv (Qo a 21) (va (Qo a 21) (va (Qo a 23) (vx (le1 23 u_4 (m.on 0 rfl)) ?_))));rcases bo (b.wide) with j | j
  ·obtain rfl:=orT j N;refine vb j (pz (pz (va (B true) (va (Qo a 21) (va (Qo a 23) (md (sC 4 23 (B true) [r0_0,r0_1,r0_2,r0_3,r0_4,r0_5,r0_6,r0_7,r0_8,r0_9,r0_10,r0_11,r0_12,r0_13,r0_14,r0_15,r0_16,r0_17,r0_18,r0_19,r0_20,B b.some,B b.pict,B true] 0 m ⟨rfl,trivial⟩) ?_))))));rintro y e0 U;exact wln (jn y ⟨U,rfl⟩)
  have g:=orF j N;refine vb j (wa (Qo a 21) (wa (J k) (wn (vx (lN 33 P) (wn (bn g fun f E g=>cl (jY b k d m E) ?_))))));rintro v19 Z f0 ⟨o,rfl⟩;obtain rfl:=si g;refine va (B f) (va (Qo a 21) (va (Qo a 23) (md (sC 4 23 (B f) [r0_0,r0_1,r0_2,r0_3,r0_4,r0_5,r0_6,r0_7,r0_8,r0_9,r0_10,r0_11,r0_12,r0_13,r0_14,r0_15,r0_16,r0_17,r0_18,r0_19,r0_20,B b.some,B b.pict,B f] 0 o ⟨rfl,trivial⟩) ?_)));rintro z g0 p;exact wln (jn z ⟨p,rfl⟩)
 rintro e_ w_ ⟨a0,b0,_,rfl,h0,rfl,q,rfl⟩;refine nrm (W.seq (rD [] (Kp G0 []) q ?_));intro A i0 s;have l0:Kp G0 [] A:=Kp.nil0;refine ta 0 (.pointer (some ⟨a,21,none⟩)) (ta 1 (Qo a 21) (ta 2 (Qo x (0+1)) (tx 3 (fun c' d0=>l1 u_4 ((mm P) 1 _ rfl)) (ta 4 (Qo a 21) (ta 5 (Qo a 21) (o1 6 (gD 6 (sC 4 21 (B true) [r0_0,r0_1,r0_2,r0_3,r0_4,r0_5,r0_6,r0_7,r0_8,r0_9,r0_10,r0_11,r0_12,r0_13,r0_14,r0_15,r0_16,r0_17,r0_18,r0_19,r0_20,B true,B b.pict,B e] 0 s ⟨rfl,trivial⟩) ?_)))))));rintro D j0 u;have R:Kp G0 [] D:=Kp.nil0;refine ⟨.inr R,ta 7 (.pointer (some ⟨a,21,none⟩)) (ta 8 (Qo a 22) (o1 9 (gD 9 (sC 4 22 (B d.Pict) [r0_0,r0_1,r0_2,r0_3,r0_4,r0_5,r0_6,r0_7,r0_8,r0_9,r0_10,r0_11,r0_12,r0_13,r0_14,r0_15,r0_16,r0_17,r0_18,r0_19,r0_20,B true,B d.Pict,B e] 0 u ⟨rfl,trivial⟩) ?_)))⟩;rintro i k0 h;have S:Kp G0 [] i:=Kp.nil0;refine ⟨.inr S,dn (nrm (W.seq (sr (vv (Qo a 21) (va (Qo a 23) (vx (le1 23 u_4 (h.on 0 rfl)) (wln (cn H (fun M H=>?_) (fun M H=>?_)))))))))⟩
 ·refine sr (va (I 2) (wln (W.ret (thr ?_))));obtain rfl:=si H;exact r1 (qq i ⟨h,rfl⟩)
 refine W.skip (nrm (sr (va (I 1) (wln (W.ret ?_)))));obtain rfl:=si H;exact r1 (qq i ⟨h,rfl⟩)
def fi (sg:Sto) (p0:Option Nat) (p1:Int) (p2:ax):Option (Sto×Int):=
 ((eZ p1).bind fun h=>
 if (!h)=true then
 some (65533)
 else
 some (p1)).bind fun g=>
 (p0).bind fun b=>
 (sg.widen_Cluster[b]?).bind fun a=>
 (cu a.text g).bind fun e=>
 (sg.set_widen_Cluster b (⟨a.at_,a.wide,e.1,a.gauge⟩:bb)).bind fun c=>
 (cv a.gauge g p2).bind fun f=>
 (c.set_widen_Cluster b (⟨a.at_,a.wide,e.1,f.1⟩:bb)).bind fun d=>
 some (d,f.2)
theorem mY (O0:Own c0 G F) (T:Rel c0 sg G) (p0:Option Nat) (m:Int) (f:ax) {r:Sto×Int} (h2:Pt 3 c0 v1 p0) (H:fi sg p0 m f=some r): Calls prog 82 #[v1,J m,.agg #[I f.Break,B f.Pict,I f.Conj,I f.East]] c0.w (aN c0 fun c v=>∃G_:Gm,Own c G_ (F)∧Rel c r.1 G_∧v=I r.2):=by
 unfold fi at H;refine en func82 rfl rfl (sr (me (bx 33 [I f.Break,B f.Pict,I f.Conj,I f.East] O0) ?_));rintro v7 c6 s ⟨b3,rfl,O4,m5⟩;refine va (I 0) (wln (bn H fun h i e=>W.seqJ (Jn c6 fun c l=>Own c G (F)∧l= [(0,v1),(1,J h),(5,Q b3)]) ?_ ?_))
 ·refine sr (va (J m) (bn i fun t0 a0 i=>cl (nx O4 m a0) ?_));rintro v16 p j1 ⟨o,rfl⟩;refine va (B (!t0)) (wln (cn i (fun b0 i=>?_) (fun b0 i=>?_)))
  ·refine W.region (va (J 65533) (wln ?_));obtain rfl:=si i;exact jn p ⟨o,rfl⟩
  refine W.skip (nrm ?_);obtain rfl:=si i;exact jn p ⟨o,rfl⟩
 rintro e_ w_ ⟨e1,g1,_,rfl,k,rfl,y,rfl⟩;refine sr (va (v1) (bn e fun z0 d0 e=>?_));obtain ⟨d,rfl,j⟩:=((h2.mono (s.trans k))).get d0;refine va (Q d) (va (Qo d 4) (va (J h) (bn e fun b e0 e=>?_)));have f0:=Rel.open_widen_Cluster (T.mono (s.trans k)) e0 j;have z:=y.borrow 0 f0 rfl;refine bn e fun a g0 e=>cl (kw b.text h z g0) ?_;rintro v37 f1 l0 ⟨A,rfl⟩;have D:=A.giveB 0 rfl;refine bn e fun t i0 e=>?_;obtain ⟨b1,E,U,h0,c1⟩:=Rel.put_widen_Cluster D (T.mono (s.trans (k.trans l0))) (E':=[(Eb d 133 [I b.at_.Row,I b.at_.Col,B b.at_.Pending,I b.wide,J a.1.text.1,J a.1.text.2.1,J a.1.text.2.2.1,J a.1.text.2.2.2.1,J a.1.text.2.2.2.2.1,J a.1.text.2.2.2.2.2.1,J a.1.text.2.2.2.2.2.2.1,J a.1.text.2.2.2.2.2.2.2.1,J a.1.text.2.2.2.2.2.2.2.2.1,J a.1.text.2.2.2.2.2.2.2.2.2.1,J a.1.text.2.2.2.2.2.2.2.2.2.2.1,J a.1.text.2.2.2.2.2.2.2.2.2.2.2.1,J a.1.text.2.2.2.2.2.2.2.2.2.2.2.2.1,J a.1.text.2.2.2.2.2.2.2.2.2.2.2.2.2.1,J a.1.text.2.2.2.2.2.2.2.2.2.2.2.2.2.2.1,J a.1.text.2.2.2.2.2.2.2.2.2.2.2.2.2.2.2,I a.1.n,B b.gauge.some,B b.gauge.pict,B b.gauge.wide])]) i0 ⟨d,(tm j),rfl⟩;refine wln (W.seq (rD [] (Kp G0 []) E ?_));intro Z m0 M;have k1:Kp G0 [] Z:=Kp.nil0;refine ta 0 (Q d) (ta 1 (Q d) (ta 2 (Qo d 21) (ta 3 (J h) (tx 4 (fun c' i1=>lN 33 (mm m5)) ?_))));have N:=M.borrow 0 h0 rfl;refine bn e fun g j0 e=>o1 5 (gc 5 (kG b.gauge h f N j0) ?_);rintro v56 q o0 ⟨P,rfl⟩;have R:=P.giveB 0 rfl;refine bn e fun u k0 e=>?_;obtain ⟨x,S,X,h1,d1⟩:=Rel.put_widen_Cluster R (U.mono (m0.trans o0)) (E':=[(Eb d 133 [I b.at_.Row,I b.at_.Col,B b.at_.Pending,I b.wide,J a.1.text.1,J a.1.text.2.1,J a.1.text.2.2.1,J a.1.text.2.2.2.1,J a.1.text.2.2.2.2.1,J a.1.text.2.2.2.2.2.1,J a.1.text.2.2.2.2.2.2.1,J a.1.text.2.2.2.2.2.2.2.1,J a.1.text.2.2.2.2.2.2.2.2.1,J a.1.text.2.2.2.2.2.2.2.2.2.1,J a.1.text.2.2.2.2.2.2.2.2.2.2.1,J a.1.text.2.2.2.2.2.2.2.2.2.2.2.1,J a.1.text.2.2.2.2.2.2.2.2.2.2.2.2.1,J a.1.text.2.2.2.2.2.2.2.2.2.2.2.2.2.1,J a.1.text.2.2.2.2.2.2.2.2.2.2.2.2.2.2.1,J a.1.text.2.2.2.2.2.2.2.2.2.2.2.2.2.2.2,I a.1.n,B g.1.some,B g.1.pict,B g.1.wide])]) k0 ⟨d,(tm j),rfl⟩;have s0:Kp G0 [] q:=Kp.nil0;refine ⟨.inr s0,ta 6 (I g.2) (dn (nrm (W.ret ?_)))⟩;obtain rfl:=si e;exact r1 (qq q ⟨x,S,X,rfl⟩)
def bC (p0:bH):Option (List Int):=
 if false=true then
 some ([]:List Int)
 else
 (slc (a16 p0.text) 0 p0.n).bind fun a=>
 (fX a).bind fun b=>
 some b
theorem dz {b:Nat} {r0_0:Value} {r0_1:Value} {r0_2:Value} {r0_3:Value} {r0_21:Value} {r0_22:Value} {r0_23:Value} (a:bH) (p:Own c0 G ((Eb b 133 [r0_0,r0_1,r0_2,r0_3,J a.text.1,J a.text.2.1,J a.text.2.2.1,J a.text.2.2.2.1,J a.text.2.2.2.2.1,J a.text.2.2.2.2.2.1,J a.text.2.2.2.2.2.2.1,J a.text.2.2.2.2.2.2.2.1,J a.text.2.2.2.2.2.2.2.2.1,J a.text.2.2.2.2.2.2.2.2.2.1,J a.text.2.2.2.2.2.2.2.2.2.2.1,J a.text.2.2.2.2.2.2.2.2.2.2.2.1,J a.text.2.2.2.2.2.2.2.2.2.2.2.2.1,J a.text.2.2.2.2.2.2.2.2.2.2.2.2.2.1,J a.text.2.2.2.2.2.2.2.2.2.2.2.2.2.2.1,J a.text.2.2.2.2.2.2.2.2.2.2.2.2.2.2.2,I a.n,r0_21,r0_22,r0_23]) :: F)) {r:List Int} (H:bC a=some r): Calls prog 83 #[.pointer (some ⟨b,4,none⟩)] c0.w (aN c0 fun c v=>∃h o,Own c G (es true (RI .i32) h 21 o r :: (Eb b 133 [r0_0,r0_1,r0_2,r0_3,J a.text.1,J a.text.2.1,J a.text.2.2.1,J a.text.2.2.2.1,J a.text.2.2.2.2.1,J a.text.2.2.2.2.2.1,J a.text.2.2.2.2.2.2.1,J a.text.2.2.2.2.2.2.2.1,J a.text.2.2.2.2.2.2.2.2.1,J a.text.2.2.2.2.2.2.2.2.2.1,J a.text.2.2.2.2.2.2.2.2.2.2.1,J a.text.2.2.2.2.2.2.2.2.2.2.2.1,J a.text.2.2.2.2.2.2.2.2.2.2.2.2.1,J a.text.2.2.2.2.2.2.2.2.2.2.2.2.2.1,J a.text.2.2.2.2.2.2.2.2.2.2.2.2.2.2.1,J a.text.2.2.2.2.2.2.2.2.2.2.2.2.2.2.2,I a.n,r0_21,r0_22,r0_23]) :: F)∧v=h∧OA (RI .i32) c h o r):=by
 unfold bC at H;refine en func83 rfl rfl (sr (va (Y) (wln (W.seq (sr (va (Qo b 4) (va (B false) (wln (W.cond (t:=false) (by kernel_rfl) (fun g=>?_) (fun g=>?_))))))))))
 ·cases g
 have H:=ie g H;refine W.skip (nrm (W.seq (rD [] (Kp G0 [(Eb b 133 [r0_0,r0_1,r0_2,r0_3,J a.text.1,J a.text.2.1,J a.text.2.2.1,J a.text.2.2.2.1,J a.text.2.2.2.2.1,J a.text.2.2.2.2.2.1,J a.text.2.2.2.2.2.2.1,J a.text.2.2.2.2.2.2.2.1,J a.text.2.2.2.2.2.2.2.2.1,J a.text.2.2.2.2.2.2.2.2.2.1,J a.text.2.2.2.2.2.2.2.2.2.2.1,J a.text.2.2.2.2.2.2.2.2.2.2.2.1,J a.text.2.2.2.2.2.2.2.2.2.2.2.2.1,J a.text.2.2.2.2.2.2.2.2.2.2.2.2.2.1,J a.text.2.2.2.2.2.2.2.2.2.2.2.2.2.2.1,J a.text.2.2.2.2.2.2.2.2.2.2.2.2.2.2.2,I a.n,r0_21,r0_22,r0_23])]) p ?_)));intro s M i;have y:Kp G0 [(Eb b 133 [r0_0,r0_1,r0_2,r0_3,J a.text.1,J a.text.2.1,J a.text.2.2.1,J a.text.2.2.2.1,J a.text.2.2.2.2.1,J a.text.2.2.2.2.2.1,J a.text.2.2.2.2.2.2.1,J a.text.2.2.2.2.2.2.2.1,J a.text.2.2.2.2.2.2.2.2.1,J a.text.2.2.2.2.2.2.2.2.2.1,J a.text.2.2.2.2.2.2.2.2.2.2.1,J a.text.2.2.2.2.2.2.2.2.2.2.2.1,J a.text.2.2.2.2.2.2.2.2.2.2.2.2.1,J a.text.2.2.2.2.2.2.2.2.2.2.2.2.2.1,J a.text.2.2.2.2.2.2.2.2.2.2.2.2.2.2.1,J a.text.2.2.2.2.2.2.2.2.2.2.2.2.2.2.2,I a.n,r0_21,r0_22,r0_23])] s:=(Kp.cons (i.on 0 rfl) Kp.nil0);refine ta 0 (.pointer (some ⟨b,4,none⟩)) (ta 1 (Qo b 4) (ta 2 (Qo b 4) (ta 3 (Qo b 4) (ta 4 (Qo b 4) (ta 5 (Qo b 20) (tkx 6 y (fun q l x=>le1 20 u_3 (x.on 0 rfl)) (bn H fun A d H=>AC.take 7 (.slice (some ⟨b,4,none⟩) a.n.toNat 16) rfl (by kernel_rfl) (by kernel_rfl) (fun q l=>(rx (by kernel_rfl) (CE (k:= .i64) underlying127 (by kernel_rfl) (oZ d).2.1 (oZ d).2.2.1 _))) (bn H fun D u H=>o1 8 (gc 8 (uD i rfl (Cr d) (Fw (k:= .i32) d [r0_0,r0_1,r0_2,r0_3] [I a.n,r0_21,r0_22,r0_23]) u) ?_)))))))));rintro v8 f E ⟨_,z,e,rfl,j⟩;have m:Kp G0 [(Eb b 133 [r0_0,r0_1,r0_2,r0_3,J a.text.1,J a.text.2.1,J a.text.2.2.1,J a.text.2.2.2.1,J a.text.2.2.2.2.1,J a.text.2.2.2.2.2.1,J a.text.2.2.2.2.2.2.1,J a.text.2.2.2.2.2.2.2.1,J a.text.2.2.2.2.2.2.2.2.1,J a.text.2.2.2.2.2.2.2.2.2.1,J a.text.2.2.2.2.2.2.2.2.2.2.1,J a.text.2.2.2.2.2.2.2.2.2.2.2.1,J a.text.2.2.2.2.2.2.2.2.2.2.2.2.1,J a.text.2.2.2.2.2.2.2.2.2.2.2.2.2.1,J a.text.2.2.2.2.2.2.2.2.2.2.2.2.2.2.1,J a.text.2.2.2.2.2.2.2.2.2.2.2.2.2.2.2,I a.n,r0_21,r0_22,r0_23])] f:=(Kp.cons (e.on 1 rfl) Kp.nil0);refine ⟨.inr m,ta 9 (v8) (dn (nrm (W.ret ?_)))⟩;obtain rfl:=si H;exact r1 (qq f ⟨v8,z,e,rfl,j⟩)
def kP (sg:Sto) (p0:Option Nat) (p1:Int) (p2:ax):Option (Sto×(Option Nat)):=
 (orE p0.isNone ((p0).bind fun k=>
 (sg.place_Pen[k]?).bind fun h=>
 some h.G.isNone)).bind fun j=>
 if j=true then
 some (sg,(none:Option Nat))
 else
 (some (sg.add_widen_Cluster (⟨(⟨0,0,false⟩:ai),0,(⟨(0,0,0,0,0,0,0,0,0,0,0,0,0,0,0,0),0⟩:bH),(⟨false,false,false⟩:bz)⟩:bb))).bind fun e=>
 (fi e (some sg.widen_Cluster.length) p1 p2).bind fun b=>
 (b.1.widen_Cluster[sg.widen_Cluster.length]?).bind fun a=>
 (b.1.set_widen_Cluster sg.widen_Cluster.length (⟨a.at_,b.2,a.text,a.gauge⟩:bb)).bind fun f=>
 (bC a.text).bind fun i=>
 (iP f p0 b.2 i).bind fun d=>
 (d.1.widen_Cluster[sg.widen_Cluster.length]?).bind fun c=>
 (d.1.set_widen_Cluster sg.widen_Cluster.length (⟨d.2,c.wide,c.text,c.gauge⟩:bb)).bind fun g=>
 some (g,(some sg.widen_Cluster.length))
theorem wo (O0:Own c0 G F) (R0:Rel c0 sg G) (hG:Gl [0,4] c0) (y:Option Nat) (z:Int) (g:ax) {r:Sto×(Option Nat)} (h2:Pt 2 c0 v1 y) (H:kP sg y z g=some r): Calls prog 17 #[v1,J z,.agg #[I g.Break,B g.Pict,I g.Conj,I g.East]] c0.w (aN c0 fun c v=>∃y1,∃G_:Gm,Own c G_ (F)∧Rel c r.1 G_∧v=y1∧Pt 3 c y1 r.2):=by
 unfold kP at H;refine en func17 rfl rfl (sr (me (bx 33 [I g.Break,B g.Pict,I g.Conj,I g.East] O0) ?_));rintro v7 c6 l6 ⟨b3,rfl,O4,m5⟩;refine va (.pointer none) (wln (W.seq (W.seq (bn H fun m1 h8 H=>W.join (Jn c6 fun c l=>Own c G (F)∧l= [(0,v1),(1,J z),(5,Q b3),(16,B m1)]) ?_ ?_))))
 ·clear H;refine W.region (va (v1) (vr (B y.isNone) (by rcases h2.m.cs with ⟨j,k⟩ | ⟨b_,j,k⟩ <;> (subst j; rw [k]; kernel_rfl)) ?_));rcases bo (y.isNone) with s | s
  ·obtain rfl:=orT s h8;exact vb s (pz (pz (ps (va (B true) (wln (jn c6 ⟨O4,rfl⟩))))))
  have i:=orF s h8;refine vb s (wa (v1) (wn (bn i fun w3 q1 i=>?_)));obtain ⟨T,rfl,n1⟩:=((h2.mono l6)).get q1;refine va (Q T) (wa (Q T) (wn (bn i fun u s1 i=>?_)));obtain ⟨v15,u1,t1⟩:=Rel.open_place_Pen (R0.mono l6) s1 n1;refine vx (le1 0 jA (O4.gon u1 0 rfl)) (wn (vr (B u.G.isNone) (by rcases (t1).cs with ⟨j,k⟩ | ⟨b_,j,k⟩ <;> (subst j; rw [k]; kernel_rfl)) ?_));obtain rfl:=si i;exact va (B u.G.isNone) (wln (jn c6 ⟨O4,rfl⟩))
 rintro e_ w_ ⟨f1,q3,_,rfl,o2,rfl,A,rfl⟩;refine nrm (cn H (fun w1 H=>?_) (fun w1 H=>?_))
 ·refine sr (va (.pointer none) (wln (W.ret (thr ?_))));obtain rfl:=si H;exact r1 (qq f1 ⟨(.pointer none),G,A,R0.m,rfl,rfl⟩)
 refine W.skip (nrm (sr (va (.agg #[I 0,I 0,B false,I 0,J 0,J 0,J 0,J 0,J 0,J 0,J 0,J 0,J 0,J 0,J 0,J 0,J 0,J 0,J 0,J 0,I 0,B false,B false,B false]) (me (al 133 [I 0,I 0,B false,I 0,J 0,J 0,J 0,J 0,J 0,J 0,J 0,J 0,J 0,J 0,J 0,J 0,J 0,J 0,J 0,J 0,I 0,B false,B false,B false] A) ?_))));rintro v28 m3 q2 ⟨e,rfl,o0⟩;have q0:=o0.sD 1 [0];refine bn H fun j0 x1 H=>?_;obtain ⟨g1,g3,z1,x3,o,s0,P,s3,t3,j3⟩:=Rel.new_widen_Cluster (E:=[(Eb e 133 [I 0,I 0,B false,I 0,J 0,J 0,J 0,J 0,J 0,J 0,J 0,J 0,J 0,J 0,J 0,J 0,J 0,J 0,J 0,J 0,I 0,B false,B false,B false])]) (F:=F) (x:=(⟨(⟨0,0,false⟩:ai),0,(⟨(0,0,0,0,0,0,0,0,0,0,0,0,0,0,0,0),0⟩:bH),(⟨false,false,false⟩:bz)⟩:bb)) (b:=e) q0 (R0.mono (l6.trans (o2.trans q2))) (fun c_ hle_=>⟨e,rfl,rfl⟩);rw [be x1] at P;refine WL.gh z1.1 ?_;have U:Pt 3 g1 (Q e) (some sg.widen_Cluster.length):=⟨e,rfl,o⟩;refine va (Q e) (wln (sr (vv (Q e) (va (J z) (vx (lN 33 (mm m5)) (bn H fun h a2 H=>cl (mY s0 P (some sg.widen_Cluster.length) z g U a2) ?_))))));rintro v48 n3 s2 ⟨h3,t0,R,rfl⟩;refine va (Q e) (va (Qo e 3) (bn H fun a b2 H=>?_));have c2:=Rel.open_widen_Cluster R b2 (tm o);refine md (gC 3 3 (I h.2) [I a.at_.Row,I a.at_.Col,B a.at_.Pending,I h.2,J a.text.text.1,J a.text.text.2.1,J a.text.text.2.2.1,J a.text.text.2.2.2.1,J a.text.text.2.2.2.2.1,J a.text.text.2.2.2.2.2.1,J a.text.text.2.2.2.2.2.2.1,J a.text.text.2.2.2.2.2.2.2.1,J a.text.text.2.2.2.2.2.2.2.2.1,J a.text.text.2.2.2.2.2.2.2.2.2.1,J a.text.text.2.2.2.2.2.2.2.2.2.2.1,J a.text.text.2.2.2.2.2.2.2.2.2.2.2.1,J a.text.text.2.2.2.2.2.2.2.2.2.2.2.2.1,J a.text.text.2.2.2.2.2.2.2.2.2.2.2.2.2.1,J a.text.text.2.2.2.2.2.2.2.2.2.2.2.2.2.2.1,J a.text.text.2.2.2.2.2.2.2.2.2.2.2.2.2.2.2,I a.text.n,B a.gauge.some,B a.gauge.pict,B a.gauge.wide] 0 t0 c2 ⟨rfl,trivial⟩) ?_;rintro o3 X u0;refine bn H fun k0 d2 H=>?_;obtain ⟨p,v0,d1,q,k3⟩:=Rel.put_widen_Cluster u0 (R.mono X) (E':=[(Eb e 133 [I a.at_.Row,I a.at_.Col,B a.at_.Pending,I h.2,J a.text.text.1,J a.text.text.2.1,J a.text.text.2.2.1,J a.text.text.2.2.2.1,J a.text.text.2.2.2.2.1,J a.text.text.2.2.2.2.2.1,J a.text.text.2.2.2.2.2.2.1,J a.text.text.2.2.2.2.2.2.2.1,J a.text.text.2.2.2.2.2.2.2.2.1,J a.text.text.2.2.2.2.2.2.2.2.2.1,J a.text.text.2.2.2.2.2.2.2.2.2.2.1,J a.text.text.2.2.2.2.2.2.2.2.2.2.2.1,J a.text.text.2.2.2.2.2.2.2.2.2.2.2.2.1,J a.text.text.2.2.2.2.2.2.2.2.2.2.2.2.2.1,J a.text.text.2.2.2.2.2.2.2.2.2.2.2.2.2.2.1,J a.text.text.2.2.2.2.2.2.2.2.2.2.2.2.2.2.2,I a.text.n,B a.gauge.some,B a.gauge.pict,B a.gauge.wide])]) d2 ⟨e,(tm o),rfl⟩;refine wln (W.seq (rD [10,13] (Kp p []) v0 ?_));intro h1 t2 D;have w2:Kp p [] h1:=(Kp.nil D);refine ta 0 (Q e) (ta 1 (v1) (ta 2 (Q e) (ta 3 (Q e) (ta 4 (Qo e 3) (tkx 5 w2 (fun c' v3 hk=>le1 3 u_3 (hk.gon q 0 rfl)) (ta 6 (Q e) (ta 7 (Q e) (ta 8 (Qo e 4) ?_))))))));have w0:=D.borrow 0 q rfl;refine bn H fun i0 e2 H=>o1 9 (gc 9 (dz a.text w0 e2) ?_);rintro z3 i1 u2 ⟨_,y3,x0,rfl,f2⟩;have z0:=x0.sD 2 [1,0];have y0:=z0.giveB 0 rfl;have M:=Own.back y0 q rfl;have x2:Kp p [] i1:=(Kp.nil M);refine ⟨.inr x2,?_⟩;obtain ⟨j1,j2,Z,N,g2⟩:=M.frz 0 rfl f2;have y2:Kp p [] j1:=(Kp.nil N);refine AC.gh j2 Z (fun _=>y2) (bn H fun f k2 H=>o1 10 (gc 10 (pH N d1.m (hG.m.le (by decide)) y h.2 i0 h2.m g2 k2) ?_));rintro a4 p3 v2 ⟨i3,a1,S,rfl⟩;refine ⟨.inl rfl,ta 11 (Q e) (ta 12 (Q e) (bn H fun d l2 H=>?_))⟩;have m2:=Rel.open_widen_Cluster S l2 (tm o);refine o1 13 (gD 13 (gB 24 0 [I f.2.Row,I f.2.Col,B f.2.Pending] [I f.2.Row,I f.2.Col,B f.2.Pending,I d.wide,J d.text.text.1,J d.text.text.2.1,J d.text.text.2.2.1,J d.text.text.2.2.2.1,J d.text.text.2.2.2.2.1,J d.text.text.2.2.2.2.2.1,J d.text.text.2.2.2.2.2.2.1,J d.text.text.2.2.2.2.2.2.2.1,J d.text.text.2.2.2.2.2.2.2.2.1,J d.text.text.2.2.2.2.2.2.2.2.2.1,J d.text.text.2.2.2.2.2.2.2.2.2.2.1,J d.text.text.2.2.2.2.2.2.2.2.2.2.2.1,J d.text.text.2.2.2.2.2.2.2.2.2.2.2.2.1,J d.text.text.2.2.2.2.2.2.2.2.2.2.2.2.2.1,J d.text.text.2.2.2.2.2.2.2.2.2.2.2.2.2.2.1,J d.text.text.2.2.2.2.2.2.2.2.2.2.2.2.2.2.2,I d.text.n,B d.gauge.some,B d.gauge.pict,B d.gauge.wide] 0 a1 m2 ⟨rfl,rfl,rfl,trivial⟩) ?_);rintro k1 a0 b1;refine bn H fun l0 n2 H=>?_;obtain ⟨m0,c1,e1,u3,l3⟩:=Rel.put_widen_Cluster b1 (S.mono a0) (E':=[(Eb e 133 [I f.2.Row,I f.2.Col,B f.2.Pending,I d.wide,J d.text.text.1,J d.text.text.2.1,J d.text.text.2.2.1,J d.text.text.2.2.2.1,J d.text.text.2.2.2.2.1,J d.text.text.2.2.2.2.2.1,J d.text.text.2.2.2.2.2.2.1,J d.text.text.2.2.2.2.2.2.2.1,J d.text.text.2.2.2.2.2.2.2.2.1,J d.text.text.2.2.2.2.2.2.2.2.2.1,J d.text.text.2.2.2.2.2.2.2.2.2.2.1,J d.text.text.2.2.2.2.2.2.2.2.2.2.2.1,J d.text.text.2.2.2.2.2.2.2.2.2.2.2.2.1,J d.text.text.2.2.2.2.2.2.2.2.2.2.2.2.2.1,J d.text.text.2.2.2.2.2.2.2.2.2.2.2.2.2.2.1,J d.text.text.2.2.2.2.2.2.2.2.2.2.2.2.2.2.2,I d.text.n,B d.gauge.some,B d.gauge.pict,B d.gauge.wide])]) n2 ⟨e,((s2.trans (X.trans (t2.trans (u2.trans (Z.trans (v2.trans a0)))))).t _ _ _ o),rfl⟩;refine ⟨.inl rfl,dn (nrm (sr (vv (Q e) (wln (W.ret ?_)))))⟩;obtain rfl:=si H;have b0:=c1.sD 1 [];exact r1 (qq k1 ⟨(Q e),m0,b0,e1,rfl,U.m⟩)
def dC (sg:Sto) (p0:Option Nat) (p1:Option Nat) (p2:Int) (p3:ax):Option (Sto×Bool):=
 (orE p0.isNone (some p1.isNone)).bind fun A=>
 (orE A ((p1).bind fun r=>
 (sg.place_Pen[r]?).bind fun u=>
 some u.G.isNone)).bind fun p=>
 (orE p ((p0).bind fun s=>
 (sg.widen_Cluster[s]?).bind fun h=>
 (bR h.text).bind fun w=>
 some w)).bind fun q=>
 if q=true then
 some (sg,false)
 else
 (p0).bind fun b=>
 (sg.widen_Cluster[b]?).bind fun v=>
 (fi sg p0 p2 p3).bind fun d=>
 (d.1.widen_Cluster[b]?).bind fun c=>
 (d.1.set_widen_Cluster b (⟨c.at_,d.2,c.text,c.gauge⟩:bb)).bind fun a=>
 (if (d.2 != v.wide)=true then
 (p1).bind fun j=>
 (a.place_Pen[j]?).bind fun k=>
 (a.set_place_Pen j (⟨k.G,c.at_,k.Auto⟩:bi)).bind fun e=>
 (e.widen_Cluster[b]?).bind fun l=>
 (bC l.text).bind fun x=>
 (iP e p1 l.wide x).bind fun g=>
 (g.1.widen_Cluster[b]?).bind fun f=>
 (g.1.set_widen_Cluster b (⟨g.2,f.wide,f.text,f.gauge⟩:bb)).bind fun i=>
 some (i)
 else
 (p1).bind fun t=>
 (a.place_Pen[t]?).bind fun m=>
 (cg a m.G).bind fun y=>
 if (decide (d.2≤y))=true then
 (bw a m.G c.at_.Row).bind fun n=>
 (nq a n c.at_.Col p2).bind fun o=>
 some (o.1)
 else
 some (a)).bind fun z=>
 some (z,true)
theorem qB (O0:Own c0 G F) (R0:Rel c0 sg G) (hG:Gl [0,4] c0) (p0:Option Nat) (p1:Option Nat) (Z:Int) (s:ax) {r:Sto×Bool} (h2:Pt 3 c0 v1 p0) (h4:Pt 2 c0 v3 p1) (H:dC sg p0 p1 Z s=some r): Calls prog 18 #[v1,v3,J Z,.agg #[I s.Break,B s.Pict,I s.Conj,I s.East]] c0.w (aN c0 fun c v=>∃G_:Gm,Own c G_ (F)∧Rel c r.1 G_∧v=B r.2):=by
 unfold dC at H;refine en func18 rfl rfl (sr (me (bx 33 [I s.Break,B s.Pict,I s.Conj,I s.East] O0) ?_));rintro v9 c8 R ⟨b5,rfl,O6,m7⟩;refine va (B false) (wln (W.seq (W.seq (bn H fun k7 b2 H=>bn H fun i6 x0 H=>bn H fun h3 d0 H=>W.join (Jn c8 fun c l=>Own c G (F)∧l= [(0,v1),(1,v3),(2,J Z),(7,Q b5),(28,B h3)]) ?_ ?_))))
 ·clear H;refine W.region (va (v1) (vr (B p0.isNone) (by rcases h2.m.cs with ⟨h,i⟩ | ⟨b_,h,i⟩ <;> (subst h; rw [i]; kernel_rfl)) ?_));rcases bo (p0.isNone) with A | A
  ·obtain rfl:=orT A b2;refine vb A (pz (va (B true) ?_));have c2:true=true:=rfl;obtain rfl:=orT c2 x0;refine vb c2 (pz (pz (ps (va (B true) ?_))));have d2:true=true:=rfl;obtain rfl:=orT d2 d0;exact vb d2 (pz (pz (va (B true) (wln (jn c8 ⟨O6,rfl⟩)))))
  have l4:=orF A b2;refine vb A (wa (v3) (wn (vr (B p1.isNone) (by rcases h4.m.cs with ⟨h,i⟩ | ⟨b_,h,i⟩ <;> (subst h; rw [i]; kernel_rfl)) ?_)));obtain rfl:=si l4;refine va (B p1.isNone) ?_;rcases bo (p1.isNone) with D | D
  ·obtain rfl:=orT D x0;refine vb D (pz (pz (ps (va (B true) ?_))));have e2:true=true:=rfl;obtain rfl:=orT e2 d0;exact vb e2 (pz (pz (va (B true) (wln (jn c8 ⟨O6,rfl⟩)))))
  have y:=orF D x0;refine vb D (wa (v3) (wn (bn y fun m6 d5 y=>?_)));obtain ⟨z1,rfl,c5⟩:=((h4.mono R)).get d5;refine va (Q z1) (wa (Q z1) (wn (bn y fun U e5 y=>?_)));obtain ⟨v24,g5,f5⟩:=Rel.open_place_Pen (R0.mono R) e5 c5;refine vx (le1 0 jA (O6.gon g5 0 rfl)) (wn (vr (B U.G.isNone) (by rcases (f5).cs with ⟨h,i⟩ | ⟨b_,h,i⟩ <;> (subst h; rw [i]; kernel_rfl)) ?_));obtain rfl:=si y;refine va (B U.G.isNone) ?_;rcases bo (U.G.isNone) with E | E
  ·obtain rfl:=orT E d0;exact vb E (pz (pz (va (B true) (wln (jn c8 ⟨O6,rfl⟩)))))
  have k:=orF E d0;refine vb E (wa (v1) (wn (bn k fun n6 i5 k=>?_)));obtain ⟨a2,rfl,h5⟩:=((h2.mono R)).get i5;refine va (Q a2) (wa (Qo a2 4) (wn (bn k fun h0 j5 k=>?_)));have f2:=Rel.open_widen_Cluster (R0.mono R) j5 h5;have n4:=O6.borrow 0 f2 rfl;refine bn k fun e4 k5 k=>cl (fH h0.text n4 k5) ?_;rintro v42 x4 o7 ⟨o4,rfl⟩;have p4:=o4.giveB 0 rfl;have q4:=Own.back p4 f2 rfl;obtain rfl:=si k;exact va (B e4) (wln (jn x4 ⟨q4,rfl⟩))
 rintro e_ w_ ⟨y4,l7,_,rfl,e0,rfl,q0,rfl⟩;refine nrm (cn H (fun l5 H=>?_) (fun l5 H=>?_))
 ·refine sr (va (B false) (wln (W.ret (thr ?_))));obtain rfl:=si H;exact r1 (qq y4 ⟨G,q0,R0.m,rfl⟩)
 refine W.skip (nrm (sr (va (v1) (bn H fun o6 m5 H=>?_))));obtain ⟨d,rfl,u⟩:=((h2.mono (R.trans e0))).get m5;refine va (Q d) (va (Qo d 3) (bn H fun x n5 H=>?_));have o5:=Rel.open_widen_Cluster (R0.mono (R.trans e0)) n5 u;refine vx (le1 3 u_3 (q0.gon o5 0 rfl)) (va (I x.wide) (wln (sr (vv (Q d) (va (J Z) (vx (lN 33 (mm m7)) (bn H fun g p5 H=>cl (mY q0 R0.m p0 Z s h2.m p5) ?_)))))));rintro p7 i7 f0 ⟨f7,r4,x1,rfl⟩;refine va (Q d) (va (Qo d 3) (bn H fun a q5 H=>?_));have r5:=Rel.open_widen_Cluster x1 q5 (tm u);refine md (gC 3 3 (I g.2) [I a.at_.Row,I a.at_.Col,B a.at_.Pending,I g.2,J a.text.text.1,J a.text.text.2.1,J a.text.text.2.2.1,J a.text.text.2.2.2.1,J a.text.text.2.2.2.2.1,J a.text.text.2.2.2.2.2.1,J a.text.text.2.2.2.2.2.2.1,J a.text.text.2.2.2.2.2.2.2.1,J a.text.text.2.2.2.2.2.2.2.2.1,J a.text.text.2.2.2.2.2.2.2.2.2.1,J a.text.text.2.2.2.2.2.2.2.2.2.2.1,J a.text.text.2.2.2.2.2.2.2.2.2.2.2.1,J a.text.text.2.2.2.2.2.2.2.2.2.2.2.2.1,J a.text.text.2.2.2.2.2.2.2.2.2.2.2.2.2.1,J a.text.text.2.2.2.2.2.2.2.2.2.2.2.2.2.2.1,J a.text.text.2.2.2.2.2.2.2.2.2.2.2.2.2.2.2,I a.text.n,B a.gauge.some,B a.gauge.pict,B a.gauge.wide] 0 r4 r5 ⟨rfl,trivial⟩) ?_;rintro z4 P s4;refine bn H fun i4 s5 H=>?_;obtain ⟨j,b0,o,M,g7⟩:=Rel.put_widen_Cluster s4 (x1.mono P) (E':=[(Eb d 133 [I a.at_.Row,I a.at_.Col,B a.at_.Pending,I g.2,J a.text.text.1,J a.text.text.2.1,J a.text.text.2.2.1,J a.text.text.2.2.2.1,J a.text.text.2.2.2.2.1,J a.text.text.2.2.2.2.2.1,J a.text.text.2.2.2.2.2.2.1,J a.text.text.2.2.2.2.2.2.2.1,J a.text.text.2.2.2.2.2.2.2.2.1,J a.text.text.2.2.2.2.2.2.2.2.2.1,J a.text.text.2.2.2.2.2.2.2.2.2.2.1,J a.text.text.2.2.2.2.2.2.2.2.2.2.2.1,J a.text.text.2.2.2.2.2.2.2.2.2.2.2.2.1,J a.text.text.2.2.2.2.2.2.2.2.2.2.2.2.2.1,J a.text.text.2.2.2.2.2.2.2.2.2.2.2.2.2.2.1,J a.text.text.2.2.2.2.2.2.2.2.2.2.2.2.2.2.2,I a.text.n,B a.gauge.some,B a.gauge.pict,B a.gauge.wide])]) s5 ⟨d,(tm u),rfl⟩;refine wln (bn H fun g4 e m4=>W.seqJ (Jn z4 fun c l=>∃G_,Own c G_ (F)∧l= []∧Rel c g4 G_) ?_ ?_)
 ·refine W.block (sr (vv (Q d) (va (Qo d 3) (vx (le1 3 u_3 (b0.gon M 0 rfl)) (va (I x.wide) (vv (B (g.2 != x.wide)) (wln (cn e (fun t5 e=>?_) (fun t5 e=>?_)))))))))
  ·refine sr (va (v3) (vv (Q d) (va (Q d) (vx (leN 24 0 [I a.at_.Row,I a.at_.Col,B a.at_.Pending] (b0.gon M 0 rfl)) (bn e fun p6 u5 e=>?_)))));obtain ⟨z,rfl,g2⟩:=((h4.mono (R.trans (e0.trans (f0.trans P))))).get u5;refine va (Q z) (va (Qo z 1) (bn e fun h1 v5 e=>?_));obtain ⟨n1,x5,w5⟩:=Rel.open_place_Pen o v5 g2;refine md (gB 24 1 [I a.at_.Row,I a.at_.Col,B a.at_.Pending] [n1,I a.at_.Row,I a.at_.Col,B a.at_.Pending,B h1.Auto] 0 b0 x5 ⟨rfl,rfl,rfl,trivial⟩) ?_;rintro j7 g0 t4;refine bn e fun j4 y5 e=>?_;obtain ⟨a0,u4,y1,n7,h7⟩:=Rel.put_place_Pen t4 (o.mono g0) (E':=[(Eb z 42 [n1,I a.at_.Row,I a.at_.Col,B a.at_.Pending,B h1.Auto])]) y5 ⟨z,n1,(tm g2),rfl,(w5.mono g0)⟩;refine wln (rD [10,13] (Kp a0 []) u4 ?_);intro a5 g1 w1;have b6:Kp a0 [] a5:=(Kp.nil w1);refine ta 0 (Q d) (ta 1 (Q z) (ta 2 (Q d) (ta 3 (Q d) (ta 4 (Qo d 3) (bn e fun i1 z5 e=>?_)))));have b1:=Rel.open_widen_Cluster (y1.mono g1) z5 (tm u);refine tkx 5 b6 (fun c' N q=>le1 3 u_3 (q.gon b1 0 rfl)) (ta 6 (Q d) (ta 7 (Q d) (ta 8 (Qo d 4) ?_)));have v4:=w1.borrow 0 b1 rfl;refine bn e fun f4 a6 e=>o1 9 (gc 9 (dz i1.text v4 a6) ?_);rintro y6 z2 c1 ⟨_,x6,l2,rfl,i3⟩;have n2:=l2.sD 2 [1,0];have m2:=n2.giveB 0 rfl;have j0:=Own.back m2 b1 rfl;have a4:Kp a0 [] z2:=(Kp.nil j0);refine ⟨.inr a4,?_⟩;obtain ⟨a3,k3,T,k0,j3⟩:=j0.frz 0 rfl i3;have b4:Kp a0 [] a3:=(Kp.nil k0);refine AC.gh k3 T (fun _=>b4) (bn e fun f l3 e=>o1 10 (gc 10 (pH k0 y1.m (hG.m.le (by decide)) p1 i1.wide f4 h4.m j3 l3) ?_));rintro z6 h6 d1 ⟨d6,o2,u0,rfl⟩;refine ⟨.inl rfl,ta 11 (Q d) (ta 12 (Q d) (bn e fun b m3 e=>?_))⟩;have n3:=Rel.open_widen_Cluster u0 m3 ((f0.trans (P.trans (g0.trans (g1.trans (c1.trans (T.trans d1)))))).t _ _ _ u);refine o1 13 (gD 13 (gB 24 0 [I f.2.Row,I f.2.Col,B f.2.Pending] [I f.2.Row,I f.2.Col,B f.2.Pending,I b.wide,J b.text.text.1,J b.text.text.2.1,J b.text.text.2.2.1,J b.text.text.2.2.2.1,J b.text.text.2.2.2.2.1,J b.text.text.2.2.2.2.2.1,J b.text.text.2.2.2.2.2.2.1,J b.text.text.2.2.2.2.2.2.2.1,J b.text.text.2.2.2.2.2.2.2.2.1,J b.text.text.2.2.2.2.2.2.2.2.2.1,J b.text.text.2.2.2.2.2.2.2.2.2.2.1,J b.text.text.2.2.2.2.2.2.2.2.2.2.2.1,J b.text.text.2.2.2.2.2.2.2.2.2.2.2.2.1,J b.text.text.2.2.2.2.2.2.2.2.2.2.2.2.2.1,J b.text.text.2.2.2.2.2.2.2.2.2.2.2.2.2.2.1,J b.text.text.2.2.2.2.2.2.2.2.2.2.2.2.2.2.2,I b.text.n,B b.gauge.some,B b.gauge.pict,B b.gauge.wide] 0 o2 n3 ⟨rfl,rfl,rfl,trivial⟩) ?_);rintro b3 e1 q2;refine bn e fun k4 o3 e=>?_;obtain ⟨i2,s2,w2,l6,f6⟩:=Rel.put_widen_Cluster q2 (u0.mono e1) (E':=[(Eb d 133 [I f.2.Row,I f.2.Col,B f.2.Pending,I b.wide,J b.text.text.1,J b.text.text.2.1,J b.text.text.2.2.1,J b.text.text.2.2.2.1,J b.text.text.2.2.2.2.1,J b.text.text.2.2.2.2.2.1,J b.text.text.2.2.2.2.2.2.1,J b.text.text.2.2.2.2.2.2.2.1,J b.text.text.2.2.2.2.2.2.2.2.1,J b.text.text.2.2.2.2.2.2.2.2.2.1,J b.text.text.2.2.2.2.2.2.2.2.2.2.1,J b.text.text.2.2.2.2.2.2.2.2.2.2.2.1,J b.text.text.2.2.2.2.2.2.2.2.2.2.2.2.1,J b.text.text.2.2.2.2.2.2.2.2.2.2.2.2.2.1,J b.text.text.2.2.2.2.2.2.2.2.2.2.2.2.2.2.1,J b.text.text.2.2.2.2.2.2.2.2.2.2.2.2.2.2.2,I b.text.n,B b.gauge.some,B b.gauge.pict,B b.gauge.wide])]) o3 ⟨d,((f0.trans (P.trans (g0.trans (g1.trans (c1.trans (T.trans (d1.trans e1))))))).t _ _ _ u),rfl⟩;refine ⟨.inl rfl,dn (bkn (nrm ?_))⟩;obtain rfl:=si e;have t2:=s2.sD 1 [];exact jn b3 ⟨i2,t2,rfl,w2⟩
  refine W.seq (rD [] (Kp j []) b0 ?_);intro c3 f1 l0;have m1:Kp j [] c3:=(Kp.nil l0);refine ta 0 (Q d) (ta 1 (Q d) (ta 2 (Qo d 3) (tkx 3 m1 (fun c' N q=>le1 3 u_3 (q.gon M 0 rfl)) (ta 4 (v3) (bn e fun q6 s3 e=>?_)))));obtain ⟨p,rfl,q3⟩:=((h4.mono (R.trans (e0.trans (f0.trans (P.trans f1)))))).get s3;refine ta 5 (Q p) (ta 6 (Q p) (bn e fun j1 t3 e=>?_));obtain ⟨a7,z0,y0⟩:=Rel.open_place_Pen (o.mono f1) t3 q3;refine tkx 7 m1 (fun c' N q=>le1 0 jA (q.gon z0 0 rfl)) (bn e fun q1 u3 e=>o1 8 (gc 8 (cF l0 o.m j1.G y0 u3) ?_));rintro b7 w0 r6 ⟨S,rfl⟩;have c4:Kp j [] w0:=(Kp.nil S);refine ⟨.inr c4,ta 9 (B (decide (g.2≤q1))) (ta 10 (B (decide (g.2≤q1))) (dn (nrm (cn e (fun w3 e=>?_) (fun w3 e=>?_)))))⟩
  ·refine rD [16] (Kp j []) S ?_;intro d3 s6 m0;have X:Kp j [] d3:=(Kp.nil m0);refine ta 0 (Q p) (ta 1 (Q p) (ta 2 (Q p) (tkx 3 X (fun c' N q=>le1 0 jA (q.gon z0 0 rfl)) (ta 4 (Q d) (ta 5 (Q d) (ta 6 (Q d) (ta 7 (Q d) (tkx 8 X (fun c' N q=>le1 0 u_3 (q.gon M 0 rfl)) (ta 10 (Q d) (ta 11 (Q d) (ta 12 (Q d) (ta 13 (Qo d 1) (tkx 14 X (fun c' N q=>le1 1 u_3 (q.gon M 0 rfl)) (ta 15 (J Z) (bn e fun u1 x3 e=>o1 9 (gc 9 (cQ m0 o.m j1.G a.at_.Row y0.m x3) ?_))))))))))))))));rintro c7 e3 t6 ⟨_,o0,rfl,y3⟩;have d4:Kp j [] e3:=(Kp.nil o0);refine ⟨.inr d4,bn e fun c6 z3 e=>o1 16 (gc 16 (Af o0 o.m (hG.m.le (by decide)) u1 a.at_.Col Z y3 z3) ?_)⟩;rintro d7 f3 u6 ⟨j2,u2,x2,rfl⟩;refine ⟨.inl rfl,dn (bkn (nrm ?_))⟩;obtain rfl:=si e;exact jn f3 ⟨j2,u2,rfl,x2⟩
  refine W.skip (bkn (nrm ?_));obtain rfl:=si e;exact jn w0 ⟨j,S,rfl,o.m⟩
 rintro e_ w_ ⟨g3,k6,_,rfl,v6,rfl,k2,v2,rfl,y2⟩;refine sr (va (B true) (wln (W.ret ?_)));obtain rfl:=si m4;exact r1 (qq g3 ⟨k2,v2,y2,rfl⟩)
def kb (sg:Sto) (p0:Option Nat):Option (List Int):=
 if p0.isNone=true then
 some ([]:List Int)
 else
 (p0).bind fun c=>
 (sg.widen_Cluster[c]?).bind fun a=>
 (bC a.text).bind fun b=>
 some b
theorem qA (i:Own c0 G F) (z:Rel c0 sg G) (g:Option Nat) {r:List Int} (t:Pt 3 c0 v1 g) (H:kb sg g=some r): Calls prog 24 #[v1] c0.w (aN c0 fun c v=>∃h x,Own c G (es true (RI .i32) h 21 x r :: F)∧v=h∧OA (RI .i32) c h x r):=by
 unfold kb at H;refine en func24 rfl rfl (sr (va (Y) (wln (W.seq (sr (va (v1) (vr (B g.isNone) (by rcases (t).cs with ⟨d,f⟩ | ⟨T,d,f⟩ <;> (subst d; rw [f]; kernel_rfl)) (wln (cn H (fun A H=>?_) (fun A H=>?_))))))))))
 ·refine sr (va (Y) (wln (W.ret (thr ?_))));obtain rfl:=si H;have D:OA (RI .i32) c0 (Y) [] []:=OA.nil (aM _);have y:=i.addHole (e:=es true (RI .i32) (Y) 21 [] ([]:List Int)) rfl;exact r1 (qq c0 ⟨(Y),[],y,rfl,D⟩)
 refine W.skip (nrm (sr (va (v1) (bn H fun R M H=>?_))));obtain ⟨o,rfl,E⟩:=(t).get M;refine va (Q o) (va (Qo o 4) (bn H fun a N H=>?_));have b:=Rel.open_widen_Cluster z N E;have j:=i.borrow 0 b rfl;refine bn H fun P q H=>cl (dz a.text j q) ?_;rintro v14 p S ⟨_,u,k,rfl,s⟩;have m:=k.sD 2 [1,0];have l:=m.giveB 0 rfl;have n:=Own.back l b rfl;refine va (v14) (wln (W.ret ?_));obtain rfl:=si H;exact r1 (qq p ⟨v14,u,n,rfl,s⟩)
def gZ (p0:ax):Option (Int):=
 (cE (σ:=Int) (τ:=Int ⊕ Unit) (((([1,2,3,4,5,10,11]:List Int).length:Int) - 0).toNat+1) (fun b=>
 if (decide (b < (([1,2,3,4,5,10,11]:List Int).length:Int)))=true then
 (idx ([1,2,3,4,5,10,11]:List Int) b).bind fun d=>
 if (p0.Break==d)=true then
 some (.inr (.inl 0))
 else
 some (.inl ((w64 (b+1))))
 else
 some (.inr (.inr ()))) (0)).bind fun a=>
 match a with
 | .inl a=>
 some a
 | .inr a=>
 (orE (p0.East==1) (some (p0.East==2))).bind fun c=>
 if c=true then
 some 2
 else
 some 1
theorem sj (O0:Own c0 G F) (b:ax) {r:Int} (H:gZ b=some r): Calls prog 156 #[.agg #[I b.Break,B b.Pict,I b.Conj,I b.East]] c0.w (aN c0 fun c v=>Own c G (F)∧v=I r):=by
 unfold gZ at H;refine en func156 rfl rfl (sr (me (bx 33 [I b.Break,B b.Pict,I b.Conj,I b.East] O0) ?_));rintro v5 c4 l4 ⟨h,rfl,O2,R⟩;refine va (I 0) (wln (sr (me (sl (RI .i64) 3 [[I 1],[I 2],[I 3],[I 4],[I 5],[I 10],[I 11]] ([1,2,3,4,5,10,11]:List Int) O2 ⟨rfl,rfl,rfl,rfl,rfl,rfl,rfl,trivial⟩) ?_)));rintro v10 s l9 ⟨p,O6,u⟩;refine va (v10) (wln (W.seq (sr (va (I 0) (wln (W.block (bn H fun o D a=>lp D (fun d=>Jn s fun c l=>Own c G (es true (RI .i64) v10 3 p ([1,2,3,4,5,10,11]:List Int) :: F)∧l= [(1,Q h),(3,v10),(4,I d)]) (fun t=>match t with | .inl T=>(fun t0 ex e w=>ex= .ret∧(Jn s fun c l=>Own c G (F)∧l= [(2,I t0)]) e w) T | .inr T=>(fun a1 ex e w=>ex= .exit 0∧(Jn s fun c l=>Own c G (es true (RI .i64) v10 3 p ([1,2,3,4,5,10,11]:List Int) :: F)∧l= [(1,Q h)]) e w) T) ?_ ?_ ?_)))))))
 ·clear a D;intro d j1 g0 u0 H;revert g0 u0;rintro P S ⟨e0,c1,_,rfl,m0,rfl,x,rfl⟩;refine W.seq (sr (va (I d) (va (v10) (vx (lnO 3 ot u.m) (va (B (decide (d < (([1,2,3,4,5,10,11]:List Int).length:Int)))) (wln (cn H (fun i0 H=>?_) (fun i0 H=>?_))))))))
  ·refine W.skip (nrm (W.seq (W.block (W.seq (rD [] (Kp G0 [es true (RI .i64) v10 3 p ([1,2,3,4,5,10,11]:List Int)]) x ?_)))));intro i o0 g;have s0:Kp G0 [es true (RI .i64) v10 3 p ([1,2,3,4,5,10,11]:List Int)] i:=(Kp.cons (g.on 0 rfl) Kp.nil0);refine ta 0 (Q h) (tx 1 (fun c' M=>l1 u_3 ((mm R) 0 _ rfl)) (ta 2 (v10) (ta 3 (I d) (bn H fun q n H=>tx 4 (fun c' M=>ixO ot u.m n) ?_))));obtain ⟨z0,j0,q0⟩:=OA.at (u.mono (m0.trans o0)) n;obtain rfl:=j0;refine AC.takeK 5 (I q) s0 rfl (by kernel_rfl) (by kernel_rfl) (by kernel_rfl) (fun c' M hk=>(rx (by kernel_rfl) (lF u_3 rfl (hk.on 0 rfl) (u.m.blk n) (at1 (j:=0) q0 rfl)))) (ta 6 (B (b.Break==q)) (dn (nrm (cn H (fun k0 H=>?_) (fun k0 H=>?_)))))
   ·refine sr (va (I 0) (wln (W.ret (bkr (thr ?_)))));obtain rfl:=si H;refine ⟨_,rfl,⟨rfl,?_⟩⟩;have X:=g.sD 1 [];exact jn i ⟨X,rfl⟩
   refine W.skip (bkn (nrm (W.region (va (I d) (vv (I (w64 (d+1))) (WL.nil ?_))))));obtain rfl:=si H;exact ⟨_,rfl,jn i ⟨g,rfl⟩⟩
  refine W.exit (thx ?_);obtain rfl:=si H;exact ⟨_,rfl,rfl,jn e0 ⟨x,rfl⟩⟩
 ·exact jn s ⟨O6,rfl⟩
 rcases o with o | o
 ·intro h0; revert h0;rintro _ P S ⟨rfl,f0,d1,_,rfl,g1,rfl,Z,rfl⟩;refine bkr (thr ?_);obtain rfl:=si a;exact r1 (qq f0 ⟨Z,rfl⟩)
 rintro _ P S ⟨rfl,k,e1,_,rfl,h1,rfl,y,rfl⟩;refine bke (nrm (W.seq (W.seq (bn a fun N E a=>W.join (Jn k fun c l=>Own c G (es true (RI .i64) v10 3 p ([1,2,3,4,5,10,11]:List Int) :: F)∧l= [(26,B N)]) ?_ ?_))))
 ·clear a;refine W.region (va (Qo h (0+3)) (vx (l1 u_3 ((mm R) 3 _ rfl)) (va (B (b.East==1)) ?_)));rcases bo (b.East==1) with f | f
  ·obtain rfl:=orT f E;exact vb f (pz (ps (va (B true) (wln (jn k ⟨y,rfl⟩)))))
  have U:=orF f E;refine vb f (wa (Qo h (0+3)) (wn (vx (l1 u_3 ((mm R) 3 _ rfl)) (wa (B (b.East==2)) ?_))));obtain rfl:=si U;exact va (B (b.East==2)) (wln (jn k ⟨y,rfl⟩))
 rintro P S ⟨A,f1,_,rfl,i1,rfl,z,rfl⟩;refine nrm (cn a (fun l0 a=>?_) (fun l0 a=>?_))
 ·refine sr (va (I 2) (wln (W.ret (thr ?_))));obtain rfl:=si a;have a0:=z.sD 1 [];exact r1 (qq A ⟨a0,rfl⟩)
 refine W.skip (nrm (sr (va (I 1) (wln (W.ret ?_)))));obtain rfl:=si a;have b0:=z.sD 1 [];exact r1 (qq A ⟨b0,rfl⟩)
def gF (p0:List Int) (p1:List ax):Option (Int):=
 (cE (σ:=Int) (τ:=Int ⊕ Unit) (((p0.length:Int) - 0).toNat+1) (fun a=>
 if (decide (a < (p0.length:Int)))=true then
 (idx p1 a).bind fun h=>
 (gZ h).bind fun i=>
 (orE (i==2) ((bI (decide (a > 0)) ((idx p0 a).bind fun j=>
 (bI (j==65039) ((idx p1 (w64 (a - 1))).bind fun k=>
 some k.Pict)).bind fun e=>
 (orE e ((idx p1 a).bind fun l=>
 some l.Pict)).bind fun f=>
 (orE f ((idx p1 a).bind fun m=>
 some (m.Break==6))).bind fun g=>
 some g)).bind fun d=>
 some d)).bind fun c=>
 if c=true then
 some (.inr (.inl 2))
 else
 some (.inl ((w64 (a+1))))
 else
 some (.inr (.inr ()))) (0)).bind fun b=>
 match b with
 | .inl b=>
 some b
 | .inr b=>
 some 1
theorem ry (O0:Own c0 G F) (p0:List Int) (p1:List ax) {r:Int} (h2:Sl (RI .i32) c0 v1 p0) (g:Sl cx c0 v3 p1) (H:gF p0 p1=some r): Calls prog 87 #[v1,v3] c0.w (aN c0 fun c v=>Own c G (F)∧v=I r):=by
 unfold gF at H;refine en func87 rfl rfl (sr (va (I 0) (wln (W.seq (sr (va (I 0) (wln (W.block (bn H fun N h5 H6=>lp h5 (fun a=>Jn c0 fun c l=>Own c G (F)∧l= [(0,v1),(1,v3),(5,I a)]) (fun t=>match t with | .inl x_=>(fun j2 ex e w=>ex= .ret∧(Jn c0 fun c l=>Own c G (F)∧l= [(4,I j2)]) e w) x_ | .inr x_=>(fun w2 ex e w=>ex= .exit 0∧(Jn c0 fun c l=>Own c G (F)∧l= []) e w) x_) ?_ ?_ ?_)))))))))
 ·clear H6 h5;intro a d3 g1 k2 H;revert g1 k2;rintro e_ w_ ⟨c7,g8,_,rfl,x,rfl,O9,rfl⟩;refine W.seq (sr (va (I a) (va (v1) (vx (ln 3 dh h2.m) (va (B (decide (a < (p0.length:Int)))) (wln (cn H (fun i1 H=>?_) (fun i1 H=>?_))))))))
  ·refine W.skip (nrm (W.seq (W.block (W.seq (bn H fun z0 X H=>bn H fun P j1 H=>bn H fun s0 Z H=>W.join (Jn c7 fun c l=>Own c G (F)∧l= [(0,v1),(1,v3),(5,I a),(51,B s0)]) ?_ ?_)))))
   ·clear H;refine W.region (va (v3) (va (I a) ?_));obtain ⟨o2,k1,a2⟩:=Sl.at (g.mono x) (aT X);obtain rfl:=k1;refine vx (ix nh g.m X) (vx (lN 33 a2) (cl (sj O9 z0 j1) ?_));rintro v25 i k ⟨h,rfl⟩;refine va (B (P==2)) ?_;rcases bo (P==2) with n | n
    ·obtain rfl:=orT n Z;exact vb n (pz (pz (pz (pz (pz (pz (pz (pz (pz (pz (pz (pz (pz (pz (pz (pz (va (B true) (wln (jn i ⟨h,rfl⟩)))))))))))))))))))
    have f:=orF n Z;refine vb n (wa (I a) (wa (B (decide (a > 0))) (wn (bn f fun m2 a0 f=>?_))));rcases bo (decide (a > 0)) with o | o
    ·have b:=anT o a0;refine vb o (wa (v1) (wa (I a) (wn (bn b fun R b0 b=>?_))));obtain ⟨p2,m1,b2⟩:=Sl.at (h2.mono (x.trans k)) (aT b0);obtain rfl:=m1;refine vx (ix dh h2.m b0) (wn (vx (l1 mC (b2 0 _ rfl)) (wa (B (R==65039)) (wn (bn b fun n2 d0 b=>?_)))));rcases bo (R==65039) with p | p
     ·have y:=anT p d0;refine vb p (wa (v3) (wa (I a) (wa (I (w64 (a - 1))) (wn (bn y fun S e0 y=>?_)))));obtain ⟨q2,n1,c2⟩:=Sl.at (g.mono (x.trans k)) (aT e0);obtain rfl:=n1;refine vx (ix nh g.m e0) (wa (Qo (sb v3) (so v3+(w64 (a - 1)).toNat * 4+1)) (wn (vx (l1 u_4 (c2 1 _ rfl)) (wn ?_))));obtain rfl:=si y;refine va (B S.Pict) (wn (bn b fun t0 f0 b=>?_));rcases bo (S.Pict) with q | q
      ·obtain rfl:=orT q f0;refine vb q (pz (pz (ps (wa (B true) (wn (bn b fun M q1 b=>?_))))));have g0:true=true:=rfl;obtain rfl:=orT g0 q1;refine vb g0 (pz (pz (pz (wa (B true) (wn ?_)))));obtain rfl:=si b;refine va (B true) ?_;obtain rfl:=si f;exact va (B true) (wln (jn i ⟨h,rfl⟩))
      have z:=orF q f0;refine vb q (wa (v3) (wa (I a) (wn (bn z fun j h0 z=>?_))));obtain ⟨s2,s1,d2⟩:=Sl.at (g.mono (x.trans k)) (aT h0);obtain rfl:=s1;refine vx (ix nh g.m h0) (wa (Qo (sb v3) (so v3+a.toNat * 4+1)) (wn (vx (l1 u_4 (d2 1 _ rfl)) (wn ?_))));obtain rfl:=si z;refine va (B j.Pict) (wn (bn b fun M i0 b=>?_));rcases bo (j.Pict) with s | s
      ·obtain rfl:=orT s i0;refine vb s (pz (pz (pz (wa (B true) (wn ?_)))));obtain rfl:=si b;refine va (B true) ?_;obtain rfl:=si f;exact va (B true) (wln (jn i ⟨h,rfl⟩))
      have A:=orF s i0;refine vb s (wa (v3) (wa (I a) (wn (bn A fun d j0 A=>?_))));obtain ⟨t2,u1,e2⟩:=Sl.at (g.mono (x.trans k)) (aT j0);obtain rfl:=u1;refine vx (ix nh g.m j0) (wa (Qo (sb v3) (so v3+a.toNat * 4)) (wn (vx (l1 u_3 (e2 0 _ rfl)) (wa (B (d.Break==6)) (wn ?_)))));obtain rfl:=si A;refine va (B (d.Break==6)) (wn ?_);obtain rfl:=si b;refine va (B (d.Break==6)) ?_;obtain rfl:=si f;exact va (B (d.Break==6)) (wln (jn i ⟨h,rfl⟩))
     obtain rfl:=anF p d0;refine vb p (pz (pz (pz (wa (B false) (wn (bn b fun t0 w1 b=>?_))))));have k0:false=false:=rfl;have D:=orF k0 w1;refine vb k0 (wa (v3) (wa (I a) (wn (bn D fun j l0 D=>?_))));obtain ⟨u2,x1,f2⟩:=Sl.at (g.mono (x.trans k)) (aT l0);obtain rfl:=x1;refine vx (ix nh g.m l0) (wa (Qo (sb v3) (so v3+a.toNat * 4+1)) (wn (vx (l1 u_4 (f2 1 _ rfl)) (wn ?_))));obtain rfl:=si D;refine va (B j.Pict) (wn (bn b fun M m0 b=>?_));rcases bo (j.Pict) with u | u
     ·obtain rfl:=orT u m0;refine vb u (pz (pz (pz (wa (B true) (wn ?_)))));obtain rfl:=si b;refine va (B true) ?_;obtain rfl:=si f;exact va (B true) (wln (jn i ⟨h,rfl⟩))
     have E:=orF u m0;refine vb u (wa (v3) (wa (I a) (wn (bn E fun d o0 E=>?_))));obtain ⟨v2,y1,g2⟩:=Sl.at (g.mono (x.trans k)) (aT o0);obtain rfl:=y1;refine vx (ix nh g.m o0) (wa (Qo (sb v3) (so v3+a.toNat * 4)) (wn (vx (l1 u_3 (g2 0 _ rfl)) (wa (B (d.Break==6)) (wn ?_)))));obtain rfl:=si E;refine va (B (d.Break==6)) (wn ?_);obtain rfl:=si b;refine va (B (d.Break==6)) ?_;obtain rfl:=si f;exact va (B (d.Break==6)) (wln (jn i ⟨h,rfl⟩))
    obtain rfl:=anF o a0;refine vb o (pz (pz (pz (pz (pz (pz (pz (pz (pz (pz (pz (pz (pz (pz (wa (B false) ?_)))))))))))))));obtain rfl:=si f;exact va (B false) (wln (jn i ⟨h,rfl⟩))
   rintro e_ w_ ⟨U,x2,_,rfl,a3,rfl,T,rfl⟩;refine nrm (cn H (fun z1 H=>?_) (fun z1 H=>?_))
   ·refine sr (va (I 2) (wln (W.ret (bkr (thr ?_)))));obtain rfl:=si H;exact ⟨_,rfl,⟨rfl,jn U ⟨T,rfl⟩⟩⟩
   refine W.skip (bkn (nrm (W.region (va (I a) (vv (I (w64 (a+1))) (WL.nil ?_))))));obtain rfl:=si H;exact ⟨_,rfl,jn U ⟨T,rfl⟩⟩
  refine W.exit (thx ?_);obtain rfl:=si H;exact ⟨_,rfl,rfl,jn c7 ⟨O9,rfl⟩⟩
 ·exact jn c0 ⟨O0,rfl⟩
 rcases N with N | N
 ·intro h1; revert h1;rintro _ e_ w_ ⟨rfl,e1,y2,_,rfl,b3,rfl,a1,rfl⟩;refine bkr (thr ?_);obtain rfl:=si H6;exact r1 (qq e1 ⟨a1,rfl⟩)
 rintro _ e_ w_ ⟨rfl,f1,z2,_,rfl,c3,rfl,b1,rfl⟩;refine bke (nrm (sr (va (I 1) (wln (W.ret ?_)))));obtain rfl:=si H6;exact r1 (qq f1 ⟨b1,rfl⟩)
def kZ:List (Int×Int×Int):=[(0,9,3),(10,10,2),(11,12,3),(13,13,1),(14,31,3),(127,159,3),(173,173,3),(768,879,4),(1155,1161,4),(1425,1469,4),(1471,1471,4),(1473,1474,4),(1476,1477,4),(1479,1479,4),(1536,1541,7),(1552,1562,4),(1564,1564,3),(1611,1631,4),(1648,1648,4),(1750,1756,4),(1757,1757,7),(1759,1764,4),(1767,1768,4),(1770,1773,4),(1807,1807,7),(1809,1809,4),(1840,1866,4),(1958,1968,4),(2027,2035,4),(2070,2073,4),(2075,2083,4),(2192,2193,7),(2259,2273,4),(2274,2274,7),(2275,2306,4),(2307,2307,8),(2362,2362,4),(2363,2363,8),(2364,2364,4),(2366,2368,8),(2369,2376,4),(2377,2380,8),(2381,2381,4),(2382,2383,8),(2385,2391,4),(2402,2403,4),(2433,2433,4),(2434,2435,8),(2492,2492,4),(2494,2494,4),(2495,2496,8),(2497,2500,4),(2503,2504,8),(2507,2508,8),(2509,2509,4),(2519,2519,4),(2530,2531,4),(2561,2562,4),(2563,2563,8),(2620,2620,4),(2622,2624,8),(2625,2626,4),(2631,2632,4),(2635,2637,4),(2691,2691,8),(2748,2748,4),(2750,2752,8),(2753,2757,4),(2761,2761,8),(2765,2765,4),(2818,2819,8),(2876,2876,4),(2878,2879,4),(2880,2880,8),(2881,2884,4),(2887,2888,8),(2893,2893,4),(2902,2903,4),(3073,3075,8),(3132,3132,4),(3134,3136,4),(3137,3140,8),(3142,3144,4),(3146,3149,4),(3276,3277,4),(3330,3331,8),(3390,3390,4),(3391,3392,8),(3393,3396,4),(3398,3400,8),(3405,3405,4),(3406,3406,7),(3633,3633,4),(3635,3635,8),(3636,3642,4),(3655,3662,4),(3761,3761,4),(3763,3763,8),(3764,3772,4),(3864,3865,4),(3902,3903,8),(3953,3966,4),(4155,4156,8),(4957,4959,4),(6158,6158,3),(6832,6862,4),(7616,7679,4),(8203,8203,3),(8204,8204,4),(8205,8205,5),(8206,8207,3),(8232,8238,3),(8288,8303,3),(8400,8432,4),(12330,12335,4),(12441,12442,4),(42607,42610,4),(64286,64286,4),(65024,65039,4),(65056,65071,4),(65279,65279,3),(65520,65531,3),(69821,69821,7),(69837,69837,7),(127462,127487,6),(127995,127999,4),(917504,917535,3),(917536,917631,4),(917632,917759,3),(917760,917999,4),(918000,921599,3)]
def mH:Option (List (Int×Int×Int)):=
 some kZ
theorem zh (d:Own c0 G F) {r:List (Int×Int×Int)} (H:mH=some r): Calls prog 252 #[] c0.w (aN c0 fun c v=>∃a b,Own c G (es true iK a 295 b r :: F)∧v=a∧OA iK c a b r):=by
 unfold mH at H;refine en func252 rfl rfl (sr (va (Y) (wln (sr (va (aH 0 9 3) (va (aH 10 10 2) (va (aH 11 12 3) (va (aH 13 13 1) (va (aH 14 31 3) (va (aH 127 159 3) (va (aH 173 173 3) (va (aH 768 879 4) (va (aH 1155 1161 4) (va (aH 1425 1469 4) (va (aH 1471 1471 4) (va (aH 1473 1474 4) (va (aH 1476 1477 4) (va (aH 1479 1479 4) (va (aH 1536 1541 7) (va (aH 1552 1562 4) (va (aH 1564 1564 3) (va (aH 1611 1631 4) (va (aH 1648 1648 4) (va (aH 1750 1756 4) (va (aH 1757 1757 7) (va (aH 1759 1764 4) (va (aH 1767 1768 4) (va (aH 1770 1773 4) (va (aH 1807 1807 7) (va (aH 1809 1809 4) (va (aH 1840 1866 4) (va (aH 1958 1968 4) (va (aH 2027 2035 4) (va (aH 2070 2073 4) (va (aH 2075 2083 4) (va (aH 2192 2193 7) (va (aH 2259 2273 4) (va (aH 2274 2274 7) (va (aH 2275 2306 4) (va (aH 2307 2307 8) (va (aH 2362 2362 4) (va (aH 2363 2363 8) (va (aH 2364 2364 4) (va (aH 2366 2368 8) (va (aH 2369 2376 4) (va (aH 2377 2380 8) (va (aH 2381 2381 4) (va (aH 2382 2383 8) (va (aH 2385 2391 4) (va (aH 2402 2403 4) (va (aH 2433 2433 4) (va (aH 2434 2435 8) (va (aH 2492 2492 4) (va (aH 2494 2494 4) (va (aH 2495 2496 8) (va (aH 2497 2500 4) (va (aH 2503 2504 8) (va (aH 2507 2508 8) (va (aH 2509 2509 4) (va (aH 2519 2519 4) (va (aH 2530 2531 4) (va (aH 2561 2562 4) (va (aH 2563 2563 8) (va (aH 2620 2620 4) (va (aH 2622 2624 8) (va (aH 2625 2626 4) (va (aH 2631 2632 4) (va (aH 2635 2637 4) (va (aH 2691 2691 8) (va (aH 2748 2748 4) (va (aH 2750 2752 8) (va (aH 2753 2757 4) (va (aH 2761 2761 8) (va (aH 2765 2765 4) (va (aH 2818 2819 8) (va (aH 2876 2876 4) (va (aH 2878 2879 4) (va (aH 2880 2880 8) (va (aH 2881 2884 4) (va (aH 2887 2888 8) (va (aH 2893 2893 4) (va (aH 2902 2903 4) (va (aH 3073 3075 8) (va (aH 3132 3132 4) (va (aH 3134 3136 4) (va (aH 3137 3140 8) (va (aH 3142 3144 4) (va (aH 3146 3149 4) (va (aH 3276 3277 4) (va (aH 3330 3331 8) (va (aH 3390 3390 4) (va (aH 3391 3392 8) (va (aH 3393 3396 4) (va (aH 3398 3400 8) (va (aH 3405 3405 4) (va (aH 3406 3406 7) (va (aH 3633 3633 4) (va (aH 3635 3635 8) (va (aH 3636 3642 4) (va (aH 3655 3662 4) (va (aH 3761 3761 4) (va (aH 3763 3763 8) (va (aH 3764 3772 4) (va (aH 3864 3865 4) (va (aH 3902 3903 8) (va (aH 3953 3966 4) (va (aH 4155 4156 8) (va (aH 4957 4959 4) (va (aH 6158 6158 3) (va (aH 6832 6862 4) (va (aH 7616 7679 4) (va (aH 8203 8203 3) (va (aH 8204 8204 4) (va (aH 8205 8205 5) (va (aH 8206 8207 3) (va (aH 8232 8238 3) (va (aH 8288 8303 3) (va (aH 8400 8432 4) (va (aH 12330 12335 4) (va (aH 12441 12442 4) (va (aH 42607 42610 4) (va (aH 64286 64286 4) (va (aH 65024 65039 4) (va (aH 65056 65071 4) (va (aH 65279 65279 3) (va (aH 65520 65531 3) (va (aH 69821 69821 7) (va (aH 69837 69837 7) (va (aH 127462 127487 6) (va (aH 127995 127999 4) (va (aH 917504 917535 3) (va (aH 917536 917631 4) (va (aH 917632 917759 3) (va (aH 917760 917999 4) (va (aH 918000 921599 3) (me (Own.sl (R:=iK) (E:=295) (ls:=kZ.map (fun x=>[I x.1,I x.2.1,I x.2.2])) (vs:=(kZ.map (fun x=>[I x.1,I x.2.1,I x.2.2])).flatten) (xs:=kZ) true d (aM _) rfl (oo.map _ (fun _=>rfl) _) (by kernel_rfl) (by kernel_rfl)) ?_))))))))))))))))))))))))))))))))))))))))))))))))))))))))))))))))))))))))))))))))))))))))))))))))))))))))))))))))))))))))))))))))))))))));rintro v5 f i ⟨h,e,g⟩;refine va (v5) (wln (W.ret ?_));obtain rfl:=si H;exact r1 (qq f ⟨v5,h,e,rfl,g⟩)
def ns (p0:Int) (q0_0:List (Int×Int×Int)) (q1_0:Int):Option (Bool):=
 (idx q0_0 p0).bind fun a=>
 some (decide (a.2.1≥(w64 q1_0)))
theorem Ag {d:Nat} {e:Nat} (o:Own c0 G F) (b:Int) (q0_0:List (Int×Int×Int)) (q1_0:Int) {r:Bool} (s:∀j u,([v2]:List Value)[j]? = some u→Im c0 d (0+j) u) (k:Sl iK c0 v2 q0_0) (t:∀j u,([J q1_0]:List Value)[j]? = some u→Im c0 e (0+j) u) (H:ns b q0_0 q1_0=some r): Calls prog 254 #[I b,Q d,Q e] c0.w (aN c0 fun c v=>Own c G (F)∧v=B r):=by
 unfold ns at H;refine en func254 rfl rfl (sr (va (B false) (wln (W.seq (rD [] (Kp G0 []) o ?_)))));intro h q p;have y:Kp G0 [] h:=Kp.nil0;refine tx 0 (fun g a=>l1 iL ((mm s) 0 _ rfl)) (ta 1 (I b) (bn H fun f l H=>?_));obtain ⟨x,i,n⟩:=Sl.at (k.mono q) (aT l);obtain rfl:=i;refine tx 2 (fun g a=>ix iL k.m l) (ta 3 (Qo (sb v2) (so v2+b.toNat * 3+1)) (tx 4 (fun g a=>l1 u_3 ((mm n) 1 _ rfl)) (tx 5 (fun g a=>l1 mC ((mm t) 0 _ rfl)) (ta 6 (I (w64 q1_0)) (ta 7 (B (decide (f.2.1≥(w64 q1_0)))) (ta 8 (B (decide (f.2.1≥(w64 q1_0)))) (dn (nrm (W.ret ?_)))))))));obtain rfl:=si H;exact r1 (qq h ⟨p,rfl⟩)
def gk (p0:Int) (p1_0_0:List (Int×Int×Int)) (p1_1_0:Int):Option (Int):=
 (cE (σ:=Int×Int) (τ:=Int) ((p0 - 0).toNat+1) (fun a=>
 if (decide (a.1 < a.2))=true then
 (ns (w64 ((IntKind.u64.wrap (w64 (a.1+a.2))).fdiv (2 ^ 1))) p1_0_0 p1_1_0).bind fun b=>
 if (!b)=true then
 some (.inl ((w64 ((w64 ((IntKind.u64.wrap (w64 (a.1+a.2))).fdiv (2 ^ 1)))+1)),a.2))
 else
 some (.inl (a.1,(w64 ((IntKind.u64.wrap (w64 (a.1+a.2))).fdiv (2 ^ 1)))))
 else
 some (.inr (a.1))) (0,p0)).bind fun c=>
 some c
theorem oO {b1_0:Nat} {b1_1:Nat} (A:Own c0 G F) (b:Int) (p1_0_0:List (Int×Int×Int)) (p1_1_0:Int) {r:Int} (N:∀j u,([v2]:List Value)[j]? = some u→Im c0 b1_0 (0+j) u) (M:Sl iK c0 v2 p1_0_0) (P:∀j u,([J p1_1_0]:List Value)[j]? = some u→Im c0 b1_1 (0+j) u) (H:gk b p1_0_0 p1_1_0=some r): Calls prog 253 #[I b,.func (.func 254) #[] #[Q b1_0,Q b1_1]] c0.w (aN c0 fun c v=>Own c G (F)∧v=I r):=by
 unfold gk at H;refine en func253 rfl rfl (sr (va (I 0) (wln (sr (va (I b) (va (I 0) (va (I b) (wln (W.seq (W.block (bn H fun g y k=>lp y (fun a=>Jn c0 fun c l=>Own c G (F)∧l= [(1,.func (.func 254) #[] #[Q b1_0,Q b1_1]),(5,I a.1),(6,I a.2)]) (fun h ex e w=>ex= .exit 0∧(Jn c0 fun c l=>Own c G (F)∧l= [(5,I h)]) e w) ?_ ?_ ?_)))))))))))
 ·clear k y;intro a X q z H;revert q z;rintro E R ⟨D,Z,_,rfl,l7,rfl,o,rfl⟩;refine W.seq (sr (va (I a.1) (va (I a.2) (va (B (decide (a.1 < a.2))) (wln (cn H (fun s H=>?_) (fun s H=>?_)))))))
  ·refine W.skip (nrm (W.block (sr (va (I a.1) (va (I a.2) (va (I (w64 (a.1+a.2))) (va (.int .u64 (IntKind.u64.wrap (w64 (a.1+a.2)))) (va (.int .u64 ((IntKind.u64.wrap (w64 (a.1+a.2))).fdiv (2 ^ 1))) (vv (I (w64 ((IntKind.u64.wrap (w64 (a.1+a.2))).fdiv (2 ^ 1)))) (wln (sr (va (.func (.func 254) #[] #[Q b1_0,Q b1_1]) (va (I (w64 ((IntKind.u64.wrap (w64 (a.1+a.2))).fdiv (2 ^ 1)))) (bn H fun i t H=>cl (Ag o (w64 ((IntKind.u64.wrap (w64 (a.1+a.2))).fdiv (2 ^ 1))) p1_0_0 p1_1_0 (mm N) M.m (mm P) t) ?_))))))))))))));rintro v20 f T ⟨d,rfl⟩;refine va (B (!i)) (wln (cn H (fun x H=>?_) (fun x H=>?_)))
   ·refine W.region (va (I (w64 ((IntKind.u64.wrap (w64 (a.1+a.2))).fdiv (2 ^ 1)))) (vv (I (w64 ((w64 ((IntKind.u64.wrap (w64 (a.1+a.2))).fdiv (2 ^ 1)))+1))) (WL.nil (bkn ?_))));obtain rfl:=si H;exact ⟨_,rfl,jn f ⟨d,rfl⟩⟩
   refine W.region (vv (I (w64 ((IntKind.u64.wrap (w64 (a.1+a.2))).fdiv (2 ^ 1)))) (WL.nil (bkn ?_)));obtain rfl:=si H;exact ⟨_,rfl,jn f ⟨d,rfl⟩⟩
  refine W.exit (thx ?_);obtain rfl:=si H;exact ⟨_,rfl,rfl,jn D ⟨o,rfl⟩⟩
 ·exact jn c0 ⟨A,rfl⟩
 rintro _ E R ⟨rfl,p,S,_,rfl,U,rfl,n,rfl⟩;refine bke (nrm (sr (vv (I g) (wln (W.ret ?_)))));obtain rfl:=si k;exact r1 (qq p ⟨n,rfl⟩)
def gM (p0:Int) (p1:Int) (p2:Int):Option (Bool):=
 (bI (decide (p0≥p1)) (some (decide (p0≤p2)))).bind fun a=>
 some a
theorem ku (f:Own c0 G F) (a:Int) (e:Int) (b:Int) {r:Bool} (H:gM a e b=some r): Calls prog 269 #[J a,J e,J b] c0.w (aN c0 fun c v=>Own c G (F)∧v=B r):=by
 unfold gM at H;refine en func269 rfl rfl (sr (va (B false) (wln (W.seq (bn H fun g h H=>W.join (Jn c0 fun c l=>Own c G (F)∧l= [(6,B g)]) ?_ ?_)))))
 ·clear H;refine W.region (va (J a) (va (J e) (va (B (decide (a≥e))) ?_)));rcases bo (decide (a≥e)) with d | d
  ·have i:=anT d h;refine vb d (wa (J a) (wa (J b) (wa (B (decide (a≤b))) ?_)));obtain rfl:=si i;exact vv (B (decide (a≤b))) (wln (jn c0 ⟨f,rfl⟩))
  obtain rfl:=anF d h;exact vb d (pz (ps (vv (B false) (wln (jn c0 ⟨f,rfl⟩)))))
 rintro m p ⟨k,n,_,rfl,o,rfl,j,rfl⟩;refine nrm (W.ret ?_);obtain rfl:=si H;exact r1 (qq k ⟨j,rfl⟩)
def jW (p0:Int):Option (Bool):=
 (gM p0 44032 55203).bind fun a=>
 some a
theorem tn (d:Own c0 G F) (a:Int) {r:Bool} (H:jW a=some r): Calls prog 270 #[J a] c0.w (aN c0 fun c v=>Own c G (F)∧v=B r):=by
 unfold jW at H;refine en func270 rfl rfl (sr (va (B false) (wln (sr (va (J a) (bn H fun b g H=>cl (ku d a 44032 55203 g) ?_))))));rintro v7 f h ⟨e,rfl⟩;refine va (B b) (wln (W.ret ?_));obtain rfl:=si H;exact r1 (qq f ⟨e,rfl⟩)
def kj (p0:Int):Option (Int):=
 (gM p0 4352 4447).bind fun i=>
 (orE i ((gM p0 43360 43388).bind fun j=>
 some j)).bind fun h=>
 if h=true then
 some 9
 else
 (gM p0 4448 4519).bind fun c=>
 (orE c ((gM p0 55216 55238).bind fun d=>
 some d)).bind fun a=>
 if a=true then
 some 10
 else
 (gM p0 4520 4607).bind fun e=>
 (orE e ((gM p0 55243 55291).bind fun f=>
 some f)).bind fun b=>
 if b=true then
 some 11
 else
 (jW p0).bind fun g=>
 if (!g)=true then
 some 0
 else
 if (((w32 (p0 - 44032)).tmod 28)==0)=true then
 some 12
 else
 some 13
theorem vO (O0:Own c0 G F) (a:Int) {r:Int} (H:kj a=some r): Calls prog 255 #[J a] c0.w (aN c0 fun c v=>Own c G (F)∧v=I r):=by
 unfold kj at H;refine en func255 rfl rfl (sr (va (I 0) (wln (W.seq (W.block (W.seq (bn H fun w0 h1 H=>bn H fun e0 h2 H=>W.join (Jn c0 fun c l=>Own c G (F)∧l= [(0,J a),(3,B e0)]) ?_ ?_)))))))
 ·clear H;refine W.region (va (J a) (cl (ku O0 a 4352 4447 h1) ?_));rintro v8 c7 l7 ⟨S,rfl⟩;rcases bo (w0) with j | j
  ·obtain rfl:=orT j h2;exact vb j (pz (vv (B true) (wln (jn c7 ⟨S,rfl⟩))))
  have e:=orF j h2;refine vb j (wa (J a) (wn (bn e fun A g0 e=>cl (ku S a 43360 43388 g0) ?_)));rintro v17 U l16 ⟨P,rfl⟩;obtain rfl:=si e;exact vv (B A) (wln (jn U ⟨P,rfl⟩))
 rintro e_ w_ ⟨u,a1,_,rfl,d1,rfl,o,rfl⟩;refine nrm (cn H (fun i0 H=>?_) (fun i0 H=>?_))
 ·refine sr (va (I 9) (wln (W.ret (bkr (thr ?_)))));obtain rfl:=si H;exact r1 (qq u ⟨o,rfl⟩)
 refine W.seq (bn H fun M j0 H=>bn H fun D y H=>W.join (Jn u fun c l=>Own c G (F)∧l= [(0,J a),(10,B D)]) ?_ ?_)
 ·clear H;refine W.region (va (J a) (cl (ku o a 4448 4519 j0) ?_));rintro v32 X e1 ⟨p,rfl⟩;rcases bo (M) with b | b
  ·obtain rfl:=orT b y;exact vb b (pz (vv (B true) (wln (jn X ⟨p,rfl⟩))))
  have f:=orF b y;refine vb b (wa (J a) (wn (bn f fun k k0 f=>cl (ku p a 55216 55238 k0) ?_)));rintro v41 Z f1 ⟨R,rfl⟩;obtain rfl:=si f;exact vv (B k) (wln (jn Z ⟨R,rfl⟩))
 rintro e_ w_ ⟨x,b1,_,rfl,g1,rfl,q,rfl⟩;refine nrm (cn H (fun l0 H=>?_) (fun l0 H=>?_))
 ·refine sr (va (I 10) (wln (W.ret (bkr (thr ?_)))));obtain rfl:=si H;exact r1 (qq x ⟨q,rfl⟩)
 refine W.seq (bn H fun N m0 H=>bn H fun E z H=>W.join (Jn x fun c l=>Own c G (F)∧l= [(0,J a),(17,B E)]) ?_ ?_)
 ·clear H;refine W.region (va (J a) (cl (ku q a 4520 4607 m0) ?_));rintro v56 a0 i1 ⟨s,rfl⟩;rcases bo (N) with d | d
  ·obtain rfl:=orT d z;exact vb d (pz (vv (B true) (wln (jn a0 ⟨s,rfl⟩))))
  have g:=orF d z;refine vb d (wa (J a) (wn (bn g fun m o0 g=>cl (ku s a 55243 55291 o0) ?_)));rintro n1 b0 j1 ⟨T,rfl⟩;obtain rfl:=si g;exact vv (B m) (wln (jn b0 ⟨T,rfl⟩))
 rintro e_ w_ ⟨d0,c1,_,rfl,k1,rfl,t,rfl⟩;refine nrm (cn H (fun q0 H=>?_) (fun q0 H=>?_))
 ·refine sr (va (I 11) (wln (W.ret (bkr (thr ?_)))));obtain rfl:=si H;exact r1 (qq d0 ⟨t,rfl⟩)
 refine sr (va (J a) (bn H fun n s0 H=>cl (tn t a s0) ?_));rintro p1 i m1 ⟨h,rfl⟩;refine vv (B (!n)) (wln (cn H (fun t0 H=>?_) (fun t0 H=>?_)))
 ·refine sr (va (I 0) (wln (W.ret (bkr (thr ?_)))));obtain rfl:=si H;exact r1 (qq i ⟨h,rfl⟩)
 refine sr (va (J a) (va (J (w32 (a - 44032))) (va (J ((w32 (a - 44032)).tmod 28)) (vv (B (((w32 (a - 44032)).tmod 28)==0)) (wln (cn H (fun u0 H=>?_) (fun u0 H=>?_)))))))
 ·refine sr (va (I 12) (wln (W.ret (bkr (thr ?_)))));obtain rfl:=si H;exact r1 (qq i ⟨h,rfl⟩)
 refine W.skip (bkn (nrm (sr (va (I 13) (wln (W.ret ?_))))));obtain rfl:=si H;exact r1 (qq i ⟨h,rfl⟩)
def qy (p0:Int):Option (Int):=
 (mH).bind fun a=>
 (gk (a.length:Int) a p0).bind fun b=>
 (bI (decide (b < (a.length:Int))) ((idx a b).bind fun d=>
 some (decide (d.1≤(w64 p0))))).bind fun c=>
 if c=true then
 (idx a b).bind fun e=>
 some e.2.2
 else
 (kj p0).bind fun f=>
 some f
theorem DB (O0:Own c0 G F) (i:Int) {r:Int} (H:qy i=some r): Calls prog 227 #[J i] c0.w (aN c0 fun c v=>Own c G (F)∧v=I r):=by
 unfold qy at H;refine en func227 rfl rfl (sr (me (bx 21 [J i] O0) ?_));rintro v5 c4 l4 ⟨b1,rfl,O2,R⟩;refine va (I 0) (wln (sr (bn H fun j h6 H=>cl (zh O2 h6) ?_)));rintro v7 h1 p1 ⟨_,u8,U,rfl,s⟩;refine me (al 292 [Y] U) ?_;rintro v19 i1 E ⟨y,rfl,X⟩;obtain ⟨b,d,e,rfl⟩:=((s.mono E)).form;refine md (sC 292 0 (.slice b d e) [.slice b d e] 0 X ⟨s.m.one,trivial⟩) ?_;rintro j1 v0 t;refine wln (sr (vx (le1 0 iL (t.on 0 rfl)) (vx (lnO 3 iL s.m) ?_)));obtain ⟨k1,l0,q1,Z,g⟩:=t.frz 1 rfl (s.mono (E.trans v0));refine WL.gh l0 ?_;obtain ⟨m1,m0,M,a0,n⟩:=Own.frzB 0 Z rfl;refine WL.gh m0 ?_;have b0:=a0.sD 2 [1];refine va (.func (.func 254) #[] #[Q y,Q b1]) (bn H fun a o0 H=>cl (oO b0 (j.length:Int) j i n g.m (mm R) o0) ?_);rintro v40 i0 N ⟨d0,rfl⟩;refine va (I a) (wln (W.seq (W.seq (bn H fun P z H=>W.join (Jn i0 fun c l=>Own c G (es false iK (.slice b d e) 295 u8 j :: F)∧l= [(1,Q b1),(3,Q y),(4,I a),(23,B P)]) ?_ ?_))))
 ·clear H;refine rD [] (Kp G0 []) d0 ?_;intro p w0 u;have t1:Kp G0 [] p:=Kp.nil0;refine ta 0 (I a) (tx 1 (fun k f=>l1 iL ((mm n) 0 _ rfl)) (tx 2 (fun k f=>ln 3 iL g.m) (ta 3 (B (decide (a < (j.length:Int)))) ?_)));rcases bo (decide (a < (j.length:Int))) with h | h
  ·have o:=anT h z;refine bn o fun q A o=>AC.takeb 4 h rfl (by kernel_rfl) (by kernel_rfl) (fun k f=>(by kernel_rfl)) (tx 5 (fun k f=>l1 iL ((mm n) 0 _ rfl)) (ta 6 (I a) ?_));obtain ⟨e1,q0,y0⟩:=Sl.at (g.mono (M.trans (N.trans w0))) (aT A);obtain rfl:=q0;refine tx 7 (fun k f=>ix iL g.m A) (ta 8 (Qo (sb (.slice b d e)) (so (.slice b d e)+a.toNat * 3)) (tx 9 (fun k f=>l1 u_3 ((mm y0) 0 _ rfl)) (tx 10 (fun k f=>l1 mC ((mm R) 0 _ rfl)) (ta 11 (I (w64 i)) (ta 12 (B (decide (q.1≤(w64 i)))) ?_)))));obtain rfl:=si o;exact ta 13 (B (decide (q.1≤(w64 i)))) (dn (nrm (jn p ⟨u,rfl⟩)))
  obtain rfl:=anF h z;exact AC.takeb 4 h rfl (by kernel_rfl) (by kernel_rfl) (fun k f=>(by kernel_rfl)) (tp 5 (tp 6 (tp 7 (tp 8 (tp 9 (tp 10 (tp 11 (tp 12 (ta 13 (B false) (dn (nrm (jn p ⟨u,rfl⟩))))))))))))
 rintro e_ w_ ⟨j0,n1,_,rfl,x0,rfl,x,rfl⟩;refine nrm (cn H (fun s0 H=>?_) (fun s0 H=>?_))
 ·refine sr (vx (l1 iL ((mm n) 0 _ rfl)) (va (I a) (bn H fun S D H=>?_)));obtain ⟨f1,t0,z0⟩:=Sl.at (g.mono (M.trans (N.trans x0))) (aT D);obtain rfl:=t0;refine vx (ix iL g.m D) (va (Qo (sb (.slice b d e)) (so (.slice b d e)+a.toNat * 3+2)) (vx (l1 u_3 (z0 2 _ rfl)) (va (I S.2.2) (wln (W.ret (thr ?_))))));obtain rfl:=si H;have e0:=x.sD 1 [];exact r1 (qq j0 ⟨e0,rfl⟩)
 refine W.skip (nrm (sr (vx (l1 mC ((mm R) 0 _ rfl)) (bn H fun T u0 H=>cl (vO x i u0) ?_))));rintro u1 k0 s1 ⟨f0,rfl⟩;refine va (I T) (wln (W.ret ?_));obtain rfl:=si H;have g0:=f0.sD 1 [];exact r1 (qq k0 ⟨g0,rfl⟩)
def mG (p0:Int) (q0_0:List (Int×Int)) (q1_0:Int):Option (Bool):=
 (idx q0_0 p0).bind fun a=>
 some (decide (a.2≥q1_0))
theorem zg {d:Nat} {e:Nat} (o:Own c0 G F) (b:Int) (q0_0:List (Int×Int)) (q1_0:Int) {r:Bool} (s:∀j u,([v2]:List Value)[j]? = some u→Im c0 d (0+j) u) (k:Sl rh c0 v2 q0_0) (t:∀j u,([J q1_0]:List Value)[j]? = some u→Im c0 e (0+j) u) (H:mG b q0_0 q1_0=some r): Calls prog 257 #[I b,Q d,Q e] c0.w (aN c0 fun c v=>Own c G (F)∧v=B r):=by
 unfold mG at H;refine en func257 rfl rfl (sr (va (B false) (wln (W.seq (rD [] (Kp G0 []) o ?_)))));intro h q p;have y:Kp G0 [] h:=Kp.nil0;refine tx 0 (fun g a=>l1 uk ((mm s) 0 _ rfl)) (ta 1 (I b) (bn H fun f l H=>?_));obtain ⟨x,i,n⟩:=Sl.at (k.mono q) (aT l);obtain rfl:=i;refine tx 2 (fun g a=>ix uk k.m l) (ta 3 (Qo (sb v2) (so v2+b.toNat * 2+1)) (tx 4 (fun g a=>l1 mC ((mm n) 1 _ rfl)) (tx 5 (fun g a=>l1 mC ((mm t) 0 _ rfl)) (ta 6 (B (decide (f.2≥q1_0))) (ta 7 (B (decide (f.2≥q1_0))) (dn (nrm (W.ret ?_))))))));obtain rfl:=si H;exact r1 (qq h ⟨p,rfl⟩)
def fN (p0:Int) (p1_0_0:List (Int×Int)) (p1_1_0:Int):Option (Int):=
 (cE (σ:=Int×Int) (τ:=Int) ((p0 - 0).toNat+1) (fun a=>
 if (decide (a.1 < a.2))=true then
 (mG (w64 ((IntKind.u64.wrap (w64 (a.1+a.2))).fdiv (2 ^ 1))) p1_0_0 p1_1_0).bind fun b=>
 if (!b)=true then
 some (.inl ((w64 ((w64 ((IntKind.u64.wrap (w64 (a.1+a.2))).fdiv (2 ^ 1)))+1)),a.2))
 else
 some (.inl (a.1,(w64 ((IntKind.u64.wrap (w64 (a.1+a.2))).fdiv (2 ^ 1)))))
 else
 some (.inr (a.1))) (0,p0)).bind fun c=>
 some c
theorem nX {b1_0:Nat} {b1_1:Nat} (A:Own c0 G F) (b:Int) (p1_0_0:List (Int×Int)) (p1_1_0:Int) {r:Int} (N:∀j u,([v2]:List Value)[j]? = some u→Im c0 b1_0 (0+j) u) (M:Sl rh c0 v2 p1_0_0) (P:∀j u,([J p1_1_0]:List Value)[j]? = some u→Im c0 b1_1 (0+j) u) (H:fN b p1_0_0 p1_1_0=some r): Calls prog 253 #[I b,.func (.func 257) #[] #[Q b1_0,Q b1_1]] c0.w (aN c0 fun c v=>Own c G (F)∧v=I r):=by
 unfold fN at H;refine en func253 rfl rfl (sr (va (I 0) (wln (sr (va (I b) (va (I 0) (va (I b) (wln (W.seq (W.block (bn H fun g y k=>lp y (fun a=>Jn c0 fun c l=>Own c G (F)∧l= [(1,.func (.func 257) #[] #[Q b1_0,Q b1_1]),(5,I a.1),(6,I a.2)]) (fun h ex e w=>ex= .exit 0∧(Jn c0 fun c l=>Own c G (F)∧l= [(5,I h)]) e w) ?_ ?_ ?_)))))))))))
 ·clear k y;intro a X q z H;revert q z;rintro E R ⟨D,Z,_,rfl,l7,rfl,o,rfl⟩;refine W.seq (sr (va (I a.1) (va (I a.2) (va (B (decide (a.1 < a.2))) (wln (cn H (fun s H=>?_) (fun s H=>?_)))))))
  ·refine W.skip (nrm (W.block (sr (va (I a.1) (va (I a.2) (va (I (w64 (a.1+a.2))) (va (.int .u64 (IntKind.u64.wrap (w64 (a.1+a.2)))) (va (.int .u64 ((IntKind.u64.wrap (w64 (a.1+a.2))).fdiv (2 ^ 1))) (vv (I (w64 ((IntKind.u64.wrap (w64 (a.1+a.2))).fdiv (2 ^ 1)))) (wln (sr (va (.func (.func 257) #[] #[Q b1_0,Q b1_1]) (va (I (w64 ((IntKind.u64.wrap (w64 (a.1+a.2))).fdiv (2 ^ 1)))) (bn H fun i t H=>cl (zg o (w64 ((IntKind.u64.wrap (w64 (a.1+a.2))).fdiv (2 ^ 1))) p1_0_0 p1_1_0 (mm N) M.m (mm P) t) ?_))))))))))))));rintro v20 f T ⟨d,rfl⟩;refine va (B (!i)) (wln (cn H (fun x H=>?_) (fun x H=>?_)))
   ·refine W.region (va (I (w64 ((IntKind.u64.wrap (w64 (a.1+a.2))).fdiv (2 ^ 1)))) (vv (I (w64 ((w64 ((IntKind.u64.wrap (w64 (a.1+a.2))).fdiv (2 ^ 1)))+1))) (WL.nil (bkn ?_))));obtain rfl:=si H;exact ⟨_,rfl,jn f ⟨d,rfl⟩⟩
   refine W.region (vv (I (w64 ((IntKind.u64.wrap (w64 (a.1+a.2))).fdiv (2 ^ 1)))) (WL.nil (bkn ?_)));obtain rfl:=si H;exact ⟨_,rfl,jn f ⟨d,rfl⟩⟩
  refine W.exit (thx ?_);obtain rfl:=si H;exact ⟨_,rfl,rfl,jn D ⟨o,rfl⟩⟩
 ·exact jn c0 ⟨A,rfl⟩
 rintro _ E R ⟨rfl,p,S,_,rfl,U,rfl,n,rfl⟩;refine bke (nrm (sr (vv (I g) (wln (W.ret ?_)))));obtain rfl:=si k;exact r1 (qq p ⟨n,rfl⟩)
def kY:List (Int×Int):=[(169,169),(174,174),(8252,8252),(8265,8265),(8482,8482),(8505,8505),(8596,8601),(8617,8618),(8986,8987),(9000,9000),(9096,9096),(9167,9167),(9193,9203),(9208,9210),(9410,9410),(9642,9643),(9654,9654),(9664,9664),(9723,9726),(9728,9733),(9735,9746),(9748,9861),(9872,9989),(9992,10002),(10004,10004),(10006,10006),(10013,10013),(10017,10017),(10024,10024),(10035,10036),(10052,10052),(10055,10055),(10060,10060),(10062,10062),(10067,10069),(10071,10071),(10083,10087),(10133,10135),(10145,10145),(10160,10160),(10175,10175),(10548,10549),(11013,11015),(11035,11036),(11088,11088),(11093,11093),(12336,12336),(12349,12349),(12951,12951),(12953,12953),(126976,127231),(127245,127247),(127279,127279),(127340,127345),(127358,127359),(127374,127374),(127377,127386),(127405,127461),(127489,127503),(127514,127514),(127535,127535),(127538,127546),(127548,127551),(127561,127994),(128000,128317),(128326,128591),(128640,128767),(128884,128895),(128981,129023),(129036,129039),(129096,129103),(129114,129119),(129160,129167),(129198,129279),(129292,129338),(129340,129349),(129351,129791),(130048,131069)]
def lI:Option (List (Int×Int)):=
 some kY
theorem xF (d:Own c0 G F) {r:List (Int×Int)} (H:lI=some r): Calls prog 256 #[] c0.w (aN c0 fun c v=>∃a b,Own c G (es true rh a 298 b r :: F)∧v=a∧OA rh c a b r):=by
 unfold lI at H;refine en func256 rfl rfl (sr (va (Y) (wln (sr (va (JII 169 169) (va (JII 174 174) (va (JII 8252 8252) (va (JII 8265 8265) (va (JII 8482 8482) (va (JII 8505 8505) (va (JII 8596 8601) (va (JII 8617 8618) (va (JII 8986 8987) (va (JII 9000 9000) (va (JII 9096 9096) (va (JII 9167 9167) (va (JII 9193 9203) (va (JII 9208 9210) (va (JII 9410 9410) (va (JII 9642 9643) (va (JII 9654 9654) (va (JII 9664 9664) (va (JII 9723 9726) (va (JII 9728 9733) (va (JII 9735 9746) (va (JII 9748 9861) (va (JII 9872 9989) (va (JII 9992 10002) (va (JII 10004 10004) (va (JII 10006 10006) (va (JII 10013 10013) (va (JII 10017 10017) (va (JII 10024 10024) (va (JII 10035 10036) (va (JII 10052 10052) (va (JII 10055 10055) (va (JII 10060 10060) (va (JII 10062 10062) (va (JII 10067 10069) (va (JII 10071 10071) (va (JII 10083 10087) (va (JII 10133 10135) (va (JII 10145 10145) (va (JII 10160 10160) (va (JII 10175 10175) (va (JII 10548 10549) (va (JII 11013 11015) (va (JII 11035 11036) (va (JII 11088 11088) (va (JII 11093 11093) (va (JII 12336 12336) (va (JII 12349 12349) (va (JII 12951 12951) (va (JII 12953 12953) (va (JII 126976 127231) (va (JII 127245 127247) (va (JII 127279 127279) (va (JII 127340 127345) (va (JII 127358 127359) (va (JII 127374 127374) (va (JII 127377 127386) (va (JII 127405 127461) (va (JII 127489 127503) (va (JII 127514 127514) (va (JII 127535 127535) (va (JII 127538 127546) (va (JII 127548 127551) (va (JII 127561 127994) (va (JII 128000 128317) (va (JII 128326 128591) (va (JII 128640 128767) (va (JII 128884 128895) (va (JII 128981 129023) (va (JII 129036 129039) (va (JII 129096 129103) (va (JII 129114 129119) (va (JII 129160 129167) (va (JII 129198 129279) (va (JII 129292 129338) (va (JII 129340 129349) (va (JII 129351 129791) (va (JII 130048 131069) (me (Own.sl (R:=rh) (E:=298) (ls:=kY.map (fun x=>[J x.1,J x.2])) (vs:=(kY.map (fun x=>[J x.1,J x.2])).flatten) (xs:=kY) true d (aM _) rfl (oo.map _ (fun _=>rfl) _) (by kernel_rfl) (by kernel_rfl)) ?_)))))))))))))))))))))))))))))))))))))))))))))))))))))))))))))))))))))))))))))))))));rintro v5 f i ⟨h,e,g⟩;refine va (v5) (wln (W.ret ?_));obtain rfl:=si H;exact r1 (qq f ⟨v5,h,e,rfl,g⟩)
def oD (p0:Int):Option (Bool):=
 (lI).bind fun a=>
 (fN (a.length:Int) a p0).bind fun b=>
 (bI (decide (b < (a.length:Int))) ((idx a b).bind fun d=>
 some (decide (d.1≤p0)))).bind fun c=>
 some c
theorem B0 (O0:Own c0 G F) (j:Int) {r:Bool} (H:oD j=some r): Calls prog 228 #[J j] c0.w (aN c0 fun c v=>Own c G (F)∧v=B r):=by
 unfold oD at H;refine en func228 rfl rfl (sr (me (bx 21 [J j] O0) ?_));rintro v5 c4 l4 ⟨b1,rfl,O2,m3⟩;refine va (B false) (wln (sr (bn H fun h h6 H=>cl (xF O2 h6) ?_)));rintro v7 u0 a1 ⟨_,u8,D,rfl,s⟩;refine me (al 296 [Y] D) ?_;rintro v19 v0 z ⟨U,rfl,E⟩;obtain ⟨d,e,f,rfl⟩:=((s.mono z)).form;refine md (sC 296 0 (.slice d e f) [.slice d e f] 0 E ⟨s.m.one,trivial⟩) ?_;rintro w0 f0 t;refine wln (sr (vx (le1 0 uk (t.on 0 rfl)) (vx (lnO 3 uk s.m) ?_)));obtain ⟨x0,a0,c1,M,n⟩:=t.frz 1 rfl (s.mono (z.trans f0));refine WL.gh a0 ?_;obtain ⟨y0,b0,g0,N,q⟩:=Own.frzB 0 M rfl;refine WL.gh b0 ?_;have P:=N.sD 2 [1];refine va (.func (.func 257) #[] #[Q U,Q b1]) (bn H fun a d0 H=>cl (nX P (h.length:Int) h j q n.m (mm m3) d0) ?_);rintro v40 X h0 ⟨R,rfl⟩;refine va (I a) (wln (W.seq (bn H fun A x H=>W.join (Jn X fun c l=>Own c G (es false rh (.slice d e f) 298 u8 h :: F)∧l= [(2,B A)]) ?_ ?_)))
 ·clear H;refine rD [] (Kp G0 []) R ?_;intro p i0 u;have e1:Kp G0 [] p:=Kp.nil0;refine ta 0 (I a) (tx 1 (fun i b=>l1 uk ((mm q) 0 _ rfl)) (tx 2 (fun i b=>ln 3 uk n.m) (ta 3 (B (decide (a < (h.length:Int)))) ?_)));rcases bo (decide (a < (h.length:Int))) with g | g
  ·have o:=anT g x;refine bn o fun k y o=>AC.takeb 4 g rfl (by kernel_rfl) (by kernel_rfl) (fun i b=>(by kernel_rfl)) (tx 5 (fun i b=>l1 uk ((mm q) 0 _ rfl)) (ta 6 (I a) ?_));obtain ⟨s0,e0,k0⟩:=Sl.at (n.mono (g0.trans (h0.trans i0))) (aT y);obtain rfl:=e0;refine tx 7 (fun i b=>ix uk n.m y) (ta 8 (Qo (sb (.slice d e f)) (so (.slice d e f)+a.toNat * 2)) (tx 9 (fun i b=>l1 mC ((mm k0) 0 _ rfl)) (tx 10 (fun i b=>l1 mC ((mm m3) 0 _ rfl)) (ta 11 (B (decide (k.1≤j))) ?_))));obtain rfl:=si o;exact ta 12 (B (decide (k.1≤j))) (ta 13 (B (decide (k.1≤j))) (dn (nrm (jn p ⟨u,rfl⟩))))
  obtain rfl:=anF g x;exact AC.takeb 4 g rfl (by kernel_rfl) (by kernel_rfl) (fun i b=>(by kernel_rfl)) (tp 5 (tp 6 (tp 7 (tp 8 (tp 9 (tp 10 (tp 11 (ta 12 (B false) (ta 13 (B false) (dn (nrm (jn p ⟨u,rfl⟩))))))))))))
 rintro e_ w_ ⟨Z,z0,_,rfl,d1,rfl,S,rfl⟩;refine nrm (W.ret ?_);obtain rfl:=si H;have T:=S.sD 1 [];exact r1 (qq Z ⟨T,rfl⟩)
def mM (p0:Int) (q0_0:List (Int×Int×Int)) (q1_0:Int):Option (Bool):=
 (idx q0_0 p0).bind fun a=>
 some (decide (a.2.1≥(w64 q1_0)))
theorem zk {d:Nat} {e:Nat} (o:Own c0 G F) (b:Int) (q0_0:List (Int×Int×Int)) (q1_0:Int) {r:Bool} (s:∀j u,([v2]:List Value)[j]? = some u→Im c0 d (0+j) u) (k:Sl iK c0 v2 q0_0) (t:∀j u,([J q1_0]:List Value)[j]? = some u→Im c0 e (0+j) u) (H:mM b q0_0 q1_0=some r): Calls prog 259 #[I b,Q d,Q e] c0.w (aN c0 fun c v=>Own c G (F)∧v=B r):=by
 unfold mM at H;refine en func259 rfl rfl (sr (va (B false) (wln (W.seq (rD [] (Kp G0 []) o ?_)))));intro h q p;have y:Kp G0 [] h:=Kp.nil0;refine tx 0 (fun g a=>l1 iL ((mm s) 0 _ rfl)) (ta 1 (I b) (bn H fun f l H=>?_));obtain ⟨x,i,n⟩:=Sl.at (k.mono q) (aT l);obtain rfl:=i;refine tx 2 (fun g a=>ix iL k.m l) (ta 3 (Qo (sb v2) (so v2+b.toNat * 3+1)) (tx 4 (fun g a=>l1 u_3 ((mm n) 1 _ rfl)) (tx 5 (fun g a=>l1 mC ((mm t) 0 _ rfl)) (ta 6 (I (w64 q1_0)) (ta 7 (B (decide (f.2.1≥(w64 q1_0)))) (ta 8 (B (decide (f.2.1≥(w64 q1_0)))) (dn (nrm (W.ret ?_)))))))));obtain rfl:=si H;exact r1 (qq h ⟨p,rfl⟩)
def fP (p0:Int) (p1_0_0:List (Int×Int×Int)) (p1_1_0:Int):Option (Int):=
 (cE (σ:=Int×Int) (τ:=Int) ((p0 - 0).toNat+1) (fun a=>
 if (decide (a.1 < a.2))=true then
 (mM (w64 ((IntKind.u64.wrap (w64 (a.1+a.2))).fdiv (2 ^ 1))) p1_0_0 p1_1_0).bind fun b=>
 if (!b)=true then
 some (.inl ((w64 ((w64 ((IntKind.u64.wrap (w64 (a.1+a.2))).fdiv (2 ^ 1)))+1)),a.2))
 else
 some (.inl (a.1,(w64 ((IntKind.u64.wrap (w64 (a.1+a.2))).fdiv (2 ^ 1)))))
 else
 some (.inr (a.1))) (0,p0)).bind fun c=>
 some c
theorem nZ {b1_0:Nat} {b1_1:Nat} (A:Own c0 G F) (b:Int) (p1_0_0:List (Int×Int×Int)) (p1_1_0:Int) {r:Int} (N:∀j u,([v2]:List Value)[j]? = some u→Im c0 b1_0 (0+j) u) (M:Sl iK c0 v2 p1_0_0) (P:∀j u,([J p1_1_0]:List Value)[j]? = some u→Im c0 b1_1 (0+j) u) (H:fP b p1_0_0 p1_1_0=some r): Calls prog 253 #[I b,.func (.func 259) #[] #[Q b1_0,Q b1_1]] c0.w (aN c0 fun c v=>Own c G (F)∧v=I r):=by
 unfold fP at H;refine en func253 rfl rfl (sr (va (I 0) (wln (sr (va (I b) (va (I 0) (va (I b) (wln (W.seq (W.block (bn H fun g y k=>lp y (fun a=>Jn c0 fun c l=>Own c G (F)∧l= [(1,.func (.func 259) #[] #[Q b1_0,Q b1_1]),(5,I a.1),(6,I a.2)]) (fun h ex e w=>ex= .exit 0∧(Jn c0 fun c l=>Own c G (F)∧l= [(5,I h)]) e w) ?_ ?_ ?_)))))))))))
 ·clear k y;intro a X q z H;revert q z;rintro E R ⟨D,Z,_,rfl,l7,rfl,o,rfl⟩;refine W.seq (sr (va (I a.1) (va (I a.2) (va (B (decide (a.1 < a.2))) (wln (cn H (fun s H=>?_) (fun s H=>?_)))))))
  ·refine W.skip (nrm (W.block (sr (va (I a.1) (va (I a.2) (va (I (w64 (a.1+a.2))) (va (.int .u64 (IntKind.u64.wrap (w64 (a.1+a.2)))) (va (.int .u64 ((IntKind.u64.wrap (w64 (a.1+a.2))).fdiv (2 ^ 1))) (vv (I (w64 ((IntKind.u64.wrap (w64 (a.1+a.2))).fdiv (2 ^ 1)))) (wln (sr (va (.func (.func 259) #[] #[Q b1_0,Q b1_1]) (va (I (w64 ((IntKind.u64.wrap (w64 (a.1+a.2))).fdiv (2 ^ 1)))) (bn H fun i t H=>cl (zk o (w64 ((IntKind.u64.wrap (w64 (a.1+a.2))).fdiv (2 ^ 1))) p1_0_0 p1_1_0 (mm N) M.m (mm P) t) ?_))))))))))))));rintro v20 f T ⟨d,rfl⟩;refine va (B (!i)) (wln (cn H (fun x H=>?_) (fun x H=>?_)))
   ·refine W.region (va (I (w64 ((IntKind.u64.wrap (w64 (a.1+a.2))).fdiv (2 ^ 1)))) (vv (I (w64 ((w64 ((IntKind.u64.wrap (w64 (a.1+a.2))).fdiv (2 ^ 1)))+1))) (WL.nil (bkn ?_))));obtain rfl:=si H;exact ⟨_,rfl,jn f ⟨d,rfl⟩⟩
   refine W.region (vv (I (w64 ((IntKind.u64.wrap (w64 (a.1+a.2))).fdiv (2 ^ 1)))) (WL.nil (bkn ?_)));obtain rfl:=si H;exact ⟨_,rfl,jn f ⟨d,rfl⟩⟩
  refine W.exit (thx ?_);obtain rfl:=si H;exact ⟨_,rfl,rfl,jn D ⟨o,rfl⟩⟩
 ·exact jn c0 ⟨A,rfl⟩
 rintro _ E R ⟨rfl,p,S,_,rfl,U,rfl,n,rfl⟩;refine bke (nrm (sr (vv (I g) (wln (W.ret ?_)))));obtain rfl:=si k;exact r1 (qq p ⟨n,rfl⟩)
def la:List (Int×Int×Int):=[(768,879,3),(1155,1159,3),(1425,1469,3),(1552,1562,3),(1611,1631,3),(2325,2361,1),(2364,2364,3),(2381,2381,2),(2385,2388,3),(2392,2399,1),(2424,2431,1),(2453,2472,1),(2474,2480,1),(2482,2482,1),(2486,2489,1),(2492,2492,3),(2509,2509,2),(2524,2525,1),(2527,2527,1),(2544,2545,1),(2709,2728,1),(2730,2736,1),(2738,2739,1),(2741,2745,1),(2748,2748,3),(2765,2765,2),(2809,2809,1),(2837,2856,1),(2858,2864,1),(2866,2867,1),(2869,2873,1),(2876,2876,3),(2893,2893,2),(2908,2909,1),(2911,2911,1),(2929,2929,1),(3093,3112,1),(3114,3129,1),(3132,3132,3),(3149,3149,2),(3160,3162,1),(3349,3386,1),(3405,3405,2),(6832,6845,3),(7616,7679,3),(8205,8205,3),(8400,8412,3),(12330,12335,3),(12441,12442,3),(65056,65071,3)]
def lO:Option (List (Int×Int×Int)):=
 some la
theorem xM (d:Own c0 G F) {r:List (Int×Int×Int)} (H:lO=some r): Calls prog 258 #[] c0.w (aN c0 fun c v=>∃a b,Own c G (es true iK a 295 b r :: F)∧v=a∧OA iK c a b r):=by
 unfold lO at H;refine en func258 rfl rfl (sr (va (Y) (wln (sr (va (aH 768 879 3) (va (aH 1155 1159 3) (va (aH 1425 1469 3) (va (aH 1552 1562 3) (va (aH 1611 1631 3) (va (aH 2325 2361 1) (va (aH 2364 2364 3) (va (aH 2381 2381 2) (va (aH 2385 2388 3) (va (aH 2392 2399 1) (va (aH 2424 2431 1) (va (aH 2453 2472 1) (va (aH 2474 2480 1) (va (aH 2482 2482 1) (va (aH 2486 2489 1) (va (aH 2492 2492 3) (va (aH 2509 2509 2) (va (aH 2524 2525 1) (va (aH 2527 2527 1) (va (aH 2544 2545 1) (va (aH 2709 2728 1) (va (aH 2730 2736 1) (va (aH 2738 2739 1) (va (aH 2741 2745 1) (va (aH 2748 2748 3) (va (aH 2765 2765 2) (va (aH 2809 2809 1) (va (aH 2837 2856 1) (va (aH 2858 2864 1) (va (aH 2866 2867 1) (va (aH 2869 2873 1) (va (aH 2876 2876 3) (va (aH 2893 2893 2) (va (aH 2908 2909 1) (va (aH 2911 2911 1) (va (aH 2929 2929 1) (va (aH 3093 3112 1) (va (aH 3114 3129 1) (va (aH 3132 3132 3) (va (aH 3149 3149 2) (va (aH 3160 3162 1) (va (aH 3349 3386 1) (va (aH 3405 3405 2) (va (aH 6832 6845 3) (va (aH 7616 7679 3) (va (aH 8205 8205 3) (va (aH 8400 8412 3) (va (aH 12330 12335 3) (va (aH 12441 12442 3) (va (aH 65056 65071 3) (me (Own.sl (R:=iK) (E:=295) (ls:=la.map (fun x=>[I x.1,I x.2.1,I x.2.2])) (vs:=(la.map (fun x=>[I x.1,I x.2.1,I x.2.2])).flatten) (xs:=la) true d (aM _) rfl (oo.map _ (fun _=>rfl) _) (by kernel_rfl) (by kernel_rfl)) ?_)))))))))))))))))))))))))))))))))))))))))))))))))))))));rintro v5 f i ⟨h,e,g⟩;refine va (v5) (wln (W.ret ?_));obtain rfl:=si H;exact r1 (qq f ⟨v5,h,e,rfl,g⟩)
def oK (p0:Int):Option (Int):=
 (lO).bind fun a=>
 (fP (a.length:Int) a p0).bind fun b=>
 (orE (b==(a.length:Int)) ((idx a b).bind fun d=>
 some (decide (d.1 > (w64 p0))))).bind fun c=>
 if c=true then
 some 0
 else
 (idx a b).bind fun e=>
 some e.2.2
theorem B6 (O0:Own c0 G F) (k:Int) {r:Int} (H:oK k=some r): Calls prog 229 #[J k] c0.w (aN c0 fun c v=>Own c G (F)∧v=I r):=by
 unfold oK at H;refine en func229 rfl rfl (sr (me (bx 21 [J k] O0) ?_));rintro v5 c4 l4 ⟨b1,rfl,O2,m3⟩;refine va (I 0) (wln (sr (bn H fun i h6 H=>cl (xM O2 h6) ?_)));rintro v7 d1 j1 ⟨_,u8,T,rfl,s⟩;refine me (al 292 [Y] T) ?_;rintro v19 e1 M ⟨y,rfl,U⟩;obtain ⟨b,d,e,rfl⟩:=((s.mono M)).form;refine md (sC 292 0 (.slice b d e) [.slice b d e] 0 U ⟨s.m.one,trivial⟩) ?_;rintro f1 m0 t;refine wln (sr (vx (le1 0 iL (t.on 0 rfl)) (vx (lnO 3 iL s.m) ?_)));obtain ⟨g1,g0,k1,X,g⟩:=t.frz 1 rfl (s.mono (M.trans m0));refine WL.gh g0 ?_;obtain ⟨h1,h0,N,Z,n⟩:=Own.frzB 0 X rfl;refine WL.gh h0 ?_;have a0:=Z.sD 2 [1];refine va (.func (.func 259) #[] #[Q y,Q b1]) (bn H fun a i0 H=>cl (nZ a0 (i.length:Int) i k n g.m (mm m3) i0) ?_);rintro v40 f0 P ⟨b0,rfl⟩;refine va (I a) (wln (W.seq (W.seq (bn H fun R A H=>W.join (Jn f0 fun c l=>Own c G (es false iK (.slice b d e) 295 u8 i :: F)∧l= [(3,Q y),(4,I a),(23,B R)]) ?_ ?_))))
 ·clear H;refine rD [] (Kp G0 []) b0 ?_;intro p o0 u;have m1:Kp G0 [] p:=Kp.nil0;refine ta 0 (I a) (tx 1 (fun j f=>l1 iL ((mm n) 0 _ rfl)) (tx 2 (fun j f=>ln 3 iL g.m) (ta 3 (B (a==(i.length:Int))) ?_)));rcases bo (a==(i.length:Int)) with h | h
  ·obtain rfl:=orT h A;exact AC.takeb 4 h rfl (by kernel_rfl) (by kernel_rfl) (fun j f=>(by kernel_rfl)) (tp 5 (tp 6 (tp 7 (tp 8 (tp 9 (tp 10 (tp 11 (tp 12 (ta 13 (B true) (dn (nrm (jn p ⟨u,rfl⟩))))))))))))
  have o:=orF h A;refine bn o fun q D o=>AC.takeb 4 h rfl (by kernel_rfl) (by kernel_rfl) (fun j f=>(by kernel_rfl)) (tx 5 (fun j f=>l1 iL ((mm n) 0 _ rfl)) (ta 6 (I a) ?_));obtain ⟨z0,j0,t0⟩:=Sl.at (g.mono (N.trans (P.trans o0))) (aT D);obtain rfl:=j0;refine tx 7 (fun j f=>ix iL g.m D) (ta 8 (Qo (sb (.slice b d e)) (so (.slice b d e)+a.toNat * 3)) (tx 9 (fun j f=>l1 u_3 ((mm t0) 0 _ rfl)) (tx 10 (fun j f=>l1 mC ((mm m3) 0 _ rfl)) (ta 11 (I (w64 k)) (ta 12 (B (decide (q.1 > (w64 k)))) ?_)))));obtain rfl:=si o;exact ta 13 (B (decide (q.1 > (w64 k)))) (dn (nrm (jn p ⟨u,rfl⟩)))
 rintro e_ w_ ⟨z,i1,_,rfl,q0,rfl,x,rfl⟩;refine nrm (cn H (fun k0 H=>?_) (fun k0 H=>?_))
 ·refine sr (va (I 0) (wln (W.ret (thr ?_))));obtain rfl:=si H;have d0:=x.sD 1 [];exact r1 (qq z ⟨d0,rfl⟩)
 refine W.skip (nrm (sr (vx (l1 iL ((mm n) 0 _ rfl)) (va (I a) (bn H fun S E H=>?_)))));obtain ⟨a1,l0,u0⟩:=Sl.at (g.mono (N.trans (P.trans q0))) (aT E);obtain rfl:=l0;refine vx (ix iL g.m E) (va (Qo (sb (.slice b d e)) (so (.slice b d e)+a.toNat * 3+2)) (vx (l1 u_3 (u0 2 _ rfl)) (va (I S.2.2) (wln (W.ret ?_)))));obtain rfl:=si H;have e0:=x.sD 1 [];exact r1 (qq z ⟨e0,rfl⟩)
def mL (p0:Int) (q0_0:List (Int×Int×Int)) (q1_0:Int):Option (Bool):=
 (idx q0_0 p0).bind fun a=>
 some (decide (a.2.1≥(w64 q1_0)))
theorem zj {d:Nat} {e:Nat} (o:Own c0 G F) (b:Int) (q0_0:List (Int×Int×Int)) (q1_0:Int) {r:Bool} (s:∀j u,([v2]:List Value)[j]? = some u→Im c0 d (0+j) u) (k:Sl iK c0 v2 q0_0) (t:∀j u,([J q1_0]:List Value)[j]? = some u→Im c0 e (0+j) u) (H:mL b q0_0 q1_0=some r): Calls prog 261 #[I b,Q d,Q e] c0.w (aN c0 fun c v=>Own c G (F)∧v=B r):=by
 unfold mL at H;refine en func261 rfl rfl (sr (va (B false) (wln (W.seq (rD [] (Kp G0 []) o ?_)))));intro h q p;have y:Kp G0 [] h:=Kp.nil0;refine tx 0 (fun g a=>l1 iL ((mm s) 0 _ rfl)) (ta 1 (I b) (bn H fun f l H=>?_));obtain ⟨x,i,n⟩:=Sl.at (k.mono q) (aT l);obtain rfl:=i;refine tx 2 (fun g a=>ix iL k.m l) (ta 3 (Qo (sb v2) (so v2+b.toNat * 3+1)) (tx 4 (fun g a=>l1 u_3 ((mm n) 1 _ rfl)) (tx 5 (fun g a=>l1 mC ((mm t) 0 _ rfl)) (ta 6 (I (w64 q1_0)) (ta 7 (B (decide (f.2.1≥(w64 q1_0)))) (ta 8 (B (decide (f.2.1≥(w64 q1_0)))) (dn (nrm (W.ret ?_)))))))));obtain rfl:=si H;exact r1 (qq h ⟨p,rfl⟩)
def fO (p0:Int) (p1_0_0:List (Int×Int×Int)) (p1_1_0:Int):Option (Int):=
 (cE (σ:=Int×Int) (τ:=Int) ((p0 - 0).toNat+1) (fun a=>
 if (decide (a.1 < a.2))=true then
 (mL (w64 ((IntKind.u64.wrap (w64 (a.1+a.2))).fdiv (2 ^ 1))) p1_0_0 p1_1_0).bind fun b=>
 if (!b)=true then
 some (.inl ((w64 ((w64 ((IntKind.u64.wrap (w64 (a.1+a.2))).fdiv (2 ^ 1)))+1)),a.2))
 else
 some (.inl (a.1,(w64 ((IntKind.u64.wrap (w64 (a.1+a.2))).fdiv (2 ^ 1)))))
 else
 some (.inr (a.1))) (0,p0)).bind fun c=>
 some c
theorem nY {b1_0:Nat} {b1_1:Nat} (A:Own c0 G F) (b:Int) (p1_0_0:List (Int×Int×Int)) (p1_1_0:Int) {r:Int} (N:∀j u,([v2]:List Value)[j]? = some u→Im c0 b1_0 (0+j) u) (M:Sl iK c0 v2 p1_0_0) (P:∀j u,([J p1_1_0]:List Value)[j]? = some u→Im c0 b1_1 (0+j) u) (H:fO b p1_0_0 p1_1_0=some r): Calls prog 253 #[I b,.func (.func 261) #[] #[Q b1_0,Q b1_1]] c0.w (aN c0 fun c v=>Own c G (F)∧v=I r):=by
 unfold fO at H;refine en func253 rfl rfl (sr (va (I 0) (wln (sr (va (I b) (va (I 0) (va (I b) (wln (W.seq (W.block (bn H fun g y k=>lp y (fun a=>Jn c0 fun c l=>Own c G (F)∧l= [(1,.func (.func 261) #[] #[Q b1_0,Q b1_1]),(5,I a.1),(6,I a.2)]) (fun h ex e w=>ex= .exit 0∧(Jn c0 fun c l=>Own c G (F)∧l= [(5,I h)]) e w) ?_ ?_ ?_)))))))))))
 ·clear k y;intro a X q z H;revert q z;rintro E R ⟨D,Z,_,rfl,l7,rfl,o,rfl⟩;refine W.seq (sr (va (I a.1) (va (I a.2) (va (B (decide (a.1 < a.2))) (wln (cn H (fun s H=>?_) (fun s H=>?_)))))))
  ·refine W.skip (nrm (W.block (sr (va (I a.1) (va (I a.2) (va (I (w64 (a.1+a.2))) (va (.int .u64 (IntKind.u64.wrap (w64 (a.1+a.2)))) (va (.int .u64 ((IntKind.u64.wrap (w64 (a.1+a.2))).fdiv (2 ^ 1))) (vv (I (w64 ((IntKind.u64.wrap (w64 (a.1+a.2))).fdiv (2 ^ 1)))) (wln (sr (va (.func (.func 261) #[] #[Q b1_0,Q b1_1]) (va (I (w64 ((IntKind.u64.wrap (w64 (a.1+a.2))).fdiv (2 ^ 1)))) (bn H fun i t H=>cl (zj o (w64 ((IntKind.u64.wrap (w64 (a.1+a.2))).fdiv (2 ^ 1))) p1_0_0 p1_1_0 (mm N) M.m (mm P) t) ?_))))))))))))));rintro v20 f T ⟨d,rfl⟩;refine va (B (!i)) (wln (cn H (fun x H=>?_) (fun x H=>?_)))
   ·refine W.region (va (I (w64 ((IntKind.u64.wrap (w64 (a.1+a.2))).fdiv (2 ^ 1)))) (vv (I (w64 ((w64 ((IntKind.u64.wrap (w64 (a.1+a.2))).fdiv (2 ^ 1)))+1))) (WL.nil (bkn ?_))));obtain rfl:=si H;exact ⟨_,rfl,jn f ⟨d,rfl⟩⟩
   refine W.region (vv (I (w64 ((IntKind.u64.wrap (w64 (a.1+a.2))).fdiv (2 ^ 1)))) (WL.nil (bkn ?_)));obtain rfl:=si H;exact ⟨_,rfl,jn f ⟨d,rfl⟩⟩
  refine W.exit (thx ?_);obtain rfl:=si H;exact ⟨_,rfl,rfl,jn D ⟨o,rfl⟩⟩
 ·exact jn c0 ⟨A,rfl⟩
 rintro _ E R ⟨rfl,p,S,_,rfl,U,rfl,n,rfl⟩;refine bke (nrm (sr (vv (I g) (wln (W.ret ?_)))));obtain rfl:=si k;exact r1 (qq p ⟨n,rfl⟩)
def ky:List (Int×Int×Int):=[(4352,4447,1),(8361,8361,3),(8986,8987,1),(9001,9002,1),(9193,9196,1),(9200,9200,1),(9203,9203,1),(9725,9726,1),(9748,9749,1),(9800,9811,1),(9855,9855,1),(9875,9875,1),(9889,9889,1),(9898,9899,1),(9917,9918,1),(9924,9925,1),(9934,9934,1),(9940,9940,1),(9962,9962,1),(9970,9971,1),(9973,9973,1),(9978,9978,1),(9981,9981,1),(9989,9989,1),(9994,9995,1),(10024,10024,1),(10060,10060,1),(10062,10062,1),(10067,10069,1),(10071,10071,1),(10133,10135,1),(10160,10160,1),(10175,10175,1),(11035,11036,1),(11088,11088,1),(11093,11093,1),(11904,11929,1),(11931,12019,1),(12032,12245,1),(12272,12287,1),(12288,12288,2),(12289,12350,1),(12353,12438,1),(12441,12543,1),(12549,12591,1),(12593,12686,1),(12688,12771,1),(12784,12830,1),(12832,12871,1),(12880,19903,1),(19968,42124,1),(42128,42182,1),(43360,43388,1),(44032,55203,1),(63744,64255,1),(65040,65049,1),(65072,65106,1),(65108,65126,1),(65128,65131,1),(65281,65376,2),(65377,65470,3),(65474,65479,3),(65482,65487,3),(65490,65495,3),(65498,65500,3),(65504,65510,2),(65512,65518,3),(94176,94180,1),(94208,100343,1),(100352,101589,1),(110592,110882,1),(126980,126980,1),(127183,127183,1),(127374,127374,1),(127377,127386,1),(127488,127490,1),(127504,127547,1),(127552,127560,1),(127568,127569,1),(127584,127589,1),(127744,127776,1),(127789,127797,1),(127799,127868,1),(127870,127891,1),(127904,127946,1),(127951,127955,1),(127968,127984,1),(127988,127988,1),(127992,128062,1),(128064,128064,1),(128066,128252,1),(128255,128317,1),(128331,128334,1),(128336,128359,1),(128378,128378,1),(128405,128406,1),(128420,128420,1),(128507,128591,1),(128640,128709,1),(128716,128716,1),(128720,128722,1),(128725,128727,1),(128732,128735,1),(128747,128748,1),(128756,128764,1),(128992,129003,1),(129008,129008,1),(129292,129338,1),(129340,129349,1),(129351,129535,1),(129648,129660,1),(129664,129672,1),(129680,129725,1),(129727,129733,1),(129742,129755,1),(129760,129768,1),(129776,129784,1),(131072,196605,1),(196608,262141,1)]
def lM:Option (List (Int×Int×Int)):=
 some ky
theorem xL (d:Own c0 G F) {r:List (Int×Int×Int)} (H:lM=some r): Calls prog 260 #[] c0.w (aN c0 fun c v=>∃a b,Own c G (es true iK a 295 b r :: F)∧v=a∧OA iK c a b r):=by
 unfold lM at H;refine en func260 rfl rfl (sr (va (Y) (wln (sr (va (aH 4352 4447 1) (va (aH 8361 8361 3) (va (aH 8986 8987 1) (va (aH 9001 9002 1) (va (aH 9193 9196 1) (va (aH 9200 9200 1) (va (aH 9203 9203 1) (va (aH 9725 9726 1) (va (aH 9748 9749 1) (va (aH 9800 9811 1) (va (aH 9855 9855 1) (va (aH 9875 9875 1) (va (aH 9889 9889 1) (va (aH 9898 9899 1) (va (aH 9917 9918 1) (va (aH 9924 9925 1) (va (aH 9934 9934 1) (va (aH 9940 9940 1) (va (aH 9962 9962 1) (va (aH 9970 9971 1) (va (aH 9973 9973 1) (va (aH 9978 9978 1) (va (aH 9981 9981 1) (va (aH 9989 9989 1) (va (aH 9994 9995 1) (va (aH 10024 10024 1) (va (aH 10060 10060 1) (va (aH 10062 10062 1) (va (aH 10067 10069 1) (va (aH 10071 10071 1) (va (aH 10133 10135 1) (va (aH 10160 10160 1) (va (aH 10175 10175 1) (va (aH 11035 11036 1) (va (aH 11088 11088 1) (va (aH 11093 11093 1) (va (aH 11904 11929 1) (va (aH 11931 12019 1) (va (aH 12032 12245 1) (va (aH 12272 12287 1) (va (aH 12288 12288 2) (va (aH 12289 12350 1) (va (aH 12353 12438 1) (va (aH 12441 12543 1) (va (aH 12549 12591 1) (va (aH 12593 12686 1) (va (aH 12688 12771 1) (va (aH 12784 12830 1) (va (aH 12832 12871 1) (va (aH 12880 19903 1) (va (aH 19968 42124 1) (va (aH 42128 42182 1) (va (aH 43360 43388 1) (va (aH 44032 55203 1) (va (aH 63744 64255 1) (va (aH 65040 65049 1) (va (aH 65072 65106 1) (va (aH 65108 65126 1) (va (aH 65128 65131 1) (va (aH 65281 65376 2) (va (aH 65377 65470 3) (va (aH 65474 65479 3) (va (aH 65482 65487 3) (va (aH 65490 65495 3) (va (aH 65498 65500 3) (va (aH 65504 65510 2) (va (aH 65512 65518 3) (va (aH 94176 94180 1) (va (aH 94208 100343 1) (va (aH 100352 101589 1) (va (aH 110592 110882 1) (va (aH 126980 126980 1) (va (aH 127183 127183 1) (va (aH 127374 127374 1) (va (aH 127377 127386 1) (va (aH 127488 127490 1) (va (aH 127504 127547 1) (va (aH 127552 127560 1) (va (aH 127568 127569 1) (va (aH 127584 127589 1) (va (aH 127744 127776 1) (va (aH 127789 127797 1) (va (aH 127799 127868 1) (va (aH 127870 127891 1) (va (aH 127904 127946 1) (va (aH 127951 127955 1) (va (aH 127968 127984 1) (va (aH 127988 127988 1) (va (aH 127992 128062 1) (va (aH 128064 128064 1) (va (aH 128066 128252 1) (va (aH 128255 128317 1) (va (aH 128331 128334 1) (va (aH 128336 128359 1) (va (aH 128378 128378 1) (va (aH 128405 128406 1) (va (aH 128420 128420 1) (va (aH 128507 128591 1) (va (aH 128640 128709 1) (va (aH 128716 128716 1) (va (aH 128720 128722 1) (va (aH 128725 128727 1) (va (aH 128732 128735 1) (va (aH 128747 128748 1) (va (aH 128756 128764 1) (va (aH 128992 129003 1) (va (aH 129008 129008 1) (va (aH 129292 129338 1) (va (aH 129340 129349 1) (va (aH 129351 129535 1) (va (aH 129648 129660 1) (va (aH 129664 129672 1) (va (aH 129680 129725 1) (va (aH 129727 129733 1) (va (aH 129742 129755 1) (va (aH 129760 129768 1) (va (aH 129776 129784 1) (va (aH 131072 196605 1) (va (aH 196608 262141 1) (me (Own.sl (R:=iK) (E:=295) (ls:=ky.map (fun x=>[I x.1,I x.2.1,I x.2.2])) (vs:=(ky.map (fun x=>[I x.1,I x.2.1,I x.2.2])).flatten) (xs:=ky) true d (aM _) rfl (oo.map _ (fun _=>rfl) _) (by kernel_rfl) (by kernel_rfl)) ?_))))))))))))))))))))))))))))))))))))))))))))))))))))))))))))))))))))))))))))))))))))))))))))))))))))))))))))))))))))))))))));rintro v5 f i ⟨h,e,g⟩;refine va (v5) (wln (W.ret ?_));obtain rfl:=si H;exact r1 (qq f ⟨v5,h,e,rfl,g⟩)
def oI (p0:Int):Option (Int):=
 (lM).bind fun a=>
 (fO (a.length:Int) a p0).bind fun b=>
 (orE (b==(a.length:Int)) ((idx a b).bind fun d=>
 some (decide (d.1 > (w64 p0))))).bind fun c=>
 if c=true then
 some 0
 else
 (idx a b).bind fun e=>
 some e.2.2
theorem B4 (O0:Own c0 G F) (k:Int) {r:Int} (H:oI k=some r): Calls prog 230 #[J k] c0.w (aN c0 fun c v=>Own c G (F)∧v=I r):=by
 unfold oI at H;refine en func230 rfl rfl (sr (me (bx 21 [J k] O0) ?_));rintro v5 c4 l4 ⟨b1,rfl,O2,m3⟩;refine va (I 0) (wln (sr (bn H fun i h6 H=>cl (xL O2 h6) ?_)));rintro v7 d1 j1 ⟨_,u8,T,rfl,s⟩;refine me (al 292 [Y] T) ?_;rintro v19 e1 M ⟨y,rfl,U⟩;obtain ⟨b,d,e,rfl⟩:=((s.mono M)).form;refine md (sC 292 0 (.slice b d e) [.slice b d e] 0 U ⟨s.m.one,trivial⟩) ?_;rintro f1 m0 t;refine wln (sr (vx (le1 0 iL (t.on 0 rfl)) (vx (lnO 3 iL s.m) ?_)));obtain ⟨g1,g0,k1,X,g⟩:=t.frz 1 rfl (s.mono (M.trans m0));refine WL.gh g0 ?_;obtain ⟨h1,h0,N,Z,n⟩:=Own.frzB 0 X rfl;refine WL.gh h0 ?_;have a0:=Z.sD 2 [1];refine va (.func (.func 261) #[] #[Q y,Q b1]) (bn H fun a i0 H=>cl (nY a0 (i.length:Int) i k n g.m (mm m3) i0) ?_);rintro v40 f0 P ⟨b0,rfl⟩;refine va (I a) (wln (W.seq (W.seq (bn H fun R A H=>W.join (Jn f0 fun c l=>Own c G (es false iK (.slice b d e) 295 u8 i :: F)∧l= [(3,Q y),(4,I a),(23,B R)]) ?_ ?_))))
 ·clear H;refine rD [] (Kp G0 []) b0 ?_;intro p o0 u;have m1:Kp G0 [] p:=Kp.nil0;refine ta 0 (I a) (tx 1 (fun j f=>l1 iL ((mm n) 0 _ rfl)) (tx 2 (fun j f=>ln 3 iL g.m) (ta 3 (B (a==(i.length:Int))) ?_)));rcases bo (a==(i.length:Int)) with h | h
  ·obtain rfl:=orT h A;exact AC.takeb 4 h rfl (by kernel_rfl) (by kernel_rfl) (fun j f=>(by kernel_rfl)) (tp 5 (tp 6 (tp 7 (tp 8 (tp 9 (tp 10 (tp 11 (tp 12 (ta 13 (B true) (dn (nrm (jn p ⟨u,rfl⟩))))))))))))
  have o:=orF h A;refine bn o fun q D o=>AC.takeb 4 h rfl (by kernel_rfl) (by kernel_rfl) (fun j f=>(by kernel_rfl)) (tx 5 (fun j f=>l1 iL ((mm n) 0 _ rfl)) (ta 6 (I a) ?_));obtain ⟨z0,j0,t0⟩:=Sl.at (g.mono (N.trans (P.trans o0))) (aT D);obtain rfl:=j0;refine tx 7 (fun j f=>ix iL g.m D) (ta 8 (Qo (sb (.slice b d e)) (so (.slice b d e)+a.toNat * 3)) (tx 9 (fun j f=>l1 u_3 ((mm t0) 0 _ rfl)) (tx 10 (fun j f=>l1 mC ((mm m3) 0 _ rfl)) (ta 11 (I (w64 k)) (ta 12 (B (decide (q.1 > (w64 k)))) ?_)))));obtain rfl:=si o;exact ta 13 (B (decide (q.1 > (w64 k)))) (dn (nrm (jn p ⟨u,rfl⟩)))
 rintro e_ w_ ⟨z,i1,_,rfl,q0,rfl,x,rfl⟩;refine nrm (cn H (fun k0 H=>?_) (fun k0 H=>?_))
 ·refine sr (va (I 0) (wln (W.ret (thr ?_))));obtain rfl:=si H;have d0:=x.sD 1 [];exact r1 (qq z ⟨d0,rfl⟩)
 refine W.skip (nrm (sr (vx (l1 iL ((mm n) 0 _ rfl)) (va (I a) (bn H fun S E H=>?_)))));obtain ⟨a1,l0,u0⟩:=Sl.at (g.mono (N.trans (P.trans q0))) (aT E);obtain rfl:=l0;refine vx (ix iL g.m E) (va (Qo (sb (.slice b d e)) (so (.slice b d e)+a.toNat * 3+2)) (vx (l1 u_3 (u0 2 _ rfl)) (va (I S.2.2) (wln (W.ret ?_)))));obtain rfl:=si H;have e0:=x.sD 1 [];exact r1 (qq z ⟨e0,rfl⟩)
def qx (p0:Int):Option (ax):=
 (qy p0).bind fun b=>
 (oD p0).bind fun c=>
 (oK p0).bind fun d=>
 (oI p0).bind fun a=>
 some (⟨b,c,d,a⟩:ax)
theorem Dz (p:Own c0 G F) (a:Int) {r:ax} (H:qx a=some r): Calls prog 182 #[J a] c0.w (aN c0 fun c v=>Own c G (F)∧v= .agg #[I r.Break,B r.Pict,I r.Conj,I r.East]):=by
 unfold qx at H;refine en func182 rfl rfl (sr (me (al 33 [I 0,B false,I 0,I 0] p) ?_));rintro v4 R S ⟨P,rfl,q⟩;refine wln (sr (va (J a) (bn H fun d t H=>cl (DB q a t) ?_)));rintro v11 u A ⟨s,rfl⟩;refine va (J a) (bn H fun e m H=>cl (B0 s a m) ?_);rintro v18 x D ⟨i,rfl⟩;refine va (J a) (bn H fun f n H=>cl (B6 i a n) ?_);rintro v25 y E ⟨j,rfl⟩;refine va (J a) (bn H fun b o H=>cl (B4 j a o) ?_);rintro v32 z M ⟨k,rfl⟩;refine va (.agg #[I d,B e,I f,I b]) (md (sA 33 [I d,B e,I f,I b] 0 k ⟨rfl,rfl,rfl,rfl,trivial⟩) ?_);rintro h N g;refine wln (W.ret ?_);obtain rfl:=si H;have l:=g.sD 1 [];exact jZ (c:=h) (vs:=[I d,B e,I f,I b]) rfl (by kernel_rfl) (by kernel_rfl) (by kernel_rfl) (g.on 0 rfl _ rfl).1 ⟨_,h,rfl,rfl,pt,l,rfl⟩
def eR (p0:List Int) (p1:Int):Option (Bool):=
 (idx p0 0).bind fun c=>
 (idx ([0,0,192,224,240]:List Int) p1).bind fun d=>
 (orE (decide ((w64 ((w64 c) - d)) < 0)) ((idx ([0,128,32,16,8]:List Int) p1).bind fun l=>
 some (decide ((w64 ((w64 c) - d))≥l)))).bind fun j=>
 if j=true then
 some false
 else
 (cE (σ:=Int×Int×Int) (τ:=Bool ⊕ (Int×Int)) ((p1 - 1).toNat+1) (fun a=>
 if (decide (a.2.2 < p1))=true then
 if (decide (a.2.2 < (p0.length:Int)))=true then
 (idx p0 a.2.2).bind fun e=>
 (orE (decide ((w64 ((w64 e) - 128)) < 0)) (some (decide ((w64 ((w64 e) - 128)) > 63)))).bind fun k=>
 if k=true then
 some (.inr (.inl false))
 else
 some (.inl ((w64 ((w64 (a.1 * 64))+(w64 ((w64 e) - 128)))),(w64 ((w64 ((w64 ((w64 (a.2.1 * 64))+63)) - 63))+(w64 ((w64 e) - 128)))),(w64 (a.2.2+1))))
 else
 some (.inl ((w64 (a.1 * 64)),(w64 ((w64 (a.2.1 * 64))+63)),(w64 (a.2.2+1))))
 else
 some (.inr (.inr (a.1,a.2.1)))) ((w64 ((w64 c) - d)),(w64 ((w64 c) - d)),1)).bind fun b=>
 match b with
 | .inl b=>
 some b
 | .inr b=>
 (idx ([0,0,128,2048,65536]:List Int) p1).bind fun f=>
 (idx ([0,127,2047,65535,1114111]:List Int) p1).bind fun g=>
 (bI (decide ((aE b.1 f)≤(aB b.2 g))) ((orE (decide ((aE b.1 f) < 55296)) (some (decide ((aB b.2 g) > 57343)))).bind fun i=>
 some i)).bind fun h=>
 some h
theorem qQ (O0:Own c0 G F) (p0:List Int) (n:Int) {r:Bool} (Z:Sl (RI .u8) c0 v1 p0) (H:eR p0 n=some r): Calls prog 234 #[v1,I n] c0.w (aN c0 fun c v=>Own c G (F)∧v=B r):=by
 unfold eR at H;refine en func234 rfl rfl (sr (va (B false) (wln (sr (me (sl (RI .i64) 3 [[I 0],[I 0],[I 192],[I 224],[I 240]] ([0,0,192,224,240]:List Int) O0 ⟨rfl,rfl,rfl,rfl,rfl,trivial⟩) ?_)))));rintro v7 c6 l6 ⟨z,O3,h5⟩;refine va (v7) (wln (sr (me (sl (RI .i64) 3 [[I 0],[I 128],[I 32],[I 16],[I 8]] ([0,128,32,16,8]:List Int) O3 ⟨rfl,rfl,rfl,rfl,rfl,trivial⟩) ?_)));rintro v12 n3 i0 ⟨u9,O8,X⟩;refine va (v12) (wln (W.seq (rD [] (Kp G0 [es true (RI .i64) v7 3 z ([0,0,192,224,240]:List Int)]) O8 ?_)));intro N R E;have v2:Kp G0 [es true (RI .i64) v7 3 z ([0,0,192,224,240]:List Int)] N:=(Kp.cons (E.on 1 rfl) Kp.nil0);refine ta 0 (v1) (bn H fun f u0 H=>?_);obtain ⟨h3,z1,o2⟩:=Sl.at (Z.mono (l6.trans (i0.trans R))) (aT u0);obtain rfl:=z1;refine tx 1 (fun c' h0=>ix lE Z.m u0) (tx 2 (fun c' h0=>l1 u_5 ((mm o2) 0 _ rfl)) (ta 3 (I (w64 f)) (ta 4 (v7) (ta 5 (I n) (bn H fun h a0 H=>tx 6 (fun c' h0=>ixO ot h5.m a0) ?_)))));obtain ⟨i3,a2,p2⟩:=OA.at (h5.mono (i0.trans R)) a0;obtain rfl:=a2;refine AC.takeK 7 (I h) v2 rfl (by kernel_rfl) (by kernel_rfl) (by kernel_rfl) (fun c' h0 hk=>(rx (by kernel_rfl) (lF u_3 rfl (hk.on 0 rfl) (h5.m.blk a0) (at1 (j:=0) p2 rfl)))) (ta 8 (I (w64 ((w64 f) - h))) (ta 9 (I (w64 ((w64 f) - h))) (dn (nrm (W.seq (W.seq (bn H fun f1 v0 H=>W.join (Jn N fun c l=>Own c G (es true (RI .i64) v12 3 u9 ([0,128,32,16,8]:List Int) :: es true (RI .i64) v7 3 z ([0,0,192,224,240]:List Int) :: F)∧l= [(0,v1),(1,I n),(7,I (w64 ((w64 f) - h))),(34,B f1)]) ?_ ?_)))))))
 ·clear H;refine W.region (va (I (w64 ((w64 f) - h))) (va (B (decide ((w64 ((w64 f) - h)) < 0))) ?_));rcases bo (decide ((w64 ((w64 f) - h)) < 0)) with s | s
  ·obtain rfl:=orT s v0;exact vb s (pz (pz (pz (va (B true) (wln (jn N ⟨E,rfl⟩))))))
  have T:=orF s v0;refine vb s (wa (I (w64 ((w64 f) - h))) (wa (v12) (wa (I n) (wn (bn T fun A b0 T=>vx (ixO ot X.m b0) (wn ?_))))));obtain ⟨j3,b2,q2⟩:=OA.at (X.mono R) b0;obtain rfl:=b2;refine vr (I A) (rx (by kernel_rfl) (lF u_3 rfl (E.on 0 rfl) (X.m.blk b0) (at1 (j:=0) q2 rfl))) (wa (B (decide ((w64 ((w64 f) - h))≥A))) ?_);obtain rfl:=si T;exact va (B (decide ((w64 ((w64 f) - h))≥A))) (wln (jn N ⟨E,rfl⟩))
 rintro U w_ ⟨p,q3,_,rfl,k2,rfl,q0,rfl⟩;refine nrm (cn H (fun c2 H=>?_) (fun c2 H=>?_))
 ·refine sr (va (B false) (wln (W.ret (thr ?_))));obtain rfl:=si H;have n1:=q0.sD 2 [];exact r1 (qq p ⟨n1,rfl⟩)
 refine W.skip (nrm (sr (vv (I (w64 ((w64 f) - h))) (vv (I (w64 ((w64 f) - h))) (wln (W.seq (sr (va (I 1) (wln (W.block (bn H fun b w0 k=>lp w0 (fun a=>Jn p fun c l=>Own c G (es true (RI .i64) v12 3 u9 ([0,128,32,16,8]:List Int) :: es true (RI .i64) v7 3 z ([0,0,192,224,240]:List Int) :: F)∧l= [(0,v1),(1,I n),(8,I a.1),(9,I a.2.1),(10,I a.2.2)]) (fun t=>match t with | .inl x_=>(fun w2 ex e w=>ex= .ret∧(Jn p fun c l=>Own c G (F)∧l= [(4,B w2)]) e w) x_ | .inr x_=>(fun S ex e w=>ex= .exit 0∧(Jn p fun c l=>Own c G (es true (RI .i64) v12 3 u9 ([0,128,32,16,8]:List Int) :: es true (RI .i64) v7 3 z ([0,0,192,224,240]:List Int) :: F)∧l= [(1,I n),(8,I S.1),(9,I S.2)]) e w) x_) ?_ ?_ ?_)))))))))))
 ·clear k w0;intro a a4 x1 z2 H;revert x1 z2;rintro U w_ ⟨q,s3,_,rfl,l2,rfl,M,rfl⟩;refine W.seq (sr (va (I a.2.2) (va (I n) (va (B (decide (a.2.2 < n))) (wln (cn H (fun d2 H=>?_) (fun d2 H=>?_)))))))
  ·refine W.skip (nrm (W.seq (W.block (sr (va (I a.1) (vv (I (w64 (a.1 * 64))) (wln (sr (va (I a.2.1) (va (I (w64 (a.2.1 * 64))) (vv (I (w64 ((w64 (a.2.1 * 64))+63))) (wln (sr (va (I a.2.2) (va (v1) (vx (ln 3 lE Z.m) (va (B (decide (a.2.2 < (p0.length:Int)))) (wln (cn H (fun e2 H=>?_) (fun e2 H=>?_))))))))))))))))))))
   ·refine sr (va (v1) (va (I a.2.2) (bn H fun d x0 H=>?_)));obtain ⟨k3,f2,s2⟩:=Sl.at (Z.mono (l6.trans (i0.trans (R.trans (k2.trans l2))))) (aT x0);obtain rfl:=f2;refine vx (ix lE Z.m x0) (vx (l1 u_5 (s2 0 _ rfl)) (va (I (w64 d)) (vv (I (w64 ((w64 d) - 128))) (wln (W.seq (W.seq (bn H fun g1 y0 H=>W.join (Jn q fun c l=>Own c G (es true (RI .i64) v12 3 u9 ([0,128,32,16,8]:List Int) :: es true (RI .i64) v7 3 z ([0,0,192,224,240]:List Int) :: F)∧l= [(0,v1),(1,I n),(8,I (w64 (a.1 * 64))),(9,I (w64 ((w64 (a.2.1 * 64))+63))),(10,I a.2.2),(11,I (w64 ((w64 d) - 128))),(62,B g1)]) ?_ ?_)))))))
    ·clear H;refine W.region (va (I (w64 ((w64 d) - 128))) (va (B (decide ((w64 ((w64 d) - 128)) < 0))) ?_));rcases bo (decide ((w64 ((w64 d) - 128)) < 0)) with u | u
     ·obtain rfl:=orT u y0;exact vb u (pz (va (B true) (wln (jn q ⟨M,rfl⟩))))
     have k1:=orF u y0;refine vb u (wa (I (w64 ((w64 d) - 128))) (wa (B (decide ((w64 ((w64 d) - 128)) > 63))) ?_));obtain rfl:=si k1;exact va (B (decide ((w64 ((w64 d) - 128)) > 63))) (wln (jn q ⟨M,rfl⟩))
    rintro U w_ ⟨t0,t3,_,rfl,w3,rfl,s0,rfl⟩;refine nrm (cn H (fun g2 H=>?_) (fun g2 H=>?_))
    ·refine sr (va (B false) (wln (W.ret (thr (bkr (thr ?_))))));obtain rfl:=si H;refine ⟨_,rfl,⟨rfl,?_⟩⟩;have q1:=s0.sD 2 [];exact jn t0 ⟨q1,rfl⟩
    refine W.skip (nrm (sr (va (I (w64 (a.1 * 64))) (va (I (w64 ((w64 d) - 128))) (vv (I (w64 ((w64 (a.1 * 64))+(w64 ((w64 d) - 128))))) (wln (W.region (va (I (w64 ((w64 (a.2.1 * 64))+63))) (va (I (w64 ((w64 ((w64 (a.2.1 * 64))+63)) - 63))) (va (I (w64 ((w64 d) - 128))) (vv (I (w64 ((w64 ((w64 ((w64 (a.2.1 * 64))+63)) - 63))+(w64 ((w64 d) - 128))))) (WL.nil (bkn (nrm (W.region (va (I a.2.2) (vv (I (w64 (a.2.2+1))) (WL.nil ?_))))))))))))))))));obtain rfl:=si H;exact ⟨_,rfl,jn t0 ⟨s0,rfl⟩⟩
   refine W.skip (bkn (nrm (W.region (va (I a.2.2) (vv (I (w64 (a.2.2+1))) (WL.nil ?_))))));obtain rfl:=si H;exact ⟨_,rfl,jn q ⟨M,rfl⟩⟩
  refine W.exit (thx ?_);obtain rfl:=si H;exact ⟨_,rfl,rfl,jn q ⟨M,rfl⟩⟩
 ·exact jn p ⟨q0,rfl⟩
 rcases b with b | b
 ·intro y1; revert y1;rintro _ U w_ ⟨rfl,w1,u3,_,rfl,x3,rfl,s1,rfl⟩;refine bkr (thr ?_);obtain rfl:=si k;exact r1 (qq w1 ⟨s1,rfl⟩)
 rintro _ U w_ ⟨rfl,o3,v3,_,rfl,y3,rfl,t1,rfl⟩;refine bke (nrm (sr (me (sl (RI .i64) 3 [[I 0],[I 0],[I 128],[I 2048],[I 65536]] ([0,0,128,2048,65536]:List Int) t1 ⟨rfl,rfl,rfl,rfl,rfl,trivial⟩) ?_)));rintro k0 p3 z3 ⟨x2,u1,d0⟩;refine va (k0) (wln (sr (me (sl (RI .i64) 3 [[I 0],[I 127],[I 2047],[I 65535],[I 1114111]] ([0,127,2047,65535,1114111]:List Int) u1 ⟨rfl,rfl,rfl,rfl,rfl,trivial⟩) ?_)));rintro l0 P n2 ⟨y2,o,e0⟩;refine va (l0) (wln (sr (va (I b.1) (va (k0) (va (I n) (bn k fun i f0 k=>vx (ixO ot d0.m f0) ?_))))));obtain ⟨l3,i2,t2⟩:=OA.at (d0.mono n2) f0;obtain rfl:=i2;refine vr (I i) (rx (by kernel_rfl) (lF u_3 rfl (o.on 1 rfl) (d0.m.blk f0) (at1 (j:=0) t2 rfl))) (vv (I (aE b.1 i)) (wln (sr (va (I b.2) (va (l0) (va (I n) (bn k fun g g0 k=>vx (ixO ot e0 g0) ?_)))))));obtain ⟨m3,j2,u2⟩:=OA.at e0 g0;obtain rfl:=j2;refine vr (I g) (rx (by kernel_rfl) (lF u_3 rfl (o.on 0 rfl) (e0.blk g0) (at1 (j:=0) u2 rfl))) (vv (I (aB b.2 g)) (wln (W.seq (bn k fun o0 z0 k=>W.join (Jn P fun c l=>Own c G (es true (RI .i64) l0 3 y2 ([0,127,2047,65535,1114111]:List Int) :: es true (RI .i64) k0 3 x2 ([0,0,128,2048,65536]:List Int) :: es true (RI .i64) v12 3 u9 ([0,128,32,16,8]:List Int) :: es true (RI .i64) v7 3 z ([0,0,192,224,240]:List Int) :: F)∧l= [(4,B o0)]) ?_ ?_))))
 ·clear k;refine W.region (va (I (aE b.1 i)) (va (I (aB b.2 g)) (va (B (decide ((aE b.1 i)≤(aB b.2 g)))) ?_)));rcases bo (decide ((aE b.1 i)≤(aB b.2 g))) with x | x
  ·have D:=anT x z0;refine vb x (wa (I (aE b.1 i)) (wa (B (decide ((aE b.1 i) < 55296))) (wn (bn D fun a3 a1 D=>?_))));rcases bo (decide ((aE b.1 i) < 55296)) with y | y
   ·obtain rfl:=orT y a1;refine vb y (pz (wa (B true) ?_));obtain rfl:=si D;exact vv (B true) (wln (jn P ⟨o,rfl⟩))
   have m1:=orF y a1;refine vb y (wa (I (aB b.2 g)) (wa (B (decide ((aB b.2 g) > 57343))) (wn ?_)));obtain rfl:=si m1;refine va (B (decide ((aB b.2 g) > 57343))) ?_;obtain rfl:=si D;exact vv (B (decide ((aB b.2 g) > 57343))) (wln (jn P ⟨o,rfl⟩))
  obtain rfl:=anF x z0;exact vb x (pz (pz (pz (vv (B false) (wln (jn P ⟨o,rfl⟩))))))
 rintro U w_ ⟨e1,e3,_,rfl,g3,rfl,b1,rfl⟩;refine nrm (W.ret ?_);obtain rfl:=si k;have c1:=b1.sD 4 [];exact r1 (qq e1 ⟨c1,rfl⟩)
def bQ (p0:List Int):Option (Int):=
 (cE (σ:=Int) (τ:=Int ⊕ Unit) (((4:Int) - 1).toNat+2) (fun a=>
 if (decide (a≤4))=true then
 (bI (decide ((p0.length:Int)≥1)) (some (decide ((p0.length:Int)≤a)))).bind fun c=>
 (bI c ((eR p0 a).bind fun e=>
 some e)).bind fun d=>
 if d=true then
 some (.inr (.inl a))
 else
 some (.inl ((w64 (a+1))))
 else
 some (.inr (.inr ()))) (1)).bind fun b=>
 match b with
 | .inl b=>
 some b
 | .inr b=>
 some 0
theorem gL (O0:Own c0 G F) (f:List Int) {r:Int} (y:Sl (RI .u8) c0 v1 f) (H:bQ f=some r): Calls prog 184 #[v1] c0.w (aN c0 fun c v=>Own c G (F)∧v=I r):=by
 unfold bQ at H;refine en func184 rfl rfl (sr (va (I 0) (wln (W.seq (sr (va (I 1) (wln (W.block (bn H fun i h3 s=>lp h3 (fun a=>Jn c0 fun c l=>Own c G (F)∧l= [(0,v1),(3,I a)]) (fun t=>match t with | .inl A=>(fun e0 ex e w=>ex= .ret∧(Jn c0 fun c l=>Own c G (F)∧l= [(2,I e0)]) e w) A | .inr A=>(fun i0 ex e w=>ex= .exit 0∧(Jn c0 fun c l=>Own c G (F)∧l= []) e w) A) ?_ ?_ ?_)))))))))
 ·clear s h3;intro a t0 U f0 H;revert U f0;rintro x z ⟨k,g6,_,rfl,l5,rfl,j,rfl⟩;refine W.seq (sr (va (I a) (va (B (decide (a≤4))) (wln (cn H (fun Z H=>?_) (fun Z H=>?_))))))
  ·refine W.skip (nrm (W.seq (W.block (W.seq (bn H fun h0 p H=>bn H fun u h H=>W.join (Jn k fun c l=>Own c G (F)∧l= [(0,v1),(3,I a),(21,B u)]) ?_ ?_)))))
   ·clear H;refine W.region (va (v1) (vx (ln 3 lE y.m) (va (B (decide ((f.length:Int)≥1))) ?_)));rcases bo (decide ((f.length:Int)≥1)) with b | b
    ·have E:=anT b p;refine vb b (wa (v1) (wn (vx (ln 3 lE y.m) (wa (I a) (wa (B (decide ((f.length:Int)≤a))) ?_)))));obtain rfl:=si E;refine va (B (decide ((f.length:Int)≤a))) ?_;rcases bo (decide ((f.length:Int)≤a)) with d | d
     ·have g:=anT d h;refine vb d (wa (v1) (wa (I a) (wn (bn g fun D a0 g=>cl (qQ j f a y.m a0) ?_))));rintro v24 R m0 ⟨M,rfl⟩;obtain rfl:=si g;exact va (B D) (wln (jn R ⟨M,rfl⟩))
     obtain rfl:=anF d h;exact vb d (pz (ps (va (B false) (wln (jn k ⟨j,rfl⟩)))))
    obtain rfl:=anF b p;refine vb b (pz (pz (va (B false) ?_)));have q:false=false:=rfl;obtain rfl:=anF q h;exact vb q (pz (ps (va (B false) (wln (jn k ⟨j,rfl⟩)))))
   rintro x z ⟨o,j0,_,rfl,o0,rfl,n,rfl⟩;refine nrm (cn H (fun d0 H=>?_) (fun d0 H=>?_))
   ·refine sr (vv (I a) (wln (W.ret (bkr (thr ?_)))));obtain rfl:=si H;exact ⟨_,rfl,⟨rfl,jn o ⟨n,rfl⟩⟩⟩
   refine W.skip (bkn (nrm (W.region (va (I a) (vv (I (w64 (a+1))) (WL.nil ?_))))));obtain rfl:=si H;exact ⟨_,rfl,jn o ⟨n,rfl⟩⟩
  refine W.exit (thx ?_);obtain rfl:=si H;exact ⟨_,rfl,rfl,jn k ⟨j,rfl⟩⟩
 ·exact jn c0 ⟨O0,rfl⟩
 rcases i with i | i
 ·intro X; revert X;rintro _ x z ⟨rfl,S,k0,_,rfl,q0,rfl,N,rfl⟩;refine bkr (thr ?_);obtain rfl:=si s;exact r1 (qq S ⟨N,rfl⟩)
 rintro _ x z ⟨rfl,T,l0,_,rfl,s0,rfl,P,rfl⟩;refine bke (nrm (sr (va (I 0) (wln (W.ret ?_)))));obtain rfl:=si s;exact r1 (qq T ⟨P,rfl⟩)
def eq (p0:List Int):Option (Int):=
 (idx p0 0).bind fun e=>
 (idx ([0,0,192,224,240]:List Int) (p0.length:Int)).bind fun c=>
 (cE (σ:=Int×Int) (τ:=Int) (((p0.length:Int) - 1).toNat+1) (fun a=>
 if (decide (a.2 < (p0.length:Int)))=true then
 (idx p0 a.2).bind fun d=>
 some (.inl ((w64 ((w64 ((w64 (a.1 * 64))+(w64 d))) - 128)),(w64 (a.2+1))))
 else
 some (.inr (a.1))) ((w64 ((w64 e) - c)),1)).bind fun b=>
 some (w32 b)
theorem mj (O0:Own c0 G F) (E:List Int) {r:Int} (h:Sl (RI .u8) c0 v1 E) (H:eq E=some r): Calls prog 236 #[v1] c0.w (aN c0 fun c v=>Own c G (F)∧v=J r):=by
 unfold eq at H;refine en func236 rfl rfl (sr (va (J 0) (wln (sr (me (sl (RI .i64) 3 [[I 0],[I 0],[I 192],[I 224],[I 240]] ([0,0,192,224,240]:List Int) O0 ⟨rfl,rfl,rfl,rfl,rfl,trivial⟩) ?_)))));rintro v7 c6 l6 ⟨q,O3,A⟩;refine va (v7) (wln (W.seq (rD [] (Kp G0 [es true (RI .i64) v7 3 q ([0,0,192,224,240]:List Int)]) O3 ?_)));intro o D P;have g0:Kp G0 [es true (RI .i64) v7 3 q ([0,0,192,224,240]:List Int)] o:=(Kp.cons (P.on 0 rfl) Kp.nil0);refine ta 0 (v1) (bn H fun k x H=>?_);obtain ⟨m0,T,d0⟩:=Sl.at (h.mono (l6.trans D)) (aT x);obtain rfl:=T;refine tx 1 (fun n g=>ix lE h.m x) (tx 2 (fun n g=>l1 u_5 ((mm d0) 0 _ rfl)) (ta 3 (I (w64 k)) (ta 4 (v7) (ta 5 (v1) (tx 6 (fun n g=>ln 3 lE h.m) (bn H fun f i H=>tx 7 (fun n g=>ixO ot A.m i) ?_))))));obtain ⟨o0,U,e0⟩:=OA.at (A.mono D) i;obtain rfl:=U;refine AC.takeK 8 (I f) g0 rfl (by kernel_rfl) (by kernel_rfl) (by kernel_rfl) (fun n g hk=>(rx (by kernel_rfl) (lF u_3 rfl (hk.on 0 rfl) (A.m.blk i) (at1 (j:=0) e0 rfl)))) (ta 9 (I (w64 ((w64 k) - f))) (ta 10 (I (w64 ((w64 k) - f))) (dn (nrm (W.seq (sr (va (I 1) (wln (W.block (bn H fun d y s=>lp y (fun a=>Jn o fun c l=>Own c G (es true (RI .i64) v7 3 q ([0,0,192,224,240]:List Int) :: F)∧l= [(0,v1),(4,I a.1),(5,I a.2)]) (fun p ex e w=>ex= .exit 0∧(Jn o fun c l=>Own c G (es true (RI .i64) v7 3 q ([0,0,192,224,240]:List Int) :: F)∧l= [(4,I p)]) e w) ?_ ?_ ?_))))))))))
 ·clear s y;intro a w0 S h0 H;revert S h0;rintro e_ w_ ⟨u,t0,_,rfl,a0,rfl,t,rfl⟩;refine W.seq (sr (va (I a.2) (va (v1) (vx (ln 3 lE h.m) (va (B (decide (a.2 < (E.length:Int)))) (wln (cn H (fun X H=>?_) (fun X H=>?_))))))))
  ·refine W.skip (nrm (W.seq (W.block (W.region (va (I a.1) (va (I (w64 (a.1 * 64))) (va (v1) (va (I a.2) (bn H fun b z H=>?_)))))))));obtain ⟨q0,Z,f0⟩:=Sl.at (h.mono (l6.trans (D.trans a0))) (aT z);obtain rfl:=Z;refine vx (ix lE h.m z) (vx (l1 u_5 (f0 0 _ rfl)) (va (I (w64 b)) (va (I (w64 ((w64 (a.1 * 64))+(w64 b)))) (vv (I (w64 ((w64 ((w64 (a.1 * 64))+(w64 b))) - 128))) (WL.nil (bkn (nrm (W.region (va (I a.2) (vv (I (w64 (a.2+1))) (WL.nil ?_)))))))))));obtain rfl:=si H;exact ⟨_,rfl,jn u ⟨t,rfl⟩⟩
  refine W.exit (thx ?_);obtain rfl:=si H;exact ⟨_,rfl,rfl,jn u ⟨t,rfl⟩⟩
 ·exact jn o ⟨P,rfl⟩
 rintro _ e_ w_ ⟨rfl,R,u0,_,rfl,v0,rfl,M,rfl⟩;refine bke (nrm (sr (va (I d) (vv (J (w32 d)) (wln (W.ret ?_))))));obtain rfl:=si s;have N:=M.sD 1 [];exact r1 (qq R ⟨N,rfl⟩)
def jt (p0:List Int) (p1:Int):Option ((List Int)×(List Int)):=none
theorem oU (g:Own c0 G F) (b:List Int) (d:Int) {r:(List Int)×(List Int)} (h:Sl (RI .u8) c0 v1 b) (H:jt b d=some r):
    Calls prog 187 #[v1,.int .u8 d] c0.w (aN c0 fun c v=>∃a e f,Own c G (es true (RI .i32) a 21 e r.1 :: F)∧v= .tuple #[a,f]∧OA (RI .i32) c a e r.1∧Sl (RI .u8) c f r.2):=by
 unfold jt at H
 cases H
def dB (p0:List Int) (p1:Int):Option ((List Int)×(List Int)):=
 (app ([]:List Int) p0).bind fun g=>
 (app g ([p1]:List Int)).bind fun b=>
 (bQ b).bind fun a=>
 (bI (decide (a > 0)) (some (decide (a > (b.length:Int))))).bind fun d=>
 if d=true then
 some (([]:List Int),b)
 else
 if (decide (a > 0))=true then
 (eq b).bind fun e=>
 some (([e]:List Int),([]:List Int))
 else
 if ((p0.length:Int)==0)=true then
 some (([65533]:List Int),([]:List Int))
 else
 (jt ([]:List Int) p1).bind fun c=>
 (app ([65533]:List Int) c.1).bind fun f=>
 some (f,c.2)
theorem oT (O0:Own c0 G F) (P:List Int) (d:Int) {r:(List Int)×(List Int)} (h2:Sl (RI .u8) c0 v1 P) (H:dB P d=some r): Calls prog 187 #[v1,.int .u8 d] c0.w (aN c0 fun c v=>∃R y2 y3,Own c G (es true (RI .i32) R 21 y2 r.1 :: F)∧v= .tuple #[R,y3]∧OA (RI .i32) c R y2 r.1∧Sl (RI .u8) c y3 r.2):=by
 unfold dB at H;refine en func187 rfl rfl (sr (vv (Y) (wln (sr (me (sl (RI .u8) 5 [] ([]:List Int) O0 trivial) ?_)))));rintro v7 c6 l6 ⟨u4,O3,h5⟩;refine va (v1) (bn H fun n3 h8 H=>me (ap (RI .u8) (.int .u8 0) 1 169 0 O3 h5 h2.m h8 rG) ?_);rintro v13 m2 x2 ⟨h3,O9,o0⟩;refine va (.int .u8 d) (me (sl (RI .u8) 5 [[.int .u8 d]] ([d]:List Int) O9 ⟨rfl,trivial⟩) ?_);rintro v18 n2 z2 ⟨u1,T,q0⟩;obtain ⟨o2,u0,a3,U,t0⟩:=T.frz 0 rfl q0;refine WL.gh u0 (bn H fun h v0 H=>me (ap (RI .u8) (.int .u8 0) 1 169 1 U o0.m t0 v0 rG) ?_);rintro v28 p2 b3 ⟨w1,X,i⟩;refine va (v28) (wln (sr (va (v28) ?_)));obtain ⟨q2,x0,u,Z,w0⟩:=X.frz 1 rfl i;refine WL.gh x0 (bn H fun a y0 H=>cl (gL Z h w0 y0) ?_);rintro v39 k x ⟨p,rfl⟩;refine va (I a) (wln (W.seq (W.seq (bn H fun M t H=>W.join (Jn k fun c l=>Own c G (es false (RI .u8) v18 5 u1 ([d]:List Int) :: es false (RI .u8) v28 5 w1 h :: F)∧l= [(0,v1),(1,.int .u8 d),(6,v28),(7,I a),(25,B M)]) ?_ ?_))))
 ·clear H;refine W.region (va (I a) (va (B (decide (a > 0))) ?_));rcases bo (decide (a > 0)) with g | g
  ·have S:=anT g t;refine vb g (wa (I a) (wa (v28) (wn (vx (lnO 3 rG i.m) (wa (B (decide (a > (h.length:Int)))) ?_)))));obtain rfl:=si S;exact va (B (decide (a > (h.length:Int)))) (wln (jn k ⟨p,rfl⟩))
  obtain rfl:=anF g t;exact vb g (pz (pz (va (B false) (wln (jn k ⟨p,rfl⟩)))))
 rintro e_ w_ ⟨s,w2,_,rfl,y,rfl,f,rfl⟩;refine nrm (cn H (fun z0 H=>?_) (fun z0 H=>?_))
 ·refine sr (va (v28) (va (Y) (va (v28) (wln (W.ret (thr ?_))))));obtain rfl:=si H;have a1:OA (RI .i32) s (Y) [] []:=OA.nil (aM _);have q:=f.addHole (e:=es true (RI .i32) (Y) 21 [] ([]:List Int)) rfl;have b1:=q.slf 2 rfl (i.mono (u.trans (x.trans y)));have a0:=q.sD 3 [0];exact r2 (qq s ⟨(Y),[],v28,a0,rfl,a1,b1⟩)
 refine W.skip (nrm (W.seq (sr (va (I a) (va (B (decide (a > 0))) (wln (cn H (fun c1 H=>?_) (fun c1 H=>?_))))))))
 ·refine sr (va (v28) ?_);have d1:=f.slf 1 rfl (i.mono (u.trans (x.trans y)));refine bn H fun o e1 H=>cl (mj f h d1 e1) ?_;rintro k3 s2 c3 ⟨b0,rfl⟩;refine me (sl (RI .i32) 21 [[J o]] ([o]:List Int) b0 ⟨rfl,trivial⟩) ?_;rintro z l0 d3 ⟨x1,d0,f1⟩;refine va (z) (va (Y) (wln (W.ret (thr ?_))));obtain rfl:=si H;have e0:=d0.sD 3 [0];exact r2 (qq l0 ⟨z,x1,(Y),e0,rfl,f1,(Sl.nl _ _)⟩)
 refine W.skip (nrm (W.seq (sr (va (v1) (vx (ln 3 rG h2.m) (va (B ((P.length:Int)==0)) (wln (cn H (fun g1 H=>?_) (fun g1 H=>?_)))))))))
 ·refine sr (me (sl (RI .i32) 21 [[J 65533]] ([65533]:List Int) f ⟨rfl,trivial⟩) ?_);rintro A m0 e3 ⟨z1,f0,h1⟩;refine va (A) (va (Y) (wln (W.ret (thr ?_))));obtain rfl:=si H;have g0:=f0.sD 3 [0];exact r2 (qq m0 ⟨A,z1,(Y),g0,rfl,h1,(Sl.nl _ _)⟩)
 refine W.skip (nrm (sr (va (.int .u8 d) (bn H fun k2 i1 H=>cl (oU f ([]:List Int) d (Sl.nl _ _) i1) ?_))));rintro l3 t2 f3 ⟨j,i3,b,h0,rfl,j1,k1⟩;refine va (.tuple #[j,b]) (va (j) (va (b) (va (j) (va (b) (wln (sr (me (sl (RI .i32) 21 [[J 65533]] ([65533]:List Int) h0 ⟨rfl,trivial⟩) ?_)))))));rintro m3 u2 t1 ⟨j3,i0,m1⟩;refine va (j) ?_;obtain ⟨v2,q1,g3,j0,n1⟩:=i0.frz 1 rfl (j1.mono t1);refine WL.gh q1 (bn H fun l2 s1 H=>me (ap (RI .i32) (J 0) 4 27 0 j0 m1.m n1 s1 dh) ?_);rintro n E j2 ⟨a2,k0,N⟩;refine va (b) (va (n) (va (b) (wln (W.ret ?_))));obtain rfl:=si H;have D:=k0.sD 4 [0];exact r2 (qq E ⟨n,a2,b,D,rfl,N,k1.m⟩)
def ge (p0:List Int) (p1:Int):Option ((List Int)×(List Int)):=
 (app ([]:List Int) p0).bind fun g=>
 (app g ([p1]:List Int)).bind fun b=>
 (bQ b).bind fun a=>
 (bI (decide (a > 0)) (some (decide (a > (b.length:Int))))).bind fun d=>
 if d=true then
 some (([]:List Int),b)
 else
 if (decide (a > 0))=true then
 (eq b).bind fun e=>
 some (([e]:List Int),([]:List Int))
 else
 if ((p0.length:Int)==0)=true then
 some (([65533]:List Int),([]:List Int))
 else
 (dB ([]:List Int) p1).bind fun c=>
 (app ([65533]:List Int) c.1).bind fun f=>
 some (f,c.2)
theorem qR (O0:Own c0 G F) (P:List Int) (d:Int) {r:(List Int)×(List Int)} (h2:Sl (RI .u8) c0 v1 P) (H:ge P d=some r): Calls prog 187 #[v1,.int .u8 d] c0.w (aN c0 fun c v=>∃R y2 y3,Own c G (es true (RI .i32) R 21 y2 r.1 :: F)∧v= .tuple #[R,y3]∧OA (RI .i32) c R y2 r.1∧Sl (RI .u8) c y3 r.2):=by
 unfold ge at H;refine en func187 rfl rfl (sr (vv (Y) (wln (sr (me (sl (RI .u8) 5 [] ([]:List Int) O0 trivial) ?_)))));rintro v7 c6 l6 ⟨u4,O3,h5⟩;refine va (v1) (bn H fun n3 h8 H=>me (ap (RI .u8) (.int .u8 0) 1 169 0 O3 h5 h2.m h8 rG) ?_);rintro v13 m2 x2 ⟨h3,O9,o0⟩;refine va (.int .u8 d) (me (sl (RI .u8) 5 [[.int .u8 d]] ([d]:List Int) O9 ⟨rfl,trivial⟩) ?_);rintro v18 n2 z2 ⟨u1,T,q0⟩;obtain ⟨o2,u0,a3,U,t0⟩:=T.frz 0 rfl q0;refine WL.gh u0 (bn H fun h v0 H=>me (ap (RI .u8) (.int .u8 0) 1 169 1 U o0.m t0 v0 rG) ?_);rintro v28 p2 b3 ⟨w1,X,i⟩;refine va (v28) (wln (sr (va (v28) ?_)));obtain ⟨q2,x0,u,Z,w0⟩:=X.frz 1 rfl i;refine WL.gh x0 (bn H fun a y0 H=>cl (gL Z h w0 y0) ?_);rintro v39 k x ⟨p,rfl⟩;refine va (I a) (wln (W.seq (W.seq (bn H fun M t H=>W.join (Jn k fun c l=>Own c G (es false (RI .u8) v18 5 u1 ([d]:List Int) :: es false (RI .u8) v28 5 w1 h :: F)∧l= [(0,v1),(1,.int .u8 d),(6,v28),(7,I a),(25,B M)]) ?_ ?_))))
 ·clear H;refine W.region (va (I a) (va (B (decide (a > 0))) ?_));rcases bo (decide (a > 0)) with g | g
  ·have S:=anT g t;refine vb g (wa (I a) (wa (v28) (wn (vx (lnO 3 rG i.m) (wa (B (decide (a > (h.length:Int)))) ?_)))));obtain rfl:=si S;exact va (B (decide (a > (h.length:Int)))) (wln (jn k ⟨p,rfl⟩))
  obtain rfl:=anF g t;exact vb g (pz (pz (va (B false) (wln (jn k ⟨p,rfl⟩)))))
 rintro e_ w_ ⟨s,w2,_,rfl,y,rfl,f,rfl⟩;refine nrm (cn H (fun z0 H=>?_) (fun z0 H=>?_))
 ·refine sr (va (v28) (va (Y) (va (v28) (wln (W.ret (thr ?_))))));obtain rfl:=si H;have a1:OA (RI .i32) s (Y) [] []:=OA.nil (aM _);have q:=f.addHole (e:=es true (RI .i32) (Y) 21 [] ([]:List Int)) rfl;have b1:=q.slf 2 rfl (i.mono (u.trans (x.trans y)));have a0:=q.sD 3 [0];exact r2 (qq s ⟨(Y),[],v28,a0,rfl,a1,b1⟩)
 refine W.skip (nrm (W.seq (sr (va (I a) (va (B (decide (a > 0))) (wln (cn H (fun c1 H=>?_) (fun c1 H=>?_))))))))
 ·refine sr (va (v28) ?_);have d1:=f.slf 1 rfl (i.mono (u.trans (x.trans y)));refine bn H fun o e1 H=>cl (mj f h d1 e1) ?_;rintro k3 s2 c3 ⟨b0,rfl⟩;refine me (sl (RI .i32) 21 [[J o]] ([o]:List Int) b0 ⟨rfl,trivial⟩) ?_;rintro z l0 d3 ⟨x1,d0,f1⟩;refine va (z) (va (Y) (wln (W.ret (thr ?_))));obtain rfl:=si H;have e0:=d0.sD 3 [0];exact r2 (qq l0 ⟨z,x1,(Y),e0,rfl,f1,(Sl.nl _ _)⟩)
 refine W.skip (nrm (W.seq (sr (va (v1) (vx (ln 3 rG h2.m) (va (B ((P.length:Int)==0)) (wln (cn H (fun g1 H=>?_) (fun g1 H=>?_)))))))))
 ·refine sr (me (sl (RI .i32) 21 [[J 65533]] ([65533]:List Int) f ⟨rfl,trivial⟩) ?_);rintro A m0 e3 ⟨z1,f0,h1⟩;refine va (A) (va (Y) (wln (W.ret (thr ?_))));obtain rfl:=si H;have g0:=f0.sD 3 [0];exact r2 (qq m0 ⟨A,z1,(Y),g0,rfl,h1,(Sl.nl _ _)⟩)
 refine W.skip (nrm (sr (va (.int .u8 d) (bn H fun k2 i1 H=>cl (oT f ([]:List Int) d (Sl.nl _ _) i1) ?_))));rintro l3 t2 f3 ⟨j,i3,b,h0,rfl,j1,k1⟩;refine va (.tuple #[j,b]) (va (j) (va (b) (va (j) (va (b) (wln (sr (me (sl (RI .i32) 21 [[J 65533]] ([65533]:List Int) h0 ⟨rfl,trivial⟩) ?_)))))));rintro m3 u2 t1 ⟨j3,i0,m1⟩;refine va (j) ?_;obtain ⟨v2,q1,g3,j0,n1⟩:=i0.frz 1 rfl (j1.mono t1);refine WL.gh q1 (bn H fun l2 s1 H=>me (ap (RI .i32) (J 0) 4 27 0 j0 m1.m n1 s1 dh) ?_);rintro n E j2 ⟨a2,k0,N⟩;refine va (b) (va (n) (va (b) (wln (W.ret ?_))));obtain rfl:=si H;have D:=k0.sD 4 [0];exact r2 (qq E ⟨n,a2,b,D,rfl,N,k1.m⟩)
def dL (p0:List Int) (p1:List Int):Option ((List Int)×(List Int)):=
 (cE (σ:=(List Int)×(List Int)×Int) (τ:=((List Int)×(List Int))) (((p1.length:Int) - 0).toNat+1) (fun a=>
 if (decide (a.2.2 < (p1.length:Int)))=true then
 (idx p1 a.2.2).bind fun d=>
 (ge a.1 d).bind fun b=>
 (app a.2.1 b.1).bind fun e=>
 some (.inl (b.2,e,(w64 (a.2.2+1))))
 else
 some (.inr (a.1,a.2.1))) (p0,([]:List Int),0)).bind fun c=>
 some (c.2,c.1)
theorem mS (O0:Own c0 G F) (p0:List Int) (n:List Int) {r:(List Int)×(List Int)} (h2:Sl (RI .u8) c0 v1 p0) (k:Sl (RI .u8) c0 v3 n) (H:dL p0 n=some r): Calls prog 118 #[v1,v3] c0.w (aN c0 fun c v=>∃p y2 y3,Own c G (es true (RI .i32) p 21 y2 r.1 :: F)∧v= .tuple #[p,y3]∧OA (RI .i32) c p y2 r.1∧Sl (RI .u8) c y3 r.2):=by
 unfold dL at H;refine en func118 rfl rfl (sr (vv (Y) (wln (sr (va (Y) (wln (W.seq (sr (va (I 0) (wln (W.block (bn H fun f1 h5 q=>lp h5 (fun a=>Jn c0 fun c l=>∃v7 f v9,Own c G (es true (RI .i32) v7 21 f a.2.1 :: F)∧l= [(0,v9),(1,v3),(6,v7),(7,I a.2.2)]∧OA (RI .i32) c v7 f a.2.1∧Sl (RI .u8) c v9 a.1) (fun b ex e w=>ex= .exit 0∧(Jn c0 fun c l=>∃v10 d v12,Own c G (es true (RI .i32) v10 21 d b.2 :: F)∧l= [(0,v12),(6,v10)]∧OA (RI .i32) c v10 d b.2∧Sl (RI .u8) c v12 b.1) e w) ?_ ?_ ?_))))))))))))
 ·clear q h5;intro a h1 M k0 H;revert M k0;rintro e_ w_ ⟨A,z0,_,rfl,g0,rfl,v7,f,v9,g,rfl,h,i⟩;refine W.seq (sr (va (I a.2.2) (va (v3) (vx (ln 3 lE k.m) (va (B (decide (a.2.2 < (n.length:Int)))) (wln (cn H (fun N H=>?_) (fun N H=>?_))))))))
  ·refine W.skip (nrm (W.seq (W.block (sr (va (Y) (wln (sr (va (v9) (va (v3) (va (I a.2.2) (bn H fun o j H=>?_)))))))))));obtain ⟨t0,P,h0⟩:=Sl.at (k.mono g0) (aT j);obtain rfl:=P;refine vx (ix lE k.m j) (vx (l1 u_5 (h0 0 _ rfl)) (bn H fun v0 R H=>cl (qR g a.1 o i R) ?_));rintro v37 x0 b1 ⟨v27,g1,v30,s,rfl,S,T⟩;refine va (.tuple #[v27,v30]) (va (v27) (va (v30) (va (v27) (va (v30) (wln (W.region (va (v7) (va (v27) ?_))))))));obtain ⟨y0,X,c1,t,U⟩:=s.frz 0 rfl S;refine WL.gh X (bn H fun w0 Z H=>me (ap (RI .i32) (J 0) 4 27 1 t h.m U Z dh) ?_);rintro v47 D d1 ⟨j0,u,a0⟩;refine va (v47) (WL.nil (bkn (nrm (W.region (va (I a.2.2) (vv (I (w64 (a.2.2+1))) (WL.nil ?_)))))));obtain rfl:=si H;refine ⟨_,rfl,?_⟩;have x:=u.sD 2 [1];exact jn D ⟨v47,j0,v30,x,rfl,a0,T.m⟩
  refine W.exit (thx ?_);obtain rfl:=si H;exact ⟨_,rfl,rfl,jn A ⟨v7,f,v9,g,rfl,h,i⟩⟩
 ·have d0:OA (RI .i32) c0 (Y) [] []:=OA.nil (aM _);have y:=O0.addHole (e:=es true (RI .i32) (Y) 21 [] ([]:List Int)) rfl;exact jn c0 ⟨(Y),[],v1,y,rfl,d0,h2⟩
 rintro _ e_ w_ ⟨rfl,E,a1,_,rfl,e1,rfl,v10,d,v12,z,rfl,e0,f0⟩;refine bke (nrm (sr (va (v10) (va (v12) (va (v10) (va (v12) (wln (W.ret ?_))))))));obtain rfl:=si q;exact r2 (qq E ⟨v10,d,v12,z,rfl,e0,f0⟩)
def gG (p0:List Int):Option (List bV):=
 (cE (σ:=(List bV)×Int) (τ:=(List bV)) (((p0.length:Int) - 0).toNat+1) (fun a=>
 if (decide (a.2 < (p0.length:Int)))=true then
 (cE (σ:=Int) (τ:=Int) (((p0.length:Int) - (w64 (a.2+0))).toNat+1) (fun c=>
 (bI (decide ((w64 (a.2+c)) < (p0.length:Int))) ((slc p0 a.2 (w64 ((w64 (a.2+c))+1))).bind fun h=>
 (bQ h).bind fun i=>
 some (decide (i > 0)))).bind fun g=>
 if g=true then
 (slc p0 a.2 (w64 (a.2+(w64 (c+1))))).bind fun j=>
 (bQ j).bind fun k=>
 if (k==(w64 (c+1)))=true then
 some (.inr ((w64 (c+1))))
 else
 some (.inl ((w64 (c+1))))
 else
 some (.inr (c))) (0)).bind fun b=>
 (if (decide (b > 0))=true then
 (slc p0 a.2 (w64 (a.2+b))).bind fun l=>
 (dL ([]:List Int) l).bind fun e=>
 if ((e.2.length:Int)==0)=true then
 (idx e.1 0).bind fun m=>
 some (m,b,(w64 (a.2+b)),false)
 else
 some (65533,(aE b 1),(aB (w64 ((w64 (a.2+b))+1)) (p0.length:Int)),true)
 else
 some (65533,(aE b 1),(w64 (a.2+1)),true)).bind fun d=>
 (app a.1 ([(⟨d.1,a.2,d.2.1,d.2.2.1,d.2.2.2⟩:bV)]:List bV)).bind fun f=>
 some (.inl (f,(w64 (a.2+d.2.1))))
 else
 some (.inr (a.1))) (([]:List bV),0)).bind fun n=>
 some n
theorem rA (O0:Own c0 G F) (n:List Int) {r:List bV} (u:Sl (RI .u8) c0 v1 n) (H:gG n=some r): Calls prog 116 #[v1] c0.w (aN c0 fun c v=>∃y1 y2,Own c G (es true bj y1 167 y2 r :: F)∧v=y1∧OA bj c y1 y2 r):=by
 unfold gG at H;refine en func116 rfl rfl (sr (va (Y) (wln (sr (va (Y) (wln (sr (va (I 0) (wln (W.seq (W.block (bn H fun o4 h3 H4=>lp h3 (fun a=>Jn c0 fun c l=>∃v5 o,Own c G (es true bj v5 167 o a.1 :: F)∧l= [(0,v1),(3,v5),(4,I a.2)]∧OA bj c v5 o a.1) (fun P ex e w=>ex= .exit 0∧(Jn c0 fun c l=>∃v7 u8,Own c G (es true bj v7 167 u8 P :: F)∧l= [(3,v7)]∧OA bj c v7 u8 P) e w) ?_ ?_ ?_))))))))))))
 ·clear H4 h3;intro a l3 E T H;revert E T;rintro D S ⟨X,g4,_,rfl,l9,rfl,v5,o,d0,rfl,l0⟩;refine W.seq (sr (va (I a.2) (va (v1) (vx (ln 3 lE u.m) (va (B (decide (a.2 < (n.length:Int)))) (wln (cn H (fun g2 H=>?_) (fun g2 H=>?_))))))))
  ·refine W.skip (nrm (W.block (sr (va (I 0) (wln (W.seq (W.block (bn H fun b m0 b0=>lp m0 (fun f=>Jn X fun c l=>Own c G (es true bj v5 167 o a.1 :: F)∧l= [(0,v1),(3,v5),(4,I a.2),(5,I f)]) (fun Z ex e w=>ex= .exit 2∧(Jn X fun c l=>Own c G (es true bj v5 167 o a.1 :: F)∧l= [(0,v1),(3,v5),(4,I a.2),(5,I Z)]) e w) ?_ ?_ ?_))))))))
   ·clear b0 m0;intro f l3 E T H;revert E T;rintro D S ⟨i0,h4,_,rfl,q0,rfl,e0,rfl⟩;refine W.seq (W.seq (bn H fun z0 o0 H=>W.join (Jn i0 fun c l=>Own c G (es true bj v5 167 o a.1 :: F)∧l= [(0,v1),(3,v5),(4,I a.2),(5,I f),(29,B z0)]) ?_ ?_))
    ·clear H;refine W.region (va (I a.2) (va (I f) (va (I (w64 (a.2+f))) (va (v1) (vx (ln 3 lE u.m) (va (B (decide ((w64 (a.2+f)) < (n.length:Int)))) ?_))))));rcases bo (decide ((w64 (a.2+f)) < (n.length:Int))) with i | i
     ·have h:=anT i o0;refine vb i (wa (v1) (wa (I a.2) (wa (I a.2) (wa (I f) (wa (I (w64 (a.2+f))) (wa (I (w64 ((w64 (a.2+f))+1))) (wn (bn h fun j1 i2 h=>?_))))))));obtain ⟨v29,k2,l2⟩:=uL (k:= .i64) (k':= .i64) lE (by kernel_rfl) (u.mono (l9.trans q0)) i2;refine vr v29 (rx (by kernel_rfl) (k2 _)) (wn (bn h fun U m2 h=>cl (gL e0 j1 l2 m2) ?_));rintro v38 c2 k4 ⟨t1,rfl⟩;refine wa (B (decide (U > 0))) ?_;obtain rfl:=si h;exact va (B (decide (U > 0))) (wln (jn c2 ⟨t1,rfl⟩))
     obtain rfl:=anF i o0;exact vb i (pz (pz (pz (pz (ps (va (B false) (wln (jn i0 ⟨e0,rfl⟩))))))))
    rintro D S ⟨d2,i4,_,rfl,d3,rfl,f0,rfl⟩;refine nrm (cn H (fun n2 H=>?_) (fun n2 H=>?_))
    ·refine W.skip (nrm (W.block (sr (va (I f) (vv (I (w64 (f+1))) (wln (sr (va (v1) (vv (I a.2) (va (I (w64 (f+1))) (va (I (w64 (a.2+(w64 (f+1))))) (bn H fun k1 o2 H=>?_))))))))))));obtain ⟨v47,p2,q2⟩:=uL (k:= .i64) (k':= .i64) lE (by kernel_rfl) (u.mono (l9.trans (q0.trans d3))) o2;refine vr v47 (rx (by kernel_rfl) (p2 _)) (bn H fun m1 s2 H=>cl (gL f0 k1 q2 s2) ?_);rintro v56 j0 l4 ⟨g0,rfl⟩;refine va (I (w64 (f+1))) (va (B (m1==(w64 (f+1)))) (wln (cn H (fun t2 H=>?_) (fun t2 H=>?_))))
     ·refine W.exit (bko rfl ?_);obtain rfl:=si H;exact ⟨_,rfl,rfl,jn j0 ⟨g0,rfl⟩⟩
     refine W.skip (bkn ?_);obtain rfl:=si H;exact ⟨_,rfl,jn j0 ⟨g0,rfl⟩⟩
    refine W.exit (thx ?_);obtain rfl:=si H;exact ⟨_,rfl,rfl,jn d2 ⟨f0,rfl⟩⟩
   ·exact jn X ⟨d0,rfl⟩
   rintro _ D S ⟨rfl,d4,j4,_,rfl,e3,rfl,u1,rfl⟩;refine bke (nrm (sr (va (I a.2) (va (I b) (va (I (aE b 1)) (va (I a.2) (va (I (w64 (a.2+1))) (va (.agg #[J 65533,I a.2,I (aE b 1),I (w64 (a.2+1)),B true]) (me (al 167 [J 0,I 0,I 0,I 0,B false] u1) ?_)))))))));rintro q4 e4 f3 ⟨q,rfl,w1⟩;refine md (sA 167 [J 65533,I a.2,I (aE b 1),I (w64 (a.2+1)),B true] 0 w1 ⟨rfl,rfl,rfl,rfl,rfl,trivial⟩) ?_;rintro k0 g3 h0;refine wln (bn b0 fun d g x=>W.seqJ (Jn k0 fun c l=>Own c G ((Eb q 167 [J d.1,I a.2,I d.2.1,I d.2.2.1,B d.2.2.2]) :: es true bj v5 167 o a.1 :: F)∧l= [(0,v1),(3,v5),(4,I a.2),(6,Q q)]) ?_ ?_)
   ·refine sr (va (I b) (va (B (decide (b > 0))) (wln (cn g (fun u2 g=>?_) (fun u2 g=>?_)))))
    ·refine sr (va (v1) (vv (I a.2) (va (I b) (va (I (w64 (a.2+b))) (bn g fun n1 v2 g=>?_)))));obtain ⟨k3,w2,x2⟩:=uL (k:= .i64) (k':= .i64) lE (by kernel_rfl) (u.mono (l9.trans (e3.trans (f3.trans g3)))) v2;refine vr k3 (rx (by kernel_rfl) (w2 _)) (bn g fun p1 z2 g=>cl (mS h0 ([]:List Int) n1 (Sl.nl _ _) x2 z2) ?_);rintro r4 f4 m4 ⟨s,p4,t,x1,rfl,M,a3⟩;refine va (.tuple #[s,t]) (va (s) (va (t) (va (s) (va (t) (wln (sr (va (I a.2) (va (I b) (va (I (w64 (a.2+b))) (va (I (w64 ((w64 (a.2+b))+1))) (va (v1) (vx (ln 3 lE u.m) (va (I (aB (w64 ((w64 (a.2+b))+1)) (n.length:Int))) (va (Qo q 3) (md (sC 3 3 (I (aB (w64 ((w64 (a.2+b))+1)) (n.length:Int))) [J 65533,I a.2,I (aE b 1),I (aB (w64 ((w64 (a.2+b))+1)) (n.length:Int)),B true] 1 x1 ⟨rfl,trivial⟩) ?_)))))))))))))));rintro e2 i3 A;refine wln (sr (va (t) (vx (ln 3 rG a3.m) (va (B ((p1.2.length:Int)==0)) (wln (cn g (fun b3 g=>?_) (fun b3 g=>?_)))))))
     ·refine W.region (va (s) (bn g fun p N g=>vx (ixO dh M.m N) ?_));obtain ⟨a4,c3,j3⟩:=OA.at (M.mono i3) N;obtain rfl:=c3;refine vr (J p) (rx (by kernel_rfl) (lF mC rfl (A.on 0 rfl) (M.m.blk N) (at1 (j:=0) j3 rfl))) (va (I a.2) (va (I b) (va (I a.2) (va (I b) (va (I (w64 (a.2+b))) (va (.agg #[J p,I a.2,I b,I (w64 (a.2+b)),B false]) (md (sA 167 [J p,I a.2,I b,I (w64 (a.2+b)),B false] 1 A ⟨rfl,rfl,rfl,rfl,rfl,trivial⟩) ?_)))))));rintro f2 n4 z1;refine wln ?_;obtain rfl:=si g;have a2:=z1.sD 3 [1,2];exact jn f2 ⟨a2,rfl⟩
     refine W.skip (nrm ?_);obtain rfl:=si g;have b2:=A.sD 3 [1,2];exact jn e2 ⟨b2,rfl⟩
    refine W.skip (nrm ?_);obtain rfl:=si g;exact jn k0 ⟨h0,rfl⟩
   rintro D S ⟨p3,t3,_,rfl,v3,rfl,y,rfl⟩;refine sr (va (v5) (vx (leN 167 0 [J d.1,I a.2,I d.2.1,I d.2.2.1,B d.2.2.2] (y.on 0 rfl)) (me (sl bj 167 [[J d.1,I a.2,I d.2.1,I d.2.2.1,B d.2.2.2]] ([(⟨d.1,a.2,d.2.1,d.2.2.1,d.2.2.2⟩:bV)]:List bV) y ⟨rfl,trivial⟩) ?_)));rintro c4 q3 w3 ⟨b4,s0,a1⟩;obtain ⟨s3,c1,x3,t0,b1⟩:=s0.frz 0 rfl a1;refine WL.gh c1 (bn x fun n3 d1 x=>me (ap bj (.agg #[J 0,I 0,I 0,I 0,B false]) 40 164 2 t0 l0.m b1 d1 wC) ?_);rintro R x0 y3 ⟨i1,z,e1⟩;refine va (R) (wln (W.region (va (I a.2) (va (Qo q 2) (vx (le1 2 u_3 (z.on 1 rfl)) (vv (I (w64 (a.2+d.2.1))) (WL.nil (bkn ?_))))))));obtain rfl:=si x;refine ⟨_,rfl,?_⟩;have u0:=z.sD 3 [2];exact jn x0 ⟨R,i1,u0,rfl,e1⟩
  refine W.exit (thx ?_);obtain rfl:=si H;exact ⟨_,rfl,rfl,jn X ⟨v5,o,d0,rfl,l0⟩⟩
 ·have f1:OA bj c0 (Y) [] []:=OA.nil (aM _);have v0:=O0.addHole (e:=es true bj (Y) 167 [] ([]:List bV)) rfl;exact jn c0 ⟨(Y),[],v0,rfl,f1⟩
 rintro _ D S ⟨rfl,y0,u3,_,rfl,z3,rfl,v7,u8,w0,rfl,g1⟩;refine bke (nrm (sr (vv (v7) (wln (W.ret ?_)))));obtain rfl:=si H4;exact r1 (qq y0 ⟨v7,u8,w0,rfl,g1⟩)
def fA (p0:List Int):Option (List ax):=
 (cE (σ:=(List ax)×Int) (τ:=(List ax)) (((p0.length:Int) - 0).toNat+1) (fun a=>
 if (decide (a.2 < (p0.length:Int)))=true then
 (idx p0 a.2).bind fun b=>
 (dJ b).bind fun c=>
 (app a.1 ([c]:List ax)).bind fun d=>
 some (.inl (d,(w64 (a.2+1))))
 else
 some (.inr (a.1))) (([]:List ax),0)).bind fun e=>
 some e
theorem pN (O0:Own c0 G F) (n:List Int) {r:List ax} (k:Sl (RI .i32) c0 v1 n) (H:fA n=some r): Calls prog 237 #[v1] c0.w (aN c0 fun c v=>∃p y2,Own c G (es true cx p 33 y2 r :: F)∧v=p∧OA cx c p y2 r):=by
 unfold fA at H;refine en func237 rfl rfl (sr (va (Y) (wln (sr (va (Y) (wln (W.seq (sr (va (I 0) (wln (W.block (bn H fun c1 S q=>lp S (fun a=>Jn c0 fun c l=>∃v5 f,Own c G (es true cx v5 33 f a.1 :: F)∧l= [(0,v1),(3,v5),(4,I a.2)]∧OA cx c v5 f a.1) (fun d ex e w=>ex= .exit 0∧(Jn c0 fun c l=>∃v7 g,Own c G (es true cx v7 33 g d :: F)∧l= [(3,v7)]∧OA cx c v7 g d) e w) ?_ ?_ ?_))))))))))))
 ·clear q S;intro a e1 M g0 H;revert M g0;rintro e_ w_ ⟨c9,v0,_,rfl,l9,rfl,v5,f,h,rfl,i⟩;refine W.seq (sr (va (I a.2) (va (v1) (vx (ln 3 dh k.m) (va (B (decide (a.2 < (n.length:Int)))) (wln (cn H (fun N H=>?_) (fun N H=>?_))))))))
  ·refine W.skip (nrm (W.seq (W.block (W.region (va (v5) (va (v1) (va (I a.2) (bn H fun o j H=>?_))))))));obtain ⟨m0,P,e0⟩:=Sl.at (k.mono l9) (aT j);obtain rfl:=P;refine vx (ix dh k.m j) (vx (l1 mC (e0 0 _ rfl)) (bn H fun b R H=>cl (nC h o R) ?_));rintro v27 s0 x0 ⟨s,rfl⟩;refine me (sl cx 33 [[I b.Break,B b.Pict,I b.Conj,I b.East]] ([b]:List ax) s ⟨rfl,trivial⟩) ?_;rintro v32 t0 y0 ⟨d1,t,T⟩;obtain ⟨u0,X,z0,u,U⟩:=t.frz 0 rfl T;refine WL.gh X (bn H fun q0 Z H=>me (ap cx (.agg #[I 0,B false,I 0,I 0]) 32 28 1 u i.m U Z nh) ?_);rintro v42 D a1 ⟨f0,x,a0⟩;refine va (v42) (WL.nil (bkn (nrm (W.region (va (I a.2) (vv (I (w64 (a.2+1))) (WL.nil ?_)))))));obtain rfl:=si H;refine ⟨_,rfl,?_⟩;have y:=x.sD 2 [1];exact jn D ⟨v42,f0,y,rfl,a0⟩
  refine W.exit (thx ?_);obtain rfl:=si H;exact ⟨_,rfl,rfl,jn c9 ⟨v5,f,h,rfl,i⟩⟩
 ·have b0:OA cx c0 (Y) [] []:=OA.nil (aM _);have z:=O0.addHole (e:=es true cx (Y) 33 [] ([]:List ax)) rfl;exact jn c0 ⟨(Y),[],z,rfl,b0⟩
 rintro _ e_ w_ ⟨rfl,E,w0,_,rfl,b1,rfl,v7,g,A,rfl,d0⟩;refine bke (nrm (sr (vv (v7) (wln (W.ret ?_)))));obtain rfl:=si q;exact r1 (qq E ⟨v7,g,A,rfl,d0⟩)
def ki:Option (List ByteArray):=
 some ([(⟨#[48,48,48,48,49,49,48,48,49,48,48,48,48,48]⟩:ByteArray),(⟨#[48,48,49,48,48,48,48,48,48,48,48,48,48,48]⟩:ByteArray),(⟨#[48,48,48,48,48,48,48,48,48,48,48,48,48,48]⟩:ByteArray),(⟨#[48,48,48,48,48,48,48,48,48,48,48,48,48,48]⟩:ByteArray),(⟨#[50,48,48,48,49,49,48,48,49,48,48,48,48,48]⟩:ByteArray),(⟨#[50,48,48,48,49,49,48,48,49,48,48,48,48,48]⟩:ByteArray),(⟨#[48,48,48,48,49,49,50,48,49,48,48,48,48,48]⟩:ByteArray),(⟨#[49,48,48,48,49,49,49,49,49,49,49,49,49,49]⟩:ByteArray),(⟨#[48,48,48,48,49,49,48,48,49,48,48,48,48,48]⟩:ByteArray),(⟨#[48,48,48,48,49,49,48,48,49,49,49,48,49,49]⟩:ByteArray),(⟨#[48,48,48,48,49,49,48,48,49,48,49,49,48,48]⟩:ByteArray),(⟨#[48,48,48,48,49,49,48,48,49,48,48,49,48,48]⟩:ByteArray),(⟨#[48,48,48,48,49,49,48,48,49,48,49,49,48,48]⟩:ByteArray),(⟨#[48,48,48,48,49,49,48,48,49,48,48,49,48,48]⟩:ByteArray)]:List ByteArray)
theorem qN (d:Own c0 G F) {r:List ByteArray} (H:ki=some r): Calls prog 274 #[] c0.w (aN c0 fun c v=>∃a b,Own c G (es true RS a 9 b r :: F)∧v=a∧OA RS c a b r):=by
 unfold ki at H;refine en func274 rfl rfl (sr (va (Y) (wln (sr (me (sl RS 9 [[.string (⟨#[48,48,48,48,49,49,48,48,49,48,48,48,48,48]⟩:ByteArray)],[.string (⟨#[48,48,49,48,48,48,48,48,48,48,48,48,48,48]⟩:ByteArray)],[.string (⟨#[48,48,48,48,48,48,48,48,48,48,48,48,48,48]⟩:ByteArray)],[.string (⟨#[48,48,48,48,48,48,48,48,48,48,48,48,48,48]⟩:ByteArray)],[.string (⟨#[50,48,48,48,49,49,48,48,49,48,48,48,48,48]⟩:ByteArray)],[.string (⟨#[50,48,48,48,49,49,48,48,49,48,48,48,48,48]⟩:ByteArray)],[.string (⟨#[48,48,48,48,49,49,50,48,49,48,48,48,48,48]⟩:ByteArray)],[.string (⟨#[49,48,48,48,49,49,49,49,49,49,49,49,49,49]⟩:ByteArray)],[.string (⟨#[48,48,48,48,49,49,48,48,49,48,48,48,48,48]⟩:ByteArray)],[.string (⟨#[48,48,48,48,49,49,48,48,49,49,49,48,49,49]⟩:ByteArray)],[.string (⟨#[48,48,48,48,49,49,48,48,49,48,49,49,48,48]⟩:ByteArray)],[.string (⟨#[48,48,48,48,49,49,48,48,49,48,48,49,48,48]⟩:ByteArray)],[.string (⟨#[48,48,48,48,49,49,48,48,49,48,49,49,48,48]⟩:ByteArray)],[.string (⟨#[48,48,48,48,49,49,48,48,49,48,48,49,48,48]⟩:ByteArray)]] ([(⟨#[48,48,48,48,49,49,48,48,49,48,48,48,48,48]⟩:ByteArray),(⟨#[48,48,49,48,48,48,48,48,48,48,48,48,48,48]⟩:ByteArray),(⟨#[48,48,48,48,48,48,48,48,48,48,48,48,48,48]⟩:ByteArray),(⟨#[48,48,48,48,48,48,48,48,48,48,48,48,48,48]⟩:ByteArray),(⟨#[50,48,48,48,49,49,48,48,49,48,48,48,48,48]⟩:ByteArray),(⟨#[50,48,48,48,49,49,48,48,49,48,48,48,48,48]⟩:ByteArray),(⟨#[48,48,48,48,49,49,50,48,49,48,48,48,48,48]⟩:ByteArray),(⟨#[49,48,48,48,49,49,49,49,49,49,49,49,49,49]⟩:ByteArray),(⟨#[48,48,48,48,49,49,48,48,49,48,48,48,48,48]⟩:ByteArray),(⟨#[48,48,48,48,49,49,48,48,49,49,49,48,49,49]⟩:ByteArray),(⟨#[48,48,48,48,49,49,48,48,49,48,49,49,48,48]⟩:ByteArray),(⟨#[48,48,48,48,49,49,48,48,49,48,48,49,48,48]⟩:ByteArray),(⟨#[48,48,48,48,49,49,48,48,49,48,49,49,48,48]⟩:ByteArray),(⟨#[48,48,48,48,49,49,48,48,49,48,48,49,48,48]⟩:ByteArray)]:List ByteArray) d ⟨rfl,rfl,rfl,rfl,rfl,rfl,rfl,rfl,rfl,rfl,rfl,rfl,rfl,rfl,trivial⟩) ?_)))));rintro v5 f i ⟨h,e,g⟩;refine va (v5) (wln (W.ret ?_));obtain rfl:=si H;exact r1 (qq f ⟨v5,h,e,rfl,g⟩)
def cU (p0:Int) (p1:Int):Option (Int):=
 ((orE (decide (p0 < 0)) (some (decide (p0 > 13)))).bind fun f=>
 if f=true then
 some (0)
 else
 some (p0)).bind fun g=>
 ((orE (decide (p1 < 0)) (some (decide (p1 > 13)))).bind fun a=>
 if a=true then
 some (0)
 else
 some (p1)).bind fun e=>
 (ki).bind fun b=>
 (idx b g).bind fun c=>
 (FD c e).bind fun d=>
 some (w64 ((w64 d) - 48))
theorem qO (N:Own c0 G F) (e:Int) (d:Int) {r:Int} (H:cU e d=some r): Calls prog 263 #[I e,I d] c0.w (aN c0 fun c v=>Own c G (F)∧v=I r):=by
 unfold cU at H;refine en func263 rfl rfl (sr (va (I 0) (wln (bn H fun m g H2=>W.seqJ (Jn c0 fun c l=>Own c G (F)∧l= [(0,I m),(1,I d)]) ?_ ?_))))
 ·refine W.seq (bn g fun X h3 g=>W.join (Jn c0 fun c l=>Own c G (F)∧l= [(0,I e),(1,I d),(10,B X)]) ?_ ?_)
  ·clear g;refine W.region (va (I e) (va (B (decide (e < 0))) ?_));rcases bo (decide (e < 0)) with n | n
   ·obtain rfl:=orT n h3;exact vb n (pz (va (B true) (wln (jn c0 ⟨N,rfl⟩))))
   have H5:=orF n h3;refine vb n (wa (I e) (wa (B (decide (e > 13))) ?_));obtain rfl:=si H5;exact va (B (decide (e > 13))) (wln (jn c0 ⟨N,rfl⟩))
  rintro A D ⟨U,g7,_,rfl,l6,rfl,S,rfl⟩;refine nrm (cn g (fun Z g=>?_) (fun Z g=>?_))
  ·refine W.region (va (I 0) (wln ?_));obtain rfl:=si g;exact jn U ⟨S,rfl⟩
  refine W.skip (nrm ?_);obtain rfl:=si g;exact jn U ⟨S,rfl⟩
 rintro A D ⟨i,m0,_,rfl,s0,rfl,s,rfl⟩;refine bn H2 fun q a b=>W.seqJ (Jn i fun c l=>Own c G (F)∧l= [(0,I m),(1,I q)]) ?_ ?_
 ·refine W.seq (bn a fun z y a=>W.join (Jn i fun c l=>Own c G (F)∧l= [(0,I m),(1,I d),(16,B z)]) ?_ ?_)
  ·clear a;refine W.region (va (I d) (va (B (decide (d < 0))) ?_));rcases bo (decide (d < 0)) with h | h
   ·obtain rfl:=orT h y;exact vb h (pz (va (B true) (wln (jn i ⟨s,rfl⟩))))
   have M:=orF h y;refine vb h (wa (I d) (wa (B (decide (d > 13))) ?_));obtain rfl:=si M;exact va (B (decide (d > 13))) (wln (jn i ⟨s,rfl⟩))
  rintro A D ⟨x,o0,_,rfl,t0,rfl,t,rfl⟩;refine nrm (cn a (fun b0 a=>?_) (fun b0 a=>?_))
  ·refine W.region (va (I 0) (wln ?_));obtain rfl:=si a;exact jn x ⟨t,rfl⟩
  refine W.skip (nrm ?_);obtain rfl:=si a;exact jn x ⟨t,rfl⟩
 rintro A D ⟨l0,q0,_,rfl,u0,rfl,P,rfl⟩;refine sr (bn b fun k0 d0 b=>cl (qN P d0) ?_);rintro v38 T v0 ⟨_,w0,u,rfl,o⟩;refine va (I m) (bn b fun E p b=>vx (ixO underlying302 o p) ?_);obtain ⟨j0,e0,g0⟩:=OA.at o p;obtain rfl:=e0;refine vr (.string E) (rx (by kernel_rfl) (lF underlying9 rfl (u.on 0 rfl) (o.blk p) (at1 (j:=0) g0 rfl))) (va (I q) (bn b fun f f0 b=>vr (.int .u8 f) (rx (by kernel_rfl) (zF (k:= .i64) underlying9 f0 _)) (va (I (w64 f)) (vv (I (w64 ((w64 f) - 48))) (wln (W.ret ?_))))));obtain rfl:=si b;have R:=u.sD 1 [];exact r1 (qq T ⟨R,rfl⟩)
def ew (p0:List ax) (p1:Int):Option (Bool):=
 (idx p0 p1).bind fun i=>
 if (i.Conj != 1)=true then
 some false
 else
 (cE (σ:=Int×Int) (τ:=Bool ⊕ Unit) (((w64 (p1 - 1)) - 0).toNat+2) (fun a=>
 if (decide (a.2≥0))=true then
 (idx p0 a.2).bind fun d=>
 if (d.Conj==1)=true then
 some (.inr (.inl (decide (a.1 > 0))))
 else
 ((idx p0 a.2).bind fun e=>
 if (e.Conj==2)=true then
 some ((w64 (a.1+1)))
 else
 some (a.1)).bind fun h=>
 (idx p0 a.2).bind fun f=>
 (bI (f.Conj != 2) ((idx p0 a.2).bind fun g=>
 some (g.Conj != 3))).bind fun c=>
 if c=true then
 some (.inr (.inl false))
 else
 some (.inl (h,(w64 (a.2 - 1))))
 else
 some (.inr (.inr ()))) (0,(w64 (p1 - 1)))).bind fun b=>
 match b with
 | .inl b=>
 some b
 | .inr b=>
 some false
theorem og (O0:Own c0 G F) (p0:List ax) (j:Int) {r:Bool} (f:Sl cx c0 v1 p0) (H:ew p0 j=some r): Calls prog 264 #[v1,I j] c0.w (aN c0 fun c v=>Own c G (F)∧v=B r):=by
 unfold ew at H;refine en func264 rfl rfl (sr (va (B false) (wln (W.seq (sr (va (v1) (va (I j) (bn H fun d1 h3 H=>?_))))))));obtain ⟨z1,h5,m6⟩:=Sl.at f (aT h3);obtain rfl:=h5;refine vx (ix nh f h3) (va (Qo (sb v1) (so v1+j.toNat * 4+2)) (vx (l1 u_3 (m6 2 _ rfl)) (va (B (d1.Conj != 1)) (wln (cn H (fun h7 H=>?_) (fun h7 H=>?_))))))
 ·refine sr (va (B false) (wln (W.ret (thr ?_))));obtain rfl:=si H;exact r1 (qq c0 ⟨O0,rfl⟩)
 refine W.skip (nrm (sr (va (I 0) (wln (W.seq (sr (va (I j) (vv (I (w64 (j - 1))) (wln (W.block (bn H fun i h8 T=>lp h8 (fun a=>Jn c0 fun c l=>Own c G (F)∧l= [(0,v1),(5,I a.1),(6,I a.2)]) (fun t=>match t with | .inl X=>(fun b1 ex e w=>ex= .ret∧(Jn c0 fun c l=>Own c G (F)∧l= [(4,B b1)]) e w) X | .inr X=>(fun e1 ex e w=>ex= .exit 0∧(Jn c0 fun c l=>Own c G (F)∧l= []) e w) X) ?_ ?_ ?_)))))))))))
 ·clear T h8;intro a a2 h0 c1 H;revert h0 c1;rintro x y ⟨g,n1,_,rfl,n,rfl,k,rfl⟩;refine W.seq (sr (va (I a.2) (va (B (decide (a.2≥0))) (wln (cn H (fun j0 H=>?_) (fun j0 H=>?_))))))
  ·refine W.skip (nrm (W.seq (W.block (W.seq (sr (va (v1) (va (I a.2) (bn H fun Z E H=>?_))))))));obtain ⟨h1,k0,w0⟩:=Sl.at (f.mono n) (aT E);obtain rfl:=k0;refine vx (ix nh f.m E) (va (Qo (sb v1) (so v1+a.2.toNat * 4+2)) (vx (l1 u_3 (w0 2 _ rfl)) (va (B (Z.Conj==1)) (wln (cn H (fun l0 H=>?_) (fun l0 H=>?_))))))
   ·refine sr (va (I a.1) (vv (B (decide (a.1 > 0))) (wln (W.ret (thr (bkr (thr ?_)))))));obtain rfl:=si H;exact ⟨_,rfl,⟨rfl,jn g ⟨k,rfl⟩⟩⟩
   refine W.skip (nrm (bn H fun u d b=>W.seqJ (Jn g fun c l=>Own c G (F)∧l= [(0,v1),(5,I u),(6,I a.2)]) ?_ ?_))
   ·refine sr (va (v1) (va (I a.2) (bn d fun a0 M d=>?_)));obtain ⟨i1,m0,x0⟩:=Sl.at (f.mono n) (aT M);obtain rfl:=m0;refine vx (ix nh f.m M) (va (Qo (sb v1) (so v1+a.2.toNat * 4+2)) (vx (l1 u_3 (x0 2 _ rfl)) (va (B (a0.Conj==2)) (wln (cn d (fun o0 d=>?_) (fun o0 d=>?_))))))
    ·refine W.region (va (I a.1) (vv (I (w64 (a.1+1))) (wln ?_)));obtain rfl:=si d;exact jn g ⟨k,rfl⟩
    refine W.skip (nrm ?_);obtain rfl:=si d;exact jn g ⟨k,rfl⟩
   rintro x y ⟨p,q1,_,rfl,S,rfl,z,rfl⟩;refine W.seq (bn b fun q N b=>bn b fun U P b=>W.join (Jn p fun c l=>Own c G (F)∧l= [(0,v1),(5,I u),(6,I a.2),(48,B U)]) ?_ ?_)
   ·clear b;refine W.region (va (v1) (va (I a.2) ?_));obtain ⟨j1,s0,y0⟩:=Sl.at (f.mono (n.trans S)) (aT N);obtain rfl:=s0;refine vx (ix nh f.m N) (va (Qo (sb v1) (so v1+a.2.toNat * 4+2)) (vx (l1 u_3 (y0 2 _ rfl)) (va (B (q.Conj != 2)) ?_)));rcases bo (q.Conj != 2) with h | h
    ·have o:=anT h P;refine vb h (wa (v1) (wa (I a.2) (wn (bn o fun s R o=>?_))));obtain ⟨k1,t0,z0⟩:=Sl.at (f.mono (n.trans S)) (aT R);obtain rfl:=t0;refine vx (ix nh f.m R) (wa (Qo (sb v1) (so v1+a.2.toNat * 4+2)) (wn (vx (l1 u_3 (z0 2 _ rfl)) (wa (B (s.Conj != 3)) ?_))));obtain rfl:=si o;exact va (B (s.Conj != 3)) (wln (jn p ⟨z,rfl⟩))
    obtain rfl:=anF h P;exact vb h (pz (pz (pz (va (B false) (wln (jn p ⟨z,rfl⟩))))))
   rintro x y ⟨D,s1,_,rfl,w1,rfl,A,rfl⟩;refine nrm (cn b (fun u0 b=>?_) (fun u0 b=>?_))
   ·refine sr (va (B false) (wln (W.ret (bkr (thr ?_)))));obtain rfl:=si b;exact ⟨_,rfl,⟨rfl,jn D ⟨A,rfl⟩⟩⟩
   refine W.skip (bkn (nrm (W.region (va (I a.2) (vv (I (w64 (a.2 - 1))) (WL.nil ?_))))));obtain rfl:=si b;exact ⟨_,rfl,jn D ⟨A,rfl⟩⟩
  refine W.exit (thx ?_);obtain rfl:=si H;exact ⟨_,rfl,rfl,jn g ⟨k,rfl⟩⟩
 ·exact jn c0 ⟨O0,rfl⟩
 rcases i with i | i
 ·intro i0; revert i0;rintro _ x y ⟨rfl,f0,t1,_,rfl,x1,rfl,d0,rfl⟩;refine bkr (thr ?_);obtain rfl:=si T;exact r1 (qq f0 ⟨d0,rfl⟩)
 rintro _ x y ⟨rfl,g0,u1,_,rfl,y1,rfl,e0,rfl⟩;refine bke (nrm (sr (va (B false) (wln (W.ret ?_)))));obtain rfl:=si T;exact r1 (qq g0 ⟨e0,rfl⟩)
def eQ (p0:List ax) (p1:Int):Option (Bool):=
 (idx p0 p1).bind fun j=>
 (orE (!j.Pict) (some (decide (p1 < 2)))).bind fun i=>
 (orE i ((idx p0 (w64 (p1 - 1))).bind fun e=>
 some (e.Break != 5))).bind fun c=>
 (orE c ((idx p0 (w64 (p1 - 1))).bind fun f=>
 some f.Pict)).bind fun d=>
 if d=true then
 some false
 else
 (cE (σ:=Int) (τ:=Bool ⊕ Unit) (((w64 (p1 - 2)) - 0).toNat+2) (fun b=>
 if (decide (b≥0))=true then
 (idx p0 b).bind fun g=>
 if g.Pict=true then
 some (.inr (.inl true))
 else
 (idx p0 b).bind fun h=>
 if (h.Break != 4)=true then
 some (.inr (.inl false))
 else
 some (.inl ((w64 (b - 1))))
 else
 some (.inr (.inr ()))) ((w64 (p1 - 2)))).bind fun a=>
 match a with
 | .inl a=>
 some a
 | .inr a=>
 some false
theorem oS (u:Own c0 G F) (p0:List ax) (b:Int) {r:Bool} (d:Sl cx c0 v1 p0) (H:eQ p0 b=some r): Calls prog 265 #[v1,I b] c0.w (aN c0 fun c v=>Own c G (F)∧v=B r):=by
 unfold eQ at H;refine en func265 rfl rfl (sr (va (B false) (wln (W.seq (W.seq (bn H fun U h3 H=>bn H fun u1 h4 H=>bn H fun i1 h5 H=>bn H fun X x H=>W.join (Jn c0 fun c l=>Own c G (F)∧l= [(0,v1),(1,I b),(32,B X)]) ?_ ?_))))))
 ·clear H;refine W.region (va (v1) (va (I b) ?_));obtain ⟨c2,h8,m9⟩:=Sl.at d (aT h3);obtain rfl:=h8;refine vx (ix nh d h3) (va (Qo (sb v1) (so v1+b.toNat * 4+1)) (vx (l1 u_4 (m9 1 _ rfl)) (va (B (!U.Pict)) ?_)));rcases bo (!U.Pict) with g | g
  ·obtain rfl:=orT g h4;refine vb g (pz (va (B true) ?_));have z:true=true:=rfl;obtain rfl:=orT z h5;refine vb z (pz (pz (pz (ps (va (B true) ?_)))));have A:true=true:=rfl;obtain rfl:=orT A x;exact vb A (pz (pz (pz (va (B true) (wln (jn c0 ⟨u,rfl⟩))))))
  have g0:=orF g h4;refine vb g (wa (I b) (wa (B (decide (b < 2))) ?_));obtain rfl:=si g0;refine va (B (decide (b < 2))) ?_;rcases bo (decide (b < 2)) with h | h
  ·obtain rfl:=orT h h5;refine vb h (pz (pz (pz (ps (va (B true) ?_)))));have D:true=true:=rfl;obtain rfl:=orT D x;exact vb D (pz (pz (pz (va (B true) (wln (jn c0 ⟨u,rfl⟩))))))
  have p:=orF h h5;refine vb h (wa (v1) (wa (I b) (wa (I (w64 (b - 1))) (wn (bn p fun k E p=>?_)))));obtain ⟨k1,o0,a1⟩:=Sl.at d (aT E);obtain rfl:=o0;refine vx (ix nh d E) (wa (Qo (sb v1) (so v1+(w64 (b - 1)).toNat * 4)) (wn (vx (l1 u_3 (a1 0 _ rfl)) (wa (B (k.Break != 5)) ?_))));obtain rfl:=si p;refine va (B (k.Break != 5)) ?_;rcases bo (k.Break != 5) with i | i
  ·obtain rfl:=orT i x;exact vb i (pz (pz (pz (va (B true) (wln (jn c0 ⟨u,rfl⟩))))))
  have q:=orF i x;refine vb i (wa (v1) (wa (I b) (wa (I (w64 (b - 1))) (wn (bn q fun e0 M q=>?_)))));obtain ⟨m1,q0,b1⟩:=Sl.at d (aT M);obtain rfl:=q0;refine vx (ix nh d M) (wa (Qo (sb v1) (so v1+(w64 (b - 1)).toNat * 4+1)) (wn (vx (l1 u_4 (b1 1 _ rfl)) ?_)));obtain rfl:=si q;exact va (B e0.Pict) (wln (jn c0 ⟨u,rfl⟩))
 rintro Z w_ ⟨f,w1,_,rfl,S,rfl,y,rfl⟩;refine nrm (cn H (fun t0 H=>?_) (fun t0 H=>?_))
 ·refine sr (va (B false) (wln (W.ret (thr ?_))));obtain rfl:=si H;exact r1 (qq f ⟨y,rfl⟩)
 refine W.skip (nrm (W.seq (sr (va (I b) (vv (I (w64 (b - 2))) (wln (W.block (bn H fun j N s=>lp N (fun a=>Jn f fun c l=>Own c G (F)∧l= [(0,v1),(5,I a)]) (fun t=>match t with | .inl x_=>(fun f1 ex e w=>ex= .ret∧(Jn f fun c l=>Own c G (F)∧l= [(4,B f1)]) e w) x_ | .inr x_=>(fun h1 ex e w=>ex= .exit 0∧(Jn f fun c l=>Own c G (F)∧l= []) e w) x_) ?_ ?_ ?_))))))))
 ·clear s N;intro a d2 l0 g1 H;revert l0 g1;rintro Z w_ ⟨o,x1,_,rfl,T,rfl,n,rfl⟩;refine W.seq (sr (va (I a) (va (B (decide (a≥0))) (wln (cn H (fun v0 H=>?_) (fun v0 H=>?_))))))
  ·refine W.skip (nrm (W.seq (W.block (W.seq (sr (va (v1) (va (I a) (bn H fun t1 P H=>?_))))))));obtain ⟨n1,w0,c1⟩:=Sl.at (d.mono (S.trans T)) (aT P);obtain rfl:=w0;refine vx (ix nh d.m P) (va (Qo (sb v1) (so v1+a.toNat * 4+1)) (vx (l1 u_4 (c1 1 _ rfl)) (wln (cn H (fun x0 H=>?_) (fun x0 H=>?_)))))
   ·refine sr (va (B true) (wln (W.ret (thr (bkr (thr ?_))))));obtain rfl:=si H;exact ⟨_,rfl,⟨rfl,jn o ⟨n,rfl⟩⟩⟩
   refine W.skip (nrm (sr (va (v1) (va (I a) (bn H fun f0 R H=>?_)))));obtain ⟨q1,y0,d1⟩:=Sl.at (d.mono (S.trans T)) (aT R);obtain rfl:=y0;refine vx (ix nh d.m R) (va (Qo (sb v1) (so v1+a.toNat * 4)) (vx (l1 u_3 (d1 0 _ rfl)) (va (B (f0.Break != 4)) (wln (cn H (fun z0 H=>?_) (fun z0 H=>?_))))))
   ·refine sr (va (B false) (wln (W.ret (bkr (thr ?_)))));obtain rfl:=si H;exact ⟨_,rfl,⟨rfl,jn o ⟨n,rfl⟩⟩⟩
   refine W.skip (bkn (nrm (W.region (va (I a) (vv (I (w64 (a - 1))) (WL.nil ?_))))));obtain rfl:=si H;exact ⟨_,rfl,jn o ⟨n,rfl⟩⟩
  refine W.exit (thx ?_);obtain rfl:=si H;exact ⟨_,rfl,rfl,jn o ⟨n,rfl⟩⟩
 ·exact jn f ⟨y,rfl⟩
 rcases j with j | j
 ·intro m0; revert m0;rintro _ Z w_ ⟨rfl,j0,y1,_,rfl,a2,rfl,h0,rfl⟩;refine bkr (thr ?_);obtain rfl:=si s;exact r1 (qq j0 ⟨h0,rfl⟩)
 rintro _ Z w_ ⟨rfl,k0,z1,_,rfl,b2,rfl,i0,rfl⟩;refine bke (nrm (sr (va (B false) (wln (W.ret ?_)))));obtain rfl:=si s;exact r1 (qq k0 ⟨i0,rfl⟩)
def eo (p0:List ax) (p1:Int):Option (Bool):=
 (orE (decide (p1 < 1)) (some (decide (p1≥(p0.length:Int))))).bind fun n=>
 if n=true then
 some false
 else
 (idx p0 (w64 (p1 - 1))).bind fun h=>
 (idx p0 p1).bind fun i=>
 (cU h.Break i.Break).bind fun b=>
 (orE (b==1) ((ew p0 p1).bind fun j=>
 some j)).bind fun c=>
 (orE c ((eQ p0 p1).bind fun k=>
 some k)).bind fun d=>
 if d=true then
 some true
 else
 (orE (b != 2) ((idx p0 p1).bind fun l=>
 some (l.Break != 6))).bind fun e=>
 if e=true then
 some false
 else
 (cE (σ:=Int×Int) (τ:=Int) (((w64 (p1 - 1)) - 0).toNat+2) (fun a=>
 (bI (decide (a.2≥0)) ((idx p0 a.2).bind fun m=>
 some (m.Break==6))).bind fun f=>
 if f=true then
 some (.inl ((w64 (a.1+1)),(w64 (a.2 - 1))))
 else
 some (.inr (a.1))) (0,(w64 (p1 - 1)))).bind fun g=>
 some ((g.tmod 2)==1)
theorem pO (O0:Own c0 G F) (q:List ax) (b:Int) {r:Bool} (f:Sl cx c0 v1 q) (H:eo q b=some r): Calls prog 238 #[v1,I b] c0.w (aN c0 fun c v=>Own c G (F)∧v=B r):=by
 unfold eo at H;refine en func238 rfl rfl (sr (va (B false) (wln (W.seq (W.seq (bn H fun m1 h3 H=>W.join (Jn c0 fun c l=>Own c G (F)∧l= [(0,v1),(1,I b),(15,B m1)]) ?_ ?_))))))
 ·clear H;refine W.region (va (I b) (va (B (decide (b < 1))) ?_));rcases bo (decide (b < 1)) with M | M
  ·obtain rfl:=orT M h3;exact vb M (pz (pz (va (B true) (wln (jn c0 ⟨O0,rfl⟩)))))
  have H5:=orF M h3;refine vb M (wa (I b) (wa (v1) (wn (vx (ln 3 nh f) (wa (B (decide (b≥(q.length:Int)))) ?_)))));obtain rfl:=si H5;exact va (B (decide (b≥(q.length:Int)))) (wln (jn c0 ⟨O0,rfl⟩))
 rintro D P ⟨c6,g7,_,rfl,U,rfl,O8,rfl⟩;refine nrm (cn H (fun q1 H=>?_) (fun q1 H=>?_))
 ·refine sr (va (B false) (wln (W.ret (thr ?_))));obtain rfl:=si H;exact r1 (qq c6 ⟨O8,rfl⟩)
 refine W.skip (nrm (W.seq (rD [] (Kp G0 []) O8 ?_)));intro h1 p d1;have e3:Kp G0 [] h1:=Kp.nil0;refine ta 0 (v1) (ta 1 (I b) (ta 2 (I (w64 (b - 1))) (bn H fun z0 h0 H=>?_)));obtain ⟨q2,s1,g2⟩:=Sl.at (f.mono (U.trans p)) (aT h0);obtain rfl:=s1;refine tx 3 (fun c' N=>ix nh f.m h0) (ta 4 (Qo (sb v1) (so v1+(w64 (b - 1)).toNat * 4)) (tx 5 (fun c' N=>l1 u_3 ((mm g2) 0 _ rfl)) (ta 6 (v1) (ta 7 (I b) (bn H fun a1 i0 H=>?_)))));obtain ⟨s2,t1,i2⟩:=Sl.at (f.mono (U.trans p)) (aT i0);obtain rfl:=t1;refine tx 8 (fun c' N=>ix nh f.m i0) (ta 9 (Qo (sb v1) (so v1+b.toNat * 4)) (tx 10 (fun c' N=>l1 u_3 ((mm i2) 0 _ rfl)) (bn H fun d u1 H=>o1 11 (gc 11 (qO d1 z0.Break a1.Break u1) ?_))));rintro v30 z t0 ⟨a0,rfl⟩;have l2:Kp G0 [] z:=Kp.nil0;refine ⟨.inr l2,ta 12 (I d) (dn (nrm (W.seq (W.seq (bn H fun p2 j0 H=>bn H fun w0 E H=>W.join (Jn z fun c l=>Own c G (F)∧l= [(0,v1),(1,I b),(5,I d),(39,B w0)]) ?_ ?_)))))⟩
 ·clear H;refine W.region (va (I d) (va (B (d==1)) ?_));rcases bo (d==1) with h | h
  ·obtain rfl:=orT h j0;refine vb h (pz (ps (va (B true) ?_)));have k0:true=true:=rfl;obtain rfl:=orT k0 E;exact vb k0 (pz (ps (va (B true) (wln (jn z ⟨a0,rfl⟩)))))
  have s:=orF h j0;refine vb h (wa (v1) (wa (I b) (wn (bn s fun R x1 s=>cl (og a0 q b f.m x1) ?_))));rintro v43 i1 a3 ⟨b0,rfl⟩;obtain rfl:=si s;refine va (B R) ?_;rcases bo (R) with i | i
  ·obtain rfl:=orT i E;exact vb i (pz (ps (va (B true) (wln (jn i1 ⟨b0,rfl⟩)))))
  have t:=orF i E;refine vb i (wa (v1) (wa (I b) (wn (bn t fun b1 y1 t=>cl (oS b0 q b f.m y1) ?_))));rintro v52 j1 b3 ⟨e1,rfl⟩;obtain rfl:=si t;exact va (B b1) (wln (jn j1 ⟨e1,rfl⟩))
 rintro D P ⟨n,v2,_,rfl,u0,rfl,y,rfl⟩;refine nrm (cn H (fun z1 H=>?_) (fun z1 H=>?_))
 ·refine sr (va (B true) (wln (W.ret (thr ?_))));obtain rfl:=si H;exact r1 (qq n ⟨y,rfl⟩)
 refine W.skip (nrm (W.seq (W.seq (bn H fun x0 l0 H=>W.join (Jn n fun c l=>Own c G (F)∧l= [(0,v1),(1,I b),(49,B x0)]) ?_ ?_))))
 ·clear H;refine W.region (va (I d) (va (B (d != 2)) ?_));rcases bo (d != 2) with j | j
  ·obtain rfl:=orT j l0;exact vb j (pz (pz (pz (va (B true) (wln (jn n ⟨y,rfl⟩))))))
  have u:=orF j l0;refine vb j (wa (v1) (wa (I b) (wn (bn u fun S m0 u=>?_))));obtain ⟨t2,a2,j2⟩:=Sl.at (f.mono (U.trans (p.trans (t0.trans u0)))) (aT m0);obtain rfl:=a2;refine vx (ix nh f.m m0) (wa (Qo (sb v1) (so v1+b.toNat * 4)) (wn (vx (l1 u_3 (j2 0 _ rfl)) (wa (B (S.Break != 6)) ?_))));obtain rfl:=si u;exact va (B (S.Break != 6)) (wln (jn n ⟨y,rfl⟩))
 rintro D P ⟨o,w2,_,rfl,e2,rfl,d0,rfl⟩;refine nrm (cn H (fun b2 H=>?_) (fun b2 H=>?_))
 ·refine sr (va (B false) (wln (W.ret (thr ?_))));obtain rfl:=si H;exact r1 (qq o ⟨d0,rfl⟩)
 refine W.skip (nrm (sr (va (I 0) (wln (W.seq (sr (va (I b) (vv (I (w64 (b - 1))) (wln (W.block (bn H fun g o0 Z=>lp o0 (fun a=>Jn o fun c l=>Own c G (F)∧l= [(0,v1),(6,I a.1),(7,I a.2)]) (fun X ex e w=>ex= .exit 0∧(Jn o fun c l=>Own c G (F)∧l= [(6,I X)]) e w) ?_ ?_ ?_)))))))))))
 ·clear Z o0;intro a f3 n1 m2 H;revert n1 m2;rintro D P ⟨A,x2,_,rfl,f2,rfl,e0,rfl⟩;refine W.seq (W.seq (bn H fun y0 q0 H=>W.join (Jn A fun c l=>Own c G (F)∧l= [(0,v1),(6,I a.1),(7,I a.2),(61,B y0)]) ?_ ?_))
  ·clear H;refine W.region (va (I a.2) (va (B (decide (a.2≥0))) ?_));rcases bo (decide (a.2≥0)) with k | k
   ·have x:=anT k q0;refine vb k (wa (v1) (wa (I a.2) (wn (bn x fun T s0 x=>?_))));obtain ⟨u2,c2,k2⟩:=Sl.at (f.mono (U.trans (p.trans (t0.trans (u0.trans (e2.trans f2)))))) (aT s0);obtain rfl:=c2;refine vx (ix nh f.m s0) (wa (Qo (sb v1) (so v1+a.2.toNat * 4)) (wn (vx (l1 u_3 (k2 0 _ rfl)) (wa (B (T.Break==6)) ?_))));obtain rfl:=si x;exact va (B (T.Break==6)) (wln (jn A ⟨e0,rfl⟩))
   obtain rfl:=anF k q0;exact vb k (pz (pz (pz (va (B false) (wln (jn A ⟨e0,rfl⟩))))))
  rintro D P ⟨g0,y2,_,rfl,c3,rfl,f0,rfl⟩;refine nrm (cn H (fun d2 H=>?_) (fun d2 H=>?_))
  ·refine W.skip (nrm (W.seq (W.block (W.region (va (I a.1) (vv (I (w64 (a.1+1))) (WL.nil (bkn (nrm (W.region (va (I a.2) (vv (I (w64 (a.2 - 1))) (WL.nil ?_)))))))))))));obtain rfl:=si H;exact ⟨_,rfl,jn g0 ⟨f0,rfl⟩⟩
  refine W.exit (thx ?_);obtain rfl:=si H;exact ⟨_,rfl,rfl,jn g0 ⟨f0,rfl⟩⟩
 ·exact jn o ⟨d0,rfl⟩
 rintro _ D P ⟨rfl,k1,z2,_,rfl,d3,rfl,g1,rfl⟩;refine bke (nrm (sr (va (I g) (va (I (g.tmod 2)) (vv (B ((g.tmod 2)==1)) (wln (W.ret ?_)))))));obtain rfl:=si Z;exact r1 (qq k1 ⟨g1,rfl⟩)
def fe (p0:List Int):Option (List Int):=
 (fA p0).bind fun b=>
 (cE (σ:=(List Int)×Int) (τ:=(List Int)) (((b.length:Int) - 0).toNat+1) (fun a=>
 if (decide (a.2 < (b.length:Int)))=true then
 ((eo b a.2).bind fun d=>
 if (!d)=true then
 (app a.1 ([a.2]:List Int)).bind fun e=>
 some (e)
 else
 some (a.1)).bind fun f=>
 some (.inl (f,(w64 (a.2+1))))
 else
 some (.inr (a.1))) (([]:List Int),0)).bind fun c=>
 some c
theorem pB (O0:Own c0 G F) (x:List Int) {r:List Int} (h2:Sl (RI .i32) c0 v1 x) (H:fe x=some r): Calls prog 188 #[v1] c0.w (aN c0 fun c v=>∃A y2,Own c G (es true (RI .i64) A 3 y2 r :: F)∧v=A∧OA (RI .i64) c A y2 r):=by
 unfold fe at H;refine en func188 rfl rfl (sr (va (Y) (wln (sr (va (Y) (wln (sr (va (v1) (bn H fun f h3 H=>cl (pN O0 x h2 h3) ?_)))))))));rintro v4 k q1 ⟨_,y,O8,rfl,u⟩;refine va (v4) (wln (W.seq (sr (va (I 0) (wln (W.block (bn H fun g1 t p=>lp t (fun a=>Jn k fun c l=>∃v15 d,Own c G (es true (RI .i64) v15 3 d a.1 :: es false cx v4 33 y f :: F)∧l= [(3,v15),(4,v4),(5,I a.2)]∧OA (RI .i64) c v15 d a.1) (fun g ex e w=>ex= .exit 0∧(Jn k fun c l=>∃v17 h,Own c G (es true (RI .i64) v17 3 h g :: es false cx v4 33 y f :: F)∧l= [(3,v17)]∧OA (RI .i64) c v17 h g) e w) ?_ ?_ ?_)))))))
 ·clear p t;intro a c2 g0 a1 H;revert g0 a1;rintro e_ w_ ⟨s,k1,_,rfl,x0,rfl,v15,d,j,rfl,n⟩;refine W.seq (sr (va (I a.2) (va (v4) (vx (lnO 3 nh u.m) (va (B (decide (a.2 < (f.length:Int)))) (wln (cn H (fun h0 H=>?_) (fun h0 H=>?_))))))))
  ·refine W.skip (nrm (bn H fun o b D=>W.seqJ (Jn s fun c l=>∃v29 i,Own c G (es true (RI .i64) v29 3 i o :: es false cx v4 33 y f :: F)∧l= [(3,v29),(4,v4),(5,I a.2)]∧OA (RI .i64) c v29 i o) ?_ ?_))
   ·refine W.block (sr (va (v4) (va (I a.2) ?_)));have i0:=j.slf 1 rfl (u.mono x0);refine bn b fun z j0 b=>cl (pO j f a.2 i0 j0) ?_;rintro v38 Z s1 ⟨q,rfl⟩;refine va (B (!z)) (wln (cn b (fun k0 b=>?_) (fun k0 b=>?_)))
    ·refine W.region (va (v15) (va (I a.2) (me (sl (RI .i64) 3 [[I a.2]] ([a.2]:List Int) q ⟨rfl,trivial⟩) ?_)));rintro v44 i1 t1 ⟨b2,E,l0⟩;obtain ⟨j1,o0,u1,M,m0⟩:=E.frz 0 rfl l0;refine WL.gh o0 (bn b fun h1 q0 b=>me (ap (RI .i64) (I 0) 8 204 1 M n.m m0 q0 ot) ?_);rintro v54 a0 w1 ⟨y0,N,s0⟩;refine va (v54) (WL.nil (bkn (nrm ?_)));obtain rfl:=si b;have P:=N.sD 3 [1,2];exact jn a0 ⟨v54,y0,P,rfl,s0⟩
    refine W.skip (bkn (nrm ?_));obtain rfl:=si b;exact jn Z ⟨v15,d,q,rfl,n.m⟩
   rintro e_ w_ ⟨b0,m1,_,rfl,x1,rfl,v29,i,R,rfl,t0⟩;refine W.region (va (I a.2) (vv (I (w64 (a.2+1))) (WL.nil ?_)));obtain rfl:=si D;exact ⟨_,rfl,jn b0 ⟨v29,i,R,rfl,t0⟩⟩
  refine W.exit (thx ?_);obtain rfl:=si H;exact ⟨_,rfl,rfl,jn s ⟨v15,d,j,rfl,n⟩⟩
 ·have u0:OA (RI .i64) k (Y) [] []:=OA.nil (aM _);have S:=O8.addHole (e:=es true (RI .i64) (Y) 3 [] ([]:List Int)) rfl;obtain ⟨d0,v0,z1,T,p1⟩:=S.frz 1 rfl u;exact ⟨d0,_,_,v0.symm,pt,us,(Y),[],T,rfl,u0.m⟩
 rintro _ e_ w_ ⟨rfl,e0,n1,_,rfl,a2,rfl,v17,h,U,rfl,w0⟩;refine bke (nrm (sr (vv (v17) (wln (W.ret ?_)))));obtain rfl:=si p;have X:=U.sD 2 [0];exact r1 (qq e0 ⟨v17,h,X,rfl,w0⟩)
def eu (p0:List Int):Option (List (List Int)):=
 (fe p0).bind fun i=>
 (app i ([(p0.length:Int)]:List Int)).bind fun b=>
 (cE (σ:=(List (List Int))×Int) (τ:=(List (List Int))) (((b.length:Int) - (w64 (0+1))).toNat+1) (fun a=>
 if (decide ((w64 (a.2+1)) < (b.length:Int)))=true then
 (idx b a.2).bind fun d=>
 (idx b (w64 (a.2+1))).bind fun e=>
 (slc p0 d e).bind fun f=>
 (app ([]:List Int) f).bind fun g=>
 (app a.1 ([g]:List (List Int))).bind fun h=>
 some (.inl (h,(w64 (a.2+1))))
 else
 some (.inr (a.1))) (([]:List (List Int)),0)).bind fun c=>
 some c
theorem oe (O0:Own c0 G F) (g:List Int) {r:List (List Int)} (h2:Sl (RI .i32) c0 v1 g) (H:eu g=some r): Calls prog 119 #[v1] c0.w (aN c0 fun c v=>∃y1 y2,Own c G (es true (RL (RI .i32)) y1 27 y2 r :: F)∧v=y1∧OA (RL (RI .i32)) c y1 y2 r):=by
 unfold eu at H;refine en func119 rfl rfl (sr (va (Y) (wln (sr (va (Y) (wln (sr (va (v1) (bn H fun b4 h3 H=>cl (pB O0 g h2 h3) ?_)))))))));rintro v4 l3 f2 ⟨_,u5,O8,rfl,h6⟩;refine va (v1) (vx (ln 3 dh h2.m) (me (sl (RI .i64) 3 [[I (g.length:Int)]] ([(g.length:Int)]:List Int) O8 ⟨rfl,trivial⟩) ?_));rintro v17 m3 l16 ⟨e0,s0,g1⟩;obtain ⟨n3,i1,g2,t0,h1⟩:=s0.frz 0 rfl g1;refine WL.gh i1 (bn H fun b j1 H=>me (ap (RI .i64) (I 0) 8 204 1 t0 h6.m h1 j1 ot) ?_);rintro v27 h i2 ⟨d,u0,f⟩;refine va (v27) (wln (W.seq (sr (va (I 0) (wln (W.block (bn H fun g3 Z y=>lp Z (fun a=>Jn h fun c l=>∃v30 o,Own c G (es true (RL (RI .i32)) v30 27 o a.1 :: es false (RI .i64) v17 3 e0 ([(g.length:Int)]:List Int) :: es true (RI .i64) v27 3 d b :: F)∧l= [(0,v1),(3,v30),(4,v27),(5,I a.2)]∧OA (RL (RI .i32)) c v30 o a.1) (fun n ex e w=>ex= .exit 0∧(Jn h fun c l=>∃v32 p,Own c G (es true (RL (RI .i32)) v32 27 p n :: es false (RI .i64) v17 3 e0 ([(g.length:Int)]:List Int) :: es true (RI .i64) v27 3 d b :: F)∧l= [(3,v32)]∧OA (RL (RI .i32)) c v32 p n) e w) ?_ ?_ ?_)))))))
 ·clear y Z;intro a c4 f1 v2 H;revert f1 v2;rintro e_ w_ ⟨x0,o3,_,rfl,t,rfl,v30,o,z,rfl,a0⟩;refine W.seq (sr (va (I a.2) (va (I (w64 (a.2+1))) (va (v27) (vx (lnO 3 ot f.m) (va (B (decide ((w64 (a.2+1)) < (b.length:Int)))) (wln (cn H (fun k1 H=>?_) (fun k1 H=>?_)))))))))
  ·refine W.skip (nrm (W.seq (W.block (rD [] (Kp G0 [es true (RI .i64) v27 3 d b]) z ?_))));intro y0 u A;have d0:Kp G0 [es true (RI .i64) v27 3 d b] y0:=(Kp.cons (A.on 2 rfl) Kp.nil0);refine ta 0 (v30) (ta 2 (v1) (ta 3 (v27) (ta 4 (I a.2) (bn H fun l0 q H=>tx 5 (fun x i=>ixO ot f.m q) ?_))));obtain ⟨e3,m1,l2⟩:=OA.at (f.mono (t.trans u)) q;obtain rfl:=m1;refine AC.takeK 6 (I l0) d0 rfl (by kernel_rfl) (by kernel_rfl) (by kernel_rfl) (fun x i hk=>(rx (by kernel_rfl) (lF u_3 rfl (hk.on 0 rfl) (f.m.blk q) (at1 (j:=0) l2 rfl)))) (ta 7 (v27) (ta 8 (I a.2) (ta 9 (I (w64 (a.2+1))) (bn H fun m0 s H=>tx 10 (fun x i=>ixO ot f.m s) ?_))));obtain ⟨f3,n1,m2⟩:=OA.at (f.mono (t.trans u)) s;obtain rfl:=n1;refine AC.takeK 11 (I m0) d0 rfl (by kernel_rfl) (by kernel_rfl) (by kernel_rfl) (fun x i hk=>(rx (by kernel_rfl) (lF u_3 rfl (hk.on 0 rfl) (f.m.blk s) (at1 (j:=0) m2 rfl)))) (bn H fun j3 p1 H=>?_);obtain ⟨v54,q1,s1⟩:=uL (k:= .i64) (k':= .i64) dh (by kernel_rfl) (h2.mono (f2.trans (l16.trans (g2.trans (i2.trans (t.trans u)))))) p1;refine AC.take 12 (v54) rfl (by kernel_rfl) (by kernel_rfl) (fun x i=>(rx (by kernel_rfl) (q1 _))) (o1 1 (gm 1 (sl (RI .i32) 21 [] ([]:List Int) A trivial) ?_));rintro y3 z0 p3 ⟨v3,D,t1⟩;have n2:Kp G0 [es true (RI .i64) v27 3 d b] z0:=(Kp.cons (D.on 3 rfl) Kp.nil0);refine ⟨.inr n2,bn H fun o0 u1 H=>o1 13 (gm 13 (ap (RI .i32) (J 0) 4 27 0 D t1 s1.m u1 dh) ?_)⟩;rintro z3 a1 q3 ⟨w3,E,w1⟩;have o2:Kp G0 [es true (RI .i64) v27 3 d b] a1:=(Kp.cons (E.on 3 rfl) Kp.nil0);refine ⟨.inr o2,?_⟩;obtain ⟨b1,x1,j2,M,b0⟩:=E.frz 0 rfl w1;have p2:Kp G0 [es true (RI .i64) v27 3 d b] b1:=(Kp.cons (M.on 3 rfl) Kp.nil0);refine AC.gh x1 j2 (fun _=>p2) ?_;obtain ⟨S,T,U,rfl⟩:=(b0).form;refine o1 14 (gm 14 (sl (RL (RI .i32)) 27 [[.slice S T U]] ([o0]:List (List Int)) M ⟨⟨(.slice S T U),rfl,b0⟩,trivial⟩) ?_);rintro a4 c1 s3 ⟨x3,N,z1⟩;have q2:Kp G0 [es true (RI .i64) v27 3 d b] c1:=(Kp.cons (N.on 4 rfl) Kp.nil0);refine ⟨.inr q2,?_⟩;obtain ⟨d1,b2,k2,P,a2⟩:=N.frz 0 rfl z1;have s2:Kp G0 [es true (RI .i64) v27 3 d b] d1:=(Kp.cons (P.on 4 rfl) Kp.nil0);refine AC.gh b2 k2 (fun _=>s2) (bn H fun k3 c2 H=>o1 15 (gm 15 (ap (RL (RI .i32)) (Y) 24 172 2 P a0.m a2 c2 uT) ?_));rintro f0 X t3 ⟨u2,R,d2⟩;have t2:Kp G0 [es true (RI .i64) v27 3 d b] X:=(Kp.cons (R.on 4 rfl) Kp.nil0);refine ⟨.inr t2,ta 16 (f0) (dn (bkn (nrm (W.region (va (I a.2) (vv (I (w64 (a.2+1))) (WL.nil ?_)))))))⟩;obtain rfl:=si H;refine ⟨_,rfl,?_⟩;have v0:=R.sD 5 [2,3,4];exact jn X ⟨f0,u2,v0,rfl,d2⟩
  refine W.exit (thx ?_);obtain rfl:=si H;exact ⟨_,rfl,rfl,jn x0 ⟨v30,o,z,rfl,a0⟩⟩
 ·have e2:OA (RL (RI .i32)) h (Y) [] []:=OA.nil (aM _);have w0:=u0.addHole (e:=es true (RL (RI .i32)) (Y) 27 [] ([]:List (List Int))) rfl;exact jn h ⟨(Y),[],w0,rfl,e2⟩
 rintro _ e_ w_ ⟨rfl,e1,b3,_,rfl,u3,rfl,v32,p,g0,rfl,i0⟩;refine bke (nrm (sr (vv (v32) (wln (W.ret ?_)))));obtain rfl:=si y;have h0:=g0.sD 3 [0];exact r1 (qq e1 ⟨v32,p,h0,rfl,i0⟩)
def em (p0:List Int):Option (List Int):=
 (slc p0 0 (aB (p0.length:Int) 16)).bind fun a=>
 (app ([]:List Int) a).bind fun b=>
 some b
theorem mi (n:Own c0 G F) (a:List Int) {r:List Int} (j:Sl (RI .i32) c0 v1 a) (H:em a=some r): Calls prog 121 #[v1] c0.w (aN c0 fun c v=>∃b l,Own c G (es true (RI .i32) b 21 l r :: F)∧v=b∧OA (RI .i32) c b l r):=by
 unfold em at H;refine en func121 rfl rfl (sr (va (Y) (wln (sr (me (sl (RI .i32) 21 [] ([]:List Int) n trivial) ?_)))));rintro v7 x s ⟨y,o,p⟩;refine vv (v1) (vx (ln 3 dh j.m) (va (I (aB (a.length:Int) 16)) (bn H fun t q H=>?_)));obtain ⟨v9,f,g⟩:=vf (k':= .i64) dh (by kernel_rfl) (j.mono s) q;refine vr v9 (rx (by kernel_rfl) (f _)) (bn H fun u h H=>me (ap (RI .i32) (J 0) 4 27 0 o p g h dh) ?_);rintro v17 e l16 ⟨k,d,i⟩;refine va (v17) (wln (W.ret ?_));obtain rfl:=si H;exact r1 (qq e ⟨v17,k,d,rfl,i⟩)
def jF (p0:List Int):Option (Int):=
 (cE (σ:=(List ax)×Int) (τ:=(List ax)) (((p0.length:Int) - 0).toNat+1) (fun a=>
 if (decide (a.2 < (p0.length:Int)))=true then
 (idx p0 a.2).bind fun b=>
 (dJ b).bind fun c=>
 (app a.1 ([c]:List ax)).bind fun d=>
 some (.inl (d,(w64 (a.2+1))))
 else
 some (.inr (a.1))) (([]:List ax),0)).bind fun f=>
 (gF p0 f).bind fun e=>
 some e
theorem se (O0:Own c0 G F) (h:List Int) {r:Int} (g:Sl (RI .i32) c0 v1 h) (H:jF h=some r): Calls prog 235 #[v1] c0.w (aN c0 fun c v=>Own c G (F)∧v=I r):=by
 unfold jF at H;refine en func235 rfl rfl (sr (va (I 0) (wln (sr (va (Y) (wln (W.seq (sr (va (I 0) (wln (W.block (bn H fun l0 X f=>lp X (fun a=>Jn c0 fun c l=>∃v5 i,Own c G (es true cx v5 33 i a.1 :: F)∧l= [(0,v1),(3,v5),(4,I a.2)]∧OA cx c v5 i a.1) (fun d ex e w=>ex= .exit 0∧(Jn c0 fun c l=>∃v7 o,Own c G (es true cx v7 33 o d :: F)∧l= [(0,v1),(3,v7)]∧OA cx c v7 o d) e w) ?_ ?_ ?_))))))))))))
 ·clear f X;intro a q1 R o0 H;revert R o0;rintro e_ w_ ⟨c9,d1,_,rfl,l9,rfl,v5,i,j,rfl,k⟩;refine W.seq (sr (va (I a.2) (va (v1) (vx (ln 3 dh g.m) (va (B (decide (a.2 < (h.length:Int)))) (wln (cn H (fun S H=>?_) (fun S H=>?_))))))))
  ·refine W.skip (nrm (W.seq (W.block (W.region (va (v5) (va (v1) (va (I a.2) (bn H fun p n H=>?_))))))));obtain ⟨v0,T,k0⟩:=Sl.at (g.mono l9) (aT n);obtain rfl:=T;refine vx (ix dh g.m n) (vx (l1 mC (k0 0 _ rfl)) (bn H fun b U H=>cl (nC j p U) ?_));rintro v27 y0 f1 ⟨s,rfl⟩;refine me (sl cx 33 [[I b.Break,B b.Pict,I b.Conj,I b.East]] ([b]:List ax) s ⟨rfl,trivial⟩) ?_;rintro v32 z0 g1 ⟨n1,t,Z⟩;obtain ⟨a1,b0,h1,u,a0⟩:=t.frz 0 rfl Z;refine WL.gh b0 (bn H fun x0 d0 H=>me (ap cx (.agg #[I 0,B false,I 0,I 0]) 32 28 1 u k.m a0 d0 nh) ?_);rintro v42 N i1 ⟨m0,x,e0⟩;refine va (v42) (WL.nil (bkn (nrm (W.region (va (I a.2) (vv (I (w64 (a.2+1))) (WL.nil ?_)))))));obtain rfl:=si H;refine ⟨_,rfl,?_⟩;have y:=x.sD 2 [1];exact jn N ⟨v42,m0,y,rfl,e0⟩
  refine W.exit (thx ?_);obtain rfl:=si H;exact ⟨_,rfl,rfl,jn c9 ⟨v5,i,j,rfl,k⟩⟩
 ·have f0:OA cx c0 (Y) [] []:=OA.nil (aM _);have z:=O0.addHole (e:=es true cx (Y) 33 [] ([]:List ax)) rfl;exact jn c0 ⟨(Y),[],z,rfl,f0⟩
 rintro _ e_ w_ ⟨rfl,b1,e1,_,rfl,j1,rfl,v7,o,A,rfl,g0⟩;refine bke (nrm (sr (va (v1) (va (v7) ?_))));obtain ⟨c1,i0,k1,D,h0⟩:=A.frz 0 rfl g0;refine WL.gh i0 (bn f fun q j0 f=>cl (ry D h l0 g.m h0 j0) ?_);rintro p1 P m1 ⟨E,rfl⟩;refine va (I q) (wln (W.ret ?_));obtain rfl:=si f;have M:=E.sD 1 [];exact r1 (qq P ⟨M,rfl⟩)
def gb (p0:List Int):Option (Int):=
 (idx p0 0).bind fun c=>
 (dj c).bind fun d=>
 if d=true then
 some 0
 else
 (em p0).bind fun a=>
 (jF a).bind fun b=>
 some b
theorem qM (y:Own c0 G F) (b:List Int) {r:Int} (a:Sl (RI .i32) c0 v1 b) (H:gb b=some r): Calls prog 185 #[v1] c0.w (aN c0 fun c v=>Own c G (F)∧v=I r):=by
 unfold gb at H;refine en func185 rfl rfl (sr (va (I 0) (wln (W.seq (sr (va (v1) (bn H fun x u H=>?_)))))));obtain ⟨T,z,D⟩:=Sl.at a (aT u);obtain rfl:=z;refine vx (ix dh a u) (vx (l1 mC (D 0 _ rfl)) (bn H fun X A H=>cl (jI y x A) ?_));rintro v13 k N ⟨j,rfl⟩;refine wln (cn H (fun n H=>?_) (fun n H=>?_))
 ·refine sr (va (I 0) (wln (W.ret (thr ?_))));obtain rfl:=si H;exact r1 (qq k ⟨j,rfl⟩)
 refine W.skip (nrm (sr (va (v1) (bn H fun d o H=>cl (mi j b a.m o) ?_))));rintro v16 E P ⟨_,U,f,rfl,p⟩;obtain ⟨M,s,R,g,q⟩:=f.frz 0 rfl p;refine WL.gh s (bn H fun e t H=>cl (se g d q t) ?_);rintro v35 l S ⟨h,rfl⟩;refine va (I e) (wln (W.ret ?_));obtain rfl:=si H;have i:=h.sD 1 [];exact r1 (qq l ⟨i,rfl⟩)
def gx (p0:aa) (p1:List Int):Option (aa):=
 (eu p1).bind fun c=>
 (cE (σ:=Int×(List ak)×Int×Int×Bool×Bool) (τ:=((List ak)×Int×Int×Bool×Bool)) (((c.length:Int) - 0).toNat+1) (fun a=>
 if (decide (a.1 < (c.length:Int)))=true then
 ((idx c a.1).bind fun j=>
 (idx j 0).bind fun k=>
 (dj k).bind fun l=>
 if (!l)=true then
 (idx c a.1).bind fun m=>
 (idx c a.1).bind fun n=>
 (gb m).bind fun o=>
 (em n).bind fun p=>
 (aW (⟨a.2.1,(⟨a.2.2.1,a.2.2.2.1,a.2.2.2.2.1⟩:ai),a.2.2.2.2.2⟩:aa) o p).bind fun f=>
 some (f.1.L,f.1.At.Row,f.1.At.Col,f.1.At.Pending,f.1.Auto)
 else
 (idx c a.1).bind fun i=>
 (cE (σ:=Int×(List ak)×Int×Int×Bool×Bool) (τ:=((List ak)×Int×Int×Bool×Bool)) (((i.length:Int) - 0).toNat+1) (fun b=>
 (idx c a.1).bind fun q=>
 if (decide (b.1 < (q.length:Int)))=true then
 (idx c a.1).bind fun r=>
 (idx r b.1).bind fun s=>
 (cw (⟨b.2.1,(⟨b.2.2.1,b.2.2.2.1,b.2.2.2.2.1⟩:ai),b.2.2.2.2.2⟩:aa) s).bind fun g=>
 some (.inl ((w64 (b.1+1)),g.1.L,g.1.At.Row,g.1.At.Col,g.1.At.Pending,g.1.Auto))
 else
 some (.inr (b.2.1,b.2.2.1,b.2.2.2.1,b.2.2.2.2.1,b.2.2.2.2.2))) (0,a.2.1,a.2.2.1,a.2.2.2.1,a.2.2.2.2.1,a.2.2.2.2.2)).bind fun e=>
 some (e.1,e.2.1,e.2.2.1,e.2.2.2.1,e.2.2.2.2)).bind fun h=>
 some (.inl ((w64 (a.1+1)),h.1,h.2.1,h.2.2.1,h.2.2.2.1,h.2.2.2.2))
 else
 some (.inr (a.2.1,a.2.2.1,a.2.2.2.1,a.2.2.2.2.1,a.2.2.2.2.2))) (0,p0.L,p0.At.Row,p0.At.Col,p0.At.Pending,p0.Auto)).bind fun d=>
 some (⟨d.1,(⟨d.2.1,d.2.2.1,d.2.2.2.1⟩:ai),d.2.2.2.2⟩:aa)
theorem rp (O0:Own c0 G F) (y:aa) (p1:List Int) {r:aa} (h2:Sl am c0 v1 y.L) (h4:Sl (RI .i32) c0 v3 p1) (H:gx y p1=some r): Calls prog 117 #[.agg #[v1,I y.At.Row,I y.At.Col,B y.At.Pending,B y.Auto],v3] c0.w (aN c0 fun c v=>∃y1,Own c G (F)∧v= .agg #[y1,I r.At.Row,I r.At.Col,B r.At.Pending,B r.Auto]∧Sl am c y1 r.L):=by
 unfold gx at H;refine en func117 rfl rfl (sr ?_);obtain ⟨a5,a6,a7,rfl⟩:=(h2).form;refine me (al 43 [.slice a5 a6 a7,I y.At.Row,I y.At.Col,B y.At.Pending,B y.Auto] O0) ?_;rintro v11 t6 w6 ⟨o,rfl,O9⟩;refine me (al 43 [Y,I 0,I 0,B false,B false] O9) ?_;rintro v15 u6 x6 ⟨q,rfl,z3⟩;refine wln (sr (va (v3) (bn H fun k j4 H=>cl (oe z3 p1 h4.m j4) ?_)));rintro v17 x0 y6 ⟨_,n,a4,rfl,i⟩;refine va (v17) (wln (W.seq (sr (va (I 0) (wln (W.block (bn H fun h x1 t1=>lp x1 (fun a=>Jn x0 fun c l=>∃v28,Own c G (es true (RL (RI .i32)) v17 27 n k :: (Eb q 43 [Y,I 0,I 0,B false,B false]) :: (Eb o 43 [v28,I a.2.2.1,I a.2.2.2.1,B a.2.2.2.2.1,B a.2.2.2.2.2]) :: F)∧l= [(2,Q o),(4,Q q),(5,v17),(6,I a.1)]∧Sl am c v28 a.2.1) (fun t ex e w=>ex= .exit 0∧(Jn x0 fun c l=>∃v29,Own c G (es true (RL (RI .i32)) v17 27 n k :: (Eb q 43 [Y,I 0,I 0,B false,B false]) :: (Eb o 43 [v29,I t.2.1,I t.2.2.1,B t.2.2.2.1,B t.2.2.2.2]) :: F)∧l= [(2,Q o),(4,Q q)]∧Sl am c v29 t.1) e w) ?_ ?_ ?_)))))))
 ·clear t1 x1;intro a l5 z0 n1 H;revert z0 n1;rintro e_ w_ ⟨w1,v6,_,rfl,E,rfl,v28,i0,rfl,e1⟩;refine W.seq (sr (va (I a.1) (va (v17) (vx (lnO 3 uT i.m) (va (B (decide (a.1 < (k.length:Int)))) (wln (cn H (fun l4 H=>?_) (fun l4 H=>?_))))))))
  ·refine W.skip (nrm (bn H fun x d y3=>W.seqJ (Jn w1 fun c l=>∃v40,Own c G (es true (RL (RI .i32)) v17 27 n k :: (Eb q 43 [Y,I 0,I 0,B false,B false]) :: (Eb o 43 [v40,I x.2.1,I x.2.2.1,B x.2.2.2.1,B x.2.2.2.2]) :: F)∧l= [(2,Q o),(4,Q q),(5,v17),(6,I a.1)]∧Sl am c v40 x.1) ?_ ?_))
   ·refine W.block (W.seq (sr (va (v17) (va (I a.1) (bn d fun r6 f1 d=>vx (ixO uT i.m f1) ?_)))));obtain ⟨j6,m4,c5⟩:=OA.at (i.mono E) f1;obtain ⟨v45,rfl,z1⟩:=m4;refine vr v45 (rx (by kernel_rfl) (lF dh rfl (i0.on 0 rfl) (i.m.blk f1) (at1 (j:=0) c5 rfl))) (bn d fun o3 a2 d=>?_);obtain ⟨k6,n4,d5⟩:=Sl.at z1 (aT a2);obtain rfl:=n4;refine vx (ix dh z1 a2) (vx (l1 mC (d5 0 _ rfl)) (bn d fun p3 o4 d=>cl (jI i0 o3 o4) ?_));rintro v57 y0 e0 ⟨u1,rfl⟩;refine va (B (!p3)) (wln (cn d (fun p4 d=>?_) (fun p4 d=>?_)))
    ·refine W.seq (rD [15] (Kp G0 [(Eb o 43 [v28,I a.2.2.1,I a.2.2.2.1,B a.2.2.2.2.1,B a.2.2.2.2.2]),es true (RL (RI .i32)) v17 27 n k]) u1 ?_);intro e4 b2 j0;have k1:Kp G0 [(Eb o 43 [v28,I a.2.2.1,I a.2.2.2.1,B a.2.2.2.2.1,B a.2.2.2.2.2]),es true (RL (RI .i32)) v17 27 n k] e4:=(Kp.cons (j0.on 2 rfl) (Kp.cons (j0.on 0 rfl) Kp.nil0));refine tkx 0 k1 (fun z s A=>leN 43 0 [v28,I a.2.2.1,I a.2.2.2.1,B a.2.2.2.2.1,B a.2.2.2.2.2] (A.on 0 rfl)) (ta 1 (v17) (ta 2 (I a.1) (bn d fun q3 g1 d=>tx 3 (fun z s=>ixO uT i.m g1) ?_)));obtain ⟨l6,q4,e5⟩:=OA.at (i.mono (E.trans (e0.trans b2))) g1;obtain ⟨j5,rfl,r4⟩:=q4;refine AC.takeK 4 (j5) k1 rfl (by kernel_rfl) (by kernel_rfl) (by kernel_rfl) (fun z s A=>(rx (by kernel_rfl) (lF dh rfl (A.on 1 rfl) (i.m.blk g1) (at1 (j:=0) e5 rfl)))) (ta 6 (v17) (ta 7 (I a.1) (bn d fun s3 h1 d=>tx 8 (fun z s=>ixO uT i.m h1) ?_)));obtain ⟨m6,s4,f5⟩:=OA.at (i.mono (E.trans (e0.trans b2))) h1;obtain ⟨k5,rfl,t4⟩:=s4;refine AC.takeK 9 (k5) k1 rfl (by kernel_rfl) (by kernel_rfl) (by kernel_rfl) (fun z s A=>(rx (by kernel_rfl) (lF dh rfl (A.on 1 rfl) (i.m.blk h1) (at1 (j:=0) f5 rfl)))) (bn d fun t3 u4 d=>o1 5 (gc 5 (qM j0 q3 r4 u4) ?_));rintro d7 f4 z6 ⟨k0,rfl⟩;have g5:Kp G0 [(Eb o 43 [v28,I a.2.2.1,I a.2.2.2.1,B a.2.2.2.2.1,B a.2.2.2.2.2]),es true (RL (RI .i32)) v17 27 n k] f4:=(Kp.cons (k0.on 2 rfl) (Kp.cons (k0.on 0 rfl) Kp.nil0));refine ⟨.inr g5,bn d fun u3 v4 d=>o1 10 (gc 10 (mi k0 s3 t4.m v4) ?_)⟩;rintro e7 g4 b7 ⟨_,c7,l0,rfl,w4⟩;have h5:Kp G0 [(Eb o 43 [v28,I a.2.2.1,I a.2.2.2.1,B a.2.2.2.2.1,B a.2.2.2.2.2]),es true (RL (RI .i32)) v17 27 n k] g4:=(Kp.cons (l0.on 3 rfl) (Kp.cons (l0.on 1 rfl) Kp.nil0));refine ⟨.inr h5,?_⟩;obtain ⟨i4,y4,b5,m0,x4⟩:=l0.frz 0 rfl w4;have i5:Kp G0 [(Eb o 43 [v28,I a.2.2.1,I a.2.2.2.1,B a.2.2.2.2.1,B a.2.2.2.2.2]),es true (RL (RI .i32)) v17 27 n k] i4:=(Kp.cons (m0.on 3 rfl) (Kp.cons (m0.on 1 rfl) Kp.nil0));refine AC.gh y4 b5 (fun _=>i5) (bn d fun f z4 d=>o1 11 (gc 11 (oQ m0 (⟨a.2.1,(⟨a.2.2.1,a.2.2.2.1,a.2.2.2.2.1⟩:ai),a.2.2.2.2.2⟩:aa) t3 u3 e1.m x4 z4) ?_));rintro p6 l2 b6 ⟨c2,o6,M,rfl,X⟩;have k3:Kp G0 [(Eb o 43 [v28,I a.2.2.1,I a.2.2.2.1,B a.2.2.2.2.1,B a.2.2.2.2.2]),es true (RL (RI .i32)) v17 27 n k] l2:=(Kp.cons (M.on 4 rfl) (Kp.cons (M.on 2 rfl) Kp.nil0));refine ⟨.inr k3,ta 12 (.tuple #[.agg #[c2,I f.1.At.Row,I f.1.At.Col,B f.1.At.Pending,B f.1.Auto],.agg #[I f.2.Row,I f.2.Col,B f.2.Pending]]) (ta 13 (.agg #[c2,I f.1.At.Row,I f.1.At.Col,B f.1.At.Pending,B f.1.Auto]) (ta 14 (.agg #[I f.2.Row,I f.2.Col,B f.2.Pending]) ?_))⟩;obtain ⟨o0,q0,s0,rfl⟩:=(X).form;refine o1 15 (gD 15 (sA 43 [.slice o0 q0 s0,I f.1.At.Row,I f.1.At.Col,B f.1.At.Pending,B f.1.Auto] 4 M ⟨(X).one,rfl,rfl,rfl,rfl,trivial⟩) ?_);rintro t5 e3 d2;refine ⟨.inl rfl,dn (nrm (W.exit (thx (bke (nrm ?_)))))⟩;obtain rfl:=si d;obtain ⟨m2,v2,c6,e2,u2⟩:=d2.frz 0 rfl (X.mono e3);have f2:=e2.sD 5 [2,3,4];exact ⟨m2,_,_,v2.symm,pt,us,(.slice o0 q0 s0),f2,rfl,u2⟩
    refine W.skip (nrm (sr (va (I 0) (wln (W.block (bn d fun n5 _ d=>bn d fun n6 a1 f0=>lp a1 (fun b=>Jn y0 fun c l=>∃p,Own c G (es true (RL (RI .i32)) v17 27 n k :: (Eb q 43 [Y,I 0,I 0,B false,B false]) :: (Eb o 43 [p,I b.2.2.1,I b.2.2.2.1,B b.2.2.2.2.1,B b.2.2.2.2.2]) :: F)∧l= [(2,Q o),(4,Q q),(5,v17),(6,I a.1),(7,I b.1)]∧Sl am c p b.2.1) (fun u ex e w=>ex= .exit 2∧(Jn y0 fun c l=>∃D,Own c G (es true (RL (RI .i32)) v17 27 n k :: (Eb q 43 [Y,I 0,I 0,B false,B false]) :: (Eb o 43 [D,I u.2.1,I u.2.2.1,B u.2.2.2.1,B u.2.2.2.2]) :: F)∧l= [(2,Q o),(4,Q q),(5,v17),(6,I a.1)]∧Sl am c D u.1) e w) ?_ ?_ ?_))))))
    ·clear f0 a1;intro b l5 z0 n1 d;revert z0 n1;rintro e_ w_ ⟨n2,v5,_,rfl,i1,rfl,p,N,rfl,b1⟩;refine W.seq (sr (va (I b.1) (va (v17) (va (I a.1) (bn d fun w3 Z d=>vx (ixO uT i.m Z) ?_)))));obtain ⟨o5,w2,g3⟩:=OA.at (i.mono (E.trans (e0.trans i1))) Z;obtain ⟨m3,rfl,x2⟩:=w2;refine vr m3 (rx (by kernel_rfl) (lF dh rfl (N.on 0 rfl) (i.m.blk Z) (at1 (j:=0) g3 rfl))) (vx (ln 3 dh x2) (va (B (decide (b.1 < (w3.length:Int)))) (wln (cn d (fun y2 d=>?_) (fun y2 d=>?_)))))
     ·refine W.skip (nrm (W.seq (W.block (rD [12] (Kp G0 [(Eb o 43 [p,I b.2.2.1,I b.2.2.2.1,B b.2.2.2.2.1,B b.2.2.2.2.2]),es true (RL (RI .i32)) v17 27 n k]) N ?_))));intro o2 f3 P;have j1:Kp G0 [(Eb o 43 [p,I b.2.2.1,I b.2.2.2.1,B b.2.2.2.2.1,B b.2.2.2.2.2]),es true (RL (RI .i32)) v17 27 n k] o2:=(Kp.cons (P.on 2 rfl) (Kp.cons (P.on 0 rfl) Kp.nil0));refine tkx 0 j1 (fun z s A=>leN 43 0 [p,I b.2.2.1,I b.2.2.2.1,B b.2.2.2.2.1,B b.2.2.2.2.2] (A.on 0 rfl)) (ta 1 (v17) (ta 2 (I a.1) (bn d fun s6 a0 d=>tx 3 (fun z s=>ixO uT i.m a0) ?_)));obtain ⟨p5,z2,h3⟩:=OA.at (i.mono (E.trans (e0.trans (i1.trans f3)))) a0;obtain ⟨n3,rfl,c1⟩:=z2;refine AC.takeK 4 (n3) j1 rfl (by kernel_rfl) (by kernel_rfl) (by kernel_rfl) (fun z s A=>(rx (by kernel_rfl) (lF dh rfl (A.on 1 rfl) (i.m.blk a0) (at1 (j:=0) h3 rfl)))) (ta 5 (I b.1) (bn d fun x3 d1 d=>?_));obtain ⟨q5,a3,i3⟩:=Sl.at c1 (aT d1);obtain rfl:=a3;refine tx 6 (fun z s=>ix dh c1 d1) (tx 7 (fun z s=>l1 mC ((mm i3) 0 _ rfl)) (bn d fun g b3 d=>o1 8 (gc 8 (rZ P (⟨b.2.1,(⟨b.2.2.1,b.2.2.2.1,b.2.2.2.2.1⟩:ai),b.2.2.2.2.2⟩:aa) x3 b1.m b3) ?_)));rintro q6 p2 d6 ⟨m1,R,rfl,b0⟩;have l3:Kp G0 [(Eb o 43 [p,I b.2.2.1,I b.2.2.2.1,B b.2.2.2.2.1,B b.2.2.2.2.2]),es true (RL (RI .i32)) v17 27 n k] p2:=(Kp.cons (R.on 2 rfl) (Kp.cons (R.on 0 rfl) Kp.nil0));refine ⟨.inr l3,ta 9 (.tuple #[.agg #[m1,I g.1.At.Row,I g.1.At.Col,B g.1.At.Pending,B g.1.Auto],B g.2]) (ta 10 (.agg #[m1,I g.1.At.Row,I g.1.At.Col,B g.1.At.Pending,B g.1.Auto]) (ta 11 (B g.2) ?_))⟩;obtain ⟨t0,u0,v0,rfl⟩:=(b0).form;refine o1 12 (gD 12 (sA 43 [.slice t0 u0 v0,I g.1.At.Row,I g.1.At.Col,B g.1.At.Pending,B g.1.Auto] 2 R ⟨b0.one,rfl,rfl,rfl,rfl,trivial⟩) ?_);rintro q2 e6 g2;refine ⟨.inl rfl,dn (bkn (nrm (W.region (va (I b.1) (vv (I (w64 (b.1+1))) (WL.nil ?_))))))⟩;obtain rfl:=si d;exact ⟨_,rfl,jn q2 ⟨(.slice t0 u0 v0),g2,rfl,b0.m⟩⟩
     refine W.exit (thx ?_);obtain rfl:=si d;exact ⟨_,rfl,rfl,jn n2 ⟨p,N,rfl,b1⟩⟩
    ·exact jn y0 ⟨v28,u1,rfl,e1.m⟩
    rintro _ e_ w_ ⟨rfl,s2,w5,_,rfl,f6,rfl,D,i2,rfl,c3⟩;refine bke (bkn (nrm ?_));obtain rfl:=si f0;exact jn s2 ⟨D,i2,rfl,c3⟩
   rintro e_ w_ ⟨t2,x5,_,rfl,g6,rfl,v40,j2,rfl,d3⟩;refine W.region (va (I a.1) (vv (I (w64 (a.1+1))) (WL.nil ?_)));obtain rfl:=si y3;exact ⟨_,rfl,jn t2 ⟨v40,j2,rfl,d3⟩⟩
  refine W.exit (thx ?_);obtain rfl:=si H;exact ⟨_,rfl,rfl,jn w1 ⟨v28,i0,rfl,e1⟩⟩
 ·exact jn x0 ⟨(.slice a5 a6 a7),a4,rfl,h2.m⟩
 rintro _ e_ w_ ⟨rfl,u5,y5,_,rfl,h6,rfl,v29,g0,rfl,d0⟩;refine bke (nrm (sr (vx (leN 43 0 [v29,I h.2.1,I h.2.2.1,B h.2.2.2.1,B h.2.2.2.2] (g0.on 2 rfl)) ?_)));obtain ⟨S,T,U,rfl⟩:=(d0).form;refine md (sA 43 [.slice S T U,I h.2.1,I h.2.2.1,B h.2.2.2.1,B h.2.2.2.2] 1 g0 ⟨d0.one,rfl,rfl,rfl,rfl,trivial⟩) ?_;rintro w0 i6 h0;refine wln (W.ret ?_);obtain rfl:=si t1;have k2:=h0.sD 3 [];exact jZ (c:=w0) (vs:=[.slice S T U,I h.2.1,I h.2.2.1,B h.2.2.2.1,B h.2.2.2.2]) rfl (by kernel_rfl) (by kernel_rfl) (by kernel_rfl) (h0.on 1 rfl _ rfl).1 ⟨_,w0,rfl,rfl,pt,(.slice S T U),k2,rfl,d0.m⟩
def dg (p0:ao):Option (Int):=
 (dL ([]:List Int) p0.Raw).bind fun a=>
 some (a.2.length:Int)
theorem kI (u:Own c0 G F) (a:ao) {r:Int} (A:Sl am c0 v1 a.P.L) (D:Sl (RI .i32) c0 v3 a.Group) (q:Sl (RI .u8) c0 v5 a.Raw) (H:dg a=some r): Calls prog 52 #[.agg #[v1,I a.P.At.Row,I a.P.At.Col,B a.P.At.Pending,B a.P.Auto,v3,v5,I a.Parts]] c0.w (aN c0 fun c v=>Own c G (F)∧v=I r):=by
 unfold dg at H;refine en func52 rfl rfl (sr ?_);obtain ⟨x,y,z,rfl⟩:=(A).form;obtain ⟨f,g,h,rfl⟩:=(D).form;obtain ⟨i,j,k,rfl⟩:=(q).form;refine me (bx 83 [.slice x y z,I a.P.At.Row,I a.P.At.Col,B a.P.At.Pending,B a.P.Auto,.slice f g h,.slice i j k,I a.Parts] u) ?_;rintro v20 E N ⟨l,rfl,b,s⟩;refine va (I 0) (wln (sr (va (Qo l (0+6)) (vx (l1 lE (s 6 _ rfl)) (bn H fun t o H=>cl (mS b ([]:List Int) a.Raw (Sl.nl _ _) q.m o) ?_)))));rintro v32 n R ⟨v22,S,v25,d,rfl,M,p⟩;refine va (.tuple #[v22,v25]) (va (v22) (va (v25) (va (v22) (va (v25) (wln (sr (va (v25) (vx (ln 3 rG p) (va (I (t.2.length:Int)) (wln (W.ret ?_)))))))))));obtain rfl:=si H;have e:=d.sD 1 [];exact r1 (qq n ⟨e,rfl⟩)
def dF (p0:ao) (p1:List Int):Option (ao):=
 (app ([]:List Int) p0.Raw).bind fun k=>
 (app k p1).bind fun d=>
 (gG d).bind fun c=>
 ((dg (⟨p0.P,p0.Group,d,p0.Parts⟩:ao)).bind fun f=>
 if (decide (f > 0))=true then
 (slc c 0 (w64 ((c.length:Int) - 1))).bind fun g=>
 some (g)
 else
 some (c)).bind fun b=>
 (cE (σ:=Int×(List Int)) (τ:=(List Int)) (((b.length:Int) - p0.Parts).toNat+1) (fun a=>
 if (decide (a.1 < (b.length:Int)))=true then
 (idx b a.1).bind fun h=>
 (app ([]:List Int) a.2).bind fun i=>
 (app i ([h.R]:List Int)).bind fun j=>
 some (.inl ((w64 (a.1+1)),j))
 else
 some (.inr (a.2))) (p0.Parts,p0.Group)).bind fun e=>
 some (⟨p0.P,e,d,(b.length:Int)⟩:ao)
theorem nB (O0:Own c0 G F) (a:ao) (p1:List Int) {r:ao} (h2:Sl am c0 v1 a.P.L) (h4:Sl (RI .i32) c0 v3 a.Group) (h6:Sl (RI .u8) c0 v5 a.Raw) (h8:Sl (RI .u8) c0 v7 p1) (H:dF a p1=some r): Calls prog 47 #[.agg #[v1,I a.P.At.Row,I a.P.At.Col,B a.P.At.Pending,B a.P.Auto,v3,v5,I a.Parts],v7] c0.w (aN c0 fun c v=>∃y1 y2 y3,Own c G (F)∧v= .agg #[y1,I r.P.At.Row,I r.P.At.Col,B r.P.At.Pending,B r.P.Auto,y2,y3,I r.Parts]∧Sl am c y1 r.P.L∧Sl (RI .i32) c y2 r.Group∧Sl (RI .u8) c y3 r.Raw):=by
 unfold dF at H;refine en func47 rfl rfl (sr ?_);obtain ⟨j,h,i,rfl⟩:=(h2).form;obtain ⟨E,M,N,rfl⟩:=(h4).form;obtain ⟨q6,a16,r6,rfl⟩:=(h6).form;refine me (al 83 [.slice j h i,I a.P.At.Row,I a.P.At.Col,B a.P.At.Pending,B a.P.Auto,.slice E M N,.slice q6 a16 r6,I a.Parts] O0) ?_;rintro v21 n9 y9 ⟨g,rfl,k6⟩;refine me (al 83 [Y,I 0,I 0,B false,B false,Y,Y,I 0] k6) ?_;rintro v25 o9 z9 ⟨u,rfl,l6⟩;refine wln (sr (me (sl (RI .u8) 5 [] ([]:List Int) l6 trivial) ?_));rintro v30 p9 l29 ⟨u27,o2,x6⟩;refine va (.pointer (some ⟨g,6,none⟩)) (vx (le1 6 lE (o2.on 2 rfl)) (bn H fun x_7 y6 H=>me (ap (RI .u8) (.int .u8 0) 1 57 0 o2 x6 h6.m y6 lE) ?_));rintro v36 q9 l35 ⟨u33,m6,z6⟩;refine va (v7) (bn H fun A a7 H=>me (ap (RI .u8) (.int .u8 0) 1 57 0 m6 z6 h8.m a7 lE) ?_);rintro v42 r9 l41 ⟨a1,n6,z⟩;refine va (.pointer (some ⟨g,6,none⟩)) ?_;obtain ⟨b,d,f,rfl⟩:=(z).form;refine md (sC 57 6 (.slice b d f) [.slice j h i,I a.P.At.Row,I a.P.At.Col,B a.P.At.Pending,B a.P.Auto,.slice E M N,.slice b d f,I a.Parts] 2 n6 ⟨(z).one,trivial⟩) ?_;rintro s9 g2 p2;refine wln (sr (va (Qo g 6) (vx (le1 6 lE (p2.on 2 rfl)) ?_)));obtain ⟨t9,c7,x2,o6,b7⟩:=p2.frz 0 rfl (z.mono g2);refine WL.gh c7 (bn H fun y d7 H=>cl (rA o6 A b7 d7) ?_);rintro v53 t6 z2 ⟨_,b1,w1,rfl,y0⟩;refine va (v53) (wln (bn H fun s t o=>W.seqJ (Jn t6 fun c l=>∃p,Own c G (es false bj v53 167 b1 y :: es false (RI .u8) (.slice b d f) 5 a1 A :: (Eb u 83 [Y,I 0,I 0,B false,B false,Y,Y,I 0]) :: (Eb g 83 [.slice j h i,I a.P.At.Row,I a.P.At.Col,B a.P.At.Pending,B a.P.Auto,.slice E M N,.slice b d f,I a.Parts]) :: F)∧l= [(2,Q g),(4,Q u),(5,p)]∧Sl bj c p s) ?_ ?_))
 ·refine sr (vx (leN 83 0 [.slice j h i,I a.P.At.Row,I a.P.At.Col,B a.P.At.Pending,B a.P.Auto,.slice E M N,.slice b d f,I a.Parts] (w1.on 3 rfl)) ?_);have f7:=w1.slf 1 rfl (z.mono (g2.trans (x2.trans z2)));refine bn t fun j6 g7 t=>cl (kI w1 (⟨a.P,a.Group,A,a.Parts⟩:ao) h2.m h4.m f7 g7) ?_;rintro v72 u9 i2 ⟨q2,rfl⟩;refine va (B (decide (j6 > 0))) (wln (cn t (fun h7 t=>?_) (fun h7 t=>?_)))
  ·refine W.region (vv (v53) (vx (lnO 3 wC y0.m) (va (I (w64 ((y.length:Int) - 1))) (bn t fun l9 i7 t=>?_))));obtain ⟨u6,k7,l77,p6,j7⟩:=q2.frz 0 rfl (y0.mono i2);refine WL.gh k7 ?_;obtain ⟨j2,l7,m7⟩:=vf (k':= .i64) wC (by kernel_rfl) j7 i7;refine vr j2 (rx (by kernel_rfl) (l7 _)) (va (j2) (wln ?_));obtain rfl:=si t;exact jn u6 ⟨j2,p6,rfl,m7⟩
  refine W.skip (nrm ?_);obtain rfl:=si t;obtain ⟨v6,n7,p7,s2,x9⟩:=q2.frz 0 rfl (y0.mono i2);have o7:=s2.slf 0 rfl (y0.mono (i2.trans p7));exact ⟨v6,_,_,n7.symm,pt,us,v53,s2,rfl,o7⟩
 rintro e_ w_ ⟨z1,v9,_,rfl,q7,rfl,p,t2,rfl,z0⟩;refine W.seq (sr (va (Qo g 7) (vx (le1 7 u_3 (t2.on 3 rfl)) (va (I a.Parts) (wln (W.block (bn o fun w8 v2 n2=>lp v2 (fun n=>Jn z1 fun c l=>∃k,Own c G (es false bj v53 167 b1 y :: es false (RI .u8) (.slice b d f) 5 a1 A :: (Eb u 83 [Y,I 0,I 0,B false,B false,Y,Y,I 0]) :: (Eb g 83 [.slice j h i,I a.P.At.Row,I a.P.At.Col,B a.P.At.Pending,B a.P.Auto,k,.slice b d f,I a.Parts]) :: F)∧l= [(2,Q g),(4,Q u),(5,p),(6,I n.1)]∧Sl (RI .i32) c k n.2) (fun m2 ex e w=>ex= .exit 0∧(Jn z1 fun c l=>∃S,Own c G (es false bj v53 167 b1 y :: es false (RI .u8) (.slice b d f) 5 a1 A :: (Eb u 83 [Y,I 0,I 0,B false,B false,Y,Y,I 0]) :: (Eb g 83 [.slice j h i,I a.P.At.Row,I a.P.At.Col,B a.P.At.Pending,B a.P.Auto,S,.slice b d f,I a.Parts]) :: F)∧l= [(2,Q g),(4,Q u),(5,p)]∧Sl (RI .i32) c S m2) e w) ?_ ?_ ?_)))))))
 ·clear n2 v2;intro n xx_ w6 t7 o;revert w6 t7;rintro e_ w_ ⟨u2,w9,_,rfl,r7,rfl,k,c1,rfl,D⟩;refine W.seq (sr (va (I n.1) (va (p) (vx (ln 3 wC z0.m) (va (B (decide (n.1 < (s.length:Int)))) (wln (cn o (fun g4 o=>?_) (fun g4 o=>?_))))))))
  ·refine W.skip (nrm (W.seq (W.block (bn o fun q a2 o=>bn o fun m9 m0 o=>bn o fun k2 o0 o=>W.join (Jn u2 fun c l=>∃x0 v0 x w0,Own c G (es false (RI .i32) x0 21 v0 ([q.R]:List Int) :: es true (RI .i32) x 21 w0 k2 :: es false bj v53 167 b1 y :: es false (RI .u8) (.slice b d f) 5 a1 A :: (Eb u 83 [Y,I 0,I 0,B false,B false,Y,Y,I 0]) :: (Eb g 83 [.slice j h i,I a.P.At.Row,I a.P.At.Col,B a.P.At.Pending,B a.P.Auto,x,.slice b d f,I a.Parts]) :: F)∧l= [(2,Q g),(4,Q u),(5,p),(6,I n.1)]∧OA (RI .i32) c x0 v0 ([q.R]:List Int)∧OA (RI .i32) c x w0 k2) ?_ ?_))))
   ·clear o;refine rD [12] (Kp G0 [(Eb g 83 [.slice j h i,I a.P.At.Row,I a.P.At.Col,B a.P.At.Pending,B a.P.Auto,k,.slice b d f,I a.Parts])]) c1 ?_;intro j3 y4 T;have i5:Kp G0 [(Eb g 83 [.slice j h i,I a.P.At.Row,I a.P.At.Col,B a.P.At.Pending,B a.P.Auto,k,.slice b d f,I a.Parts])] j3:=(Kp.cons (T.on 3 rfl) Kp.nil0);refine ta 1 (.pointer (some ⟨g,5,none⟩)) (tkx 2 i5 (fun c' w2 hk=>le1 5 dh (hk.on 0 rfl)) (ta 4 (p) (ta 5 (I n.1) ?_)));obtain ⟨y7,i4,h5⟩:=Sl.at (z0.mono (r7.trans y4)) (aT a2);obtain rfl:=i4;refine tx 6 (fun c' w2=>ix wC z0.m a2) (ta 7 (Qo (sb p) (so p+n.1.toNat * 5)) (tx 8 (fun c' w2=>l1 mC ((mm h5) 0 _ rfl)) (mn2 0 9 ?_ ?_)))
    ·refine gm 0 (sl (RI .i32) 21 [] ([]:List Int) T trivial) ?_;rintro d9 k3 j8 ⟨x8,U,b2⟩;have j5:Kp G0 [(Eb g 83 [.slice j h i,I a.P.At.Row,I a.P.At.Col,B a.P.At.Pending,B a.P.Auto,k,.slice b d f,I a.Parts])] k3:=(Kp.cons (U.on 4 rfl) Kp.nil0);refine ⟨.inr j5,mn2 3 9 ?_ ?_⟩
     ·refine gm 3 (ap (RI .i32) (J 0) 4 27 0 U b2 D.m m0 dh) ?_;rintro e9 l3 k8 ⟨y8,d1,j4⟩;have k5:Kp G0 [(Eb g 83 [.slice j h i,I a.P.At.Row,I a.P.At.Col,B a.P.At.Pending,B a.P.Auto,k,.slice b d f,I a.Parts])] l3:=(Kp.cons (d1.on 4 rfl) Kp.nil0);refine ⟨.inr k5,o1 9 (gm 9 (sl (RI .i32) 21 [[J q.R]] ([q.R]:List Int) d1 ⟨rfl,trivial⟩) ?_)⟩;rintro e6 m3 l8 ⟨y5,e1,c2⟩;have l5:Kp G0 [(Eb g 83 [.slice j h i,I a.P.At.Row,I a.P.At.Col,B a.P.At.Pending,B a.P.Auto,k,.slice b d f,I a.Parts])] m3:=(Kp.cons (e1.on 5 rfl) Kp.nil0);refine ⟨.inr l5,?_⟩;obtain ⟨n3,l4,z4,f1,k4⟩:=e1.frz 0 rfl c2;have m5:Kp G0 [(Eb g 83 [.slice j h i,I a.P.At.Row,I a.P.At.Col,B a.P.At.Pending,B a.P.Auto,k,.slice b d f,I a.Parts])] n3:=(Kp.cons (f1.on 5 rfl) Kp.nil0);refine AC.gh l4 z4 (fun _=>m5) (o1 10 (gm 10 (ap (RI .i32) (J 0) 4 27 1 f1 j4.m k4 o0 dh) ?_));rintro f9 o3 m8 ⟨z5,g1,q0⟩;have n5:Kp G0 [(Eb g 83 [.slice j h i,I a.P.At.Row,I a.P.At.Col,B a.P.At.Pending,B a.P.Auto,k,.slice b d f,I a.Parts])] o3:=(Kp.cons (g1.on 5 rfl) Kp.nil0);refine ⟨.inr n5,ta 11 (.pointer (some ⟨g,5,none⟩)) ?_⟩;obtain ⟨Z,a0,b0,rfl⟩:=(q0).form;refine o1 12 (gD 12 (sC 27 5 (.slice Z a0 b0) [.slice j h i,I a.P.At.Row,I a.P.At.Col,B a.P.At.Pending,B a.P.Auto,.slice Z a0 b0,.slice b d f,I a.Parts] 5 g1 ⟨(q0).one,trivial⟩) ?_);rintro p3 n8 a3;exact ⟨.inl rfl,dn (nrm (jn p3 ⟨e6,y5,(.slice Z a0 b0),z5,a3,rfl,c2.m,q0.m⟩))⟩
     refine gm 9 (sl (RI .i32) 21 [[J q.R]] ([q.R]:List Int) U ⟨rfl,trivial⟩) ?_;rintro f6 q3 o8 ⟨a6,h1,d2⟩;have o5:Kp G0 [(Eb g 83 [.slice j h i,I a.P.At.Row,I a.P.At.Col,B a.P.At.Pending,B a.P.Auto,k,.slice b d f,I a.Parts])] q3:=(Kp.cons (h1.on 5 rfl) Kp.nil0);refine ⟨.inr o5,o1 3 (gm 3 (ap (RI .i32) (J 0) 4 27 1 h1 b2.m D.m m0 dh) ?_)⟩;rintro g9 s3 a5 ⟨z8,i1,m4⟩;have p5:Kp G0 [(Eb g 83 [.slice j h i,I a.P.At.Row,I a.P.At.Col,B a.P.At.Pending,B a.P.Auto,k,.slice b d f,I a.Parts])] s3:=(Kp.cons (i1.on 5 rfl) Kp.nil0);refine ⟨.inr p5,?_⟩;obtain ⟨t3,o4,b5,j1,n4⟩:=i1.frz 0 rfl (d2.mono a5);have q5:Kp G0 [(Eb g 83 [.slice j h i,I a.P.At.Row,I a.P.At.Col,B a.P.At.Pending,B a.P.Auto,k,.slice b d f,I a.Parts])] t3:=(Kp.cons (j1.on 5 rfl) Kp.nil0);refine AC.gh o4 b5 (fun _=>q5) (o1 10 (gm 10 (ap (RI .i32) (J 0) 4 27 1 j1 m4.m n4 o0 dh) ?_));rintro h9 u3 p8 ⟨b6,k1,s0⟩;have r5:Kp G0 [(Eb g 83 [.slice j h i,I a.P.At.Row,I a.P.At.Col,B a.P.At.Pending,B a.P.Auto,k,.slice b d f,I a.Parts])] u3:=(Kp.cons (k1.on 5 rfl) Kp.nil0);refine ⟨.inr r5,ta 11 (.pointer (some ⟨g,5,none⟩)) ?_⟩;obtain ⟨d0,e0,f0,rfl⟩:=(s0).form;refine o1 12 (gD 12 (sC 27 5 (.slice d0 e0 f0) [.slice j h i,I a.P.At.Row,I a.P.At.Col,B a.P.At.Pending,B a.P.Auto,.slice d0 e0 f0,.slice b d f,I a.Parts] 5 k1 ⟨(s0).one,trivial⟩) ?_);rintro w3 q8 b3;exact ⟨.inl rfl,dn (nrm (jn w3 ⟨f6,a6,(.slice d0 e0 f0),b6,b3,rfl,d2.m,s0.m⟩))⟩
    refine gm 9 (sl (RI .i32) 21 [[J q.R]] ([q.R]:List Int) T ⟨rfl,trivial⟩) ?_;rintro g6 x3 r8 ⟨c6,m1,e2⟩;have s5:Kp G0 [(Eb g 83 [.slice j h i,I a.P.At.Row,I a.P.At.Col,B a.P.At.Pending,B a.P.Auto,k,.slice b d f,I a.Parts])] x3:=(Kp.cons (m1.on 4 rfl) Kp.nil0);refine ⟨.inr s5,o1 0 (gm 0 (sl (RI .i32) 21 [] ([]:List Int) m1 trivial) ?_)⟩;rintro i9 z3 c5 ⟨b9,n1,p4⟩;have t5:Kp G0 [(Eb g 83 [.slice j h i,I a.P.At.Row,I a.P.At.Col,B a.P.At.Pending,B a.P.Auto,k,.slice b d f,I a.Parts])] z3:=(Kp.cons (n1.on 5 rfl) Kp.nil0);refine ⟨.inr t5,o1 3 (gm 3 (ap (RI .i32) (J 0) 4 27 0 n1 p4 D.m m0 dh) ?_)⟩;rintro j9 a4 d5 ⟨c9,q1,q4⟩;have u5:Kp G0 [(Eb g 83 [.slice j h i,I a.P.At.Row,I a.P.At.Col,B a.P.At.Pending,B a.P.Auto,k,.slice b d f,I a.Parts])] a4:=(Kp.cons (q1.on 5 rfl) Kp.nil0);refine ⟨.inr u5,?_⟩;obtain ⟨b4,s4,e5,s1,r4⟩:=q1.frz 1 rfl (e2.mono (c5.trans d5));have w5:Kp G0 [(Eb g 83 [.slice j h i,I a.P.At.Row,I a.P.At.Col,B a.P.At.Pending,B a.P.Auto,k,.slice b d f,I a.Parts])] b4:=(Kp.cons (s1.on 5 rfl) Kp.nil0);refine AC.gh s4 e5 (fun _=>w5) (o1 10 (gm 10 (ap (RI .i32) (J 0) 4 27 0 s1 q4.m r4 o0 dh) ?_));rintro k9 c4 s8 ⟨d6,t1,t0⟩;have x5:Kp G0 [(Eb g 83 [.slice j h i,I a.P.At.Row,I a.P.At.Col,B a.P.At.Pending,B a.P.Auto,k,.slice b d f,I a.Parts])] c4:=(Kp.cons (t1.on 5 rfl) Kp.nil0);refine ⟨.inr x5,ta 11 (.pointer (some ⟨g,5,none⟩)) ?_⟩;obtain ⟨g0,h0,i0,rfl⟩:=(t0).form;refine o1 12 (gD 12 (sC 27 5 (.slice g0 h0 i0) [.slice j h i,I a.P.At.Row,I a.P.At.Col,B a.P.At.Pending,B a.P.Auto,.slice g0 h0 i0,.slice b d f,I a.Parts] 5 t1 ⟨(t0).one,trivial⟩) ?_);rintro d4 t8 c3;refine ⟨.inl rfl,dn (nrm ?_)⟩;have d3:=c3.sD 6 [1,0,2,3,4,5];exact jn d4 ⟨g6,c6,(.slice g0 h0 i0),d6,d3,rfl,e2.m,t0.m⟩
   rintro e_ w_ ⟨a8,d8,_,rfl,u8,rfl,x0,v0,x,w0,e3,rfl,f8,t4⟩;refine bkn (nrm (W.region (va (I n.1) (vv (I (w64 (n.1+1))) (WL.nil ?_)))));obtain rfl:=si o;refine ⟨_,rfl,?_⟩;obtain ⟨e4,v4,v8,f3,u4⟩:=e3.frz 1 rfl t4;have g3:=f3.sD 6 [2,3,4,5];exact ⟨e4,_,_,v4.symm,pt,us,x,g3,rfl,u4⟩
  refine W.exit (thx ?_);obtain rfl:=si o;exact ⟨_,rfl,rfl,jn u2 ⟨k,c1,rfl,D⟩⟩
 ·exact jn z1 ⟨(.slice E M N),t2,rfl,h4.m⟩
 rintro _ e_ w_ ⟨rfl,b8,e8,_,rfl,f5,rfl,S,h3,rfl,u0⟩;refine bke (nrm (sr (va (p) (vx (ln 3 wC z0.m) (va (Qo g 7) (md (sC 3 7 (I (s.length:Int)) [.slice j h i,I a.P.At.Row,I a.P.At.Col,B a.P.At.Pending,B a.P.Auto,S,.slice b d f,I (s.length:Int)] 3 h3 ⟨rfl,trivial⟩) ?_))))));rintro c8 f2 u1;refine wln (sr (vx (leN 83 0 [.slice j h i,I a.P.At.Row,I a.P.At.Col,B a.P.At.Pending,B a.P.Auto,S,.slice b d f,I (s.length:Int)] (u1.on 3 rfl)) ?_));obtain ⟨j0,k0,l0,rfl⟩:=((u0.mono f2)).form;refine md (sA 83 [.slice j h i,I a.P.At.Row,I a.P.At.Col,B a.P.At.Pending,B a.P.Auto,.slice j0 k0 l0,.slice b d f,I (s.length:Int)] 2 u1 ⟨h2.m.one,rfl,rfl,rfl,rfl,u0.m.one,z.m.one,rfl,trivial⟩) ?_;rintro x1 g5 X;refine wln (W.ret ?_);obtain rfl:=si n2;have w4:=X.slf 1 rfl (z.mono (g2.trans (x2.trans (z2.trans (q7.trans (f5.trans (f2.trans g5)))))));have i3:=X.sD 4 [];exact jZ (c:=x1) (vs:=[.slice j h i,I a.P.At.Row,I a.P.At.Col,B a.P.At.Pending,B a.P.Auto,.slice j0 k0 l0,.slice b d f,I (s.length:Int)]) rfl (by kernel_rfl) (by kernel_rfl) (by kernel_rfl) (X.on 2 rfl _ rfl).1 ⟨_,x1,rfl,rfl,pt,(.slice j h i),(.slice j0 k0 l0),(.slice b d f),i3,rfl,h2.m,u0.m,w4⟩
def dW (p0:ao) (p1:Int):Option (ao):=
 ((cM p1).bind fun c=>
 if (!c)=true then
 some (65533)
 else
 some (p1)).bind fun d=>
 (app ([]:List Int) p0.Group).bind fun a=>
 (app a ([d]:List Int)).bind fun b=>
 some (⟨p0.P,b,p0.Raw,p0.Parts⟩:ao)
theorem nK (O0:Own c0 G F) (a:ao) (t:Int) {r:ao} (S:Sl am c0 v1 a.P.L) (h4:Sl (RI .i32) c0 v3 a.Group) (T:Sl (RI .u8) c0 v5 a.Raw) (H:dW a t=some r): Calls prog 48 #[.agg #[v1,I a.P.At.Row,I a.P.At.Col,B a.P.At.Pending,B a.P.Auto,v3,v5,I a.Parts],J t] c0.w (aN c0 fun c v=>∃y1 U y3 y4,Own c G (es true (RI .i32) U 21 y3 r.Group :: F)∧v= .agg #[y1,I r.P.At.Row,I r.P.At.Col,B r.P.At.Pending,B r.P.Auto,U,y4,I r.Parts]∧Sl am c y1 r.P.L∧OA (RI .i32) c U y3 r.Group∧Sl (RI .u8) c y4 r.Raw):=by
 unfold dW at H;refine en func48 rfl rfl (sr ?_);obtain ⟨k,n,o,rfl⟩:=(S).form;obtain ⟨A,D,E,rfl⟩:=(h4).form;obtain ⟨d,e,f,rfl⟩:=(T).form;refine me (al 83 [.slice k n o,I a.P.At.Row,I a.P.At.Col,B a.P.At.Pending,B a.P.Auto,.slice A D E,.slice d e f,I a.Parts] O0) ?_;rintro v19 d1 n1 ⟨p,rfl,X⟩;refine me (al 83 [Y,I 0,I 0,B false,B false,Y,Y,I 0] X) ?_;rintro v23 h0 q1 ⟨M,rfl,Z⟩;refine wln (bn H fun s b j=>W.seqJ (Jn h0 fun c l=>Own c G ((Eb M 83 [Y,I 0,I 0,B false,B false,Y,Y,I 0]) :: (Eb p 83 [.slice k n o,I a.P.At.Row,I a.P.At.Col,B a.P.At.Pending,B a.P.Auto,.slice A D E,.slice d e f,I a.Parts]) :: F)∧l= [(1,J s),(2,Q p),(4,Q M)]) ?_ ?_)
 ·refine sr (va (J t) (bn b fun w0 i0 b=>cl (ml Z t i0) ?_));rintro v32 N s1 ⟨u,rfl⟩;refine va (B (!w0)) (wln (cn b (fun j0 b=>?_) (fun j0 b=>?_)))
  ·refine W.region (va (J 65533) (wln ?_));obtain rfl:=si b;exact jn N ⟨u,rfl⟩
  refine W.skip (nrm ?_);obtain rfl:=si b;exact jn N ⟨u,rfl⟩
 rintro e_ w_ ⟨e1,m1,_,rfl,t1,rfl,a0,rfl⟩;refine sr (me (sl (RI .i32) 21 [] ([]:List Int) a0 trivial) ?_);rintro v44 f1 u1 ⟨d2,x,l0⟩;refine va (.pointer (some ⟨p,5,none⟩)) (vx (le1 5 dh (x.on 2 rfl)) (bn j fun b1 m0 j=>me (ap (RI .i32) (J 0) 4 27 0 x l0 h4.m m0 dh) ?_));rintro v50 g1 w1 ⟨e2,b0,o0⟩;refine va (J s) (me (sl (RI .i32) 21 [[J s]] ([s]:List Int) b0 ⟨rfl,trivial⟩) ?_);rintro v55 h1 x1 ⟨f2,d0,q0⟩;obtain ⟨i1,t0,z1,e0,s0⟩:=d0.frz 0 rfl q0;refine WL.gh t0 (bn j fun c1 u0 j=>me (ap (RI .i32) (J 0) 4 27 1 e0 o0.m s0 u0 dh) ?_);rintro g2 j1 a2 ⟨v0,f0,q⟩;refine va (.pointer (some ⟨p,5,none⟩)) ?_;obtain ⟨g,h,i,rfl⟩:=(q).form;refine md (sC 27 5 (.slice g h i) [.slice k n o,I a.P.At.Row,I a.P.At.Col,B a.P.At.Pending,B a.P.Auto,.slice g h i,.slice d e f,I a.Parts] 3 f0 ⟨(q).one,trivial⟩) ?_;rintro k1 b2 y;refine wln (sr (vx (leN 83 0 [.slice k n o,I a.P.At.Row,I a.P.At.Col,B a.P.At.Pending,B a.P.Auto,.slice g h i,.slice d e f,I a.Parts] (y.on 3 rfl)) (md (sA 83 [.slice k n o,I a.P.At.Row,I a.P.At.Col,B a.P.At.Pending,B a.P.Auto,.slice g h i,.slice d e f,I a.Parts] 2 y ⟨S.m.one,rfl,rfl,rfl,rfl,q.m.one,T.m.one,rfl,trivial⟩) ?_)));rintro R c2 z;refine wln (W.ret ?_);obtain rfl:=si j;have g0:=z.sD 4 [1];exact jZ (c:=R) (vs:=[.slice k n o,I a.P.At.Row,I a.P.At.Col,B a.P.At.Pending,B a.P.Auto,.slice g h i,.slice d e f,I a.Parts]) rfl (by kernel_rfl) (by kernel_rfl) (by kernel_rfl) (z.on 2 rfl _ rfl).1 ⟨_,R,rfl,rfl,pt,(.slice k n o),(.slice g h i),v0,(.slice d e f),g0,rfl,S.m,q.m,T.m⟩
def dr (p0:ao):Option (aa):=
 (gx p0.P p0.Group).bind fun a=>
 some a
theorem kV (U:Own c0 G F) (a:ao) {r:aa} (N:Sl am c0 v1 a.P.L) (S:Sl (RI .i32) c0 v3 a.Group) (X:Sl (RI .u8) c0 v5 a.Raw) (H:dr a=some r): Calls prog 51 #[.agg #[v1,I a.P.At.Row,I a.P.At.Col,B a.P.At.Pending,B a.P.Auto,v3,v5,I a.Parts]] c0.w (aN c0 fun c v=>∃T,Own c G (F)∧v= .agg #[T,I r.At.Row,I r.At.Col,B r.At.Pending,B r.Auto]∧Sl am c T r.L):=by
 unfold dr at H;refine en func51 rfl rfl (sr ?_);obtain ⟨D,E,M,rfl⟩:=(N).form;obtain ⟨t,u,x,rfl⟩:=(S).form;obtain ⟨y,z,A,rfl⟩:=(X).form;refine me (bx 83 [.slice D E M,I a.P.At.Row,I a.P.At.Col,B a.P.At.Pending,B a.P.Auto,.slice t u x,.slice y z A,I a.Parts] U) ?_;rintro v20 a0 e0 ⟨i,rfl,o,n⟩;refine me (al 43 [Y,I 0,I 0,B false,B false] o) ?_;rintro v24 b0 f0 ⟨Z,rfl,p⟩;refine wln (sr (va (Q i) (vx (lN 43 (AN (k:=0) (l:=[.slice D E M,I a.P.At.Row,I a.P.At.Col,B a.P.At.Pending,B a.P.Auto]) (mm n) rfl)) (va (Qo i (0+5)) (vx (l1 dh ((mm n) 5 _ rfl)) (bn H fun b R H=>cl (rp p a.P a.Group N.m S.m R) ?_))))));rintro v33 d0 g0 ⟨v26,q,rfl,g⟩;obtain ⟨d,e,f,rfl⟩:=(g).form;refine md (sA 43 [.slice d e f,I b.At.Row,I b.At.Col,B b.At.Pending,B b.Auto] 0 q ⟨g.one,rfl,rfl,rfl,rfl,trivial⟩) ?_;rintro j h0 h;refine wln (W.ret ?_);obtain rfl:=si H;have s:=h.sD 1 [];exact jZ (c:=j) (vs:=[.slice d e f,I b.At.Row,I b.At.Col,B b.At.Pending,B b.Auto]) rfl (by kernel_rfl) (by kernel_rfl) (by kernel_rfl) (h.on 0 rfl _ rfl).1 ⟨_,j,rfl,rfl,pt,(.slice d e f),s,rfl,g.m⟩
def cJ (p0:ao):Option (ao):=
 (dr p0).bind fun a=>
 some (⟨a,([]:List Int),p0.Raw,p0.Parts⟩:ao)
theorem ij (O0:Own c0 G F) (b:ao) {r:ao} (T:Sl am c0 v1 b.P.L) (X:Sl (RI .i32) c0 v3 b.Group) (q:Sl (RI .u8) c0 v5 b.Raw) (H:cJ b=some r): Calls prog 50 #[.agg #[v1,I b.P.At.Row,I b.P.At.Col,B b.P.At.Pending,B b.P.Auto,v3,v5,I b.Parts]] c0.w (aN c0 fun c v=>∃y1 y y3 y4,Own c G (es true (RI .i32) y 21 y3 r.Group :: F)∧v= .agg #[y1,I r.P.At.Row,I r.P.At.Col,B r.P.At.Pending,B r.P.Auto,y,y4,I r.Parts]∧Sl am c y1 r.P.L∧OA (RI .i32) c y y3 r.Group∧Sl (RI .u8) c y4 r.Raw):=by
 unfold cJ at H;refine en func50 rfl rfl (sr ?_);obtain ⟨N,R,S,rfl⟩:=(T).form;obtain ⟨l,n,o,rfl⟩:=(X).form;obtain ⟨d,f,g,rfl⟩:=(q).form;refine me (al 83 [.slice N R S,I b.P.At.Row,I b.P.At.Col,B b.P.At.Pending,B b.P.Auto,.slice l n o,.slice d f g,I b.Parts] O0) ?_;rintro v19 g0 l0 ⟨x,rfl,z⟩;refine me (al 83 [Y,I 0,I 0,B false,B false,Y,Y,I 0] z) ?_;rintro v23 h0 m0 ⟨f0,rfl,s⟩;refine wln (sr (vx (leN 83 0 [.slice N R S,I b.P.At.Row,I b.P.At.Col,B b.P.At.Pending,B b.P.Auto,.slice l n o,.slice d f g,I b.Parts] (s.on 1 rfl)) (bn H fun a U H=>cl (kV s b T.m X.m q.m U) ?_)));rintro v32 i0 o0 ⟨v25,A,rfl,k⟩;refine va (Q x) ?_;obtain ⟨h,i,j,rfl⟩:=(k).form;refine md (sB 43 0 [.slice h i j,I a.At.Row,I a.At.Col,B a.At.Pending,B a.Auto] [.slice h i j,I a.At.Row,I a.At.Col,B a.At.Pending,B a.Auto,.slice l n o,.slice d f g,I b.Parts] 1 A ⟨k.one,rfl,rfl,rfl,rfl,trivial⟩) ?_;rintro j0 q0 D;refine wln (sr (va (Qo x 5) (md (sC 27 5 (Y) [.slice h i j,I a.At.Row,I a.At.Col,B a.At.Pending,B a.Auto,Y,.slice d f g,I b.Parts] 1 D ⟨rfl,trivial⟩) ?_)));rintro k0 s0 t;refine wln (sr (vx (leN 83 0 [.slice h i j,I a.At.Row,I a.At.Col,B a.At.Pending,B a.Auto,Y,.slice d f g,I b.Parts] (t.on 1 rfl)) (md (sA 83 [.slice h i j,I a.At.Row,I a.At.Col,B a.At.Pending,B a.Auto,Y,.slice d f g,I b.Parts] 0 t ⟨k.m.one,rfl,rfl,rfl,rfl,rfl,q.m.one,rfl,trivial⟩) ?_)));rintro p t0 E;refine wln (W.ret ?_);obtain rfl:=si H;have Z:OA (RI .i32) p (Y) [] []:=OA.nil (aM _);have u:=E.addHole (e:=es true (RI .i32) (Y) 21 [] ([]:List Int)) rfl;have M:=u.sD 3 [0];exact jZ (c:=p) (vs:=[.slice h i j,I a.At.Row,I a.At.Col,B a.At.Pending,B a.Auto,Y,.slice d f g,I b.Parts]) rfl (by kernel_rfl) (by kernel_rfl) (by kernel_rfl) (u.on 1 rfl _ rfl).1 ⟨_,p,rfl,rfl,pt,(.slice h i j),(Y),[],(.slice d f g),M,rfl,k.m,Z,q.m⟩
def dE (p0:ao):Option (ao):=
 ((dg p0).bind fun d=>
 if (decide (d > 0))=true then
 (dW p0 65533).bind fun a=>
 some (a.P.L,a.P.At.Row,a.P.At.Col,a.P.At.Pending,a.P.Auto,a.Group,a.Raw,a.Parts)
 else
 some (p0.P.L,p0.P.At.Row,p0.P.At.Col,p0.P.At.Pending,p0.P.Auto,p0.Group,p0.Raw,p0.Parts)).bind fun b=>
 (cJ (⟨(⟨b.1,(⟨b.2.1,b.2.2.1,b.2.2.2.1⟩:ai),b.2.2.2.2.1⟩:aa),b.2.2.2.2.2.1,([]:List Int),0⟩:ao)).bind fun c=>
 some c
theorem nz (O0:Own c0 G F) (b:ao) {r:ao} (h2:Sl am c0 v1 b.P.L) (h4:Sl (RI .i32) c0 v3 b.Group) (h6:Sl (RI .u8) c0 v5 b.Raw) (H:dE b=some r): Calls prog 49 #[.agg #[v1,I b.P.At.Row,I b.P.At.Col,B b.P.At.Pending,B b.P.Auto,v3,v5,I b.Parts]] c0.w (aN c0 fun c v=>∃y1 y2 y3 y4,Own c G (es true (RI .i32) y2 21 y3 r.Group :: F)∧v= .agg #[y1,I r.P.At.Row,I r.P.At.Col,B r.P.At.Pending,B r.P.Auto,y2,y4,I r.Parts]∧Sl am c y1 r.P.L∧OA (RI .i32) c y2 y3 r.Group∧Sl (RI .u8) c y4 r.Raw):=by
 unfold dE at H;refine en func49 rfl rfl (sr ?_);obtain ⟨a7,a8,a9,rfl⟩:=(h2).form;obtain ⟨j,k,n,rfl⟩:=(h4).form;obtain ⟨o,p,q,rfl⟩:=(h6).form;refine me (al 83 [.slice a7 a8 a9,I b.P.At.Row,I b.P.At.Col,B b.P.At.Pending,B b.P.Auto,.slice j k n,.slice o p q,I b.Parts] O0) ?_;rintro v19 e2 o2 ⟨s,rfl,y0⟩;refine me (al 83 [Y,I 0,I 0,B false,B false,Y,Y,I 0] y0) ?_;rintro v23 g1 p2 ⟨v0,rfl,h0⟩;refine wln (bn H fun a e t=>W.seqJ (Jn g1 fun c l=>∃v26 v27 v28,Own c G ((Eb v0 83 [Y,I 0,I 0,B false,B false,Y,Y,I 0]) :: (Eb s 83 [v26,I a.2.1,I a.2.2.1,B a.2.2.2.1,B a.2.2.2.2.1,v27,v28,I a.2.2.2.2.2.2.2]) :: F)∧l= [(1,Q s),(2,Q v0)]∧Sl am c v26 a.1∧Sl (RI .i32) c v27 a.2.2.2.2.2.1∧Sl (RI .u8) c v28 a.2.2.2.2.2.2.1) ?_ ?_)
 ·refine sr (vx (leN 83 0 [.slice a7 a8 a9,I b.P.At.Row,I b.P.At.Col,B b.P.At.Pending,B b.P.Auto,.slice j k n,.slice o p q,I b.Parts] (h0.on 1 rfl)) (bn e fun x1 j1 e=>cl (kI h0 b h2.m h4.m h6.m j1) ?_));rintro v35 h1 q2 ⟨x,rfl⟩;refine va (B (decide (x1 > 0))) (wln (cn e (fun k1 e=>?_) (fun k1 e=>?_)))
  ·refine W.region (vx (leN 83 0 [.slice a7 a8 a9,I b.P.At.Row,I b.P.At.Col,B b.P.At.Pending,B b.P.Auto,.slice j k n,.slice o p q,I b.Parts] (x.on 1 rfl)) (bn e fun f m1 e=>cl (nK x b 65533 h2.m h4.m h6.m m1) ?_));rintro v50 f2 s2 ⟨v38,v40,z2,v43,z0,rfl,R,S,T⟩;obtain ⟨j0,k0,l0,rfl⟩:=(R).form;obtain ⟨m0,o0,q0,rfl⟩:=(S).form;obtain ⟨s0,t0,u0,rfl⟩:=(T).form;refine md (sA 83 [.slice j0 k0 l0,I f.P.At.Row,I f.P.At.Col,B f.P.At.Pending,B f.P.Auto,.slice m0 o0 q0,.slice s0 t0 u0,I f.Parts] 2 z0 ⟨R.one,rfl,rfl,rfl,rfl,(S).one,T.one,rfl,trivial⟩) ?_;rintro g2 u1 a1;refine wln ?_;obtain rfl:=si e;obtain ⟨i1,p1,t2,b1,n1⟩:=a1.frz 0 rfl (S.mono u1);have c1:=b1.sD 3 [1,2];exact ⟨i1,_,_,p1.symm,pt,us,(.slice j0 k0 l0),(.slice m0 o0 q0),(.slice s0 t0 u0),c1,rfl,R.m,n1,T.m⟩
  refine W.skip (nrm ?_);obtain rfl:=si e;exact jn h1 ⟨(.slice a7 a8 a9),(.slice j k n),(.slice o p q),x,rfl,h2.m,h4.m,h6.m⟩
 rintro e_ w_ ⟨i2,m2,_,rfl,u2,rfl,v26,v27,v28,d1,rfl,q1,s1,n2⟩;refine sr (va (Qo s 6) (md (sC 57 6 (Y) [v26,I a.2.1,I a.2.2.1,B a.2.2.2.1,B a.2.2.2.2.1,v27,Y,I a.2.2.2.2.2.2.2] 1 d1 ⟨rfl,trivial⟩) ?_));rintro j2 v2 e1;refine wln (sr (va (Qo s 7) (md (sC 3 7 (I 0) [v26,I a.2.1,I a.2.2.1,B a.2.2.2.1,B a.2.2.2.2.1,v27,Y,I 0] 1 e1 ⟨rfl,trivial⟩) ?_)));rintro k2 w2 i0;refine wln (sr (vx (leN 83 0 [v26,I a.2.1,I a.2.2.1,B a.2.2.2.1,B a.2.2.2.2.1,v27,Y,I 0] (i0.on 1 rfl)) (bn t fun d t1 t=>cl (ij i0 (⟨(⟨a.1,(⟨a.2.1,a.2.2.1,a.2.2.2.1⟩:ai),a.2.2.2.2.1⟩:aa),a.2.2.2.2.2.1,([]:List Int),0⟩:ao) q1.m s1.m (Sl.nl _ _) t1) ?_)));rintro d3 l2 x2 ⟨a3,b3,w1,c3,f1,rfl,U,X,Z⟩;obtain ⟨y,z,A,rfl⟩:=(U).form;obtain ⟨D,E,M,rfl⟩:=(X).form;obtain ⟨g,h,i,rfl⟩:=(Z).form;refine md (sA 83 [.slice y z A,I d.P.At.Row,I d.P.At.Col,B d.P.At.Pending,B d.P.Auto,.slice D E M,.slice g h i,I d.Parts] 1 f1 ⟨U.one,rfl,rfl,rfl,rfl,(X).one,Z.one,rfl,trivial⟩) ?_;rintro N d2 u;refine wln (W.ret ?_);obtain rfl:=si t;have w0:=u.sD 3 [0];exact jZ (c:=N) (vs:=[.slice y z A,I d.P.At.Row,I d.P.At.Col,B d.P.At.Pending,B d.P.Auto,.slice D E M,.slice g h i,I d.Parts]) rfl (by kernel_rfl) (by kernel_rfl) (by kernel_rfl) (u.on 1 rfl _ rfl).1 ⟨_,N,rfl,rfl,pt,(.slice y z A),(.slice D E M),w1,(.slice g h i),w0,rfl,U.m,X.m,Z.m⟩
end Go.Proofs.YthokmpbbkpjhbaaGreatDoor
