/- Parts of the proofs of ConsoleGoesOn: the walk through the code, and plain Lean. No condition. -/
import Derived.Test.YtceciacilfhmjaaGreatDoorCoA
import Derived.Test.YtceciacilfhmjaaGreatDoorProg
import Derived.Test.YtceciacilfhmjaaGreatDoorCoB
import Derived.WalkKit
import Derived.LaidEql
import Derived.Stop.Asserts
import Derived.RowKitTokens
import Derived.Elder7
import Derived.Laws.Cover4
set_option linter.unusedVariables false
set_option linter.unusedSimpArgs false
namespace Go.Proofs.YtceciacilfhmjaaGreatDoor
open Go Go.Lt
set_option maxRecDepth 10000
set_option linter.unusedVariables false
attribute [local irreducible] W WL AC
open Tryz
variable {c0:Cx} {G:Gm} {F:List En} {sg:Sto} {v1 v2 v3 v4 v5 v6 v7 v8 v9 v10 v11 v12 v13 v14 v15 v16 v17 v18 v19 v20 v21 v22 v23 v24 v25 v26 v27 v28 v29 v30 v31 v32 v33 v34 v35 v36 v37 v38 v39 v40 v41 v42 v43 v44 v45 v46 v47 v48 v49 v50 v51 v52 v53 v54 v55 v56 v57 v58 v59 v60:Value}
def kU:List (Int×Int×Int):=[(0,9,3),(10,10,2),(11,12,3),(13,13,1),(14,31,3),(127,159,3),(173,173,3),(768,879,4),(1155,1161,4),(1425,1469,4),(1471,1471,4),(1473,1474,4),(1476,1477,4),(1479,1479,4),(1536,1541,7),(1552,1562,4),(1564,1564,3),(1611,1631,4),(1648,1648,4),(1750,1756,4),(1757,1757,7),(1759,1764,4),(1767,1768,4),(1770,1773,4),(1807,1807,7),(1809,1809,4),(1840,1866,4),(1958,1968,4),(2027,2035,4),(2070,2073,4),(2075,2083,4),(2192,2193,7),(2259,2273,4),(2274,2274,7),(2275,2306,4),(2307,2307,8),(2362,2362,4),(2363,2363,8),(2364,2364,4),(2366,2368,8),(2369,2376,4),(2377,2380,8),(2381,2381,4),(2382,2383,8),(2385,2391,4),(2402,2403,4),(2433,2433,4),(2434,2435,8),(2492,2492,4),(2494,2494,4),(2495,2496,8),(2497,2500,4),(2503,2504,8),(2507,2508,8),(2509,2509,4),(2519,2519,4),(2530,2531,4),(2561,2562,4),(2563,2563,8),(2620,2620,4),(2622,2624,8),(2625,2626,4),(2631,2632,4),(2635,2637,4),(2691,2691,8),(2748,2748,4),(2750,2752,8),(2753,2757,4),(2761,2761,8),(2765,2765,4),(2818,2819,8),(2876,2876,4),(2878,2879,4),(2880,2880,8),(2881,2884,4),(2887,2888,8),(2893,2893,4),(2902,2903,4),(3073,3075,8),(3132,3132,4),(3134,3136,4),(3137,3140,8),(3142,3144,4),(3146,3149,4),(3276,3277,4),(3330,3331,8),(3390,3390,4),(3391,3392,8),(3393,3396,4),(3398,3400,8),(3405,3405,4),(3406,3406,7),(3633,3633,4),(3635,3635,8),(3636,3642,4),(3655,3662,4),(3761,3761,4),(3763,3763,8),(3764,3772,4),(3864,3865,4),(3902,3903,8),(3953,3966,4),(4155,4156,8),(4957,4959,4),(6158,6158,3),(6832,6862,4),(7616,7679,4),(8203,8203,3),(8204,8204,4),(8205,8205,5),(8206,8207,3),(8232,8238,3),(8288,8303,3),(8400,8432,4),(12330,12335,4),(12441,12442,4),(42607,42610,4),(64286,64286,4),(65024,65039,4),(65056,65071,4),(65279,65279,3),(65520,65531,3),(69821,69821,7),(69837,69837,7),(127462,127487,6),(127995,127999,4),(917504,917535,3),(917536,917631,4),(917632,917759,3),(917760,917999,4),(918000,921599,3)]
def mN:Option (List (Int×Int×Int)):=
 some kU
theorem A3 (d:Own c0 G F) {r:List (Int×Int×Int)} (H:mN=some r): Calls prog 237 #[] c0.w (aO c0 fun c v=>∃a b,Own c G (es true gQ a 305 b r :: F)∧v=a∧OA gQ c a b r):=by
 unfold mN at H;refine en func237 rfl rfl (sr (va (Y) (wln (sr (va (aE 0 9 3) (va (aE 10 10 2) (va (aE 11 12 3) (va (aE 13 13 1) (va (aE 14 31 3) (va (aE 127 159 3) (va (aE 173 173 3) (va (aE 768 879 4) (va (aE 1155 1161 4) (va (aE 1425 1469 4) (va (aE 1471 1471 4) (va (aE 1473 1474 4) (va (aE 1476 1477 4) (va (aE 1479 1479 4) (va (aE 1536 1541 7) (va (aE 1552 1562 4) (va (aE 1564 1564 3) (va (aE 1611 1631 4) (va (aE 1648 1648 4) (va (aE 1750 1756 4) (va (aE 1757 1757 7) (va (aE 1759 1764 4) (va (aE 1767 1768 4) (va (aE 1770 1773 4) (va (aE 1807 1807 7) (va (aE 1809 1809 4) (va (aE 1840 1866 4) (va (aE 1958 1968 4) (va (aE 2027 2035 4) (va (aE 2070 2073 4) (va (aE 2075 2083 4) (va (aE 2192 2193 7) (va (aE 2259 2273 4) (va (aE 2274 2274 7) (va (aE 2275 2306 4) (va (aE 2307 2307 8) (va (aE 2362 2362 4) (va (aE 2363 2363 8) (va (aE 2364 2364 4) (va (aE 2366 2368 8) (va (aE 2369 2376 4) (va (aE 2377 2380 8) (va (aE 2381 2381 4) (va (aE 2382 2383 8) (va (aE 2385 2391 4) (va (aE 2402 2403 4) (va (aE 2433 2433 4) (va (aE 2434 2435 8) (va (aE 2492 2492 4) (va (aE 2494 2494 4) (va (aE 2495 2496 8) (va (aE 2497 2500 4) (va (aE 2503 2504 8) (va (aE 2507 2508 8) (va (aE 2509 2509 4) (va (aE 2519 2519 4) (va (aE 2530 2531 4) (va (aE 2561 2562 4) (va (aE 2563 2563 8) (va (aE 2620 2620 4) (va (aE 2622 2624 8) (va (aE 2625 2626 4) (va (aE 2631 2632 4) (va (aE 2635 2637 4) (va (aE 2691 2691 8) (va (aE 2748 2748 4) (va (aE 2750 2752 8) (va (aE 2753 2757 4) (va (aE 2761 2761 8) (va (aE 2765 2765 4) (va (aE 2818 2819 8) (va (aE 2876 2876 4) (va (aE 2878 2879 4) (va (aE 2880 2880 8) (va (aE 2881 2884 4) (va (aE 2887 2888 8) (va (aE 2893 2893 4) (va (aE 2902 2903 4) (va (aE 3073 3075 8) (va (aE 3132 3132 4) (va (aE 3134 3136 4) (va (aE 3137 3140 8) (va (aE 3142 3144 4) (va (aE 3146 3149 4) (va (aE 3276 3277 4) (va (aE 3330 3331 8) (va (aE 3390 3390 4) (va (aE 3391 3392 8) (va (aE 3393 3396 4) (va (aE 3398 3400 8) (va (aE 3405 3405 4) (va (aE 3406 3406 7) (va (aE 3633 3633 4) (va (aE 3635 3635 8) (va (aE 3636 3642 4) (va (aE 3655 3662 4) (va (aE 3761 3761 4) (va (aE 3763 3763 8) (va (aE 3764 3772 4) (va (aE 3864 3865 4) (va (aE 3902 3903 8) (va (aE 3953 3966 4) (va (aE 4155 4156 8) (va (aE 4957 4959 4) (va (aE 6158 6158 3) (va (aE 6832 6862 4) (va (aE 7616 7679 4) (va (aE 8203 8203 3) (va (aE 8204 8204 4) (va (aE 8205 8205 5) (va (aE 8206 8207 3) (va (aE 8232 8238 3) (va (aE 8288 8303 3) (va (aE 8400 8432 4) (va (aE 12330 12335 4) (va (aE 12441 12442 4) (va (aE 42607 42610 4) (va (aE 64286 64286 4) (va (aE 65024 65039 4) (va (aE 65056 65071 4) (va (aE 65279 65279 3) (va (aE 65520 65531 3) (va (aE 69821 69821 7) (va (aE 69837 69837 7) (va (aE 127462 127487 6) (va (aE 127995 127999 4) (va (aE 917504 917535 3) (va (aE 917536 917631 4) (va (aE 917632 917759 3) (va (aE 917760 917999 4) (va (aE 918000 921599 3) (me (Own.sl (R:=gQ) (E:=305) (ls:=kU.map (fun x=>[I x.1,I x.2.1,I x.2.2])) (vs:=(kU.map (fun x=>[I x.1,I x.2.1,I x.2.2])).flatten) (xs:=kU) true d (aI _) rfl (rB.map _ (fun _=>rfl) _) (by kernel_rfl) (by kernel_rfl)) ?_))))))))))))))))))))))))))))))))))))))))))))))))))))))))))))))))))))))))))))))))))))))))))))))))))))))))))))))))))))))))))))))))))))))));rintro v5 f i ⟨h,e,g⟩;refine va (v5) (wln (W.ret ?_));obtain rfl:=si H;exact r1 (qq f ⟨v5,h,e,rfl,g⟩)
def nF (p0:Int) (q0_0:List (Int×Int×Int)) (q1_0:Int):Option (Bool):=
 (idx q0_0 p0).bind fun a=>
 some (decide (a.2.1≥(w64 q1_0)))
theorem B3 {d:Nat} {e:Nat} (o:Own c0 G F) (b:Int) (q0_0:List (Int×Int×Int)) (q1_0:Int) {r:Bool} (s:∀j u,([v2]:List Value)[j]? = some u→Im c0 d (0+j) u) (k:Sl gQ c0 v2 q0_0) (t:∀j u,([J q1_0]:List Value)[j]? = some u→Im c0 e (0+j) u) (H:nF b q0_0 q1_0=some r): Calls prog 239 #[I b,Q d,Q e] c0.w (aO c0 fun c v=>Own c G (F)∧v=B r):=by
 unfold nF at H;refine en func239 rfl rfl (sr (va (B false) (wln (W.seq (rD [] (Kp G0 []) o ?_)))));intro h q p;have y:Kp G0 [] h:=Kp.nil0;refine tx 0 (fun g a=>l1 gR ((mm s) 0 _ rfl)) (ta 1 (I b) (bn H fun f l H=>?_));obtain ⟨x,i,n⟩:=Sl.at (k.mono q) (bW l);obtain rfl:=i;refine tx 2 (fun g a=>ix gR k.m l) (ta 3 (Qo (sb v2) (so v2+b.toNat * 3+1)) (tx 4 (fun g a=>l1 u_3 ((mm n) 1 _ rfl)) (tx 5 (fun g a=>l1 rh ((mm t) 0 _ rfl)) (ta 6 (I (w64 q1_0)) (ta 7 (B (decide (f.2.1≥(w64 q1_0)))) (ta 8 (B (decide (f.2.1≥(w64 q1_0)))) (dn (nrm (W.ret ?_)))))))));obtain rfl:=si H;exact r1 (qq h ⟨p,rfl⟩)
def gn (p0:Int) (p1:Int) (p2:Int):Option (Bool):=
 (bX (decide (p0≥p1)) (some (decide (p0≤p2)))).bind fun a=>
 some a
theorem kn (f:Own c0 G F) (a:Int) (e:Int) (b:Int) {r:Bool} (H:gn a e b=some r): Calls prog 261 #[J a,J e,J b] c0.w (aO c0 fun c v=>Own c G (F)∧v=B r):=by
 unfold gn at H;refine en func261 rfl rfl (sr (va (B false) (wln (W.seq (bn H fun g h H=>W.join (Jn c0 fun c l=>Own c G (F)∧l= [(6,B g)]) ?_ ?_)))))
 ·clear H;refine W.region (va (J a) (va (J e) (va (B (decide (a≥e))) ?_)));rcases bo (decide (a≥e)) with d | d
  ·have i:=anT d h;refine vb d (wa (J a) (wa (J b) (wa (B (decide (a≤b))) ?_)));obtain rfl:=si i;exact vv (B (decide (a≤b))) (wln (jn c0 ⟨f,rfl⟩))
  obtain rfl:=anF d h;exact vb d (pz (ps (vv (B false) (wln (jn c0 ⟨f,rfl⟩)))))
 rintro m p ⟨k,n,_,rfl,o,rfl,j,rfl⟩;refine nrm (W.ret ?_);obtain rfl:=si H;exact r1 (qq k ⟨j,rfl⟩)
def jS (p0:Int):Option (Bool):=
 (gn p0 44032 55203).bind fun a=>
 some a
theorem tw (d:Own c0 G F) (a:Int) {r:Bool} (H:jS a=some r): Calls prog 262 #[J a] c0.w (aO c0 fun c v=>Own c G (F)∧v=B r):=by
 unfold jS at H;refine en func262 rfl rfl (sr (va (B false) (wln (sr (va (J a) (bn H fun b g H=>cl (kn d a 44032 55203 g) ?_))))));rintro v7 f h ⟨e,rfl⟩;refine va (B b) (wln (W.ret ?_));obtain rfl:=si H;exact r1 (qq f ⟨e,rfl⟩)
def kg (p0:Int):Option (Int):=
 (gn p0 4352 4447).bind fun i=>
 (orE i ((gn p0 43360 43388).bind fun j=>
 some j)).bind fun h=>
 if h=true then
 some 9
 else
 (gn p0 4448 4519).bind fun c=>
 (orE c ((gn p0 55216 55238).bind fun d=>
 some d)).bind fun a=>
 if a=true then
 some 10
 else
 (gn p0 4520 4607).bind fun e=>
 (orE e ((gn p0 55243 55291).bind fun f=>
 some f)).bind fun b=>
 if b=true then
 some 11
 else
 (jS p0).bind fun g=>
 if (!g)=true then
 some 0
 else
 if (((w32 (p0 - 44032)).tmod 28)==0)=true then
 some 12
 else
 some 13
theorem wV (O0:Own c0 G F) (a:Int) {r:Int} (H:kg a=some r): Calls prog 240 #[J a] c0.w (aO c0 fun c v=>Own c G (F)∧v=I r):=by
 unfold kg at H;refine en func240 rfl rfl (sr (va (I 0) (wln (W.seq (W.block (W.seq (bn H fun w0 h1 H=>bn H fun e0 h2 H=>W.join (Jn c0 fun c l=>Own c G (F)∧l= [(0,J a),(3,B e0)]) ?_ ?_)))))))
 ·clear H;refine W.region (va (J a) (cl (kn O0 a 4352 4447 h1) ?_));rintro v8 c7 l7 ⟨S,rfl⟩;rcases bo (w0) with j | j
  ·obtain rfl:=orT j h2;exact vb j (pz (vv (B true) (wln (jn c7 ⟨S,rfl⟩))))
  have e:=orF j h2;refine vb j (wa (J a) (wn (bn e fun A g0 e=>cl (kn S a 43360 43388 g0) ?_)));rintro v17 U l16 ⟨P,rfl⟩;obtain rfl:=si e;exact vv (B A) (wln (jn U ⟨P,rfl⟩))
 rintro e_ w_ ⟨u,a1,_,rfl,d1,rfl,o,rfl⟩;refine nrm (cn H (fun i0 H=>?_) (fun i0 H=>?_))
 ·refine sr (va (I 9) (wln (W.ret (bkr (thr ?_)))));obtain rfl:=si H;exact r1 (qq u ⟨o,rfl⟩)
 refine W.seq (bn H fun M j0 H=>bn H fun D y H=>W.join (Jn u fun c l=>Own c G (F)∧l= [(0,J a),(10,B D)]) ?_ ?_)
 ·clear H;refine W.region (va (J a) (cl (kn o a 4448 4519 j0) ?_));rintro v32 X e1 ⟨p,rfl⟩;rcases bo (M) with b | b
  ·obtain rfl:=orT b y;exact vb b (pz (vv (B true) (wln (jn X ⟨p,rfl⟩))))
  have f:=orF b y;refine vb b (wa (J a) (wn (bn f fun k k0 f=>cl (kn p a 55216 55238 k0) ?_)));rintro v41 Z f1 ⟨R,rfl⟩;obtain rfl:=si f;exact vv (B k) (wln (jn Z ⟨R,rfl⟩))
 rintro e_ w_ ⟨x,b1,_,rfl,g1,rfl,q,rfl⟩;refine nrm (cn H (fun l0 H=>?_) (fun l0 H=>?_))
 ·refine sr (va (I 10) (wln (W.ret (bkr (thr ?_)))));obtain rfl:=si H;exact r1 (qq x ⟨q,rfl⟩)
 refine W.seq (bn H fun N m0 H=>bn H fun E z H=>W.join (Jn x fun c l=>Own c G (F)∧l= [(0,J a),(17,B E)]) ?_ ?_)
 ·clear H;refine W.region (va (J a) (cl (kn q a 4520 4607 m0) ?_));rintro v56 a0 i1 ⟨s,rfl⟩;rcases bo (N) with d | d
  ·obtain rfl:=orT d z;exact vb d (pz (vv (B true) (wln (jn a0 ⟨s,rfl⟩))))
  have g:=orF d z;refine vb d (wa (J a) (wn (bn g fun m o0 g=>cl (kn s a 55243 55291 o0) ?_)));rintro n1 b0 j1 ⟨T,rfl⟩;obtain rfl:=si g;exact vv (B m) (wln (jn b0 ⟨T,rfl⟩))
 rintro e_ w_ ⟨d0,c1,_,rfl,k1,rfl,t,rfl⟩;refine nrm (cn H (fun q0 H=>?_) (fun q0 H=>?_))
 ·refine sr (va (I 11) (wln (W.ret (bkr (thr ?_)))));obtain rfl:=si H;exact r1 (qq d0 ⟨t,rfl⟩)
 refine sr (va (J a) (bn H fun n s0 H=>cl (tw t a s0) ?_));rintro p1 i m1 ⟨h,rfl⟩;refine vv (B (!n)) (wln (cn H (fun t0 H=>?_) (fun t0 H=>?_)))
 ·refine sr (va (I 0) (wln (W.ret (bkr (thr ?_)))));obtain rfl:=si H;exact r1 (qq i ⟨h,rfl⟩)
 refine sr (va (J a) (va (J (w32 (a - 44032))) (va (J ((w32 (a - 44032)).tmod 28)) (vv (B (((w32 (a - 44032)).tmod 28)==0)) (wln (cn H (fun u0 H=>?_) (fun u0 H=>?_)))))))
 ·refine sr (va (I 12) (wln (W.ret (bkr (thr ?_)))));obtain rfl:=si H;exact r1 (qq i ⟨h,rfl⟩)
 refine W.skip (bkn (nrm (sr (va (I 13) (wln (W.ret ?_))))));obtain rfl:=si H;exact r1 (qq i ⟨h,rfl⟩)
def fT (p0:Int) (p1_0_0:List (Int×Int×Int)) (p1_1_0:Int):Option (Int):=
 (cV (σ:=Int×Int) (τ:=Int) ((p0 - 0).toNat+1) (fun a=>
 if (decide (a.1 < a.2))=true then
 (nF (w64 ((IntKind.u64.wrap (w64 (a.1+a.2))).fdiv (2 ^ 1))) p1_0_0 p1_1_0).bind fun b=>
 if (!b)=true then
 some (.inl ((w64 ((w64 ((IntKind.u64.wrap (w64 (a.1+a.2))).fdiv (2 ^ 1)))+1)),a.2))
 else
 some (.inl (a.1,(w64 ((IntKind.u64.wrap (w64 (a.1+a.2))).fdiv (2 ^ 1)))))
 else
 some (.inr (a.1))) (0,p0)).bind fun c=>
 some c
theorem pf {b1_0:Nat} {b1_1:Nat} (A:Own c0 G F) (b:Int) (p1_0_0:List (Int×Int×Int)) (p1_1_0:Int) {r:Int} (N:∀j u,([v2]:List Value)[j]? = some u→Im c0 b1_0 (0+j) u) (M:Sl gQ c0 v2 p1_0_0) (P:∀j u,([J p1_1_0]:List Value)[j]? = some u→Im c0 b1_1 (0+j) u) (H:fT b p1_0_0 p1_1_0=some r): Calls prog 238 #[I b,.func (.func 239) #[] #[Q b1_0,Q b1_1]] c0.w (aO c0 fun c v=>Own c G (F)∧v=I r):=by
 unfold fT at H;refine en func238 rfl rfl (sr (va (I 0) (wln (sr (va (I b) (va (I 0) (va (I b) (wln (W.seq (W.block (bn H fun g y k=>lp y (fun a=>Jn c0 fun c l=>Own c G (F)∧l= [(1,.func (.func 239) #[] #[Q b1_0,Q b1_1]),(5,I a.1),(6,I a.2)]) (fun h ex e w=>ex= .exit 0∧(Jn c0 fun c l=>Own c G (F)∧l= [(5,I h)]) e w) ?_ ?_ ?_)))))))))))
 ·clear k y;intro a X q z H;revert q z;rintro E R ⟨D,Z,_,rfl,l7,rfl,o,rfl⟩;refine W.seq (sr (va (I a.1) (va (I a.2) (va (B (decide (a.1 < a.2))) (wln (cn H (fun s H=>?_) (fun s H=>?_)))))))
  ·refine W.skip (nrm (W.block (sr (va (I a.1) (va (I a.2) (va (I (w64 (a.1+a.2))) (va (.int .u64 (IntKind.u64.wrap (w64 (a.1+a.2)))) (va (.int .u64 ((IntKind.u64.wrap (w64 (a.1+a.2))).fdiv (2 ^ 1))) (vv (I (w64 ((IntKind.u64.wrap (w64 (a.1+a.2))).fdiv (2 ^ 1)))) (wln (sr (va (.func (.func 239) #[] #[Q b1_0,Q b1_1]) (va (I (w64 ((IntKind.u64.wrap (w64 (a.1+a.2))).fdiv (2 ^ 1)))) (bn H fun i t H=>cl (B3 o (w64 ((IntKind.u64.wrap (w64 (a.1+a.2))).fdiv (2 ^ 1))) p1_0_0 p1_1_0 (mm N) M.m (mm P) t) ?_))))))))))))));rintro v20 f T ⟨d,rfl⟩;refine va (B (!i)) (wln (cn H (fun x H=>?_) (fun x H=>?_)))
   ·refine W.region (va (I (w64 ((IntKind.u64.wrap (w64 (a.1+a.2))).fdiv (2 ^ 1)))) (vv (I (w64 ((w64 ((IntKind.u64.wrap (w64 (a.1+a.2))).fdiv (2 ^ 1)))+1))) (WL.nil (bkn ?_))));obtain rfl:=si H;exact ⟨_,rfl,jn f ⟨d,rfl⟩⟩
   refine W.region (vv (I (w64 ((IntKind.u64.wrap (w64 (a.1+a.2))).fdiv (2 ^ 1)))) (WL.nil (bkn ?_)));obtain rfl:=si H;exact ⟨_,rfl,jn f ⟨d,rfl⟩⟩
  refine W.exit (thx ?_);obtain rfl:=si H;exact ⟨_,rfl,rfl,jn D ⟨o,rfl⟩⟩
 ·exact jn c0 ⟨A,rfl⟩
 rintro _ E R ⟨rfl,p,S,_,rfl,U,rfl,n,rfl⟩;refine bke (nrm (sr (vv (I g) (wln (W.ret ?_)))));obtain rfl:=si k;exact r1 (qq p ⟨n,rfl⟩)
def qy (p0:Int):Option (Int):=
 (mN).bind fun a=>
 (fT (a.length:Int) a p0).bind fun b=>
 (bX (decide (b < (a.length:Int))) ((idx a b).bind fun d=>
 some (decide (d.1≤(w64 p0))))).bind fun c=>
 if c=true then
 (idx a b).bind fun e=>
 some e.2.2
 else
 (kg p0).bind fun f=>
 some f
theorem Gt (O0:Own c0 G F) (i:Int) {r:Int} (H:qy i=some r): Calls prog 215 #[J i] c0.w (aO c0 fun c v=>Own c G (F)∧v=I r):=by
 unfold qy at H;refine en func215 rfl rfl (sr (me (bx 21 [J i] O0) ?_));rintro v5 c4 l4 ⟨b1,rfl,O2,R⟩;refine va (I 0) (wln (sr (bn H fun j h6 H=>cl (A3 O2 h6) ?_)));rintro v7 h1 p1 ⟨_,u8,U,rfl,s⟩;refine me (al 302 [Y] U) ?_;rintro v19 i1 E ⟨y,rfl,X⟩;obtain ⟨b,d,e,rfl⟩:=((s.mono E)).form;refine md (sC 302 0 (.slice b d e) [.slice b d e] 0 X ⟨s.m.one,trivial⟩) ?_;rintro j1 v0 t;refine wln (sr (vx (le1 0 gR (t.on 0 rfl)) (vx (lnO 3 gR s.m) ?_)));obtain ⟨k1,l0,q1,Z,g⟩:=t.frz 1 rfl (s.mono (E.trans v0));refine WL.gh l0 ?_;obtain ⟨m1,m0,M,a0,n⟩:=Own.frzB 0 Z rfl;refine WL.gh m0 ?_;have b0:=a0.sD 2 [1];refine va (.func (.func 239) #[] #[Q y,Q b1]) (bn H fun a o0 H=>cl (pf b0 (j.length:Int) j i n g.m (mm R) o0) ?_);rintro v40 i0 N ⟨d0,rfl⟩;refine va (I a) (wln (W.seq (W.seq (bn H fun P z H=>W.join (Jn i0 fun c l=>Own c G (es false gQ (.slice b d e) 305 u8 j :: F)∧l= [(1,Q b1),(3,Q y),(4,I a),(23,B P)]) ?_ ?_))))
 ·clear H;refine rD [] (Kp G0 []) d0 ?_;intro p w0 u;have t1:Kp G0 [] p:=Kp.nil0;refine ta 0 (I a) (tx 1 (fun k f=>l1 gR ((mm n) 0 _ rfl)) (tx 2 (fun k f=>ln 3 gR g.m) (ta 3 (B (decide (a < (j.length:Int)))) ?_)));rcases bo (decide (a < (j.length:Int))) with h | h
  ·have o:=anT h z;refine bn o fun q A o=>AC.takeb 4 h rfl (by kernel_rfl) (by kernel_rfl) (fun k f=>(by kernel_rfl)) (tx 5 (fun k f=>l1 gR ((mm n) 0 _ rfl)) (ta 6 (I a) ?_));obtain ⟨e1,q0,y0⟩:=Sl.at (g.mono (M.trans (N.trans w0))) (bW A);obtain rfl:=q0;refine tx 7 (fun k f=>ix gR g.m A) (ta 8 (Qo (sb (.slice b d e)) (so (.slice b d e)+a.toNat * 3)) (tx 9 (fun k f=>l1 u_3 ((mm y0) 0 _ rfl)) (tx 10 (fun k f=>l1 rh ((mm R) 0 _ rfl)) (ta 11 (I (w64 i)) (ta 12 (B (decide (q.1≤(w64 i)))) ?_)))));obtain rfl:=si o;exact ta 13 (B (decide (q.1≤(w64 i)))) (dn (nrm (jn p ⟨u,rfl⟩)))
  obtain rfl:=anF h z;exact AC.takeb 4 h rfl (by kernel_rfl) (by kernel_rfl) (fun k f=>(by kernel_rfl)) (tp 5 (tp 6 (tp 7 (tp 8 (tp 9 (tp 10 (tp 11 (tp 12 (ta 13 (B false) (dn (nrm (jn p ⟨u,rfl⟩))))))))))))
 rintro e_ w_ ⟨j0,n1,_,rfl,x0,rfl,x,rfl⟩;refine nrm (cn H (fun s0 H=>?_) (fun s0 H=>?_))
 ·refine sr (vx (l1 gR ((mm n) 0 _ rfl)) (va (I a) (bn H fun S D H=>?_)));obtain ⟨f1,t0,z0⟩:=Sl.at (g.mono (M.trans (N.trans x0))) (bW D);obtain rfl:=t0;refine vx (ix gR g.m D) (va (Qo (sb (.slice b d e)) (so (.slice b d e)+a.toNat * 3+2)) (vx (l1 u_3 (z0 2 _ rfl)) (va (I S.2.2) (wln (W.ret (thr ?_))))));obtain rfl:=si H;have e0:=x.sD 1 [];exact r1 (qq j0 ⟨e0,rfl⟩)
 refine W.skip (nrm (sr (vx (l1 rh ((mm R) 0 _ rfl)) (bn H fun T u0 H=>cl (wV x i u0) ?_))));rintro u1 k0 s1 ⟨f0,rfl⟩;refine va (I T) (wln (W.ret ?_));obtain rfl:=si H;have g0:=f0.sD 1 [];exact r1 (qq k0 ⟨g0,rfl⟩)
def mM (p0:Int) (q0_0:List (Int×Int)) (q1_0:Int):Option (Bool):=
 (idx q0_0 p0).bind fun a=>
 some (decide (a.2≥q1_0))
theorem A2 {d:Nat} {e:Nat} (o:Own c0 G F) (b:Int) (q0_0:List (Int×Int)) (q1_0:Int) {r:Bool} (s:∀j u,([v2]:List Value)[j]? = some u→Im c0 d (0+j) u) (k:Sl rf c0 v2 q0_0) (t:∀j u,([J q1_0]:List Value)[j]? = some u→Im c0 e (0+j) u) (H:mM b q0_0 q1_0=some r): Calls prog 242 #[I b,Q d,Q e] c0.w (aO c0 fun c v=>Own c G (F)∧v=B r):=by
 unfold mM at H;refine en func242 rfl rfl (sr (va (B false) (wln (W.seq (rD [] (Kp G0 []) o ?_)))));intro h q p;have y:Kp G0 [] h:=Kp.nil0;refine tx 0 (fun g a=>l1 uy ((mm s) 0 _ rfl)) (ta 1 (I b) (bn H fun f l H=>?_));obtain ⟨x,i,n⟩:=Sl.at (k.mono q) (bW l);obtain rfl:=i;refine tx 2 (fun g a=>ix uy k.m l) (ta 3 (Qo (sb v2) (so v2+b.toNat * 2+1)) (tx 4 (fun g a=>l1 rh ((mm n) 1 _ rfl)) (tx 5 (fun g a=>l1 rh ((mm t) 0 _ rfl)) (ta 6 (B (decide (f.2≥q1_0))) (ta 7 (B (decide (f.2≥q1_0))) (dn (nrm (W.ret ?_))))))));obtain rfl:=si H;exact r1 (qq h ⟨p,rfl⟩)
def kT:List (Int×Int):=[(169,169),(174,174),(8252,8252),(8265,8265),(8482,8482),(8505,8505),(8596,8601),(8617,8618),(8986,8987),(9000,9000),(9096,9096),(9167,9167),(9193,9203),(9208,9210),(9410,9410),(9642,9643),(9654,9654),(9664,9664),(9723,9726),(9728,9733),(9735,9746),(9748,9861),(9872,9989),(9992,10002),(10004,10004),(10006,10006),(10013,10013),(10017,10017),(10024,10024),(10035,10036),(10052,10052),(10055,10055),(10060,10060),(10062,10062),(10067,10069),(10071,10071),(10083,10087),(10133,10135),(10145,10145),(10160,10160),(10175,10175),(10548,10549),(11013,11015),(11035,11036),(11088,11088),(11093,11093),(12336,12336),(12349,12349),(12951,12951),(12953,12953),(126976,127231),(127245,127247),(127279,127279),(127340,127345),(127358,127359),(127374,127374),(127377,127386),(127405,127461),(127489,127503),(127514,127514),(127535,127535),(127538,127546),(127548,127551),(127561,127994),(128000,128317),(128326,128591),(128640,128767),(128884,128895),(128981,129023),(129036,129039),(129096,129103),(129114,129119),(129160,129167),(129198,129279),(129292,129338),(129340,129349),(129351,129791),(130048,131069)]
def lK:Option (List (Int×Int)):=
 some kT
theorem zk (d:Own c0 G F) {r:List (Int×Int)} (H:lK=some r): Calls prog 241 #[] c0.w (aO c0 fun c v=>∃a b,Own c G (es true rf a 308 b r :: F)∧v=a∧OA rf c a b r):=by
 unfold lK at H;refine en func241 rfl rfl (sr (va (Y) (wln (sr (va (JII 169 169) (va (JII 174 174) (va (JII 8252 8252) (va (JII 8265 8265) (va (JII 8482 8482) (va (JII 8505 8505) (va (JII 8596 8601) (va (JII 8617 8618) (va (JII 8986 8987) (va (JII 9000 9000) (va (JII 9096 9096) (va (JII 9167 9167) (va (JII 9193 9203) (va (JII 9208 9210) (va (JII 9410 9410) (va (JII 9642 9643) (va (JII 9654 9654) (va (JII 9664 9664) (va (JII 9723 9726) (va (JII 9728 9733) (va (JII 9735 9746) (va (JII 9748 9861) (va (JII 9872 9989) (va (JII 9992 10002) (va (JII 10004 10004) (va (JII 10006 10006) (va (JII 10013 10013) (va (JII 10017 10017) (va (JII 10024 10024) (va (JII 10035 10036) (va (JII 10052 10052) (va (JII 10055 10055) (va (JII 10060 10060) (va (JII 10062 10062) (va (JII 10067 10069) (va (JII 10071 10071) (va (JII 10083 10087) (va (JII 10133 10135) (va (JII 10145 10145) (va (JII 10160 10160) (va (JII 10175 10175) (va (JII 10548 10549) (va (JII 11013 11015) (va (JII 11035 11036) (va (JII 11088 11088) (va (JII 11093 11093) (va (JII 12336 12336) (va (JII 12349 12349) (va (JII 12951 12951) (va (JII 12953 12953) (va (JII 126976 127231) (va (JII 127245 127247) (va (JII 127279 127279) (va (JII 127340 127345) (va (JII 127358 127359) (va (JII 127374 127374) (va (JII 127377 127386) (va (JII 127405 127461) (va (JII 127489 127503) (va (JII 127514 127514) (va (JII 127535 127535) (va (JII 127538 127546) (va (JII 127548 127551) (va (JII 127561 127994) (va (JII 128000 128317) (va (JII 128326 128591) (va (JII 128640 128767) (va (JII 128884 128895) (va (JII 128981 129023) (va (JII 129036 129039) (va (JII 129096 129103) (va (JII 129114 129119) (va (JII 129160 129167) (va (JII 129198 129279) (va (JII 129292 129338) (va (JII 129340 129349) (va (JII 129351 129791) (va (JII 130048 131069) (me (Own.sl (R:=rf) (E:=308) (ls:=kT.map (fun x=>[J x.1,J x.2])) (vs:=(kT.map (fun x=>[J x.1,J x.2])).flatten) (xs:=kT) true d (aI _) rfl (rB.map _ (fun _=>rfl) _) (by kernel_rfl) (by kernel_rfl)) ?_)))))))))))))))))))))))))))))))))))))))))))))))))))))))))))))))))))))))))))))))))));rintro v5 f i ⟨h,e,g⟩;refine va (v5) (wln (W.ret ?_));obtain rfl:=si H;exact r1 (qq f ⟨v5,h,e,rfl,g⟩)
def fw (p0:Int) (p1_0_0:List (Int×Int)) (p1_1_0:Int):Option (Int):=
 (cV (σ:=Int×Int) (τ:=Int) ((p0 - 0).toNat+1) (fun a=>
 if (decide (a.1 < a.2))=true then
 (mM (w64 ((IntKind.u64.wrap (w64 (a.1+a.2))).fdiv (2 ^ 1))) p1_0_0 p1_1_0).bind fun b=>
 if (!b)=true then
 some (.inl ((w64 ((w64 ((IntKind.u64.wrap (w64 (a.1+a.2))).fdiv (2 ^ 1)))+1)),a.2))
 else
 some (.inl (a.1,(w64 ((IntKind.u64.wrap (w64 (a.1+a.2))).fdiv (2 ^ 1)))))
 else
 some (.inr (a.1))) (0,p0)).bind fun c=>
 some c
theorem ou {b1_0:Nat} {b1_1:Nat} (A:Own c0 G F) (b:Int) (p1_0_0:List (Int×Int)) (p1_1_0:Int) {r:Int} (N:∀j u,([v2]:List Value)[j]? = some u→Im c0 b1_0 (0+j) u) (M:Sl rf c0 v2 p1_0_0) (P:∀j u,([J p1_1_0]:List Value)[j]? = some u→Im c0 b1_1 (0+j) u) (H:fw b p1_0_0 p1_1_0=some r): Calls prog 238 #[I b,.func (.func 242) #[] #[Q b1_0,Q b1_1]] c0.w (aO c0 fun c v=>Own c G (F)∧v=I r):=by
 unfold fw at H;refine en func238 rfl rfl (sr (va (I 0) (wln (sr (va (I b) (va (I 0) (va (I b) (wln (W.seq (W.block (bn H fun g y k=>lp y (fun a=>Jn c0 fun c l=>Own c G (F)∧l= [(1,.func (.func 242) #[] #[Q b1_0,Q b1_1]),(5,I a.1),(6,I a.2)]) (fun h ex e w=>ex= .exit 0∧(Jn c0 fun c l=>Own c G (F)∧l= [(5,I h)]) e w) ?_ ?_ ?_)))))))))))
 ·clear k y;intro a X q z H;revert q z;rintro E R ⟨D,Z,_,rfl,l7,rfl,o,rfl⟩;refine W.seq (sr (va (I a.1) (va (I a.2) (va (B (decide (a.1 < a.2))) (wln (cn H (fun s H=>?_) (fun s H=>?_)))))))
  ·refine W.skip (nrm (W.block (sr (va (I a.1) (va (I a.2) (va (I (w64 (a.1+a.2))) (va (.int .u64 (IntKind.u64.wrap (w64 (a.1+a.2)))) (va (.int .u64 ((IntKind.u64.wrap (w64 (a.1+a.2))).fdiv (2 ^ 1))) (vv (I (w64 ((IntKind.u64.wrap (w64 (a.1+a.2))).fdiv (2 ^ 1)))) (wln (sr (va (.func (.func 242) #[] #[Q b1_0,Q b1_1]) (va (I (w64 ((IntKind.u64.wrap (w64 (a.1+a.2))).fdiv (2 ^ 1)))) (bn H fun i t H=>cl (A2 o (w64 ((IntKind.u64.wrap (w64 (a.1+a.2))).fdiv (2 ^ 1))) p1_0_0 p1_1_0 (mm N) M.m (mm P) t) ?_))))))))))))));rintro v20 f T ⟨d,rfl⟩;refine va (B (!i)) (wln (cn H (fun x H=>?_) (fun x H=>?_)))
   ·refine W.region (va (I (w64 ((IntKind.u64.wrap (w64 (a.1+a.2))).fdiv (2 ^ 1)))) (vv (I (w64 ((w64 ((IntKind.u64.wrap (w64 (a.1+a.2))).fdiv (2 ^ 1)))+1))) (WL.nil (bkn ?_))));obtain rfl:=si H;exact ⟨_,rfl,jn f ⟨d,rfl⟩⟩
   refine W.region (vv (I (w64 ((IntKind.u64.wrap (w64 (a.1+a.2))).fdiv (2 ^ 1)))) (WL.nil (bkn ?_)));obtain rfl:=si H;exact ⟨_,rfl,jn f ⟨d,rfl⟩⟩
  refine W.exit (thx ?_);obtain rfl:=si H;exact ⟨_,rfl,rfl,jn D ⟨o,rfl⟩⟩
 ·exact jn c0 ⟨A,rfl⟩
 rintro _ E R ⟨rfl,p,S,_,rfl,U,rfl,n,rfl⟩;refine bke (nrm (sr (vv (I g) (wln (W.ret ?_)))));obtain rfl:=si k;exact r1 (qq p ⟨n,rfl⟩)
def oU (p0:Int):Option (Bool):=
 (lK).bind fun a=>
 (fw (a.length:Int) a p0).bind fun b=>
 (bX (decide (b < (a.length:Int))) ((idx a b).bind fun d=>
 some (decide (d.1≤p0)))).bind fun c=>
 some c
theorem D8 (O0:Own c0 G F) (j:Int) {r:Bool} (H:oU j=some r): Calls prog 216 #[J j] c0.w (aO c0 fun c v=>Own c G (F)∧v=B r):=by
 unfold oU at H;refine en func216 rfl rfl (sr (me (bx 21 [J j] O0) ?_));rintro v5 c4 l4 ⟨b1,rfl,O2,m3⟩;refine va (B false) (wln (sr (bn H fun h h6 H=>cl (zk O2 h6) ?_)));rintro v7 u0 a1 ⟨_,u8,D,rfl,s⟩;refine me (al 306 [Y] D) ?_;rintro v19 v0 z ⟨U,rfl,E⟩;obtain ⟨d,e,f,rfl⟩:=((s.mono z)).form;refine md (sC 306 0 (.slice d e f) [.slice d e f] 0 E ⟨s.m.one,trivial⟩) ?_;rintro w0 f0 t;refine wln (sr (vx (le1 0 uy (t.on 0 rfl)) (vx (lnO 3 uy s.m) ?_)));obtain ⟨x0,a0,c1,M,n⟩:=t.frz 1 rfl (s.mono (z.trans f0));refine WL.gh a0 ?_;obtain ⟨y0,b0,g0,N,q⟩:=Own.frzB 0 M rfl;refine WL.gh b0 ?_;have P:=N.sD 2 [1];refine va (.func (.func 242) #[] #[Q U,Q b1]) (bn H fun a d0 H=>cl (ou P (h.length:Int) h j q n.m (mm m3) d0) ?_);rintro v40 X h0 ⟨R,rfl⟩;refine va (I a) (wln (W.seq (bn H fun A x H=>W.join (Jn X fun c l=>Own c G (es false rf (.slice d e f) 308 u8 h :: F)∧l= [(2,B A)]) ?_ ?_)))
 ·clear H;refine rD [] (Kp G0 []) R ?_;intro p i0 u;have e1:Kp G0 [] p:=Kp.nil0;refine ta 0 (I a) (tx 1 (fun i b=>l1 uy ((mm q) 0 _ rfl)) (tx 2 (fun i b=>ln 3 uy n.m) (ta 3 (B (decide (a < (h.length:Int)))) ?_)));rcases bo (decide (a < (h.length:Int))) with g | g
  ·have o:=anT g x;refine bn o fun k y o=>AC.takeb 4 g rfl (by kernel_rfl) (by kernel_rfl) (fun i b=>(by kernel_rfl)) (tx 5 (fun i b=>l1 uy ((mm q) 0 _ rfl)) (ta 6 (I a) ?_));obtain ⟨s0,e0,k0⟩:=Sl.at (n.mono (g0.trans (h0.trans i0))) (bW y);obtain rfl:=e0;refine tx 7 (fun i b=>ix uy n.m y) (ta 8 (Qo (sb (.slice d e f)) (so (.slice d e f)+a.toNat * 2)) (tx 9 (fun i b=>l1 rh ((mm k0) 0 _ rfl)) (tx 10 (fun i b=>l1 rh ((mm m3) 0 _ rfl)) (ta 11 (B (decide (k.1≤j))) ?_))));obtain rfl:=si o;exact ta 12 (B (decide (k.1≤j))) (ta 13 (B (decide (k.1≤j))) (dn (nrm (jn p ⟨u,rfl⟩))))
  obtain rfl:=anF g x;exact AC.takeb 4 g rfl (by kernel_rfl) (by kernel_rfl) (fun i b=>(by kernel_rfl)) (tp 5 (tp 6 (tp 7 (tp 8 (tp 9 (tp 10 (tp 11 (ta 12 (B false) (ta 13 (B false) (dn (nrm (jn p ⟨u,rfl⟩))))))))))))
 rintro e_ w_ ⟨Z,z0,_,rfl,d1,rfl,S,rfl⟩;refine nrm (W.ret ?_);obtain rfl:=si H;have T:=S.sD 1 [];exact r1 (qq Z ⟨T,rfl⟩)
def mQ (p0:Int) (q0_0:List (Int×Int×Int)) (q1_0:Int):Option (Bool):=
 (idx q0_0 p0).bind fun a=>
 some (decide (a.2.1≥(w64 q1_0)))
theorem A8 {d:Nat} {e:Nat} (o:Own c0 G F) (b:Int) (q0_0:List (Int×Int×Int)) (q1_0:Int) {r:Bool} (s:∀j u,([v2]:List Value)[j]? = some u→Im c0 d (0+j) u) (k:Sl gQ c0 v2 q0_0) (t:∀j u,([J q1_0]:List Value)[j]? = some u→Im c0 e (0+j) u) (H:mQ b q0_0 q1_0=some r): Calls prog 244 #[I b,Q d,Q e] c0.w (aO c0 fun c v=>Own c G (F)∧v=B r):=by
 unfold mQ at H;refine en func244 rfl rfl (sr (va (B false) (wln (W.seq (rD [] (Kp G0 []) o ?_)))));intro h q p;have y:Kp G0 [] h:=Kp.nil0;refine tx 0 (fun g a=>l1 gR ((mm s) 0 _ rfl)) (ta 1 (I b) (bn H fun f l H=>?_));obtain ⟨x,i,n⟩:=Sl.at (k.mono q) (bW l);obtain rfl:=i;refine tx 2 (fun g a=>ix gR k.m l) (ta 3 (Qo (sb v2) (so v2+b.toNat * 3+1)) (tx 4 (fun g a=>l1 u_3 ((mm n) 1 _ rfl)) (tx 5 (fun g a=>l1 rh ((mm t) 0 _ rfl)) (ta 6 (I (w64 q1_0)) (ta 7 (B (decide (f.2.1≥(w64 q1_0)))) (ta 8 (B (decide (f.2.1≥(w64 q1_0)))) (dn (nrm (W.ret ?_)))))))));obtain rfl:=si H;exact r1 (qq h ⟨p,rfl⟩)
def kV:List (Int×Int×Int):=[(768,879,3),(1155,1159,3),(1425,1469,3),(1552,1562,3),(1611,1631,3),(2325,2361,1),(2364,2364,3),(2381,2381,2),(2385,2388,3),(2392,2399,1),(2424,2431,1),(2453,2472,1),(2474,2480,1),(2482,2482,1),(2486,2489,1),(2492,2492,3),(2509,2509,2),(2524,2525,1),(2527,2527,1),(2544,2545,1),(2709,2728,1),(2730,2736,1),(2738,2739,1),(2741,2745,1),(2748,2748,3),(2765,2765,2),(2809,2809,1),(2837,2856,1),(2858,2864,1),(2866,2867,1),(2869,2873,1),(2876,2876,3),(2893,2893,2),(2908,2909,1),(2911,2911,1),(2929,2929,1),(3093,3112,1),(3114,3129,1),(3132,3132,3),(3149,3149,2),(3160,3162,1),(3349,3386,1),(3405,3405,2),(6832,6845,3),(7616,7679,3),(8205,8205,3),(8400,8412,3),(12330,12335,3),(12441,12442,3),(65056,65071,3)]
def lR:Option (List (Int×Int×Int)):=
 some kV
theorem zt (d:Own c0 G F) {r:List (Int×Int×Int)} (H:lR=some r): Calls prog 243 #[] c0.w (aO c0 fun c v=>∃a b,Own c G (es true gQ a 305 b r :: F)∧v=a∧OA gQ c a b r):=by
 unfold lR at H;refine en func243 rfl rfl (sr (va (Y) (wln (sr (va (aE 768 879 3) (va (aE 1155 1159 3) (va (aE 1425 1469 3) (va (aE 1552 1562 3) (va (aE 1611 1631 3) (va (aE 2325 2361 1) (va (aE 2364 2364 3) (va (aE 2381 2381 2) (va (aE 2385 2388 3) (va (aE 2392 2399 1) (va (aE 2424 2431 1) (va (aE 2453 2472 1) (va (aE 2474 2480 1) (va (aE 2482 2482 1) (va (aE 2486 2489 1) (va (aE 2492 2492 3) (va (aE 2509 2509 2) (va (aE 2524 2525 1) (va (aE 2527 2527 1) (va (aE 2544 2545 1) (va (aE 2709 2728 1) (va (aE 2730 2736 1) (va (aE 2738 2739 1) (va (aE 2741 2745 1) (va (aE 2748 2748 3) (va (aE 2765 2765 2) (va (aE 2809 2809 1) (va (aE 2837 2856 1) (va (aE 2858 2864 1) (va (aE 2866 2867 1) (va (aE 2869 2873 1) (va (aE 2876 2876 3) (va (aE 2893 2893 2) (va (aE 2908 2909 1) (va (aE 2911 2911 1) (va (aE 2929 2929 1) (va (aE 3093 3112 1) (va (aE 3114 3129 1) (va (aE 3132 3132 3) (va (aE 3149 3149 2) (va (aE 3160 3162 1) (va (aE 3349 3386 1) (va (aE 3405 3405 2) (va (aE 6832 6845 3) (va (aE 7616 7679 3) (va (aE 8205 8205 3) (va (aE 8400 8412 3) (va (aE 12330 12335 3) (va (aE 12441 12442 3) (va (aE 65056 65071 3) (me (Own.sl (R:=gQ) (E:=305) (ls:=kV.map (fun x=>[I x.1,I x.2.1,I x.2.2])) (vs:=(kV.map (fun x=>[I x.1,I x.2.1,I x.2.2])).flatten) (xs:=kV) true d (aI _) rfl (rB.map _ (fun _=>rfl) _) (by kernel_rfl) (by kernel_rfl)) ?_)))))))))))))))))))))))))))))))))))))))))))))))))))))));rintro v5 f i ⟨h,e,g⟩;refine va (v5) (wln (W.ret ?_));obtain rfl:=si H;exact r1 (qq f ⟨v5,h,e,rfl,g⟩)
def fB (p0:Int) (p1_0_0:List (Int×Int×Int)) (p1_1_0:Int):Option (Int):=
 (cV (σ:=Int×Int) (τ:=Int) ((p0 - 0).toNat+1) (fun a=>
 if (decide (a.1 < a.2))=true then
 (mQ (w64 ((IntKind.u64.wrap (w64 (a.1+a.2))).fdiv (2 ^ 1))) p1_0_0 p1_1_0).bind fun b=>
 if (!b)=true then
 some (.inl ((w64 ((w64 ((IntKind.u64.wrap (w64 (a.1+a.2))).fdiv (2 ^ 1)))+1)),a.2))
 else
 some (.inl (a.1,(w64 ((IntKind.u64.wrap (w64 (a.1+a.2))).fdiv (2 ^ 1)))))
 else
 some (.inr (a.1))) (0,p0)).bind fun c=>
 some c
theorem ox {b1_0:Nat} {b1_1:Nat} (A:Own c0 G F) (b:Int) (p1_0_0:List (Int×Int×Int)) (p1_1_0:Int) {r:Int} (N:∀j u,([v2]:List Value)[j]? = some u→Im c0 b1_0 (0+j) u) (M:Sl gQ c0 v2 p1_0_0) (P:∀j u,([J p1_1_0]:List Value)[j]? = some u→Im c0 b1_1 (0+j) u) (H:fB b p1_0_0 p1_1_0=some r): Calls prog 238 #[I b,.func (.func 244) #[] #[Q b1_0,Q b1_1]] c0.w (aO c0 fun c v=>Own c G (F)∧v=I r):=by
 unfold fB at H;refine en func238 rfl rfl (sr (va (I 0) (wln (sr (va (I b) (va (I 0) (va (I b) (wln (W.seq (W.block (bn H fun g y k=>lp y (fun a=>Jn c0 fun c l=>Own c G (F)∧l= [(1,.func (.func 244) #[] #[Q b1_0,Q b1_1]),(5,I a.1),(6,I a.2)]) (fun h ex e w=>ex= .exit 0∧(Jn c0 fun c l=>Own c G (F)∧l= [(5,I h)]) e w) ?_ ?_ ?_)))))))))))
 ·clear k y;intro a X q z H;revert q z;rintro E R ⟨D,Z,_,rfl,l7,rfl,o,rfl⟩;refine W.seq (sr (va (I a.1) (va (I a.2) (va (B (decide (a.1 < a.2))) (wln (cn H (fun s H=>?_) (fun s H=>?_)))))))
  ·refine W.skip (nrm (W.block (sr (va (I a.1) (va (I a.2) (va (I (w64 (a.1+a.2))) (va (.int .u64 (IntKind.u64.wrap (w64 (a.1+a.2)))) (va (.int .u64 ((IntKind.u64.wrap (w64 (a.1+a.2))).fdiv (2 ^ 1))) (vv (I (w64 ((IntKind.u64.wrap (w64 (a.1+a.2))).fdiv (2 ^ 1)))) (wln (sr (va (.func (.func 244) #[] #[Q b1_0,Q b1_1]) (va (I (w64 ((IntKind.u64.wrap (w64 (a.1+a.2))).fdiv (2 ^ 1)))) (bn H fun i t H=>cl (A8 o (w64 ((IntKind.u64.wrap (w64 (a.1+a.2))).fdiv (2 ^ 1))) p1_0_0 p1_1_0 (mm N) M.m (mm P) t) ?_))))))))))))));rintro v20 f T ⟨d,rfl⟩;refine va (B (!i)) (wln (cn H (fun x H=>?_) (fun x H=>?_)))
   ·refine W.region (va (I (w64 ((IntKind.u64.wrap (w64 (a.1+a.2))).fdiv (2 ^ 1)))) (vv (I (w64 ((w64 ((IntKind.u64.wrap (w64 (a.1+a.2))).fdiv (2 ^ 1)))+1))) (WL.nil (bkn ?_))));obtain rfl:=si H;exact ⟨_,rfl,jn f ⟨d,rfl⟩⟩
   refine W.region (vv (I (w64 ((IntKind.u64.wrap (w64 (a.1+a.2))).fdiv (2 ^ 1)))) (WL.nil (bkn ?_)));obtain rfl:=si H;exact ⟨_,rfl,jn f ⟨d,rfl⟩⟩
  refine W.exit (thx ?_);obtain rfl:=si H;exact ⟨_,rfl,rfl,jn D ⟨o,rfl⟩⟩
 ·exact jn c0 ⟨A,rfl⟩
 rintro _ E R ⟨rfl,p,S,_,rfl,U,rfl,n,rfl⟩;refine bke (nrm (sr (vv (I g) (wln (W.ret ?_)))));obtain rfl:=si k;exact r1 (qq p ⟨n,rfl⟩)
def oZ (p0:Int):Option (Int):=
 (lR).bind fun a=>
 (fB (a.length:Int) a p0).bind fun b=>
 (orE (b==(a.length:Int)) ((idx a b).bind fun d=>
 some (decide (d.1 > (w64 p0))))).bind fun c=>
 if c=true then
 some 0
 else
 (idx a b).bind fun e=>
 some e.2.2
theorem Ef (O0:Own c0 G F) (k:Int) {r:Int} (H:oZ k=some r): Calls prog 217 #[J k] c0.w (aO c0 fun c v=>Own c G (F)∧v=I r):=by
 unfold oZ at H;refine en func217 rfl rfl (sr (me (bx 21 [J k] O0) ?_));rintro v5 c4 l4 ⟨b1,rfl,O2,m3⟩;refine va (I 0) (wln (sr (bn H fun i h6 H=>cl (zt O2 h6) ?_)));rintro v7 d1 j1 ⟨_,u8,T,rfl,s⟩;refine me (al 302 [Y] T) ?_;rintro v19 e1 M ⟨y,rfl,U⟩;obtain ⟨b,d,e,rfl⟩:=((s.mono M)).form;refine md (sC 302 0 (.slice b d e) [.slice b d e] 0 U ⟨s.m.one,trivial⟩) ?_;rintro f1 m0 t;refine wln (sr (vx (le1 0 gR (t.on 0 rfl)) (vx (lnO 3 gR s.m) ?_)));obtain ⟨g1,g0,k1,X,g⟩:=t.frz 1 rfl (s.mono (M.trans m0));refine WL.gh g0 ?_;obtain ⟨h1,h0,N,Z,n⟩:=Own.frzB 0 X rfl;refine WL.gh h0 ?_;have a0:=Z.sD 2 [1];refine va (.func (.func 244) #[] #[Q y,Q b1]) (bn H fun a i0 H=>cl (ox a0 (i.length:Int) i k n g.m (mm m3) i0) ?_);rintro v40 f0 P ⟨b0,rfl⟩;refine va (I a) (wln (W.seq (W.seq (bn H fun R A H=>W.join (Jn f0 fun c l=>Own c G (es false gQ (.slice b d e) 305 u8 i :: F)∧l= [(3,Q y),(4,I a),(23,B R)]) ?_ ?_))))
 ·clear H;refine rD [] (Kp G0 []) b0 ?_;intro p o0 u;have m1:Kp G0 [] p:=Kp.nil0;refine ta 0 (I a) (tx 1 (fun j f=>l1 gR ((mm n) 0 _ rfl)) (tx 2 (fun j f=>ln 3 gR g.m) (ta 3 (B (a==(i.length:Int))) ?_)));rcases bo (a==(i.length:Int)) with h | h
  ·obtain rfl:=orT h A;exact AC.takeb 4 h rfl (by kernel_rfl) (by kernel_rfl) (fun j f=>(by kernel_rfl)) (tp 5 (tp 6 (tp 7 (tp 8 (tp 9 (tp 10 (tp 11 (tp 12 (ta 13 (B true) (dn (nrm (jn p ⟨u,rfl⟩))))))))))))
  have o:=orF h A;refine bn o fun q D o=>AC.takeb 4 h rfl (by kernel_rfl) (by kernel_rfl) (fun j f=>(by kernel_rfl)) (tx 5 (fun j f=>l1 gR ((mm n) 0 _ rfl)) (ta 6 (I a) ?_));obtain ⟨z0,j0,t0⟩:=Sl.at (g.mono (N.trans (P.trans o0))) (bW D);obtain rfl:=j0;refine tx 7 (fun j f=>ix gR g.m D) (ta 8 (Qo (sb (.slice b d e)) (so (.slice b d e)+a.toNat * 3)) (tx 9 (fun j f=>l1 u_3 ((mm t0) 0 _ rfl)) (tx 10 (fun j f=>l1 rh ((mm m3) 0 _ rfl)) (ta 11 (I (w64 k)) (ta 12 (B (decide (q.1 > (w64 k)))) ?_)))));obtain rfl:=si o;exact ta 13 (B (decide (q.1 > (w64 k)))) (dn (nrm (jn p ⟨u,rfl⟩)))
 rintro e_ w_ ⟨z,i1,_,rfl,q0,rfl,x,rfl⟩;refine nrm (cn H (fun k0 H=>?_) (fun k0 H=>?_))
 ·refine sr (va (I 0) (wln (W.ret (thr ?_))));obtain rfl:=si H;have d0:=x.sD 1 [];exact r1 (qq z ⟨d0,rfl⟩)
 refine W.skip (nrm (sr (vx (l1 gR ((mm n) 0 _ rfl)) (va (I a) (bn H fun S E H=>?_)))));obtain ⟨a1,l0,u0⟩:=Sl.at (g.mono (N.trans (P.trans q0))) (bW E);obtain rfl:=l0;refine vx (ix gR g.m E) (va (Qo (sb (.slice b d e)) (so (.slice b d e)+a.toNat * 3+2)) (vx (l1 u_3 (u0 2 _ rfl)) (va (I S.2.2) (wln (W.ret ?_)))));obtain rfl:=si H;have e0:=x.sD 1 [];exact r1 (qq z ⟨e0,rfl⟩)
def mP (p0:Int) (q0_0:List (Int×Int×Int)) (q1_0:Int):Option (Bool):=
 (idx q0_0 p0).bind fun a=>
 some (decide (a.2.1≥(w64 q1_0)))
theorem A6 {d:Nat} {e:Nat} (o:Own c0 G F) (b:Int) (q0_0:List (Int×Int×Int)) (q1_0:Int) {r:Bool} (s:∀j u,([v2]:List Value)[j]? = some u→Im c0 d (0+j) u) (k:Sl gQ c0 v2 q0_0) (t:∀j u,([J q1_0]:List Value)[j]? = some u→Im c0 e (0+j) u) (H:mP b q0_0 q1_0=some r): Calls prog 246 #[I b,Q d,Q e] c0.w (aO c0 fun c v=>Own c G (F)∧v=B r):=by
 unfold mP at H;refine en func246 rfl rfl (sr (va (B false) (wln (W.seq (rD [] (Kp G0 []) o ?_)))));intro h q p;have y:Kp G0 [] h:=Kp.nil0;refine tx 0 (fun g a=>l1 gR ((mm s) 0 _ rfl)) (ta 1 (I b) (bn H fun f l H=>?_));obtain ⟨x,i,n⟩:=Sl.at (k.mono q) (bW l);obtain rfl:=i;refine tx 2 (fun g a=>ix gR k.m l) (ta 3 (Qo (sb v2) (so v2+b.toNat * 3+1)) (tx 4 (fun g a=>l1 u_3 ((mm n) 1 _ rfl)) (tx 5 (fun g a=>l1 rh ((mm t) 0 _ rfl)) (ta 6 (I (w64 q1_0)) (ta 7 (B (decide (f.2.1≥(w64 q1_0)))) (ta 8 (B (decide (f.2.1≥(w64 q1_0)))) (dn (nrm (W.ret ?_)))))))));obtain rfl:=si H;exact r1 (qq h ⟨p,rfl⟩)
def kr:List (Int×Int×Int):=[(4352,4447,1),(8361,8361,3),(8986,8987,1),(9001,9002,1),(9193,9196,1),(9200,9200,1),(9203,9203,1),(9725,9726,1),(9748,9749,1),(9800,9811,1),(9855,9855,1),(9875,9875,1),(9889,9889,1),(9898,9899,1),(9917,9918,1),(9924,9925,1),(9934,9934,1),(9940,9940,1),(9962,9962,1),(9970,9971,1),(9973,9973,1),(9978,9978,1),(9981,9981,1),(9989,9989,1),(9994,9995,1),(10024,10024,1),(10060,10060,1),(10062,10062,1),(10067,10069,1),(10071,10071,1),(10133,10135,1),(10160,10160,1),(10175,10175,1),(11035,11036,1),(11088,11088,1),(11093,11093,1),(11904,11929,1),(11931,12019,1),(12032,12245,1),(12272,12287,1),(12288,12288,2),(12289,12350,1),(12353,12438,1),(12441,12543,1),(12549,12591,1),(12593,12686,1),(12688,12771,1),(12784,12830,1),(12832,12871,1),(12880,19903,1),(19968,42124,1),(42128,42182,1),(43360,43388,1),(44032,55203,1),(63744,64255,1),(65040,65049,1),(65072,65106,1),(65108,65126,1),(65128,65131,1),(65281,65376,2),(65377,65470,3),(65474,65479,3),(65482,65487,3),(65490,65495,3),(65498,65500,3),(65504,65510,2),(65512,65518,3),(94176,94180,1),(94208,100343,1),(100352,101589,1),(110592,110882,1),(126980,126980,1),(127183,127183,1),(127374,127374,1),(127377,127386,1),(127488,127490,1),(127504,127547,1),(127552,127560,1),(127568,127569,1),(127584,127589,1),(127744,127776,1),(127789,127797,1),(127799,127868,1),(127870,127891,1),(127904,127946,1),(127951,127955,1),(127968,127984,1),(127988,127988,1),(127992,128062,1),(128064,128064,1),(128066,128252,1),(128255,128317,1),(128331,128334,1),(128336,128359,1),(128378,128378,1),(128405,128406,1),(128420,128420,1),(128507,128591,1),(128640,128709,1),(128716,128716,1),(128720,128722,1),(128725,128727,1),(128732,128735,1),(128747,128748,1),(128756,128764,1),(128992,129003,1),(129008,129008,1),(129292,129338,1),(129340,129349,1),(129351,129535,1),(129648,129660,1),(129664,129672,1),(129680,129725,1),(129727,129733,1),(129742,129755,1),(129760,129768,1),(129776,129784,1),(131072,196605,1),(196608,262141,1)]
def lQ:Option (List (Int×Int×Int)):=
 some kr
theorem zr (d:Own c0 G F) {r:List (Int×Int×Int)} (H:lQ=some r): Calls prog 245 #[] c0.w (aO c0 fun c v=>∃a b,Own c G (es true gQ a 305 b r :: F)∧v=a∧OA gQ c a b r):=by
 unfold lQ at H;refine en func245 rfl rfl (sr (va (Y) (wln (sr (va (aE 4352 4447 1) (va (aE 8361 8361 3) (va (aE 8986 8987 1) (va (aE 9001 9002 1) (va (aE 9193 9196 1) (va (aE 9200 9200 1) (va (aE 9203 9203 1) (va (aE 9725 9726 1) (va (aE 9748 9749 1) (va (aE 9800 9811 1) (va (aE 9855 9855 1) (va (aE 9875 9875 1) (va (aE 9889 9889 1) (va (aE 9898 9899 1) (va (aE 9917 9918 1) (va (aE 9924 9925 1) (va (aE 9934 9934 1) (va (aE 9940 9940 1) (va (aE 9962 9962 1) (va (aE 9970 9971 1) (va (aE 9973 9973 1) (va (aE 9978 9978 1) (va (aE 9981 9981 1) (va (aE 9989 9989 1) (va (aE 9994 9995 1) (va (aE 10024 10024 1) (va (aE 10060 10060 1) (va (aE 10062 10062 1) (va (aE 10067 10069 1) (va (aE 10071 10071 1) (va (aE 10133 10135 1) (va (aE 10160 10160 1) (va (aE 10175 10175 1) (va (aE 11035 11036 1) (va (aE 11088 11088 1) (va (aE 11093 11093 1) (va (aE 11904 11929 1) (va (aE 11931 12019 1) (va (aE 12032 12245 1) (va (aE 12272 12287 1) (va (aE 12288 12288 2) (va (aE 12289 12350 1) (va (aE 12353 12438 1) (va (aE 12441 12543 1) (va (aE 12549 12591 1) (va (aE 12593 12686 1) (va (aE 12688 12771 1) (va (aE 12784 12830 1) (va (aE 12832 12871 1) (va (aE 12880 19903 1) (va (aE 19968 42124 1) (va (aE 42128 42182 1) (va (aE 43360 43388 1) (va (aE 44032 55203 1) (va (aE 63744 64255 1) (va (aE 65040 65049 1) (va (aE 65072 65106 1) (va (aE 65108 65126 1) (va (aE 65128 65131 1) (va (aE 65281 65376 2) (va (aE 65377 65470 3) (va (aE 65474 65479 3) (va (aE 65482 65487 3) (va (aE 65490 65495 3) (va (aE 65498 65500 3) (va (aE 65504 65510 2) (va (aE 65512 65518 3) (va (aE 94176 94180 1) (va (aE 94208 100343 1) (va (aE 100352 101589 1) (va (aE 110592 110882 1) (va (aE 126980 126980 1) (va (aE 127183 127183 1) (va (aE 127374 127374 1) (va (aE 127377 127386 1) (va (aE 127488 127490 1) (va (aE 127504 127547 1) (va (aE 127552 127560 1) (va (aE 127568 127569 1) (va (aE 127584 127589 1) (va (aE 127744 127776 1) (va (aE 127789 127797 1) (va (aE 127799 127868 1) (va (aE 127870 127891 1) (va (aE 127904 127946 1) (va (aE 127951 127955 1) (va (aE 127968 127984 1) (va (aE 127988 127988 1) (va (aE 127992 128062 1) (va (aE 128064 128064 1) (va (aE 128066 128252 1) (va (aE 128255 128317 1) (va (aE 128331 128334 1) (va (aE 128336 128359 1) (va (aE 128378 128378 1) (va (aE 128405 128406 1) (va (aE 128420 128420 1) (va (aE 128507 128591 1) (va (aE 128640 128709 1) (va (aE 128716 128716 1) (va (aE 128720 128722 1) (va (aE 128725 128727 1) (va (aE 128732 128735 1) (va (aE 128747 128748 1) (va (aE 128756 128764 1) (va (aE 128992 129003 1) (va (aE 129008 129008 1) (va (aE 129292 129338 1) (va (aE 129340 129349 1) (va (aE 129351 129535 1) (va (aE 129648 129660 1) (va (aE 129664 129672 1) (va (aE 129680 129725 1) (va (aE 129727 129733 1) (va (aE 129742 129755 1) (va (aE 129760 129768 1) (va (aE 129776 129784 1) (va (aE 131072 196605 1) (va (aE 196608 262141 1) (me (Own.sl (R:=gQ) (E:=305) (ls:=kr.map (fun x=>[I x.1,I x.2.1,I x.2.2])) (vs:=(kr.map (fun x=>[I x.1,I x.2.1,I x.2.2])).flatten) (xs:=kr) true d (aI _) rfl (rB.map _ (fun _=>rfl) _) (by kernel_rfl) (by kernel_rfl)) ?_))))))))))))))))))))))))))))))))))))))))))))))))))))))))))))))))))))))))))))))))))))))))))))))))))))))))))))))))))))))))))));rintro v5 f i ⟨h,e,g⟩;refine va (v5) (wln (W.ret ?_));obtain rfl:=si H;exact r1 (qq f ⟨v5,h,e,rfl,g⟩)
def fA (p0:Int) (p1_0_0:List (Int×Int×Int)) (p1_1_0:Int):Option (Int):=
 (cV (σ:=Int×Int) (τ:=Int) ((p0 - 0).toNat+1) (fun a=>
 if (decide (a.1 < a.2))=true then
 (mP (w64 ((IntKind.u64.wrap (w64 (a.1+a.2))).fdiv (2 ^ 1))) p1_0_0 p1_1_0).bind fun b=>
 if (!b)=true then
 some (.inl ((w64 ((w64 ((IntKind.u64.wrap (w64 (a.1+a.2))).fdiv (2 ^ 1)))+1)),a.2))
 else
 some (.inl (a.1,(w64 ((IntKind.u64.wrap (w64 (a.1+a.2))).fdiv (2 ^ 1)))))
 else
 some (.inr (a.1))) (0,p0)).bind fun c=>
 some c
theorem ow {b1_0:Nat} {b1_1:Nat} (A:Own c0 G F) (b:Int) (p1_0_0:List (Int×Int×Int)) (p1_1_0:Int) {r:Int} (N:∀j u,([v2]:List Value)[j]? = some u→Im c0 b1_0 (0+j) u) (M:Sl gQ c0 v2 p1_0_0) (P:∀j u,([J p1_1_0]:List Value)[j]? = some u→Im c0 b1_1 (0+j) u) (H:fA b p1_0_0 p1_1_0=some r): Calls prog 238 #[I b,.func (.func 246) #[] #[Q b1_0,Q b1_1]] c0.w (aO c0 fun c v=>Own c G (F)∧v=I r):=by
 unfold fA at H;refine en func238 rfl rfl (sr (va (I 0) (wln (sr (va (I b) (va (I 0) (va (I b) (wln (W.seq (W.block (bn H fun g y k=>lp y (fun a=>Jn c0 fun c l=>Own c G (F)∧l= [(1,.func (.func 246) #[] #[Q b1_0,Q b1_1]),(5,I a.1),(6,I a.2)]) (fun h ex e w=>ex= .exit 0∧(Jn c0 fun c l=>Own c G (F)∧l= [(5,I h)]) e w) ?_ ?_ ?_)))))))))))
 ·clear k y;intro a X q z H;revert q z;rintro E R ⟨D,Z,_,rfl,l7,rfl,o,rfl⟩;refine W.seq (sr (va (I a.1) (va (I a.2) (va (B (decide (a.1 < a.2))) (wln (cn H (fun s H=>?_) (fun s H=>?_)))))))
  ·refine W.skip (nrm (W.block (sr (va (I a.1) (va (I a.2) (va (I (w64 (a.1+a.2))) (va (.int .u64 (IntKind.u64.wrap (w64 (a.1+a.2)))) (va (.int .u64 ((IntKind.u64.wrap (w64 (a.1+a.2))).fdiv (2 ^ 1))) (vv (I (w64 ((IntKind.u64.wrap (w64 (a.1+a.2))).fdiv (2 ^ 1)))) (wln (sr (va (.func (.func 246) #[] #[Q b1_0,Q b1_1]) (va (I (w64 ((IntKind.u64.wrap (w64 (a.1+a.2))).fdiv (2 ^ 1)))) (bn H fun i t H=>cl (A6 o (w64 ((IntKind.u64.wrap (w64 (a.1+a.2))).fdiv (2 ^ 1))) p1_0_0 p1_1_0 (mm N) M.m (mm P) t) ?_))))))))))))));rintro v20 f T ⟨d,rfl⟩;refine va (B (!i)) (wln (cn H (fun x H=>?_) (fun x H=>?_)))
   ·refine W.region (va (I (w64 ((IntKind.u64.wrap (w64 (a.1+a.2))).fdiv (2 ^ 1)))) (vv (I (w64 ((w64 ((IntKind.u64.wrap (w64 (a.1+a.2))).fdiv (2 ^ 1)))+1))) (WL.nil (bkn ?_))));obtain rfl:=si H;exact ⟨_,rfl,jn f ⟨d,rfl⟩⟩
   refine W.region (vv (I (w64 ((IntKind.u64.wrap (w64 (a.1+a.2))).fdiv (2 ^ 1)))) (WL.nil (bkn ?_)));obtain rfl:=si H;exact ⟨_,rfl,jn f ⟨d,rfl⟩⟩
  refine W.exit (thx ?_);obtain rfl:=si H;exact ⟨_,rfl,rfl,jn D ⟨o,rfl⟩⟩
 ·exact jn c0 ⟨A,rfl⟩
 rintro _ E R ⟨rfl,p,S,_,rfl,U,rfl,n,rfl⟩;refine bke (nrm (sr (vv (I g) (wln (W.ret ?_)))));obtain rfl:=si k;exact r1 (qq p ⟨n,rfl⟩)
def oX (p0:Int):Option (Int):=
 (lQ).bind fun a=>
 (fA (a.length:Int) a p0).bind fun b=>
 (orE (b==(a.length:Int)) ((idx a b).bind fun d=>
 some (decide (d.1 > (w64 p0))))).bind fun c=>
 if c=true then
 some 0
 else
 (idx a b).bind fun e=>
 some e.2.2
theorem Ed (O0:Own c0 G F) (k:Int) {r:Int} (H:oX k=some r): Calls prog 218 #[J k] c0.w (aO c0 fun c v=>Own c G (F)∧v=I r):=by
 unfold oX at H;refine en func218 rfl rfl (sr (me (bx 21 [J k] O0) ?_));rintro v5 c4 l4 ⟨b1,rfl,O2,m3⟩;refine va (I 0) (wln (sr (bn H fun i h6 H=>cl (zr O2 h6) ?_)));rintro v7 d1 j1 ⟨_,u8,T,rfl,s⟩;refine me (al 302 [Y] T) ?_;rintro v19 e1 M ⟨y,rfl,U⟩;obtain ⟨b,d,e,rfl⟩:=((s.mono M)).form;refine md (sC 302 0 (.slice b d e) [.slice b d e] 0 U ⟨s.m.one,trivial⟩) ?_;rintro f1 m0 t;refine wln (sr (vx (le1 0 gR (t.on 0 rfl)) (vx (lnO 3 gR s.m) ?_)));obtain ⟨g1,g0,k1,X,g⟩:=t.frz 1 rfl (s.mono (M.trans m0));refine WL.gh g0 ?_;obtain ⟨h1,h0,N,Z,n⟩:=Own.frzB 0 X rfl;refine WL.gh h0 ?_;have a0:=Z.sD 2 [1];refine va (.func (.func 246) #[] #[Q y,Q b1]) (bn H fun a i0 H=>cl (ow a0 (i.length:Int) i k n g.m (mm m3) i0) ?_);rintro v40 f0 P ⟨b0,rfl⟩;refine va (I a) (wln (W.seq (W.seq (bn H fun R A H=>W.join (Jn f0 fun c l=>Own c G (es false gQ (.slice b d e) 305 u8 i :: F)∧l= [(3,Q y),(4,I a),(23,B R)]) ?_ ?_))))
 ·clear H;refine rD [] (Kp G0 []) b0 ?_;intro p o0 u;have m1:Kp G0 [] p:=Kp.nil0;refine ta 0 (I a) (tx 1 (fun j f=>l1 gR ((mm n) 0 _ rfl)) (tx 2 (fun j f=>ln 3 gR g.m) (ta 3 (B (a==(i.length:Int))) ?_)));rcases bo (a==(i.length:Int)) with h | h
  ·obtain rfl:=orT h A;exact AC.takeb 4 h rfl (by kernel_rfl) (by kernel_rfl) (fun j f=>(by kernel_rfl)) (tp 5 (tp 6 (tp 7 (tp 8 (tp 9 (tp 10 (tp 11 (tp 12 (ta 13 (B true) (dn (nrm (jn p ⟨u,rfl⟩))))))))))))
  have o:=orF h A;refine bn o fun q D o=>AC.takeb 4 h rfl (by kernel_rfl) (by kernel_rfl) (fun j f=>(by kernel_rfl)) (tx 5 (fun j f=>l1 gR ((mm n) 0 _ rfl)) (ta 6 (I a) ?_));obtain ⟨z0,j0,t0⟩:=Sl.at (g.mono (N.trans (P.trans o0))) (bW D);obtain rfl:=j0;refine tx 7 (fun j f=>ix gR g.m D) (ta 8 (Qo (sb (.slice b d e)) (so (.slice b d e)+a.toNat * 3)) (tx 9 (fun j f=>l1 u_3 ((mm t0) 0 _ rfl)) (tx 10 (fun j f=>l1 rh ((mm m3) 0 _ rfl)) (ta 11 (I (w64 k)) (ta 12 (B (decide (q.1 > (w64 k)))) ?_)))));obtain rfl:=si o;exact ta 13 (B (decide (q.1 > (w64 k)))) (dn (nrm (jn p ⟨u,rfl⟩)))
 rintro e_ w_ ⟨z,i1,_,rfl,q0,rfl,x,rfl⟩;refine nrm (cn H (fun k0 H=>?_) (fun k0 H=>?_))
 ·refine sr (va (I 0) (wln (W.ret (thr ?_))));obtain rfl:=si H;have d0:=x.sD 1 [];exact r1 (qq z ⟨d0,rfl⟩)
 refine W.skip (nrm (sr (vx (l1 gR ((mm n) 0 _ rfl)) (va (I a) (bn H fun S E H=>?_)))));obtain ⟨a1,l0,u0⟩:=Sl.at (g.mono (N.trans (P.trans q0))) (bW E);obtain rfl:=l0;refine vx (ix gR g.m E) (va (Qo (sb (.slice b d e)) (so (.slice b d e)+a.toNat * 3+2)) (vx (l1 u_3 (u0 2 _ rfl)) (va (I S.2.2) (wln (W.ret ?_)))));obtain rfl:=si H;have e0:=x.sD 1 [];exact r1 (qq z ⟨e0,rfl⟩)
def qw (p0:Int):Option (aP):=
 (qy p0).bind fun b=>
 (oU p0).bind fun c=>
 (oZ p0).bind fun d=>
 (oX p0).bind fun a=>
 some (⟨b,c,d,a⟩:aP)
theorem Gq (p:Own c0 G F) (a:Int) {r:aP} (H:qw a=some r): Calls prog 178 #[J a] c0.w (aO c0 fun c v=>Own c G (F)∧v= .agg #[I r.Break,B r.Pict,I r.Conj,I r.East]):=by
 unfold qw at H;refine en func178 rfl rfl (sr (me (al 244 [I 0,B false,I 0,I 0] p) ?_));rintro v4 R S ⟨P,rfl,q⟩;refine wln (sr (va (J a) (bn H fun d t H=>cl (Gt q a t) ?_)));rintro v11 u A ⟨s,rfl⟩;refine va (J a) (bn H fun e m H=>cl (D8 s a m) ?_);rintro v18 x D ⟨i,rfl⟩;refine va (J a) (bn H fun f n H=>cl (Ef i a n) ?_);rintro v25 y E ⟨j,rfl⟩;refine va (J a) (bn H fun b o H=>cl (Ed j a o) ?_);rintro v32 z M ⟨k,rfl⟩;refine va (.agg #[I d,B e,I f,I b]) (md (sA 244 [I d,B e,I f,I b] 0 k ⟨rfl,rfl,rfl,rfl,trivial⟩) ?_);rintro h N g;refine wln (W.ret ?_);obtain rfl:=si H;have l:=g.sD 1 [];exact uV (c:=h) (vs:=[I d,B e,I f,I b]) rfl (by kernel_rfl) (by kernel_rfl) (by kernel_rfl) (g.on 0 rfl _ rfl).1 ⟨_,h,rfl,rfl,pt,l,rfl⟩
def nG (sg:Sto) (p0:Option Nat):Option (Sto×(Option Nat)):=
 (orE p0.isNone ((p0).bind fun d=>
 (sg.place_Pen[d]?).bind fun b=>
 some b.G.isNone)).bind fun c=>
 if c=true then
 some (sg,(none:Option Nat))
 else
 (some (sg.add_feed_Feeder (⟨p0,(⟨0,0,0,0,0⟩:bv),(⟨false,0,0,0,false⟩:cD),(none:Option Nat)⟩:bw))).bind fun a=>
 some (a,(some sg.feed_Feeder.length))
theorem B4 (t:Own c0 G F) (u:Rel c0 sg G) (k:Option Nat) {r:Sto×(Option Nat)} (n:Pt 2 c0 v1 k) (H:nG sg k=some r): Calls prog 12 #[v1] c0.w (aO c0 fun c v=>∃y1,∃G_:Gm,Own c G_ (F)∧Rel c r.1 G_∧dY G G_∧v=y1∧Pt 4 c y1 r.2):=by
 unfold nG at H;refine en func12 rfl rfl (sr (va (.pointer none) (wln (W.seq (W.seq (bn H fun T h3 H=>W.join (Jn c0 fun c l=>Own c G (F)∧l= [(0,v1),(11,B T)]) ?_ ?_))))))
 ·clear H;refine W.region (va (v1) (vr (B k.isNone) (by rcases (n).cs with ⟨d,e⟩ | ⟨b_,d,e⟩ <;> (subst d; rw [e]; kernel_rfl)) ?_));rcases bo (k.isNone) with h | h
  ·obtain rfl:=orT h h3;exact vb h (pz (pz (ps (va (B true) (wln (jn c0 ⟨t,rfl⟩))))))
  have g:=orF h h3;refine vb h (wa (v1) (wn (bn g fun t0 h8 g=>?_)));obtain ⟨R,rfl,h7⟩:=(n).get h8;refine va (Q R) (wa (Q R) (wn (bn g fun j h9 g=>?_)));obtain ⟨v10,X,U⟩:=Rel.open_place_Pen u h9 h7;refine vx (le1 0 iZ (t.gon X 0 rfl)) (wn (vr (B j.G.isNone) (by rcases (U).cs with ⟨d,e⟩ | ⟨b_,d,e⟩ <;> (subst d; rw [e]; kernel_rfl)) ?_));obtain rfl:=si g;exact va (B j.G.isNone) (wln (jn c0 ⟨t,rfl⟩))
 rintro e_ w_ ⟨S,o0,_,rfl,i,rfl,o,rfl⟩;refine nrm (cn H (fun Z H=>?_) (fun Z H=>?_))
 ·refine sr (va (.pointer none) (wln (W.ret (thr ?_))));obtain rfl:=si H;exact r1 (qq S ⟨(.pointer none),G,o,u.m,(dY.refl _),rfl,rfl⟩)
 refine W.skip (nrm (sr (va (v1) ?_)));obtain ⟨f,rfl⟩:=((n.mono i)).form;refine va (.agg #[.pointer f,I 0,I 0,.int .u8 0,.int .u8 0,I 0,B false,I 0,I 0,I 0,B false,.pointer none]) (me (al 64 [.pointer f,I 0,I 0,.int .u8 0,.int .u8 0,I 0,B false,I 0,I 0,I 0,B false,.pointer none] o) ?_);rintro v24 m0 s ⟨a,rfl,A⟩;have D:=A.sD 1 [0];refine bn H fun y a0 H=>?_;obtain ⟨q,z,b0,u0,d0,M,p,q0,f0,N⟩:=Rel.new_feed_Feeder (E:=[(Eb a 64 [.pointer f,I 0,I 0,.int .u8 0,.int .u8 0,I 0,B false,I 0,I 0,I 0,B false,.pointer none])]) (F:=F) (x:=(⟨k,(⟨0,0,0,0,0⟩:bv),(⟨false,0,0,0,false⟩:cD),(none:Option Nat)⟩:bw)) (b:=a) D (u.mono (i.trans s)) (fun c_ hle_=>⟨a,(.pointer f),(.pointer none),rfl,rfl,(n.mono ((i.trans s).trans hle_)),rfl⟩);rw [aH a0] at p;refine WL.gh b0.1 ?_;have s0:=dY.nil (dY.refl _) f0;have P:=(dY.refl _).trans N;have g0:Pt 4 q (Q a) (some sg.feed_Feeder.length):=⟨a,rfl,d0⟩;refine va (Q a) (wln (W.ret ?_));obtain rfl:=si H;exact r1 (qq q ⟨(Q a),z,M,p,P,rfl,g0⟩)
def iC (p0:Int):Option (Int):=
 (orE (decide (p0 < 0)) (some (decide (p0 > 13)))).bind fun a=>
 if a=true then
 some 0
 else
 some p0
theorem rO (d:Own c0 G F) (a:Int) {r:Int} (H:iC a=some r): Calls prog 263 #[I a] c0.w (aO c0 fun c v=>Own c G (F)∧v=I r):=by
 unfold iC at H;refine en func263 rfl rfl (sr (va (I 0) (wln (W.seq (W.seq (bn H fun g h H=>W.join (Jn c0 fun c l=>Own c G (F)∧l= [(0,I a),(8,B g)]) ?_ ?_))))))
 ·clear H;refine W.region (va (I a) (va (B (decide (a < 0))) ?_));rcases bo (decide (a < 0)) with b | b
  ·obtain rfl:=orT b h;exact vb b (pz (va (B true) (wln (jn c0 ⟨d,rfl⟩))))
  have j:=orF b h;refine vb b (wa (I a) (wa (B (decide (a > 13))) ?_));obtain rfl:=si j;exact va (B (decide (a > 13))) (wln (jn c0 ⟨d,rfl⟩))
 rintro k o ⟨f,m,_,rfl,n,rfl,e,rfl⟩;refine nrm (cn H (fun i H=>?_) (fun i H=>?_))
 ·refine sr (va (I 0) (wln (W.ret (thr ?_))));obtain rfl:=si H;exact r1 (qq f ⟨e,rfl⟩)
 refine W.skip (nrm (sr (vv (I a) (wln (W.ret ?_)))));obtain rfl:=si H;exact r1 (qq f ⟨e,rfl⟩)
def lL (p0:Int):Option (Bool):=
 if (p0==1)=true then
 some true
 else
 if (p0==2)=true then
 some true
 else
 if (p0==3)=true then
 some true
 else
 some false
theorem qK (b:Own c0 G F) (a:Int) {r:Bool} (H:lL a=some r): Calls prog 264 #[I a] c0.w (aO c0 fun c v=>Own c G (F)∧v=B r):=by
 unfold lL at H;refine en func264 rfl rfl (sr (va (B false) (wln (W.seq (sr (va (I a) (wln (W.block (W.seq (W.block (W.block (W.block (W.seq (W.seq (sr (vv (B (a==1)) (wln (cn H (fun d H=>?_) (fun d H=>?_)))))))))))))))))))
 ·refine W.exit (thx (thx (bke (bkn (bkn (nrm (W.seq (sr (va (B true) (wln (W.ret (thr (bkr (thr ?_))))))))))))));obtain rfl:=si H;exact r1 (qq c0 ⟨b,rfl⟩)
 refine W.skip (nrm (W.seq (sr (vv (B (a==2)) (wln (cn H (fun e H=>?_) (fun e H=>?_)))))))
 ·refine W.exit (thx (thx (bko rfl (bke (bkn (nrm (W.seq (sr (va (B true) (wln (W.ret (thr (bkr (thr ?_))))))))))))));obtain rfl:=si H;exact r1 (qq c0 ⟨b,rfl⟩)
 refine W.skip (nrm (sr (vv (B (a==3)) (wln (cn H (fun f H=>?_) (fun f H=>?_))))))
 ·refine W.exit (thx (bko rfl (bko rfl (bke (nrm (W.seq (sr (va (B true) (wln (W.ret (thr (bkr (thr ?_)))))))))))));obtain rfl:=si H;exact r1 (qq c0 ⟨b,rfl⟩)
 refine W.skip (nrm (W.exit (bko rfl (bko rfl (bko rfl (thx (bke (nrm (sr (va (B false) (wln (W.ret ?_))))))))))));obtain rfl:=si H;exact r1 (qq c0 ⟨b,rfl⟩)
def mw (p0:Int) (p1:Int):Option (Bool):=
 if (p0==9)=true then
 (orE (p1==9) (some (p1==10))).bind fun a=>
 (orE a (some (p1==12))).bind fun b=>
 (orE b (some (p1==13))).bind fun c=>
 some c
 else
 (if (p0==12)=true then
 some (p0==12)
 else
 some (p0==10)).bind fun e=>
 if e=true then
 (orE (p1==10) (some (p1==11))).bind fun d=>
 some d
 else
 (if (p0==13)=true then
 some (p0==13)
 else
 some (p0==11)).bind fun f=>
 if f=true then
 some (p1==11)
 else
 some false
theorem un (m:Own c0 G F) (b:Int) (a:Int) {r:Bool} (H:mw b a=some r): Calls prog 265 #[I b,I a] c0.w (aO c0 fun c v=>Own c G (F)∧v=B r):=by
 unfold mw at H;refine en func265 rfl rfl (sr (va (B false) (wln (W.seq (sr (va (I b) (wln (W.block (sr (vv (B (b==9)) (wln (cn H (fun h1 H=>?_) (fun h1 H=>?_)))))))))))))
 ·refine W.seq (bn H fun i0 Z H=>bn H fun j0 A H=>bn H fun x p H=>W.join (Jn c0 fun c l=>Own c G (F)∧l= [(4,B x)]) ?_ ?_)
  ·clear H;refine W.region (va (I a) (va (B (a==9)) ?_));rcases bo (a==9) with n | n
   ·obtain rfl:=orT n Z;refine vb n (pz (va (B true) ?_));have h6:true=true:=rfl;obtain rfl:=orT h6 A;refine vb h6 (pz (va (B true) ?_));have h7:true=true:=rfl;obtain rfl:=orT h7 p;exact vb h7 (pz (vv (B true) (wln (jn c0 ⟨m,rfl⟩))))
   have H8:=orF n Z;refine vb n (wa (I a) (wa (B (a==10)) ?_));obtain rfl:=si H8;refine va (B (a==10)) ?_;rcases bo (a==10) with o | o
   ·obtain rfl:=orT o A;refine vb o (pz (va (B true) ?_));have t:true=true:=rfl;obtain rfl:=orT t p;exact vb t (pz (vv (B true) (wln (jn c0 ⟨m,rfl⟩))))
   have N:=orF o A;refine vb o (wa (I a) (wa (B (a==12)) ?_));obtain rfl:=si N;refine va (B (a==12)) ?_;rcases bo (a==12) with i | i
   ·obtain rfl:=orT i p;exact vb i (pz (vv (B true) (wln (jn c0 ⟨m,rfl⟩))))
   have P:=orF i p;refine vb i (wa (I a) (wa (B (a==13)) ?_));obtain rfl:=si P;exact vv (B (a==13)) (wln (jn c0 ⟨m,rfl⟩))
  rintro z D ⟨U,l0,_,rfl,s0,rfl,S,rfl⟩;refine nrm (W.ret (bkr (thr ?_)));obtain rfl:=si H;exact r1 (qq U ⟨S,rfl⟩)
 refine bn H fun E f d=>W.seqJ (Jn c0 fun c l=>Own c G (F)∧l= [(1,I a),(5,I b),(22,B E)]) ?_ ?_
 ·refine sr (vv (B (b==12)) (wln (cn f (fun a0 f=>?_) (fun a0 f=>?_))))
  ·refine W.skip (nrm ?_);obtain rfl:=si f;exact jn c0 ⟨m,rfl⟩
  refine W.region (vv (B (b==10)) (wln ?_));obtain rfl:=si f;exact jn c0 ⟨m,rfl⟩
 rintro z D ⟨e,m0,_,rfl,t0,rfl,k,rfl⟩;refine cn d (fun b0 d=>?_) (fun b0 d=>?_)
 ·refine W.seq (bn d fun y u d=>W.join (Jn e fun c l=>Own c G (F)∧l= [(4,B y)]) ?_ ?_)
  ·clear d;refine W.region (va (I a) (va (B (a==10)) ?_));rcases bo (a==10) with j | j
   ·obtain rfl:=orT j u;exact vb j (pz (vv (B true) (wln (jn e ⟨k,rfl⟩))))
   have R:=orF j u;refine vb j (wa (I a) (wa (B (a==11)) ?_));obtain rfl:=si R;exact vv (B (a==11)) (wln (jn e ⟨k,rfl⟩))
  rintro z D ⟨X,o0,_,rfl,u0,rfl,T,rfl⟩;refine nrm (W.ret (bkr (thr ?_)));obtain rfl:=si d;exact r1 (qq X ⟨T,rfl⟩)
 refine bn d fun M g h=>W.seqJ (Jn e fun c l=>Own c G (F)∧l= [(1,I a),(31,B M)]) ?_ ?_
 ·refine sr (vv (B (b==13)) (wln (cn g (fun d0 g=>?_) (fun d0 g=>?_))))
  ·refine W.skip (nrm ?_);obtain rfl:=si g;exact jn e ⟨k,rfl⟩
  refine W.region (vv (B (b==11)) (wln ?_));obtain rfl:=si g;exact jn e ⟨k,rfl⟩
 rintro z D ⟨s,q0,_,rfl,v0,rfl,q,rfl⟩;refine cn h (fun e0 h=>?_) (fun e0 h=>?_)
 ·refine sr (va (I a) (vv (B (a==11)) (wln (W.ret (bkr (thr ?_))))));obtain rfl:=si h;exact r1 (qq s ⟨q,rfl⟩)
 refine W.skip (bkn (nrm (sr (va (B false) (wln (W.ret ?_))))));obtain rfl:=si h;exact r1 (qq s ⟨q,rfl⟩)
def fD (p0:Int) (p1:Int):Option (Int):=
 (iC p0).bind fun b=>
 (iC p1).bind fun a=>
 (bX (b==1) (some (a==2))).bind fun e=>
 if e=true then
 some 1
 else
 (lL b).bind fun i=>
 (orE i ((lL a).bind fun j=>
 some j)).bind fun f=>
 if f=true then
 some 0
 else
 ((mw b a).bind fun d=>
 if d=true then
 some (d)
 else
 if (a==4)=true then
 some (a==4)
 else
 if (a==5)=true then
 some (a==5)
 else
 if (a==8)=true then
 some (a==8)
 else
 some (b==7)).bind fun k=>
 if k=true then
 some 1
 else
 ((bX (a==0) ((orE (b==5) (some (b==4))).bind fun g=>
 some g)).bind fun c=>
 if c=true then
 some (c)
 else
 (bX (b==6) (some (a==6))).bind fun h=>
 some (h)).bind fun l=>
 if l=true then
 some 2
 else
 some 0
theorem zl (O0:Own c0 G F) (E:Int) (M:Int) {r:Int} (H:fD E M=some r): Calls prog 247 #[I E,I M] c0.w (aO c0 fun c v=>Own c G (F)∧v=I r):=by
 unfold fD at H;refine en func247 rfl rfl (sr (va (I 0) (wln (sr (va (I E) (bn H fun b h1 H=>cl (rO O0 E h1) ?_))))));rintro v7 c6 l6 ⟨O3,rfl⟩;refine va (I M) (bn H fun a h8 H=>cl (rO O3 M h8) ?_);rintro v14 y c2 ⟨N,rfl⟩;refine va (I b) (va (I a) (wln (W.seq (W.block (W.seq (bn H fun g0 a0 H=>W.join (Jn y fun c l=>Own c G (F)∧l= [(0,I b),(1,I a),(9,B g0)]) ?_ ?_))))))
 ·clear H;refine W.region (va (I b) (va (B (b==1)) ?_));rcases bo (b==1) with k | k
  ·have q0:=anT k a0;refine vb k (wa (I a) (wa (B (a==2)) ?_));obtain rfl:=si q0;exact vv (B (a==2)) (wln (jn y ⟨N,rfl⟩))
  obtain rfl:=anF k a0;exact vb k (pz (vv (B false) (wln (jn y ⟨N,rfl⟩))))
 rintro z A ⟨U,v1,_,rfl,d2,rfl,P,rfl⟩;refine nrm (cn H (fun z0 H=>?_) (fun z0 H=>?_))
 ·refine sr (va (I 1) (wln (W.ret (bkr (thr ?_)))));obtain rfl:=si H;exact r1 (qq U ⟨P,rfl⟩)
 refine W.seq (bn H fun k0 a1 H=>bn H fun h0 b0 H=>W.join (Jn U fun c l=>Own c G (F)∧l= [(0,I b),(1,I a),(16,B h0)]) ?_ ?_)
 ·clear H;refine W.region (va (I b) (cl (qK P b a1) ?_));rintro v32 w0 e2 ⟨R,rfl⟩;rcases bo (k0) with m | m
  ·obtain rfl:=orT m b0;exact vb m (pz (vv (B true) (wln (jn w0 ⟨R,rfl⟩))))
  have u:=orF m b0;refine vb m (wa (I a) (wn (bn u fun D b1 u=>cl (qK R a b1) ?_)));rintro v41 x0 f2 ⟨u0,rfl⟩;obtain rfl:=si u;exact vv (B D) (wln (jn x0 ⟨u0,rfl⟩))
 rintro z A ⟨X,w1,_,rfl,g2,rfl,S,rfl⟩;refine nrm (cn H (fun c1 H=>?_) (fun c1 H=>?_))
 ·refine sr (va (I 0) (wln (W.ret (bkr (thr ?_)))));obtain rfl:=si H;exact r1 (qq X ⟨S,rfl⟩)
 refine bn H fun m0 d g=>W.seqJ (Jn X fun c l=>Own c G (F)∧l= [(0,I b),(1,I a),(23,B m0)]) ?_ ?_
 ·refine sr (va (I b) (va (I a) (bn d fun l0 d1 d=>cl (un S b a d1) ?_)));rintro v57 j h2 ⟨i,rfl⟩;refine va (B l0) (wln (cn d (fun e1 d=>?_) (fun e1 d=>?_)))
  ·refine W.skip (nrm ?_);obtain rfl:=si d;exact jn j ⟨i,rfl⟩
  refine sr (va (I a) (vv (B (a==4)) (wln (cn d (fun f1 d=>?_) (fun f1 d=>?_)))))
  ·refine W.skip (nrm ?_);obtain rfl:=si d;exact jn j ⟨i,rfl⟩
  refine sr (va (I a) (vv (B (a==5)) (wln (cn d (fun g1 d=>?_) (fun g1 d=>?_)))))
  ·refine W.skip (nrm ?_);obtain rfl:=si d;exact jn j ⟨i,rfl⟩
  refine sr (va (I a) (vv (B (a==8)) (wln (cn d (fun i1 d=>?_) (fun i1 d=>?_)))))
  ·refine W.skip (nrm ?_);obtain rfl:=si d;exact jn j ⟨i,rfl⟩
  refine W.region (va (I b) (vv (B (b==7)) (wln ?_)));obtain rfl:=si d;exact jn j ⟨i,rfl⟩
 rintro z A ⟨f,x1,_,rfl,i2,rfl,s,rfl⟩;refine cn g (fun j1 g=>?_) (fun j1 g=>?_)
 ·refine sr (va (I 1) (wln (W.ret (bkr (thr ?_)))));obtain rfl:=si g;exact r1 (qq f ⟨s,rfl⟩)
 refine bn g fun o0 e h=>W.seqJ (Jn f fun c l=>Own c G (F)∧l= [(35,B o0)]) ?_ ?_
 ·refine W.seq (bn e fun i0 d0 e=>W.join (Jn f fun c l=>Own c G (F)∧l= [(0,I b),(1,I a),(35,B i0)]) ?_ ?_)
  ·clear e;refine W.region (va (I a) (va (B (a==0)) ?_));rcases bo (a==0) with n | n
   ·have q:=anT n d0;refine vb n (wa (I b) (wa (B (b==5)) (wn (bn q fun s1 e0 q=>?_))));rcases bo (b==5) with o | o
    ·obtain rfl:=orT o e0;refine vb o (pz (wa (B true) ?_));obtain rfl:=si q;exact vv (B true) (wln (jn f ⟨s,rfl⟩))
    have s0:=orF o e0;refine vb o (wa (I b) (wa (B (b==4)) (wn ?_)));obtain rfl:=si s0;refine va (B (b==4)) ?_;obtain rfl:=si q;exact vv (B (b==4)) (wln (jn f ⟨s,rfl⟩))
   obtain rfl:=anF n d0;exact vb n (pz (pz (pz (vv (B false) (wln (jn f ⟨s,rfl⟩))))))
  rintro z A ⟨t,y1,_,rfl,j2,rfl,x,rfl⟩;refine nrm (cn e (fun k1 e=>?_) (fun k1 e=>?_))
  ·refine W.skip (nrm ?_);obtain rfl:=si e;exact jn t ⟨x,rfl⟩
  refine bn e fun j0 f0 e=>W.join (Jn t fun c l=>Own c G (F)∧l= [(35,B j0)]) ?_ ?_
  ·clear e;refine W.region (va (I b) (va (B (b==6)) ?_));rcases bo (b==6) with p | p
   ·have t0:=anT p f0;refine vb p (wa (I a) (wa (B (a==6)) ?_));obtain rfl:=si t0;exact vv (B (a==6)) (wln (jn t ⟨x,rfl⟩))
   obtain rfl:=anF p f0;exact vb p (pz (vv (B false) (wln (jn t ⟨x,rfl⟩))))
  rintro z A ⟨y0,z1,_,rfl,k2,rfl,v0,rfl⟩;refine nrm ?_;obtain rfl:=si e;exact jn y0 ⟨v0,rfl⟩
 rintro z A ⟨Z,b2,_,rfl,l2,rfl,T,rfl⟩;refine cn h (fun m1 h=>?_) (fun m1 h=>?_)
 ·refine sr (va (I 2) (wln (W.ret (bkr (thr ?_)))));obtain rfl:=si h;exact r1 (qq Z ⟨T,rfl⟩)
 refine W.skip (bkn (nrm (sr (va (I 0) (wln (W.ret ?_))))));obtain rfl:=si h;exact r1 (qq Z ⟨T,rfl⟩)
def dA (p0:cD):Option (cD):=
 if true=true then
 some (⟨false,0,0,0,false⟩:cD)
 else
 some p0
theorem lY {a:Nat} {r0_0:Value} {r0_1:Value} {r0_2:Value} {r0_3:Value} {r0_4:Value} {r0_5:Value} {r0_11:Value} (b:cD) (e:Own c0 G ((Eb a 64 [r0_0,r0_1,r0_2,r0_3,r0_4,r0_5,B b.some,I b.last,I b.pict,I b.conj,B b.odd,r0_11]) :: F)) {r:cD} (H:dA b=some r):
    Calls prog 109 #[.pointer (some ⟨a,6,none⟩)] c0.w (aO c0 fun c v=>Own c G ((Eb a 64 [r0_0,r0_1,r0_2,r0_3,r0_4,r0_5,B r.some,I r.last,I r.pict,I r.conj,B r.odd,r0_11]) :: F)∧v= .tuple #[]):=by
 unfold dA at H
 refine en func109 rfl rfl (sr (va (Qo a 6) (va (B true) (wln (W.cond (t:=true) (by kernel_rfl) (fun d=>?_) (fun d=>?_))))))
 ·have H:=it d H
  refine W.region (va (Qo a 6) (va (.agg #[B false,I 0,I 0,I 0,B false]) (va (Qo a 6) (md (sB 61 6 [B false,I 0,I 0,I 0,B false] [r0_0,r0_1,r0_2,r0_3,r0_4,r0_5,B false,I 0,I 0,I 0,B false,r0_11] 0 e ⟨rfl,rfl,rfl,rfl,rfl,trivial⟩) ?_))))
  rintro g h f
  refine WL.nil ?_
  obtain rfl:=si H
  exact n0 (qq g ⟨f,rfl⟩)
 cases d
def cY (sg:Sto) (p0:Option Nat):Option (Sto):=
 if (!p0.isNone)=true then
 (p0).bind fun c=>
 (sg.feed_Feeder[c]?).bind fun a=>
 (sg.set_feed_Feeder c (⟨a.pen,a.dec,a.seg,(none:Option Nat)⟩:bw)).bind fun d=>
 (dA a.seg).bind fun e=>
 (d.set_feed_Feeder c (⟨a.pen,a.dec,e,(none:Option Nat)⟩:bw)).bind fun b=>
 some b
 else
 some sg
theorem iF (n:Own c0 G F) (i:Rel c0 sg G) (k:Option Nat) {r:Sto} (M:Pt 4 c0 v1 k) (H:cY sg k=some r): Calls prog 73 #[v1] c0.w (aO c0 fun c v=>∃G_:Gm,Own c G_ (F)∧Rel c r G_∧v= .tuple #[]):=by
 unfold cY at H;refine en func73 rfl rfl (sr (va (v1) (vr (B (!k.isNone)) (by rcases (M).cs with ⟨f,g⟩ | ⟨b_,f,g⟩ <;> (subst f; rw [g]; kernel_rfl)) (wln (cn H (fun T H=>?_) (fun T H=>?_))))))
 ·refine sr (va (v1) (bn H fun g0 U H=>?_));obtain ⟨d,rfl,j⟩:=(M).get U;refine va (Q d) (va (Qo d 11) (bn H fun a X H=>?_));obtain ⟨v8,v10,A,R,e0⟩:=Rel.open_feed_Feeder i X j;refine md (gC 62 11 (.pointer none) [v8,I a.dec.held,I a.dec.needs,.int .u8 a.dec.lo,.int .u8 a.dec.hi,I a.dec.bits,B a.seg.some,I a.seg.last,I a.seg.pict,I a.seg.conj,B a.seg.odd,.pointer none] 0 n A ⟨rfl,trivial⟩) ?_;rintro d0 e o;refine bn H fun S E H=>?_;obtain ⟨Z,p,x,D,a0⟩:=Rel.put_feed_Feeder o (i.mono e) (E':=[(Eb d 64 [v8,I a.dec.held,I a.dec.needs,.int .u8 a.dec.lo,.int .u8 a.dec.hi,I a.dec.bits,B a.seg.some,I a.seg.last,I a.seg.pict,I a.seg.conj,B a.seg.odd,.pointer none])]) E ⟨d,v8,(.pointer none),(tm j),rfl,(R.mono e),rfl⟩;refine wln (W.region (vv (Q d) (va (Qo d 6) ?_)));have q:=p.borrow 0 D rfl;refine bn H fun b N H=>cl (lY a.seg q N) ?_;rintro v29 z h ⟨s,rfl⟩;have t:=s.giveB 0 rfl;refine bn H fun l P H=>?_;obtain ⟨m,u,y,f0,b0⟩:=Rel.put_feed_Feeder t (x.mono h) (E':=[(Eb d 64 [v8,I a.dec.held,I a.dec.needs,.int .u8 a.dec.lo,.int .u8 a.dec.hi,I a.dec.bits,B b.some,I b.last,I b.pict,I b.conj,B b.odd,.pointer none])]) P ⟨d,v8,(.pointer none),(tm j),rfl,(R.mono (e.trans h)),rfl⟩;refine WL.nil ?_;obtain rfl:=si H;exact n0 (qq z ⟨m,u,y,rfl⟩)
 refine W.skip ?_;obtain rfl:=si H;exact n0 (qq c0 ⟨G,n,i,rfl⟩)
def cN (p0:cD) (p1:aP):Option (Bool):=
 if (!p0.some)=true then
 some false
 else
 ((bX (p1.Conj==1) (some (p0.conj==2))).bind fun a=>
 if a=true then
 some (a)
 else
 (bX p1.Pict (some (p0.pict==2))).bind fun c=>
 some (c)).bind fun e=>
 if e=true then
 some true
 else
 (fD p0.last p1.Break).bind fun b=>
 if (b==1)=true then
 some true
 else
 if (b==2)=true then
 (bX (p0.last==6) (some p0.odd)).bind fun d=>
 some d
 else
 some false
theorem lX {b:Nat} {r0_0:Value} {r0_1:Value} {r0_2:Value} {r0_3:Value} {r0_4:Value} {r0_5:Value} {r0_11:Value} (a:cD) (e:aP) (O0:Own c0 G ((Eb b 64 [r0_0,r0_1,r0_2,r0_3,r0_4,r0_5,B a.some,I a.last,I a.pict,I a.conj,B a.odd,r0_11]) :: F)) {r:Bool} (H:cN a e=some r): Calls prog 219 #[.pointer (some ⟨b,6,none⟩),.agg #[I e.Break,B e.Pict,I e.Conj,I e.East]] c0.w (aO c0 fun c v=>Own c G ((Eb b 64 [r0_0,r0_1,r0_2,r0_3,r0_4,r0_5,B a.some,I a.last,I a.pict,I a.conj,B a.odd,r0_11]) :: F)∧v=B r):=by
 unfold cN at H;refine en func219 rfl rfl (sr (me (bx 244 [I e.Break,B e.Pict,I e.Conj,I e.East] O0) ?_));rintro v5 s l4 ⟨p,rfl,q,M⟩;refine va (B false) (wln (W.seq (sr (vv (Qo b 6) (va (Qo b 6) (vx (le1 6 u_4 (q.on 0 rfl)) (va (B (!a.some)) (wln (cn H (fun h6 H=>?_) (fun h6 H=>?_))))))))))
 ·refine sr (va (B false) (wln (W.ret (thr ?_))));obtain rfl:=si H;exact r1 (qq s ⟨q,rfl⟩)
 refine W.skip (nrm (W.seq (W.block (bn H fun P f d=>W.seqJ (Jn s fun c l=>Own c G ((Eb b 64 [r0_0,r0_1,r0_2,r0_3,r0_4,r0_5,B a.some,I a.last,I a.pict,I a.conj,B a.odd,r0_11]) :: F)∧l= [(0,.pointer (some ⟨b,6,none⟩)),(3,Q p),(10,B P)]) ?_ ?_))))
 ·refine W.seq (bn f fun z h9 f=>W.join (Jn s fun c l=>Own c G ((Eb b 64 [r0_0,r0_1,r0_2,r0_3,r0_4,r0_5,B a.some,I a.last,I a.pict,I a.conj,B a.odd,r0_11]) :: F)∧l= [(0,.pointer (some ⟨b,6,none⟩)),(3,Q p),(10,B z)]) ?_ ?_)
  ·clear f;refine W.region (va (Qo p (0+2)) (vx (l1 u_3 (M 2 _ rfl)) (va (B (e.Conj==1)) ?_)));rcases bo (e.Conj==1) with j | j
   ·have R:=anT j h9;refine vb j (wa (Qo b 6) (wa (Qo b 6) (wa (Qo b 9) (wn (vx (le1 9 u_3 (q.on 0 rfl)) (wa (B (a.conj==2)) ?_))))));obtain rfl:=si R;exact vv (B (a.conj==2)) (wln (jn s ⟨q,rfl⟩))
   obtain rfl:=anF j h9;exact vb j (pz (pz (ps (vv (B false) (wln (jn s ⟨q,rfl⟩))))))
  rintro E N ⟨o,u0,_,rfl,y0,rfl,n,rfl⟩;refine nrm (cn f (fun e0 f=>?_) (fun e0 f=>?_))
  ·refine W.skip (nrm ?_);obtain rfl:=si f;exact jn o ⟨n,rfl⟩
  refine bn f fun A x f=>W.join (Jn o fun c l=>Own c G ((Eb b 64 [r0_0,r0_1,r0_2,r0_3,r0_4,r0_5,B a.some,I a.last,I a.pict,I a.conj,B a.odd,r0_11]) :: F)∧l= [(0,.pointer (some ⟨b,6,none⟩)),(3,Q p),(10,B A)]) ?_ ?_
  ·clear f;refine W.region (va (Qo p (0+1)) (vx (l1 u_4 ((mm M) 1 _ rfl)) ?_));rcases bo (e.Pict) with k | k
   ·have S:=anT k x;refine vb k (wa (Qo b 6) (wa (Qo b 6) (wa (Qo b 8) (wn (vx (le1 8 u_3 (n.on 0 rfl)) (wa (B (a.pict==2)) ?_))))));obtain rfl:=si S;exact vv (B (a.pict==2)) (wln (jn o ⟨n,rfl⟩))
   obtain rfl:=anF k x;exact vb k (pz (pz (ps (vv (B false) (wln (jn o ⟨n,rfl⟩))))))
  rintro E N ⟨Z,v0,_,rfl,z0,rfl,U,rfl⟩;refine nrm ?_;obtain rfl:=si f;exact jn Z ⟨U,rfl⟩
 rintro E N ⟨a0,w0,_,rfl,a1,rfl,t,rfl⟩;refine cn d (fun f0 d=>?_) (fun f0 d=>?_)
 ·refine sr (va (B true) (wln (W.ret (bkr (thr ?_)))));obtain rfl:=si d;exact r1 (qq a0 ⟨t,rfl⟩)
 refine W.skip (bkn (nrm (W.seq (W.seq (rD [] (Kp G0 [(Eb b 64 [r0_0,r0_1,r0_2,r0_3,r0_4,r0_5,B a.some,I a.last,I a.pict,I a.conj,B a.odd,r0_11])]) t ?_)))));intro b0 c1 u;have l0:Kp G0 [(Eb b 64 [r0_0,r0_1,r0_2,r0_3,r0_4,r0_5,B a.some,I a.last,I a.pict,I a.conj,B a.odd,r0_11])] b0:=(Kp.cons (u.on 0 rfl) Kp.nil0);refine ta 0 (.pointer (some ⟨b,6,none⟩)) (ta 1 (Qo b 6) (ta 2 (Qo b 7) (tkx 3 l0 (fun c' k0 hk=>le1 7 u_3 (hk.on 0 rfl)) (ta 4 (Q p) (tx 5 (fun c' k0=>l1 u_3 ((mm M) 0 _ rfl)) (bn d fun i g0 d=>o1 6 (gc 6 (zl u a.last e.Break g0) ?_)))))));rintro v44 h d1 ⟨g,rfl⟩;have m0:Kp G0 [(Eb b 64 [r0_0,r0_1,r0_2,r0_3,r0_4,r0_5,B a.some,I a.last,I a.pict,I a.conj,B a.odd,r0_11])] h:=(Kp.cons (g.on 0 rfl) Kp.nil0);refine ⟨.inr m0,dn (nrm (W.block (sr (vv (B (i==1)) (wln (cn d (fun h0 d=>?_) (fun h0 d=>?_)))))))⟩
 ·refine sr (va (B true) (wln (W.ret (bkr (thr ?_)))));obtain rfl:=si d;exact r1 (qq h ⟨g,rfl⟩)
 refine sr (vv (B (i==2)) (wln (cn d (fun i0 d=>?_) (fun i0 d=>?_))))
 ·refine W.seq (bn d fun D y d=>W.join (Jn h fun c l=>Own c G ((Eb b 64 [r0_0,r0_1,r0_2,r0_3,r0_4,r0_5,B a.some,I a.last,I a.pict,I a.conj,B a.odd,r0_11]) :: F)∧l= [(4,B D)]) ?_ ?_)
  ·clear d;refine W.region (vv (Qo b 6) (va (Qo b 7) (vx (le1 7 u_3 (g.on 0 rfl)) (va (B (a.last==6)) ?_))));rcases bo (a.last==6) with m | m
   ·have T:=anT m y;refine vb m (wa (Qo b 6) (wa (Qo b 6) (wa (Qo b 10) (wn (vx (le1 10 u_4 (g.on 0 rfl)) ?_)))));obtain rfl:=si T;exact vv (B a.odd) (wln (jn h ⟨g,rfl⟩))
   obtain rfl:=anF m y;exact vb m (pz (pz (vv (B false) (wln (jn h ⟨g,rfl⟩)))))
  rintro E N ⟨d0,x0,_,rfl,e1,rfl,X,rfl⟩;refine nrm (W.ret (bkr (thr ?_)));obtain rfl:=si d;exact r1 (qq d0 ⟨X,rfl⟩)
 refine W.skip (bkn (nrm (sr (va (B false) (wln (W.ret ?_))))));obtain rfl:=si d;exact r1 (qq h ⟨g,rfl⟩)
def cJ (p0:cD) (p1:aP):Option (Int):=
 if p1.Pict=true then
 some 1
 else
 (bX (p0.pict==1) (some (p1.Break==4))).bind fun a=>
 if a=true then
 some 1
 else
 (bX (p0.pict==1) (some (p1.Break==5))).bind fun b=>
 if b=true then
 some 2
 else
 some 0
theorem lh {b:Nat} {r0_0:Value} {r0_1:Value} {r0_2:Value} {r0_3:Value} {r0_4:Value} {r0_5:Value} {r0_11:Value} (a:cD) (d:aP) (A:Own c0 G ((Eb b 64 [r0_0,r0_1,r0_2,r0_3,r0_4,r0_5,B a.some,I a.last,I a.pict,I a.conj,B a.odd,r0_11]) :: F)) {r:Int} (H:cJ a d=some r): Calls prog 220 #[.pointer (some ⟨b,6,none⟩),.agg #[I d.Break,B d.Pict,I d.Conj,I d.East]] c0.w (aO c0 fun c v=>Own c G ((Eb b 64 [r0_0,r0_1,r0_2,r0_3,r0_4,r0_5,B a.some,I a.last,I a.pict,I a.conj,B a.odd,r0_11]) :: F)∧v=I r):=by
 unfold cJ at H;refine en func220 rfl rfl (sr (me (bx 244 [I d.Break,B d.Pict,I d.Conj,I d.East] A) ?_));rintro v5 k T ⟨j,rfl,i,s⟩;refine va (I 0) (wln (W.seq (W.block (sr (va (Qo j (0+1)) (vx (l1 u_4 (s 1 _ rfl)) (va (B d.Pict) (wln (cn H (fun E H=>?_) (fun E H=>?_))))))))))
 ·refine sr (va (I 1) (wln (W.ret (bkr (thr ?_)))));obtain rfl:=si H;exact r1 (qq k ⟨i,rfl⟩)
 refine W.seq (bn H fun p y H=>W.join (Jn k fun c l=>Own c G ((Eb b 64 [r0_0,r0_1,r0_2,r0_3,r0_4,r0_5,B a.some,I a.last,I a.pict,I a.conj,B a.odd,r0_11]) :: F)∧l= [(0,.pointer (some ⟨b,6,none⟩)),(3,Q j),(8,B p)]) ?_ ?_)
 ·clear H;refine W.region (vv (Qo b 6) (va (Qo b 8) (vx (le1 8 u_3 (i.on 0 rfl)) (va (B (a.pict==1)) ?_))));rcases bo (a.pict==1) with h | h
  ·have z:=anT h y;refine vb h (wa (Q j) (wn (vx (l1 u_3 (s 0 _ rfl)) (wa (B (d.Break==4)) ?_))));obtain rfl:=si z;exact vv (B (d.Break==4)) (wln (jn k ⟨i,rfl⟩))
  obtain rfl:=anF h y;exact vb h (pz (ps (vv (B false) (wln (jn k ⟨i,rfl⟩)))))
 rintro D M ⟨g,N,_,rfl,R,rfl,f,rfl⟩;refine nrm (cn H (fun u H=>?_) (fun u H=>?_))
 ·refine sr (va (I 1) (wln (W.ret (bkr (thr ?_)))));obtain rfl:=si H;exact r1 (qq g ⟨f,rfl⟩)
 refine W.seq (bn H fun q o H=>W.join (Jn g fun c l=>Own c G ((Eb b 64 [r0_0,r0_1,r0_2,r0_3,r0_4,r0_5,B a.some,I a.last,I a.pict,I a.conj,B a.odd,r0_11]) :: F)∧l= [(19,B q)]) ?_ ?_)
 ·clear H;refine W.region (vv (Qo b 6) (va (Qo b 8) (vx (le1 8 u_3 (f.on 0 rfl)) (va (B (a.pict==1)) ?_))));rcases bo (a.pict==1) with e | e
  ·have t:=anT e o;refine vb e (wa (Q j) (wn (vx (l1 u_3 ((mm s) 0 _ rfl)) (wa (B (d.Break==5)) ?_))));obtain rfl:=si t;exact vv (B (d.Break==5)) (wln (jn g ⟨f,rfl⟩))
  obtain rfl:=anF e o;exact vb e (pz (ps (vv (B false) (wln (jn g ⟨f,rfl⟩)))))
 rintro D M ⟨n,P,_,rfl,S,rfl,m,rfl⟩;refine nrm (cn H (fun x H=>?_) (fun x H=>?_))
 ·refine sr (va (I 2) (wln (W.ret (bkr (thr ?_)))));obtain rfl:=si H;exact r1 (qq n ⟨m,rfl⟩)
 refine W.skip (bkn (nrm (sr (va (I 0) (wln (W.ret ?_))))));obtain rfl:=si H;exact r1 (qq n ⟨m,rfl⟩)
def cx (p0:cD) (p1:aP):Option (Int):=
 if (p1.Conj==1)=true then
 some 1
 else
 if (p0.conj==0)=true then
 some 0
 else
 if (p1.Conj==2)=true then
 some 2
 else
 if (p1.Conj==3)=true then
 some p0.conj
 else
 some 0
theorem kS {b:Nat} {r0_0:Value} {r0_1:Value} {r0_2:Value} {r0_3:Value} {r0_4:Value} {r0_5:Value} {r0_11:Value} (d:cD) (a:aP) (i:Own c0 G ((Eb b 64 [r0_0,r0_1,r0_2,r0_3,r0_4,r0_5,B d.some,I d.last,I d.pict,I d.conj,B d.odd,r0_11]) :: F)) {r:Int} (H:cx d a=some r): Calls prog 221 #[.pointer (some ⟨b,6,none⟩),.agg #[I a.Break,B a.Pict,I a.Conj,I a.East]] c0.w (aO c0 fun c v=>Own c G ((Eb b 64 [r0_0,r0_1,r0_2,r0_3,r0_4,r0_5,B d.some,I d.last,I d.pict,I d.conj,B d.odd,r0_11]) :: F)∧v=I r):=by
 unfold cx at H;refine en func221 rfl rfl (sr (me (bx 244 [I a.Break,B a.Pict,I a.Conj,I a.East] i) ?_));rintro v5 f n ⟨g,rfl,e,h⟩;refine va (I 0) (wln (W.seq (W.block (sr (va (Qo g (0+2)) (vx (l1 u_3 (h 2 _ rfl)) (vv (B (a.Conj==1)) (wln (cn H (fun j H=>?_) (fun j H=>?_))))))))))
 ·refine sr (va (I 1) (wln (W.ret (bkr (thr ?_)))));obtain rfl:=si H;exact r1 (qq f ⟨e,rfl⟩)
 refine sr (vv (Qo b 6) (va (Qo b 9) (vx (le1 9 u_3 (e.on 0 rfl)) (vv (B (d.conj==0)) (wln (cn H (fun k H=>?_) (fun k H=>?_)))))))
 ·refine sr (va (I 0) (wln (W.ret (bkr (thr ?_)))));obtain rfl:=si H;exact r1 (qq f ⟨e,rfl⟩)
 refine sr (va (Qo g (0+2)) (vx (l1 u_3 (h 2 _ rfl)) (vv (B (a.Conj==2)) (wln (cn H (fun l H=>?_) (fun l H=>?_))))))
 ·refine sr (va (I 2) (wln (W.ret (bkr (thr ?_)))));obtain rfl:=si H;exact r1 (qq f ⟨e,rfl⟩)
 refine sr (va (Qo g (0+2)) (vx (l1 u_3 (h 2 _ rfl)) (vv (B (a.Conj==3)) (wln (cn H (fun m H=>?_) (fun m H=>?_))))))
 ·refine sr (vv (Qo b 6) (va (Qo b 9) (vx (le1 9 u_3 (e.on 0 rfl)) (va (I d.conj) (wln (W.ret (bkr (thr ?_))))))));obtain rfl:=si H;exact r1 (qq f ⟨e,rfl⟩)
 refine W.skip (bkn (nrm (sr (va (I 0) (wln (W.ret ?_))))));obtain rfl:=si H;exact r1 (qq f ⟨e,rfl⟩)
def cW (p0:cD) (p1:aP):Option (cD×Bool):=
 if false=true then
 some (p0,false)
 else
 (cN p0 p1).bind fun d=>
 (cJ p0 p1).bind fun e=>
 (cx p0 p1).bind fun f=>
 (bX (p1.Break==6) ((bX p0.some (some (p0.last==6))).bind fun b=>
 (bX b (some p0.odd)).bind fun c=>
 some (!c))).bind fun a=>
 some ((⟨true,p1.Break,e,f,a⟩:cD),d)
theorem mn {a:Nat} {r0_0:Value} {r0_1:Value} {r0_2:Value} {r0_3:Value} {r0_4:Value} {r0_5:Value} {r0_11:Value} (b:cD) (f:aP) (O0:Own c0 G ((Eb a 64 [r0_0,r0_1,r0_2,r0_3,r0_4,r0_5,B b.some,I b.last,I b.pict,I b.conj,B b.odd,r0_11]) :: F)) {r:cD×Bool} (H:cW b f=some r): Calls prog 179 #[.pointer (some ⟨a,6,none⟩),.agg #[I f.Break,B f.Pict,I f.Conj,I f.East]] c0.w (aO c0 fun c v=>Own c G ((Eb a 64 [r0_0,r0_1,r0_2,r0_3,r0_4,r0_5,B r.1.some,I r.1.last,I r.1.pict,I r.1.conj,B r.1.odd,r0_11]) :: F)∧v=B r.2):=by
 unfold cW at H;refine en func179 rfl rfl (sr (me (bx 244 [I f.Break,B f.Pict,I f.Conj,I f.East] O0) ?_));rintro v5 c4 l4 ⟨A,rfl,O2,o⟩;refine va (B false) (wln (W.seq (sr (va (Qo a 6) (va (B false) (wln (W.cond (t:=false) (by kernel_rfl) (fun E=>?_) (fun E=>?_))))))))
 ·cases E
 have H:=ie E H;refine W.skip (nrm (sr (va (Qo a 6) (vx (lN 244 o) (bn H fun i h8 H=>cl (lX b f O2 h8) ?_)))));rintro v14 j1 n1 ⟨P,rfl⟩;refine va (B i) (wln (W.seq (rD [] (Kp G0 []) P ?_)));intro i0 q1 R;have f2:Kp G0 [] i0:=Kp.nil0;refine ta 0 (.pointer (some ⟨a,6,none⟩)) (ta 1 (Qo a 6) (ta 2 (Qo a 6) (tx 3 (fun c' z=>lN 244 (mm o)) (ta 5 (Qo a 6) (tx 6 (fun c' z=>lN 244 (mm o)) (bn H fun d v0 H=>o1 4 (gc 4 (lh b f R v0) ?_)))))));rintro v25 j0 s1 ⟨S,rfl⟩;have y0:Kp G0 [] j0:=Kp.nil0;refine ⟨.inr y0,bn H fun e w0 H=>o1 7 (gc 7 (kS b f S w0) ?_)⟩;rintro v34 k0 t1 ⟨T,rfl⟩;have z0:Kp G0 [] k0:=Kp.nil0;refine ⟨.inr z0,ta 8 (.pointer (some ⟨a,6,none⟩)) (ta 9 (Qo a 8) (o1 10 (gD 10 (sC 3 8 (I d) [r0_0,r0_1,r0_2,r0_3,r0_4,r0_5,B b.some,I b.last,I d,I b.conj,B b.odd,r0_11] 0 T ⟨rfl,trivial⟩) ?_)))⟩;rintro l0 u1 U;have a1:Kp G0 [] l0:=Kp.nil0;refine ⟨.inr a1,ta 11 (.pointer (some ⟨a,6,none⟩)) (ta 12 (Qo a 9) (o1 13 (gD 13 (sC 3 9 (I e) [r0_0,r0_1,r0_2,r0_3,r0_4,r0_5,B b.some,I b.last,I d,I e,B b.odd,r0_11] 0 U ⟨rfl,trivial⟩) ?_)))⟩;rintro p v1 h;have c1:Kp G0 [] p:=Kp.nil0;refine ⟨.inr c1,dn (nrm (W.seq (bn H fun n s H=>W.join (Jn p fun c l=>Own c G ((Eb a 64 [r0_0,r0_1,r0_2,r0_3,r0_4,r0_5,B b.some,I b.last,I d,I e,B n,r0_11]) :: F)∧l= [(0,.pointer (some ⟨a,6,none⟩)),(3,Q A),(5,B i)]) ?_ ?_)))⟩
 ·clear H;refine W.region (va (Qo a 6) (va (Q A) (vx (l1 u_3 ((mm o) 0 _ rfl)) (va (B (f.Break==6)) ?_))));rcases bo (f.Break==6) with j | j
  ·have g:=anT j s;refine vb j (wa (Qo a 6) (wa (Qo a 6) (wa (Qo a 6) (wn (vx (le1 6 u_4 (h.on 0 rfl)) (wn (bn g fun h1 u g=>?_)))))));rcases bo (b.some) with k | k
   ·have M:=anT k u;refine vb k (wa (Qo a 6) (wa (Qo a 6) (wa (Qo a 7) (wn (vx (le1 7 u_3 (h.on 0 rfl)) (wa (B (b.last==6)) (wn ?_)))))));obtain rfl:=si M;refine va (B (b.last==6)) (wn (bn g fun D x g=>?_));rcases bo (b.last==6) with m | m
    ·have N:=anT m x;refine vb m (wa (Qo a 6) (wa (Qo a 6) (wa (Qo a 10) (wn (vx (le1 10 u_4 (h.on 0 rfl)) (wn ?_))))));obtain rfl:=si N;refine va (B b.odd) (wa (B (!b.odd)) ?_);obtain rfl:=si g;refine va (B (!b.odd)) (va (Qo a 6) (va (Qo a 10) (md (sC 4 10 (B (!b.odd)) [r0_0,r0_1,r0_2,r0_3,r0_4,r0_5,B b.some,I b.last,I d,I e,B (!b.odd),r0_11] 0 h ⟨rfl,trivial⟩) ?_)));rintro m0 w1 X;exact wln (jn m0 ⟨X,rfl⟩)
    obtain rfl:=anF m x;refine vb m (pz (pz (wa (B false) (wa (B (!false)) ?_))));obtain rfl:=si g;refine va (B (!false)) (va (Qo a 6) (va (Qo a 10) (md (sC 4 10 (B (!false)) [r0_0,r0_1,r0_2,r0_3,r0_4,r0_5,B b.some,I b.last,I d,I e,B (!false),r0_11] 0 h ⟨rfl,trivial⟩) ?_)));rintro o0 x1 Z;exact wln (jn o0 ⟨Z,rfl⟩)
   obtain rfl:=anF k u;refine vb k (pz (pz (ps (wa (B false) (wn (bn g fun D x0 g=>?_))))));have y:false=false:=rfl;obtain rfl:=anF y x0;refine vb y (pz (pz (wa (B false) (wa (B (!false)) ?_))));obtain rfl:=si g;refine va (B (!false)) (va (Qo a 6) (va (Qo a 10) (md (sC 4 10 (B (!false)) [r0_0,r0_1,r0_2,r0_3,r0_4,r0_5,B b.some,I b.last,I d,I e,B (!false),r0_11] 0 h ⟨rfl,trivial⟩) ?_)));rintro q0 y1 a0;exact wln (jn q0 ⟨a0,rfl⟩)
  obtain rfl:=anF j s;refine vb j (pz (pz (pz (pz (pz (pz (pz (pz (pz (va (B false) (va (Qo a 6) (va (Qo a 10) (md (sC 4 10 (B false) [r0_0,r0_1,r0_2,r0_3,r0_4,r0_5,B b.some,I b.last,I d,I e,B false,r0_11] 0 h ⟨rfl,trivial⟩) ?_)))))))))))));rintro s0 z1 b0;exact wln (jn s0 ⟨b0,rfl⟩)
 rintro e_ w_ ⟨k1,m1,_,rfl,b2,rfl,d0,rfl⟩;refine nrm (W.seq (rD [] (Kp G0 []) d0 ?_));intro t0 c2 e0;have g2:Kp G0 [] t0:=Kp.nil0;refine ta 0 (.pointer (some ⟨a,6,none⟩)) (ta 1 (Qo a 6) (ta 2 (Q A) (tx 3 (fun c' z=>l1 u_3 ((mm o) 0 _ rfl)) (ta 4 (Qo a 6) (ta 5 (Qo a 6) (o1 6 (gD 6 (sC 4 6 (B true) [r0_0,r0_1,r0_2,r0_3,r0_4,r0_5,B true,I b.last,I d,I e,B n,r0_11] 0 e0 ⟨rfl,trivial⟩) ?_)))))));rintro u0 d2 f0;have d1:Kp G0 [] u0:=Kp.nil0;refine ⟨.inr d1,ta 7 (.pointer (some ⟨a,6,none⟩)) (ta 8 (Qo a 7) (o1 9 (gD 9 (sC 3 7 (I f.Break) [r0_0,r0_1,r0_2,r0_3,r0_4,r0_5,B true,I f.Break,I d,I e,B n,r0_11] 0 f0 ⟨rfl,trivial⟩) ?_)))⟩;rintro q e2 g0;have e1:Kp G0 [] q:=Kp.nil0;refine ⟨.inr e1,dn (nrm (sr (vv (B i) (wln (W.ret ?_)))))⟩;obtain rfl:=si H;exact r1 (qq q ⟨g0,rfl⟩)
def ga (sg:Sto) (p0:Option Nat) (p1:Int):Option (Sto):=
 (iQ p1).bind fun s=>
 if s=true then
 (cY sg p0).bind fun k=>
 (p0).bind fun r=>
 (k.feed_Feeder[r]?).bind fun n=>
 (oY k n.pen p1).bind fun p=>
 some p.1
 else
 (qw p1).bind fun e=>
 (p0).bind fun h=>
 (sg.feed_Feeder[h]?).bind fun a=>
 (cW a.seg e).bind fun j=>
 (sg.set_feed_Feeder h (⟨a.pen,a.dec,j.1,a.open_⟩:bw)).bind fun b=>
 (bX j.2 (some (!a.open_.isNone))).bind fun l=>
 if l=true then
 (p0).bind fun m=>
 (b.feed_Feeder[m]?).bind fun i=>
 (dC b i.open_ i.pen p1 e).bind fun q=>
 some q.1
 else
 (p0).bind fun c=>
 (b.feed_Feeder[c]?).bind fun o=>
 (kL b o.pen p1 e).bind fun f=>
 (f.1.feed_Feeder[c]?).bind fun d=>
 (f.1.set_feed_Feeder c (⟨d.pen,d.dec,d.seg,f.2⟩:bw)).bind fun g=>
 some g
theorem rp (O0:Own c0 G F) (R0:Rel c0 sg G) (hG:Gl [3,5] c0) (p0:Option Nat) (f:Int) {r:Sto} (U:Pt 4 c0 v1 p0) (H:ga sg p0 f=some r): Calls prog 141 #[v1,J f] c0.w (aO c0 fun c v=>∃G_:Gm,Own c G_ (F)∧Rel c r G_∧v= .tuple #[]):=by
 unfold ga at H;refine en func141 rfl rfl (W.seq (sr (va (J f) (bn H fun f5 h3 H=>cl (qO O0 f h3) ?_))));rintro v9 c8 N ⟨O5,rfl⟩;refine wln (cn H (fun x2 H=>?_) (fun x2 H=>?_))
 ·refine sr (va (v1) (bn H fun g5 y2 H=>cl (iF O5 R0.m p0 U.m y2) ?_));rintro v17 u4 l16 ⟨s4,g0,j0,rfl⟩;refine wln (sr (va (v1) (bn H fun a5 a3 H=>?_)));obtain ⟨l0,rfl,z2⟩:=((U.mono (N.trans l16))).get a3;refine vv (Q l0) (bn H fun z1 b3 H=>?_);obtain ⟨v22,v24,d3,c3,z4⟩:=Rel.open_feed_Feeder j0 b3 z2;refine vx (le1 0 zL (g0.gon d3 0 rfl)) (va (J f) (bn H fun p4 e3 H=>cl (Ee g0 j0 z1.pen f c3 e3) ?_));rintro v33 t2 b5 ⟨e2,i2,s2,rfl⟩;refine wln (W.ret (thr ?_));obtain rfl:=si H;exact r0 (qq t2 ⟨e2,i2,s2,rfl⟩)
 refine W.skip (nrm (sr (va (J f) (bn H fun a f3 H=>cl (Gq O5 f f3) ?_))));rintro v40 v4 s ⟨j2,rfl⟩;refine me (al 244 [I 0,B false,I 0,I 0] j2) ?_;rintro v44 w4 t ⟨h,rfl,k2⟩;refine md (sA 244 [I a.Break,B a.Pict,I a.Conj,I a.East] 0 k2 ⟨rfl,rfl,rfl,rfl,trivial⟩) ?_;rintro u2 u l2;refine wln (W.seq (W.seq (bn H fun f4 g3 H=>bn H fun d i3 H=>bn H fun g j3 H=>bn H fun P k3 H=>bn H fun k1 s0 H=>W.join (Jn u2 fun c l=>∃G_,Own c G_ ((Eb h 244 [I a.Break,B a.Pict,I a.Conj,I a.East]) :: F)∧l= [(0,v1),(1,J f),(4,Q h),(28,B k1)]∧Rel c P G_) ?_ ?_)))
 ·clear H;refine rD [4,9] (Kp G0 [(Eb h 244 [I a.Break,B a.Pict,I a.Conj,I a.East])]) l2 ?_;intro v2 Z h0;have w3:Kp G0 [(Eb h 244 [I a.Break,B a.Pict,I a.Conj,I a.East])] v2:=(Kp.cons (h0.on 0 rfl) Kp.nil0);refine ta 0 (v1) ?_;obtain ⟨j,rfl,t0⟩:=((U.mono (N.trans (s.trans (t.trans (u.trans Z)))))).get g3;refine ta 1 (Q j) (ta 2 (Qo j 6) (tkx 3 w3 (fun p i k=>leN 244 0 [I a.Break,B a.Pict,I a.Conj,I a.East] (k.on 0 rfl)) ?_));obtain ⟨v57,v59,m3,l3,u0⟩:=Rel.open_feed_Feeder (R0.mono (N.trans (s.trans (t.trans (u.trans Z))))) i3 t0;have n2:=h0.borrow 0 m3 rfl;refine o1 4 (gc 4 (mn d.seg a n2 j3) ?_);rintro c5 m0 a0 ⟨o2,rfl⟩;have p2:=o2.giveB 0 rfl;obtain ⟨f0,R,k0,n3,t4⟩:=Rel.put_feed_Feeder p2 (R0.mono (N.trans (s.trans (t.trans (u.trans (Z.trans a0)))))) (E':=[(Eb j 64 [v57,I d.dec.held,I d.dec.needs,.int .u8 d.dec.lo,.int .u8 d.dec.hi,I d.dec.bits,B g.1.some,I g.1.last,I g.1.pict,I g.1.conj,B g.1.odd,v59])]) k3 ⟨j,v57,v59,(tm t0),rfl,(l3.mono a0),(u0.mono a0)⟩;refine ⟨.inl rfl,?_⟩;rcases bo (g.2) with q | q
  ·have g2:=anT q s0;refine AC.takeb 5 q rfl (by kernel_rfl) (by kernel_rfl) (fun p i=>(by kernel_rfl)) (ta 6 (Q j) (ta 7 (Q j) (ta 8 (Qo j 11) (o1 9 (gl 9 (le1 11 underlying62 (R.gon n3 0 rfl)) (AC.take 10 (B (!d.open_.isNone)) rfl (by kernel_rfl) (by kernel_rfl) (fun p i=>(by rcases u0.m.cs with ⟨o0,q0⟩ | ⟨b_,o0,q0⟩ <;> (subst o0; rw [q0]; kernel_rfl))) ?_))))));obtain rfl:=si g2;exact ta 11 (B (!d.open_.isNone)) (dn (nrm (jn m0 ⟨f0,R,rfl,k0⟩)))
  obtain rfl:=anF q s0;exact AC.takeb 5 q rfl (by kernel_rfl) (by kernel_rfl) (fun p i=>(by kernel_rfl)) (tp 6 (tp 7 (tp 8 (tp 9 (tp 10 (ta 11 (B false) (dn (nrm (jn m0 ⟨f0,R,rfl,k0⟩)))))))))
 rintro e_ w_ ⟨x4,y4,_,rfl,w0,rfl,E,i0,rfl,M⟩;refine nrm (cn H (fun o3 H=>?_) (fun o3 H=>?_))
 ·refine W.seq (rD [10] (Kp E [(Eb h 244 [I a.Break,B a.Pict,I a.Conj,I a.East])]) i0 ?_);intro w2 x0 S;have e0:Kp E [(Eb h 244 [I a.Break,B a.Pict,I a.Conj,I a.East])] w2:=(Kp.cons (S.on 0 rfl) (Kp.nil S));refine ta 0 (v1) (bn H fun g4 q3 H=>?_);obtain ⟨o,rfl,p3⟩:=((U.mono (N.trans (s.trans (t.trans (u.trans (w0.trans x0))))))).get q3;refine ta 1 (Q o) (ta 2 (Qo o 11) (bn H fun b0 s3 H=>?_));obtain ⟨d5,e5,v0,t3,u3⟩:=Rel.open_feed_Feeder (M.mono x0) s3 p3;refine tkx 3 e0 (fun p i k=>le1 11 underlying62 (k.gon v0 0 rfl)) (ta 4 (Q o) (ta 5 (Q o) (ta 6 (Q o) (tkx 7 e0 (fun p i k=>le1 0 zL (k.gon v0 0 rfl)) (ta 8 (J f) (tkx 9 e0 (fun p i k=>leN 244 0 [I a.Break,B a.Pict,I a.Conj,I a.East] (k.on 0 rfl)) (bn H fun q4 v3 H=>o1 10 (gc 10 (qC S M.m (hG.m.le (by decide)) b0.open_ b0.pen f a u3 t3 v3) ?_))))))));rintro k4 h1 i4 ⟨f2,q2,f1,rfl⟩;refine ⟨.inl rfl,dn (nrm (W.ret (thr ?_)))⟩;obtain rfl:=si H;have z0:=q2.sD 1 [];exact r0 (qq h1 ⟨f2,z0,f1,rfl⟩)
 refine W.skip (nrm (rD [7,10] (Kp E [(Eb h 244 [I a.Break,B a.Pict,I a.Conj,I a.East])]) i0 ?_));intro i1 X x;have d0:Kp E [(Eb h 244 [I a.Break,B a.Pict,I a.Conj,I a.East])] i1:=(Kp.cons (x.on 0 rfl) (Kp.nil x));refine ta 0 (v1) (ta 1 (v1) (bn H fun h4 m1 H=>?_));obtain ⟨e,rfl,y⟩:=((U.mono (N.trans (s.trans (t.trans (u.trans (w0.trans X))))))).get m1;refine ta 2 (Q e) (ta 3 (Q e) (bn H fun b2 n1 H=>?_));obtain ⟨l4,m4,s1,q1,b4⟩:=Rel.open_feed_Feeder (M.mono X) n1 y;refine tkx 4 d0 (fun p i k=>le1 0 zL (k.gon s1 0 rfl)) (ta 5 (J f) (tkx 6 d0 (fun p i k=>leN 244 0 [I a.Break,B a.Pict,I a.Conj,I a.East] (k.on 0 rfl)) (bn H fun r4 t1 H=>o1 7 (gc 7 (xr x M.m (hG.m.le (by decide)) b2.pen f a q1 t1) ?_))));rintro n4 a4 j4 ⟨_,x3,a1,T,rfl,z⟩;refine ⟨.inl rfl,ta 8 (Q e) (ta 9 (Qo e 11) ?_)⟩;obtain ⟨n,rfl⟩:=(z).form;refine bn H fun b u1 H=>?_;obtain ⟨D,o4,x1,w1,c4⟩:=Rel.open_feed_Feeder T u1 (tm y);refine o1 10 (gD 10 (gC 62 11 (.pointer n) [D,I b.dec.held,I b.dec.needs,.int .u8 b.dec.lo,.int .u8 b.dec.hi,I b.dec.bits,B b.seg.some,I b.seg.last,I b.seg.pict,I b.seg.conj,B b.seg.odd,.pointer n] 0 a1 x1 ⟨z.one,trivial⟩) ?_);rintro j1 A b1;refine bn H fun d2 y1 H=>?_;obtain ⟨y0,c1,g1,d4,z3⟩:=Rel.put_feed_Feeder b1 (T.mono A) (E':=[(Eb e 64 [D,I b.dec.held,I b.dec.needs,.int .u8 b.dec.lo,.int .u8 b.dec.hi,I b.dec.bits,B b.seg.some,I b.seg.last,I b.seg.pict,I b.seg.conj,B b.seg.odd,.pointer n])]) y1 ⟨e,D,(.pointer n),(tm y),rfl,(w1.mono A),(z.mono A)⟩;refine ⟨.inl rfl,dn ?_⟩;obtain rfl:=si H;have d1:=c1.sD 1 [];exact n0 (qq j1 ⟨y0,d1,g1,rfl⟩)
def fV (sg:Sto) (p0:Option Nat) (p1:List Int):Option (Sto):=
 (cV (σ:=Int×Sto) (τ:=Sto) (((p1.length:Int) - 0).toNat+1) (fun a=>
 if (decide (a.1 < (p1.length:Int)))=true then
 (idx p1 a.1).bind fun d=>
 (ga a.2 p0 d).bind fun b=>
 some (.inl ((w64 (a.1+1)),b))
 else
 some (.inr (a.2))) (0,sg)).bind fun c=>
 some c
theorem oe (S:Own c0 G F) (T:Rel c0 sg G) (hG:Gl [3,5] c0) (j:Option Nat) (d:List Int) {r:Sto} (Z:Pt 4 c0 v1 j) (h:Sl (RI .i32) c0 v3 d) (H:fV sg j d=some r): Calls prog 106 #[v1,v3] c0.w (aO c0 fun c v=>∃G_:Gm,Own c G_ (F)∧Rel c r G_∧v= .tuple #[]):=by
 unfold fV at H;refine en func106 rfl rfl (sr (va (v3) (vx (ln 3 dS h) (va (I 0) (wln (W.block (bn H fun i0 N p=>lp N (fun a=>Jn c0 fun c l=>∃G_,Own c G_ (F)∧l= [(0,v1),(6,v3),(7,I (d.length:Int)),(8,I a.1)]∧Rel c a.2 G_) (fun i ex e w=>ex= .exit 0∧(Jn c0 fun c l=>∃G_,Own c G_ (F)∧l= []∧Rel c i G_) e w) ?_ ?_ ?_)))))))
 ·clear p N;intro a j0 A R H;revert A R;rintro X w_ ⟨U,g8,_,rfl,l7,rfl,k,t,rfl,f⟩;refine sr (va (B (decide (a.1 < (d.length:Int)))) (wln (W.seq (cn H (fun D H=>?_) (fun D H=>?_)))))
  ·refine W.skip (nrm (W.seq (W.block (sr (bn H fun b g H=>?_)))));obtain ⟨b0,E,P⟩:=Sl.at (h.mono l7) (bW g);obtain rfl:=E;refine vx (ix dS h.m g) (vx (l1 rh (P 0 _ rfl)) (va (J b) (wln (W.region (va (v1) (va (J b) (bn H fun e0 M H=>cl (rp t f (hG.m.le (by decide)) j b Z.m M) ?_)))))));rintro v24 y g0 ⟨n,q,u,rfl⟩;refine WL.nil (bkn (nrm (W.region (vv (I (w64 (a.1+1))) (WL.nil ?_)))));obtain rfl:=si H;exact ⟨_,rfl,jn y ⟨n,q,rfl,u⟩⟩
  refine W.exit (thx ?_);obtain rfl:=si H;exact ⟨_,rfl,rfl,jn U ⟨k,t,rfl,f⟩⟩
 ·exact jn c0 ⟨G,S,rfl,T⟩
 rintro _ X w_ ⟨rfl,z,f0,_,rfl,h0,rfl,o,s,rfl,x⟩;refine bke ?_;obtain rfl:=si p;exact n0 (qq z ⟨o,s,x,rfl⟩)
def jh (p0:Int):Option (Int):=
 ((bX (decide (p0≥240)) (some (decide (p0≤244)))).bind fun a=>
 if a=true then
 some ((w64 ((w64 ((w64 ((w64 (0+1))+1))+1))+1)))
 else
 (bX (decide (p0≥224)) (some (decide (p0 < 240)))).bind fun b=>
 if b=true then
 some ((w64 ((w64 ((w64 (0+1))+1))+1)))
 else
 (bX (decide (p0≥194)) (some (decide (p0 < 224)))).bind fun c=>
 if c=true then
 some ((w64 ((w64 (0+1))+1)))
 else
 if (decide (p0 < 128))=true then
 some ((w64 (0+1)))
 else
 some (0)).bind fun d=>
 some d
theorem pD (A:Own c0 G F) (a:Int) {r:Int} (H:jh a=some r): Calls prog 182 #[.int .u8 a] c0.w (aO c0 fun c v=>Own c G (F)∧v=I r):=by
 unfold jh at H;refine en func182 rfl rfl (sr (va (I 0) (wln (sr (va (I 0) (wln (bn H fun k b T=>W.seqJ (Jn c0 fun c l=>Own c G (F)∧l= [(3,I k)]) ?_ ?_)))))))
 ·refine W.block (W.seq (W.block (W.seq (W.block (W.seq (W.block (W.seq (W.block (W.seq (W.seq (W.seq (bn b fun q P b=>W.join (Jn c0 fun c l=>Own c G (F)∧l= [(0,.int .u8 a),(3,I 0),(4,B q)]) ?_ ?_))))))))))))
  ·clear b;refine W.region (va (.int .u8 a) (va (B (decide (a≥240))) ?_));rcases bo (decide (a≥240)) with j | j
   ·have U:=anT j P;refine vb j (wa (.int .u8 a) (wa (B (decide (a≤244))) ?_));obtain rfl:=si U;exact vv (B (decide (a≤244))) (wln (jn c0 ⟨A,rfl⟩))
   obtain rfl:=anF j P;exact vb j (pz (vv (B false) (wln (jn c0 ⟨A,rfl⟩))))
  rintro u x ⟨m,g7,_,rfl,l6,rfl,p,rfl⟩;refine nrm (cn b (fun M b=>?_) (fun M b=>?_))
  ·refine W.exit (thx (thx (bke (nrm (W.region (va (I 0) (vv (I (w64 (0+1))) (WL.nil (bkn (nrm (W.region (va (I (w64 (0+1))) (vv (I (w64 ((w64 (0+1))+1))) (WL.nil (bkn (nrm (W.region (va (I (w64 ((w64 (0+1))+1))) (vv (I (w64 ((w64 ((w64 (0+1))+1))+1))) (WL.nil (bkn (nrm (sr (va (I (w64 ((w64 ((w64 (0+1))+1))+1))) (vv (I (w64 ((w64 ((w64 ((w64 (0+1))+1))+1))+1))) (wln (W.exit (bke (nrm ?_)))))))))))))))))))))))))))));obtain rfl:=si b;exact jn m ⟨p,rfl⟩
  refine W.skip (nrm (W.seq (W.seq (bn b fun s n b=>W.join (Jn m fun c l=>Own c G (F)∧l= [(0,.int .u8 a),(3,I 0),(11,B s)]) ?_ ?_))))
  ·clear b;refine W.region (va (.int .u8 a) (va (B (decide (a≥224))) ?_));rcases bo (decide (a≥224)) with d | d
   ·have y:=anT d n;refine vb d (wa (.int .u8 a) (wa (B (decide (a < 240))) ?_));obtain rfl:=si y;exact vv (B (decide (a < 240))) (wln (jn m ⟨p,rfl⟩))
   obtain rfl:=anF d n;exact vb d (pz (vv (B false) (wln (jn m ⟨p,rfl⟩))))
  rintro u x ⟨f,X,_,rfl,l16,rfl,g,rfl⟩;refine nrm (cn b (fun N b=>?_) (fun N b=>?_))
  ·refine W.exit (thx (thx (bko rfl (thx (bke (nrm (W.region (va (I 0) (vv (I (w64 (0+1))) (WL.nil (bkn (nrm (W.region (va (I (w64 (0+1))) (vv (I (w64 ((w64 (0+1))+1))) (WL.nil (bkn (nrm (sr (va (I (w64 ((w64 (0+1))+1))) (vv (I (w64 ((w64 ((w64 (0+1))+1))+1))) (wln (W.exit (bke (nrm ?_)))))))))))))))))))))))));obtain rfl:=si b;exact jn f ⟨g,rfl⟩
  refine W.skip (nrm (W.seq (W.seq (bn b fun t o b=>W.join (Jn f fun c l=>Own c G (F)∧l= [(0,.int .u8 a),(3,I 0),(18,B t)]) ?_ ?_))))
  ·clear b;refine W.region (va (.int .u8 a) (va (B (decide (a≥194))) ?_));rcases bo (decide (a≥194)) with e | e
   ·have z:=anT e o;refine vb e (wa (.int .u8 a) (wa (B (decide (a < 224))) ?_));obtain rfl:=si z;exact vv (B (decide (a < 224))) (wln (jn f ⟨g,rfl⟩))
   obtain rfl:=anF e o;exact vb e (pz (vv (B false) (wln (jn f ⟨g,rfl⟩))))
  rintro u x ⟨i,Z,_,rfl,b0,rfl,h,rfl⟩;refine nrm (cn b (fun R b=>?_) (fun R b=>?_))
  ·refine W.exit (thx (thx (bko rfl (thx (bko rfl (thx (bke (nrm (W.region (va (I 0) (vv (I (w64 (0+1))) (WL.nil (bkn (nrm (sr (va (I (w64 (0+1))) (vv (I (w64 ((w64 (0+1))+1))) (wln (W.exit (bke (nrm ?_)))))))))))))))))))));obtain rfl:=si b;exact jn i ⟨h,rfl⟩
  refine W.skip (nrm (sr (va (.int .u8 a) (vv (B (decide (a < 128))) (wln (cn b (fun S b=>?_) (fun S b=>?_)))))))
  ·refine W.exit (thx (bko rfl (thx (bko rfl (thx (bko rfl (thx (bke (nrm (sr (va (I 0) (vv (I (w64 (0+1))) (wln (W.exit (bke (nrm ?_))))))))))))))));obtain rfl:=si b;exact jn i ⟨h,rfl⟩
  refine W.skip (nrm (W.exit (bko rfl (thx (bko rfl (thx (bko rfl (thx (bko rfl (thx (bke (nrm ?_))))))))))));obtain rfl:=si b;exact jn i ⟨h,rfl⟩
 rintro u x ⟨E,a0,_,rfl,d0,rfl,D,rfl⟩;refine sr (vv (I k) (wln (W.ret ?_)));obtain rfl:=si T;exact r1 (qq E ⟨D,rfl⟩)
def lM (p0:Int):Option (Int):=
 (jh p0).bind fun a=>
 if (a==0)=true then
 some 0
 else
 if (a==1)=true then
 some (w64 p0)
 else
 (shn (w64 (7 - a))).bind fun b=>
 some (dM .i64 (w64 p0) (w64 ((w64 (1 * 2 ^ (min b 64))) - 1)))
theorem zm (j:Own c0 G F) (e:Int) {r:Int} (H:lM e=some r): Calls prog 183 #[.int .u8 e] c0.w (aO c0 fun c v=>Own c G (F)∧v=I r):=by
 unfold lM at H;refine en func183 rfl rfl (sr (va (I 0) (wln (sr (va (.int .u8 e) (bn H fun d k H=>cl (pD j e k) ?_))))));rintro v7 h n ⟨g,rfl⟩;refine va (I d) (wln (sr (va (I d) (wln (W.block (sr (vv (B (d==0)) (wln (cn H (fun l H=>?_) (fun l H=>?_))))))))))
 ·refine sr (va (I 0) (wln (W.ret (bkr ?_))));obtain rfl:=si H;exact r1 (qq h ⟨g,rfl⟩)
 refine sr (vv (B (d==1)) (wln (cn H (fun m H=>?_) (fun m H=>?_))))
 ·refine sr (va (.int .u8 e) (vv (I (w64 e)) (wln (W.ret (bkr ?_)))));obtain rfl:=si H;exact r1 (qq h ⟨g,rfl⟩)
 refine sr (va (.int .u8 e) (va (I (w64 e)) (va (I d) (va (I (w64 (7 - d))) (bn H fun f i H=>vr (I (w64 (1 * 2 ^ (min f 64)))) (Ho (k':= .i64) (a:=1) (b:=(w64 (7 - d))) i (by kernel_rfl) _) (va (I (w64 ((w64 (1 * 2 ^ (min f 64))) - 1))) (vv (I (dM .i64 (w64 e) (w64 ((w64 (1 * 2 ^ (min f 64))) - 1)))) (wln (W.ret (bkr ?_))))))))));obtain rfl:=si H;exact r1 (qq h ⟨g,rfl⟩)
def kf (p0:Int):Option (Int×Int):=
 (jh p0).bind fun b=>
 if (decide (b < 2))=true then
 some (0,0)
 else
 (if (p0==224)=true then
 some (160,191)
 else
 if (p0==240)=true then
 some (144,191)
 else
 if (p0==244)=true then
 some (128,(IntKind.u8.wrap ((IntKind.u8.wrap (191 - 16)) - 32)))
 else
 if (p0==237)=true then
 some (128,(IntKind.u8.wrap (191 - 32)))
 else
 some (128,191)).bind fun a=>
 some (a.1,a.2)
theorem wT (p:Own c0 G F) (b:Int) {r:Int×Int} (H:kf b=some r): Calls prog 184 #[.int .u8 b] c0.w (aO c0 fun c v=>Own c G (F)∧v= .tuple #[.int .u8 r.1,.int .u8 r.2]):=by
 unfold kf at H;refine en func184 rfl rfl (sr (vv (.int .u8 0) (wln (W.seq (sr (va (.int .u8 b) (bn H fun o q H=>cl (pD p b q) ?_)))))));rintro v7 e y ⟨f,rfl⟩;refine va (B (decide (o < 2))) (wln (cn H (fun s H=>?_) (fun s H=>?_)))
 ·refine sr (vv (.int .u8 0) (wln (W.ret (thr ?_))));obtain rfl:=si H;exact r2 (qq e ⟨f,rfl⟩)
 refine W.skip (nrm (sr (va (.int .u8 128) (va (.int .u8 191) (wln (bn H fun d a g=>W.seqJ (Jn e fun c l=>Own c G (F)∧l= [(2,.int .u8 d.1),(3,.int .u8 d.2)]) ?_ ?_))))))
 ·refine sr (va (.int .u8 b) (wln (W.block (W.seq (W.block (W.seq (W.block (W.seq (W.block (W.seq (W.block (W.seq (W.seq (sr (vv (B (b==224)) (wln (cn a (fun j a=>?_) (fun j a=>?_))))))))))))))))))
  ·refine W.exit (thx (thx (bke (nrm (sr (va (.int .u8 160) (wln (W.exit (bko rfl (thx (bko rfl (thx (bko rfl (thx (bke (nrm ?_))))))))))))))));obtain rfl:=si a;exact jn e ⟨f,rfl⟩
  refine W.skip (nrm (W.seq (sr (vv (B (b==240)) (wln (cn a (fun k a=>?_) (fun k a=>?_)))))))
  ·refine W.exit (thx (thx (bko rfl (thx (bke (nrm (sr (va (.int .u8 144) (wln (W.exit (bko rfl (thx (bko rfl (thx (bke (nrm ?_))))))))))))))));obtain rfl:=si a;exact jn e ⟨f,rfl⟩
  refine W.skip (nrm (W.seq (sr (vv (B (b==244)) (wln (cn a (fun m a=>?_) (fun m a=>?_)))))))
  ·refine W.exit (thx (thx (bko rfl (thx (bko rfl (thx (bke (nrm (W.region (va (.int .u8 191) (vv (.int .u8 (IntKind.u8.wrap (191 - 16))) (WL.nil (bkn (nrm (sr (va (.int .u8 (IntKind.u8.wrap (191 - 16))) (vv (.int .u8 (IntKind.u8.wrap ((IntKind.u8.wrap (191 - 16)) - 32))) (wln (W.exit (bke (nrm ?_)))))))))))))))))))));obtain rfl:=si a;exact jn e ⟨f,rfl⟩
  refine W.skip (nrm (sr (vv (B (b==237)) (wln (cn a (fun n a=>?_) (fun n a=>?_))))))
  ·refine W.exit (thx (bko rfl (thx (bko rfl (thx (bko rfl (thx (bke (nrm (sr (va (.int .u8 191) (vv (.int .u8 (IntKind.u8.wrap (191 - 32))) (wln (W.exit (bke (nrm ?_))))))))))))))));obtain rfl:=si a;exact jn e ⟨f,rfl⟩
  refine W.skip (nrm (W.exit (bko rfl (thx (bko rfl (thx (bko rfl (thx (bko rfl (thx (bke (nrm ?_))))))))))));obtain rfl:=si a;exact jn e ⟨f,rfl⟩
 rintro x z ⟨i,t,_,rfl,u,rfl,h,rfl⟩;refine sr (va (.int .u8 d.1) (va (.int .u8 d.2) (va (.int .u8 d.1) (va (.int .u8 d.2) (wln (W.ret ?_))))));obtain rfl:=si g;exact r2 (qq i ⟨h,rfl⟩)
def bT (p0:bv):Option (Int):=
 if false=true then
 some 0
 else
 some p0.held
theorem iv {b:Nat} {r0_0:Value} {r0_6:Value} {r0_7:Value} {r0_8:Value} {r0_9:Value} {r0_10:Value} {r0_11:Value} (a:bv) (e:Own c0 G ((Eb b 64 [r0_0,I a.held,I a.needs,.int .u8 a.lo,.int .u8 a.hi,I a.bits,r0_6,r0_7,r0_8,r0_9,r0_10,r0_11]) :: F)) {r:Int} (H:bT a=some r): Calls prog 97 #[.pointer (some ⟨b,1,none⟩)] c0.w (aO c0 fun c v=>Own c G ((Eb b 64 [r0_0,I a.held,I a.needs,.int .u8 a.lo,.int .u8 a.hi,I a.bits,r0_6,r0_7,r0_8,r0_9,r0_10,r0_11]) :: F)∧v=I r):=by
 unfold bT at H;refine en func97 rfl rfl (sr (va (I 0) (wln (W.seq (sr (va (Qo b 1) (va (B false) (wln (W.cond (t:=false) (by kernel_rfl) (fun d=>?_) (fun d=>?_))))))))))
 ·cases d
 have H:=ie d H;refine W.skip (nrm (sr (vv (Qo b 1) (va (Qo b 1) (vx (le1 1 u_3 (e.on 0 rfl)) (va (I a.held) (wln (W.ret ?_))))))));obtain rfl:=si H;exact r1 (qq c0 ⟨e,rfl⟩)
def bF (p0:bv):Option (bv×(List Int)):=
 (bT p0).bind fun a=>
 if (a==0)=true then
 some (p0,([]:List Int))
 else
 some ((⟨0,0,0,0,0⟩:bv),([65533]:List Int))
theorem gU {a:Nat} {r0_0:Value} {r0_6:Value} {r0_7:Value} {r0_8:Value} {r0_9:Value} {r0_10:Value} {r0_11:Value} (b:bv) (q:Own c0 G ((Eb a 64 [r0_0,I b.held,I b.needs,.int .u8 b.lo,.int .u8 b.hi,I b.bits,r0_6,r0_7,r0_8,r0_9,r0_10,r0_11]) :: F)) {r:bv×(List Int)} (H:bF b=some r): Calls prog 108 #[.pointer (some ⟨a,1,none⟩)] c0.w (aO c0 fun c v=>∃d p,Own c G (es true (RI .i32) d 21 p r.2 :: (Eb a 64 [r0_0,I r.1.held,I r.1.needs,.int .u8 r.1.lo,.int .u8 r.1.hi,I r.1.bits,r0_6,r0_7,r0_8,r0_9,r0_10,r0_11]) :: F)∧v=d∧OA (RI .i32) c d p r.2):=by
 unfold bF at H;refine en func108 rfl rfl (sr (va (Y) (wln (W.seq (sr (va (Qo a 1) (bn H fun o s H=>cl (iv b q s) ?_)))))));rintro v8 k z ⟨i,rfl⟩;refine va (B (o==0)) (wln (cn H (fun t H=>?_) (fun t H=>?_)))
 ·refine sr (va (Y) (wln (W.ret (thr ?_))));obtain rfl:=si H;have l:OA (RI .i32) k (Y) [] []:=OA.nil (aI _);have f:=i.addHole (e:=es true (RI .i32) (Y) 21 [] ([]:List Int)) rfl;exact r1 (qq k ⟨(Y),[],f,rfl,l⟩)
 refine W.skip (nrm (sr (va (Qo a 1) (va (.agg #[I 0,I 0,.int .u8 0,.int .u8 0,I 0]) (va (Qo a 1) (md (sB 59 1 [I 0,I 0,.int .u8 0,.int .u8 0,I 0] [r0_0,I 0,I 0,.int .u8 0,.int .u8 0,I 0,r0_6,r0_7,r0_8,r0_9,r0_10,r0_11] 0 i ⟨rfl,rfl,rfl,rfl,rfl,trivial⟩) ?_))))));rintro u x g;refine wln (sr (me (sl (RI .i32) 21 [[J 65533]] ([65533]:List Int) g ⟨rfl,trivial⟩) ?_));rintro v18 j y ⟨n,h,m⟩;refine va (v18) (wln (W.ret ?_));obtain rfl:=si H;exact r1 (qq j ⟨v18,n,h,rfl,m⟩)
def cg (p0:bv) (p1:Int):Option (bv×(List Int)):=
 (jh p1).bind fun a=>
 if (a==0)=true then
 some (p0,([65533]:List Int))
 else
 if (a==1)=true then
 some (p0,([(w32 p1)]:List Int))
 else
 (lM p1).bind fun c=>
 (kf p1).bind fun b=>
 some ((⟨1,(w64 (a - 1)),b.1,b.2,c⟩:bv),([]:List Int))
theorem gS {a:Nat} {r0_0:Value} {r0_6:Value} {r0_7:Value} {r0_8:Value} {r0_9:Value} {r0_10:Value} {r0_11:Value} (f:bv) (g:Int) (T:Own c0 G ((Eb a 64 [r0_0,I f.held,I f.needs,.int .u8 f.lo,.int .u8 f.hi,I f.bits,r0_6,r0_7,r0_8,r0_9,r0_10,r0_11]) :: F)) {r:bv×(List Int)} (H:cg f g=some r): Calls prog 142 #[.pointer (some ⟨a,1,none⟩),.int .u8 g] c0.w (aO c0 fun c v=>∃k S,Own c G (es true (RI .i32) k 21 S r.2 :: (Eb a 64 [r0_0,I r.1.held,I r.1.needs,.int .u8 r.1.lo,.int .u8 r.1.hi,I r.1.bits,r0_6,r0_7,r0_8,r0_9,r0_10,r0_11]) :: F)∧v=k∧OA (RI .i32) c k S r.2):=by
 unfold cg at H;refine en func142 rfl rfl (sr (va (Y) (wln (W.seq (sr (va (.int .u8 g) (bn H fun b X H=>cl (pD T g X) ?_)))))));rintro v7 c6 l6 ⟨j,rfl⟩;refine va (I b) (wln (sr (va (I b) (wln (W.block (sr (vv (B (b==0)) (wln (cn H (fun Z H=>?_) (fun Z H=>?_))))))))))
 ·refine sr (me (sl (RI .i32) 21 [[J 65533]] ([65533]:List Int) j ⟨rfl,trivial⟩) ?_);rintro v13 x h0 ⟨P,U,z⟩;refine va (v13) (wln (W.ret (bkr (thr ?_))));obtain rfl:=si H;exact r1 (qq x ⟨v13,P,U,rfl,z⟩)
 refine sr (vv (B (b==1)) (wln (cn H (fun A H=>?_) (fun A H=>?_))))
 ·refine sr (va (.int .u8 g) (va (J (w32 g)) (me (sl (RI .i32) 21 [[J (w32 g)]] ([(w32 g)]:List Int) j ⟨rfl,trivial⟩) ?_)));rintro v19 y i0 ⟨R,l,D⟩;refine va (v19) (wln (W.ret (bkr (thr ?_))));obtain rfl:=si H;exact r1 (qq y ⟨v19,R,l,rfl,D⟩)
 refine sr (vv (Qo a 1) (va (Qo a 1) (va (I b) (va (I (w64 (b - 1))) (va (.int .u8 g) (bn H fun h E H=>cl (zm j g E) ?_))))));rintro v26 a0 j0 ⟨m,rfl⟩;refine va (.pointer (some ⟨a,1,none⟩)) (va (Qo a 1) (md (sC 3 1 (I 1) [r0_0,I 1,I f.needs,.int .u8 f.lo,.int .u8 f.hi,I f.bits,r0_6,r0_7,r0_8,r0_9,r0_10,r0_11] 0 m ⟨rfl,trivial⟩) ?_));rintro b0 k0 n;refine va (.pointer (some ⟨a,1,none⟩)) (va (Qo a 2) (md (sC 3 2 (I (w64 (b - 1))) [r0_0,I 1,I (w64 (b - 1)),.int .u8 f.lo,.int .u8 f.hi,I f.bits,r0_6,r0_7,r0_8,r0_9,r0_10,r0_11] 0 n ⟨rfl,trivial⟩) ?_));rintro d0 l0 o;refine va (.pointer (some ⟨a,1,none⟩)) (va (Qo a 5) (md (sC 3 5 (I h) [r0_0,I 1,I (w64 (b - 1)),.int .u8 f.lo,.int .u8 f.hi,I h,r0_6,r0_7,r0_8,r0_9,r0_10,r0_11] 0 o ⟨rfl,trivial⟩) ?_));rintro e0 m0 p;refine wln (W.region (vv (Qo a 1) (va (.int .u8 g) (bn H fun d M H=>cl (wT p g M) ?_))));rintro v39 f0 o0 ⟨q,rfl⟩;refine va (.tuple #[.int .u8 d.1,.int .u8 d.2]) (va (.int .u8 d.1) (va (.int .u8 d.2) (va (Qo a 1) (va (Qo a 3) (md (sC 5 3 (.int .u8 d.1) [r0_0,I 1,I (w64 (b - 1)),.int .u8 d.1,.int .u8 f.hi,I h,r0_6,r0_7,r0_8,r0_9,r0_10,r0_11] 0 q ⟨rfl,trivial⟩) ?_)))));rintro g0 q0 s;refine va (.pointer (some ⟨a,1,none⟩)) (va (Qo a 4) (md (sC 5 4 (.int .u8 d.2) [r0_0,I 1,I (w64 (b - 1)),.int .u8 d.1,.int .u8 d.2,I h,r0_6,r0_7,r0_8,r0_9,r0_10,r0_11] 0 s ⟨rfl,trivial⟩) ?_));rintro i s0 t;refine WL.nil (bkn (nrm (sr (va (Y) (wln (W.ret ?_))))));obtain rfl:=si H;have N:OA (RI .i32) i (Y) [] []:=OA.nil (aI _);have u:=t.addHole (e:=es true (RI .i32) (Y) 21 [] ([]:List Int)) rfl;exact r1 (qq i ⟨(Y),[],u,rfl,N⟩)
def cM (p0:bv) (p1:Int):Option (bv×(List Int)):=
 if false=true then
 some (p0,([]:List Int))
 else
 if (p0.held==0)=true then
 (cg p0 p1).bind fun a=>
 some (a.1,a.2)
 else
 (orE (decide (p1 < p0.lo)) (some (decide (p1 > p0.hi)))).bind fun d=>
 if d=true then
 (bF p0).bind fun b=>
 (cg b.1 p1).bind fun c=>
 (app b.2 c.2).bind fun e=>
 some (c.1,e)
 else
 if (decide ((w64 (p0.needs - 1)) > 0))=true then
 some ((⟨(w64 (p0.held+1)),(w64 (p0.needs - 1)),128,191,(gi .i64 (w64 (p0.bits * 2 ^ 6)) (w64 (dM .u8 p1 63)))⟩:bv),([]:List Int))
 else
 some ((⟨0,0,0,0,0⟩:bv),([(w32 (gi .i64 (w64 (p0.bits * 2 ^ 6)) (w64 (dM .u8 p1 63))))]:List Int))
theorem lV {a:Nat} {r0_0:Value} {r0_6:Value} {r0_7:Value} {r0_8:Value} {r0_9:Value} {r0_10:Value} {r0_11:Value} (b:bv) (d:Int) (h:Own c0 G ((Eb a 64 [r0_0,I b.held,I b.needs,.int .u8 b.lo,.int .u8 b.hi,I b.bits,r0_6,r0_7,r0_8,r0_9,r0_10,r0_11]) :: F)) {r:bv×(List Int)} (H:cM b d=some r): Calls prog 107 #[.pointer (some ⟨a,1,none⟩),.int .u8 d] c0.w (aO c0 fun c v=>∃x y2,Own c G (es true (RI .i32) x 21 y2 r.2 :: (Eb a 64 [r0_0,I r.1.held,I r.1.needs,.int .u8 r.1.lo,.int .u8 r.1.hi,I r.1.bits,r0_6,r0_7,r0_8,r0_9,r0_10,r0_11]) :: F)∧v=x∧OA (RI .i32) c x y2 r.2):=by
 unfold cM at H;refine en func107 rfl rfl (sr (va (Y) (wln (W.seq (W.block (sr (va (Qo a 1) (vv (B false) (wln (W.cond (t:=false) (by kernel_rfl) (fun s=>?_) (fun s=>?_)))))))))))
 ·cases s
 have H:=ie s H;refine sr (vv (Qo a 1) (va (Qo a 1) (vx (le1 1 u_3 (h.on 0 rfl)) (vv (B (b.held==0)) (wln (cn H (fun h2 H=>?_) (fun h2 H=>?_)))))))
 ·refine sr (va (Qo a 1) (va (.int .u8 d) (bn H fun z0 h4 H=>cl (gS b d h h4) ?_)));rintro v5 X q1 ⟨_,u6,O9,rfl,h7⟩;refine va (v5) (wln (W.ret (bkr (thr ?_))));obtain rfl:=si H;exact r1 (qq X ⟨v5,u6,O9,rfl,h7⟩)
 refine W.seq (bn H fun q o H=>W.join (Jn c0 fun c l=>Own c G ((Eb a 64 [r0_0,I b.held,I b.needs,.int .u8 b.lo,.int .u8 b.hi,I b.bits,r0_6,r0_7,r0_8,r0_9,r0_10,r0_11]) :: F)∧l= [(0,.pointer (some ⟨a,1,none⟩)),(1,.int .u8 d),(18,B q)]) ?_ ?_)
 ·clear H;refine W.region (va (.int .u8 d) (vv (Qo a 1) (va (Qo a 3) (vx (le1 3 u_5 (h.on 0 rfl)) (va (B (decide (d < b.lo))) ?_)))));rcases bo (decide (d < b.lo)) with f | f
  ·obtain rfl:=orT f o;exact vb f (pz (pz (pz (vv (B true) (wln (jn c0 ⟨h,rfl⟩))))))
  have y:=orF f o;refine vb f (wa (.int .u8 d) (wa (Qo a 1) (wa (Qo a 1) (wa (Qo a 4) (wn (vx (le1 4 u_5 (h.on 0 rfl)) (wa (B (decide (d > b.hi))) ?_)))))));obtain rfl:=si y;exact vv (B (decide (d > b.hi))) (wln (jn c0 ⟨h,rfl⟩))
 rintro e_ w_ ⟨c1,n1,_,rfl,s1,rfl,i,rfl⟩;refine nrm (cn H (fun b0 H=>?_) (fun b0 H=>?_))
 ·refine sr (va (Qo a 1) (bn H fun u d0 H=>cl (gU b i d0) ?_));rintro v26 d1 t1 ⟨_,g2,z,rfl,e0⟩;refine va (.pointer (some ⟨a,1,none⟩)) (va (.int .u8 d) ?_);have A:=z.sD 2 [1,0];refine bn H fun a1 f0 H=>cl (gS u.1 d A f0) ?_;rintro v37 e1 u1 ⟨_,i2,D,rfl,g0⟩;obtain ⟨f1,i0,v1,E,h0⟩:=D.frz 0 rfl g0;refine WL.gh i0 (bn H fun b1 j0 H=>me (ap (RI .i32) (J 0) 4 102 2 E e0.m h0 j0 dS) ?_);rintro v55 Z w1 ⟨q0,M,k0⟩;refine va (v55) (wln (W.ret (bkr (thr ?_))));obtain rfl:=si H;have N:=M.sD 3 [2,1];exact r1 (qq Z ⟨v55,q0,N,rfl,k0⟩)
 refine W.skip (bkn (nrm (sr (vv (Qo a 1) (va (Qo a 1) (va (Qo a 5) (vx (le1 5 u_3 (i.on 0 rfl)) (va (I (w64 (b.bits * 2 ^ 6))) (va (.int .u8 d) (va (.int .u8 (dM .u8 d 63)) (va (I (w64 (dM .u8 d 63))) (va (I (gi .i64 (w64 (b.bits * 2 ^ 6)) (w64 (dM .u8 d 63)))) (va (Qo a 1) (va (Qo a 5) (md (sC 3 5 (I (gi .i64 (w64 (b.bits * 2 ^ 6)) (w64 (dM .u8 d 63)))) [r0_0,I b.held,I b.needs,.int .u8 b.lo,.int .u8 b.hi,I (gi .i64 (w64 (b.bits * 2 ^ 6)) (w64 (dM .u8 d 63))),r0_6,r0_7,r0_8,r0_9,r0_10,r0_11] 0 i ⟨rfl,trivial⟩) ?_)))))))))))))));rintro g1 x1 P;refine wln (sr (vv (Qo a 1) (va (Qo a 1) (va (Qo a 3) (md (sC 5 3 (.int .u8 128) [r0_0,I b.held,I b.needs,.int .u8 128,.int .u8 b.hi,I (gi .i64 (w64 (b.bits * 2 ^ 6)) (w64 (dM .u8 d 63))),r0_6,r0_7,r0_8,r0_9,r0_10,r0_11] 0 P ⟨rfl,trivial⟩) ?_)))));rintro i1 z1 R;refine va (.pointer (some ⟨a,1,none⟩)) (va (Qo a 4) (md (sC 5 4 (.int .u8 191) [r0_0,I b.held,I b.needs,.int .u8 128,.int .u8 191,I (gi .i64 (w64 (b.bits * 2 ^ 6)) (w64 (dM .u8 d 63))),r0_6,r0_7,r0_8,r0_9,r0_10,r0_11] 0 R ⟨rfl,trivial⟩) ?_));rintro j1 b2 j;refine wln (sr (vv (Qo a 1) (va (Qo a 1) (vx (le1 1 u_3 (j.on 0 rfl)) (va (I (w64 (b.held+1))) (vv (Qo a 1) (md (sC 3 1 (I (w64 (b.held+1))) [r0_0,I (w64 (b.held+1)),I b.needs,.int .u8 128,.int .u8 191,I (gi .i64 (w64 (b.bits * 2 ^ 6)) (w64 (dM .u8 d 63))),r0_6,r0_7,r0_8,r0_9,r0_10,r0_11] 0 j ⟨rfl,trivial⟩) ?_)))))));rintro k1 c2 k;refine wln (sr (vv (Qo a 1) (va (Qo a 2) (vx (le1 2 u_3 (k.on 0 rfl)) (va (I (w64 (b.needs - 1))) (va (Qo a 1) (va (Qo a 2) (md (sC 3 2 (I (w64 (b.needs - 1))) [r0_0,I (w64 (b.held+1)),I (w64 (b.needs - 1)),.int .u8 128,.int .u8 191,I (gi .i64 (w64 (b.bits * 2 ^ 6)) (w64 (dM .u8 d 63))),r0_6,r0_7,r0_8,r0_9,r0_10,r0_11] 0 k ⟨rfl,trivial⟩) ?_))))))));rintro n d2 g;refine wln (W.seq (sr (vv (Qo a 1) (va (Qo a 2) (vx (le1 2 u_3 (g.on 0 rfl)) (va (B (decide ((w64 (b.needs - 1)) > 0))) (wln (cn H (fun l0 H=>?_) (fun l0 H=>?_)))))))))
 ·refine sr (va (Y) (wln (W.ret (thr ?_))));obtain rfl:=si H;have m0:OA (RI .i32) n (Y) [] []:=OA.nil (aI _);have S:=g.addHole (e:=es true (RI .i32) (Y) 21 [] ([]:List Int)) rfl;exact r1 (qq n ⟨(Y),[],S,rfl,m0⟩)
 refine W.skip (nrm (sr (vv (Qo a 1) (va (Qo a 5) (vx (le1 5 u_3 (g.on 0 rfl)) (vv (J (w32 (gi .i64 (w64 (b.bits * 2 ^ 6)) (w64 (dM .u8 d 63))))) (wln (sr (va (Qo a 1) (va (.agg #[I 0,I 0,.int .u8 0,.int .u8 0,I 0]) (va (Qo a 1) (md (sB 59 1 [I 0,I 0,.int .u8 0,.int .u8 0,I 0] [r0_0,I 0,I 0,.int .u8 0,.int .u8 0,I 0,r0_6,r0_7,r0_8,r0_9,r0_10,r0_11] 0 g ⟨rfl,rfl,rfl,rfl,rfl,trivial⟩) ?_))))))))))));rintro m1 e2 T;refine wln (sr (va (J (w32 (gi .i64 (w64 (b.bits * 2 ^ 6)) (w64 (dM .u8 d 63))))) (me (sl (RI .i32) 21 [[J (w32 (gi .i64 (w64 (b.bits * 2 ^ 6)) (w64 (dM .u8 d 63))))]] ([(w32 (gi .i64 (w64 (b.bits * 2 ^ 6)) (w64 (dM .u8 d 63))))]:List Int) T ⟨rfl,trivial⟩) ?_)));rintro p a0 f2 ⟨s0,U,o0⟩;refine va (p) (wln (W.ret ?_));obtain rfl:=si H;exact r1 (qq a0 ⟨p,s0,U,rfl,o0⟩)
def ge (sg:Sto) (p0:Option Nat) (p1:List Int):Option (Sto):=
 if p0.isNone=true then
 some sg
 else
 (cV (σ:=Int×Sto) (τ:=Sto) (((p1.length:Int) - 0).toNat+1) (fun b=>
 if (decide (b.1 < (p1.length:Int)))=true then
 (idx p1 b.1).bind fun f=>
 (p0).bind fun d=>
 (b.2.feed_Feeder[d]?).bind fun a=>
 (cM a.dec f).bind fun e=>
 (b.2.set_feed_Feeder d (⟨a.pen,e.1,a.seg,a.open_⟩:bw)).bind fun c=>
 (fV c p0 e.2).bind fun g=>
 some (.inl ((w64 (b.1+1)),g))
 else
 some (.inr (b.2))) (0,sg)).bind fun h=>
 some h
theorem ru (M:Own c0 G F) (R0:Rel c0 sg G) (hG:Gl [3,5] c0) (j:Option Nat) (k:List Int) {r:Sto} (t:Pt 4 c0 v1 j) (u:Sl (RI .u8) c0 v3 k) (H:ge sg j k=some r): Calls prog 71 #[v1,v3] c0.w (aO c0 fun c v=>∃G_:Gm,Own c G_ (F)∧Rel c r G_∧v= .tuple #[]):=by
 unfold ge at H;refine en func71 rfl rfl (W.seq (sr (va (v1) (vr (B j.isNone) (by rcases (t).cs with ⟨p,s⟩ | ⟨b_,p,s⟩ <;> (subst p; rw [s]; kernel_rfl)) (wln (cn H (fun h5 H=>?_) (fun h5 H=>?_)))))))
 ·refine W.ret (thr ?_);obtain rfl:=si H;exact r0 (qq c0 ⟨G,M,R0,rfl⟩)
 refine W.skip (nrm (sr (va (v3) (vx (ln 3 mZ u) (va (I 0) (wln (W.block (bn H fun y1 h6 E=>lp h6 (fun d=>Jn c0 fun c l=>∃G_,Own c G_ (F)∧l= [(0,v1),(8,v3),(9,I (k.length:Int)),(10,I d.1)]∧Rel c d.2 G_) (fun x ex e w=>ex= .exit 0∧(Jn c0 fun c l=>∃G_,Own c G_ (F)∧l= []∧Rel c x G_) e w) ?_ ?_ ?_))))))))
 ·clear E h6;intro d b2 i0 c1 H;revert i0 c1;rintro e_ w_ ⟨c8,g9,_,rfl,l8,rfl,z,n,rfl,h⟩;refine sr (va (B (decide (d.1 < (k.length:Int)))) (wln (W.seq (cn H (fun j0 H=>?_) (fun j0 H=>?_)))))
  ·refine W.skip (nrm (W.seq (W.block (sr (bn H fun f o H=>?_)))));obtain ⟨h1,k0,b1⟩:=Sl.at (u.mono l8) (bW o);obtain rfl:=k0;refine vx (ix mZ u.m o) (vx (l1 u_5 (b1 0 _ rfl)) (va (.int .u8 f) (wln (W.region (vv (v1) (bn H fun g1 l0 H=>?_))))));obtain ⟨g,rfl,q⟩:=((t.mono l8)).get l0;refine va (Q g) (va (Qo g 1) (va (.int .u8 f) (bn H fun a m0 H=>?_)));obtain ⟨v23,v25,s0,o0,q0⟩:=Rel.open_feed_Feeder h m0 q;have N:=n.borrow 0 s0 rfl;refine bn H fun b t0 H=>cl (lV a.dec f N t0) ?_;rintro v31 n1 i ⟨_,z1,P,rfl,u0⟩;have S:=P.sD 2 [1,0];have R:=S.giveB 0 rfl;refine bn H fun y v0 H=>?_;obtain ⟨k1,T,d0,t1,m1⟩:=Rel.put_feed_Feeder R (h.mono i) (E':=[(Eb g 64 [v23,I b.1.held,I b.1.needs,.int .u8 b.1.lo,.int .u8 b.1.hi,I b.1.bits,B a.seg.some,I a.seg.last,I a.seg.pict,I a.seg.conj,B a.seg.odd,v25])]) v0 ⟨g,v23,v25,(tm q),rfl,(o0.mono i),(q0.mono i)⟩;obtain ⟨q1,x0,u1,U,w0⟩:=T.frz 0 rfl u0;refine WL.gh x0 (bn H fun j1 y0 H=>cl (oe U d0.m (hG.m.le (by decide)) j b.2 t.m w0 y0) ?_);rintro v58 g0 w1 ⟨A,X,e0,rfl⟩;refine WL.nil (bkn (nrm (W.region (vv (I (w64 (d.1+1))) (WL.nil ?_)))));obtain rfl:=si H;refine ⟨_,rfl,?_⟩;have Z:=X.sD 1 [];exact jn g0 ⟨A,Z,rfl,e0⟩
  refine W.exit (thx ?_);obtain rfl:=si H;exact ⟨_,rfl,rfl,jn c8 ⟨z,n,rfl,h⟩⟩
 ·exact jn c0 ⟨G,M,rfl,R0⟩
 rintro _ e_ w_ ⟨rfl,h0,s1,_,rfl,x1,rfl,D,a0,rfl,f0⟩;refine bke ?_;obtain rfl:=si E;exact n0 (qq h0 ⟨D,a0,f0,rfl⟩)
def gb (sg:Sto) (p0:Option Nat):Option (Sto):=
 if p0.isNone=true then
 some sg
 else
 (p0).bind fun c=>
 (sg.feed_Feeder[c]?).bind fun a=>
 (bF a.dec).bind fun d=>
 (sg.set_feed_Feeder c (⟨a.pen,d.1,a.seg,a.open_⟩:bw)).bind fun b=>
 (fV b p0 d.2).bind fun f=>
 (cY f p0).bind fun e=>
 some e
theorem rq (l:Own c0 G F) (j:Rel c0 sg G) (hG:Gl [3,5] c0) (f:Option Nat) {r:Sto} (g:Pt 4 c0 v1 f) (H:gb sg f=some r): Calls prog 72 #[v1] c0.w (aO c0 fun c v=>∃G_:Gm,Own c G_ (F)∧Rel c r G_∧v= .tuple #[]):=by
 unfold gb at H;refine en func72 rfl rfl (W.seq (sr (va (v1) (vr (B f.isNone) (by rcases (g).cs with ⟨h,i⟩ | ⟨b_,h,i⟩ <;> (subst h; rw [i]; kernel_rfl)) (wln (cn H (fun h3 H=>?_) (fun h3 H=>?_)))))))
 ·refine W.ret (thr ?_);obtain rfl:=si H;exact r0 (qq c0 ⟨G,l,j,rfl⟩)
 refine W.skip (nrm (sr (vv (v1) (bn H fun s0 h6 H=>?_))));obtain ⟨d,rfl,h5⟩:=(g).get h6;refine va (Q d) (va (Qo d 1) (bn H fun a h7 H=>?_));obtain ⟨v8,v10,N,h9,M⟩:=Rel.open_feed_Feeder j h7 h5;have n:=l.borrow 0 N rfl;refine bn H fun b P H=>cl (gU a.dec n P) ?_;rintro v16 l0 e ⟨_,w0,o,rfl,R⟩;have q:=o.sD 2 [1,0];have p:=q.giveB 0 rfl;refine bn H fun b0 S H=>?_;obtain ⟨i0,s,z,q0,k0⟩:=Rel.put_feed_Feeder p (j.mono e) (E':=[(Eb d 64 [v8,I b.1.held,I b.1.needs,.int .u8 b.1.lo,.int .u8 b.1.hi,I b.1.bits,B a.seg.some,I a.seg.last,I a.seg.pict,I a.seg.conj,B a.seg.odd,v10])]) S ⟨d,v8,v10,(tm h5),rfl,(h9.mono e),(M.mono e)⟩;obtain ⟨m0,U,t0,t,T⟩:=s.frz 0 rfl R;refine WL.gh U (bn H fun x0 X H=>cl (oe t z.m (hG.m.le (by decide)) f b.2 g.m T X) ?_);rintro v43 o0 u0 ⟨j0,u,A,rfl⟩;refine wln (W.region (va (Q d) (bn H fun h0 Z H=>cl (iF u A f g.m Z) ?_)));rintro v50 E v0 ⟨k,x,D,rfl⟩;refine WL.nil ?_;obtain rfl:=si H;have y:=x.sD 1 [];exact n0 (qq E ⟨k,y,D,rfl⟩)
def gJ (sg:Sto) (p0:Option Nat):Option (Int):=
 if p0.isNone=true then
 some 0
 else
 (p0).bind fun c=>
 (sg.feed_Feeder[c]?).bind fun a=>
 (bT a.dec).bind fun b=>
 some b
theorem su (h:Own c0 G F) (q:Rel c0 sg G) (f:Option Nat) {r:Int} (p:Pt 4 c0 v1 f) (H:gJ sg f=some r): Calls prog 62 #[v1] c0.w (aO c0 fun c v=>Own c G (F)∧v=I r):=by
 unfold gJ at H;refine en func62 rfl rfl (sr (va (I 0) (wln (W.seq (sr (va (v1) (vr (B f.isNone) (by rcases (p).cs with ⟨d,e⟩ | ⟨D,d,e⟩ <;> (subst d; rw [e]; kernel_rfl)) (wln (cn H (fun s H=>?_) (fun s H=>?_))))))))))
 ·refine sr (va (I 0) (wln (W.ret (thr ?_))));obtain rfl:=si H;exact r1 (qq c0 ⟨h,rfl⟩)
 refine W.skip (nrm (sr (va (v1) (bn H fun z u H=>?_))));obtain ⟨m,rfl,t⟩:=(p).get u;refine va (Q m) (va (Qo m 1) (bn H fun a x H=>?_));obtain ⟨v8,v10,b,E,y⟩:=Rel.open_feed_Feeder q x t;have i:=h.borrow 0 b rfl;refine bn H fun g o H=>cl (iv a.dec i o) ?_;rintro v21 n A ⟨j,rfl⟩;have k:=j.giveB 0 rfl;have l:=Own.back k b rfl;refine va (I g) (wln (W.ret ?_));obtain rfl:=si H;exact r1 (qq n ⟨l,rfl⟩)
end Go.Proofs.YtceciacilfhmjaaGreatDoor
namespace Go.Proofs.YtceciacilfhmjaaGreatDoor
open Go Go.Lt
set_option maxRecDepth 10000
set_option linter.unusedVariables false
attribute [local irreducible] W WL AC
open Go.RowKit Go.Extern.Stop Go.Stop Go.Extern
def AN (gl:List Nat):Er→Bool
 | .nil=>true
 | .sent g=>gl.contains g
 | .fault _ e=>AN gl e
def th (k:Nat):Er→Bool
 | .nil=>false
 | .sent g=>g==k
 | .fault _ e=>th k e
def pA:Er→Nat
 | .nil=>0
 | .sent _=>0
 | .fault _ e=>pA e+1
def py (gl:List Nat) (p0 p1:Er):Option Bool:=match p1 with
 | .sent k=>if gl.contains k=true∧AN gl p0=true then some (th k p0) else none
 | _=>none
def ip (p0 p1:Er):Option Bool:=py [0,1,2,3,4,5,6,7] p0 p1
theorem DT (v:Value) (w:World):(Extern.ReflectliteType.typeOf #[.iface 318 v]).run Tryz.prog w= .ok (.iface 203 (.agg #[.pointer (some ⟨17,318,none⟩)])) w:=by kernel_rfl
theorem xn (w:World):((Extern.ReflectliteType.method fun t=>do Extern.Rtype.noPackHeld "Comparable" t; pure (.bool (←typeInfo t).comparable)) #[.agg #[.pointer (some ⟨17,318,none⟩)]]).run Tryz.prog w= .ok (.bool true) w:=by kernel_rfl
theorem rj (v:Value) (w:World):(Go.method 455 203 v "Comparable").run Tryz.prog w= .ok (299,v) w:=by kernel_rfl
theorem HW:(Tryz.prog.info? 318).map (·.comparable)=some true:=by kernel_rfl
theorem HV:(Tryz.prog.info? 320).map (·.size)=some 1:=by kernel_rfl
theorem FN (v:Value) (xT:TypeId) (w:World):(Instr.typeAssert (.iface 318 v) xT 223 true).run Tryz.prog w= .ok (.tuple #[.nilIface,.bool false]) w:=run_typeAssert_lacksB Tryz.underlying223 (by kernel_rfl) (by kernel_rfl) v xT w
theorem yX (v:Value) (xT:TypeId) (w:World):(Instr.typeAssert (.iface 318 v) xT 210 true).run Tryz.prog w= .ok (.tuple #[.nilIface,.bool false]) w:=run_typeAssert_lacksB Tryz.underlying210 (by kernel_rfl) (by kernel_rfl) v xT w
theorem xl (v:Value) (xT:TypeId) (w:World):(Instr.typeAssert (.iface 318 v) xT 212 true).run Tryz.prog w= .ok (.tuple #[.nilIface,.bool false]) w:=run_typeAssert_lacksB Tryz.underlying212 (by kernel_rfl) (by kernel_rfl) v xT w
theorem FM (v:Value) (xT:TypeId) (w:World):(Instr.typeAssert (.iface 126 v) xT 223 true).run Tryz.prog w= .ok (.tuple #[.nilIface,.bool false]) w:=run_typeAssert_lacksB Tryz.underlying223 (by kernel_rfl) (by kernel_rfl) v xT w
theorem xm (v:Value) (xT:TypeId) (w:World):(Instr.typeAssert (.iface 126 v) xT 210 true).run Tryz.prog w= .ok (.tuple #[.iface 126 v,.bool true]) w:=run_typeAssert_hasB Tryz.underlying210 (by kernel_rfl) v xT w
theorem uX (v:Value) (w:World):(Go.method 455 126 v "Unwrap").run Tryz.prog w= .ok (293,v) w:=by kernel_rfl
open Classical in
noncomputable def wo (c:Cx) (E:Value):Nat:=if h:∃p,RE 318 126 c E p then pA h.choose else 0
theorem wm {c:Cx}:∀{p p':Er} {E:Value},RE 318 126 c E p→RE 318 126 c E p'→pA p=pA p'
 | .nil,.nil,_,_,_=>rfl
 | .nil,.sent _,_,h,h'=>rfl
 | .nil,.fault _ _,_,h,h'=>by
  obtain rfl:=h;obtain ⟨b,u,e,_⟩:=h';cases e
 | .sent _,.nil,_,_,_=>rfl
 | .sent _,.sent _,_,_,_=>rfl
 | .sent _,.fault _ _,_,h,h'=>by
  obtain ⟨a,rfl,_⟩:=h;obtain ⟨b,u,e,_⟩:=h';cases e
 | .fault _ _,.nil,_,h,h'=>by
  obtain rfl:=h';obtain ⟨b,u,e,_⟩:=h;cases e
 | .fault _ _,.sent _,_,h,h'=>by
  obtain ⟨a,rfl,_⟩:=h';obtain ⟨b,u,e,_⟩:=h;cases e
 | .fault _ p,.fault _ p',_,h,h'=>by
  obtain ⟨b,u,rfl,_,h1,h2⟩:=h;obtain ⟨b',u',e,_,h1',h2'⟩:=h';cases e;have:=h1.cell.symm.trans h1'.cell;cases this;show pA p+1=pA p'+1;rw [wm h2 h2']
theorem yh {c:Cx} {E:Value} {p:Er} (h:RE 318 126 c E p):wo c E=pA p:=by
 unfold wo;rw [rK ⟨p,h⟩];exact wm (Exists.choose_spec ⟨p,h⟩) h
set_option maxRecDepth 1000000 in
theorem Az {c:Cx} {gl:List Nat} (hG:Gl gl c) (b:Addr) (k:Nat) (hk:k∈gl) (h2:RE 318 126 c (.iface 318 (.pointer (some b))) (.sent k)) (E:Value) (p0:Er) (h1:RE 318 126 c E p0) (hn:p0.isNil=false) (ha:AN gl p0=true):
  Calls Tryz.prog 118 #[E,.iface 318 (.pointer (some b)),.bool true] c.w fun e w'=>e= .returned (.bool (th k p0))∧w'=c.w:=by
 obtain ⟨i,hi,hcmp⟩:=Option.map_eq_some_iff.1 HW;obtain ⟨j,hj,hjs⟩:=Option.map_eq_some_iff.1 HV;have nE:=FN;have uE:=yX;have vE:=xl;have nW:=FM;have uW:=xm;have mU:=uX;obtain ⟨b',eb,hkm,hkf⟩:=h2;cases eb;obtain ⟨W,hW⟩:∃W,Hid (W=c.w):=⟨_,rfl⟩;rw [←hW.out]
 go_enter Tryz.func118,Tryz.ntmps118
 go_wp2
 go_loopw [0] (fun E' wl=>wl=W∧∃p,RE 318 126 c E' p∧p.isNil=false∧AN gl p=true∧th k p0=th k p) (fun E' _=>wo c E')
 case atStart=>exact ⟨rfl,p0,h1,hn,ha,rfl⟩
 case round=>
  obtain ⟨rfl,p,hp,hpn,hpa,hiff⟩:=hrel
  cases p with
  | nil=>cases hpn
  | sent g=>
   obtain ⟨a,rfl,hgm,hgf⟩:=hp;by_cases hab:a=b
   ·subst hab;have hgk:g=k:=rz fun hne=>hG.2 g k (List.contains_iff_mem.1 hpa) hk hne a hgm hkm;have heq:=run_eql_iface_ptr_same (P:=Tryz.prog) wr a Tryz.underlying38 Tryz.underlying318 hi hcmp hj
    go_wp2
    go_ret
    exact ⟨by rw [hiff]; simp [th,hgk],rfl⟩
   ·obtain ⟨ca,ta,hca⟩:=hgf.blk;obtain ⟨cb,tb,hcb⟩:=hkf.blk;rw [←hW.out] at hca hcb;have hgk:¬g=k:=fun e=>by
     subst e;have:=hgm.cell.symm.trans hkm.cell;cases this;exact hab rfl
    have heq:=run_eql_iface_ptr_other (P:=Tryz.prog) wr Tryz.underlying38 Tryz.underlying318 hi hcmp hj (by rw [hjs]; decide) hab hca hcb
    go_wp2
    go_ret
    exact ⟨by rw [hiff]; simp [th,hgk],rfl⟩
  | fault n e1=>
   obtain ⟨fb,u,rfl,hi0,hi1,hre⟩:=hp;have hcell:=hi1.cell;rw [←hW.out] at hcell;have hty:=run_eql_iface_types (P:=Tryz.prog) 126 318 (.pointer (some ⟨fb,0,none⟩)) (.pointer (some b)) Tryz.underlying38 (by decide) wr;have hlen:=yh hre;have hlen0:=yh (c:=c) (E:= .iface 126 (.pointer (some ⟨fb,0,none⟩))) (p:= .fault n e1) ⟨fb,u,rfl,hi0,hi1,hre⟩;have HC:Hid (RE 318 126 c u e1):=hre
   cases e1 with
   | nil=>
    obtain rfl:=hre
    go_wp2
    go_ret
    exact ⟨by rw [hiff]; simp [th],rfl⟩
   | sent g=>
    obtain ⟨a,rfl,_⟩:=hre
    go_wp2
    go_roundw
    case rel=>exact ⟨trivial,_,HC.out,rfl,hpa,hiff⟩
    case measure=>
     show wo c (.iface 318 (.pointer (some a))) < _;rw [hlen,hlen0]; simp [pA]
   | fault n2 e2=>
    obtain ⟨fb2,u2,rfl,_⟩:=hre
    go_wp2
    go_roundw
    case rel=>exact ⟨trivial,_,HC.out,rfl,hpa,hiff⟩
    case measure=>
     show wo c (.iface 126 (.pointer (some ⟨fb2,0,none⟩))) < _;rw [hlen,hlen0]; simp [pA]
set_option maxRecDepth 1000000 in
theorem KE {c:Cx} {gl:List Nat} (hG:Gl gl c) (b:Addr) (k:Nat) (hk:k∈gl) (h2:RE 318 126 c (.iface 318 (.pointer (some b))) (.sent k)) (E:Value) (p0:Er) (h1:RE 318 126 c E p0) (ha:AN gl p0=true):
  Calls Tryz.prog 77 #[E,.iface 318 (.pointer (some b))] c.w fun e w'=>e= .returned (.bool (th k p0))∧w'=c.w:=by
 have h8:= @cI Tryz.prog 117 _ Extern.ReflectliteType.typeOf Tryz.func117 (by kernel_rfl) (by kernel_rfl) (by kernel_rfl) (by kernel_rfl);have h320:= @cI Tryz.prog 299 _ (Extern.ReflectliteType.method fun t=>do Extern.Rtype.noPackHeld "Comparable" t; pure (.bool (←typeInfo t).comparable)) Tryz.func299 (by kernel_rfl) (by kernel_rfl) (by kernel_rfl) (by kernel_rfl);have h32:∀w,(callFunc 299 #[.agg #[.pointer (some ⟨17,318,none⟩)]]).run Tryz.prog w= .ok (.value (.bool true)) w:=fun w=>by rw [h320,xn]; rfl
 clear h320
 have tT:=DT;have mR:=rj
 cases p0 with
 | nil=>
  obtain rfl:=h1;have hn:=run_eql_iface_nil_left (P:=Tryz.prog) c.w 318 (.pointer (some b)) Tryz.underlying38
  clear h2 hG
  go_enter Tryz.func77,Tryz.ntmps77
  go_wp2
  go_ret
  exact ⟨rfl,rfl⟩
 | sent g=>
  have hcon:=Az hG b k hk h2 E (.sent g) h1 rfl ha;obtain ⟨a,rfl,_⟩:=h1
  clear h2 hG
  go_enter Tryz.func77,Tryz.ntmps77
  go_wp2_with (first | (go_at_call 118; refine hcon.mono ?_; rintro e w' ⟨rfl,rfl⟩) | go_in)
  go_ret
  exact ⟨rfl,rfl⟩
 | fault i e=>
  have hcon:=Az hG b k hk h2 E (.fault i e) h1 rfl ha;obtain ⟨fb,u,rfl,_⟩:=h1
  clear h2 hG
  go_enter Tryz.func77,Tryz.ntmps77
  go_wp2_with (first | (go_at_call 118; refine hcon.mono ?_; rintro e w' ⟨rfl,rfl⟩) | go_in)
  go_ret
  exact ⟨rfl,rfl⟩
theorem zo {gl:List Nat} {c0:Cx} {G:Gm} {F:List En} {v1 v2:Value} (O0:Own c0 G F) (hG:Gl gl c0) (p0 p1:Er) (h1:RE 318 126 c0 v1 p0) (h2:RE 318 126 c0 v2 p1) {r:Bool} (H:py gl p0 p1=some r): Calls Tryz.prog 77 #[v1,v2] c0.w (aO c0 fun c v=>Own c G F∧v= .bool r):=by
 unfold py at H;split at H
 ·rename_i k;split at H
  ·rename_i hh;obtain rfl:=aH H;obtain ⟨b,rfl,h3⟩:=id h2;refine (KE hG b k (List.contains_iff_mem.1 hh.1) h2 v1 p0 h1 hh.2).mono ?_;rintro e w' ⟨rfl,rfl⟩;exact ⟨_,c0,rfl,rfl,Cx.le.refl _,O0,rfl⟩
  ·cases H
 ·cases H
theorem iY {c0:Cx} {G:Gm} {F:List En} {v1 v2:Value} (O0:Own c0 G F) (hG:Gl [0,1,2,3,4,5,6,7] c0) (p0 p1:Er) (h1:RE 318 126 c0 v1 p0) (h2:RE 318 126 c0 v2 p1) {r:Bool} (H:ip p0 p1=some r):
  Calls Tryz.prog 77 #[v1,v2] c0.w (aO c0 fun c v=>Own c G F∧v= .bool r):=zo O0 hG p0 p1 h1 h2 H
end Go.Proofs.YtceciacilfhmjaaGreatDoor
namespace Go.Proofs.YtceciacilfhmjaaGreatDoor
open Go Go.Lt
set_option maxRecDepth 10000
set_option linter.unusedVariables false
attribute [local irreducible] W WL AC
open Tryz
variable {c0:Cx} {G:Gm} {F:List En} {sg:Sto} {v1 v2 v3 v4 v5 v6 v7 v8 v9 v10 v11 v12 v13 v14 v15 v16 v17 v18 v19 v20 v21 v22 v23 v24 v25 v26 v27 v28 v29 v30 v31 v32 v33 v34 v35 v36 v37 v38 v39 v40 v41 v42 v43 v44 v45 v46 v47 v48 v49 v50 v51 v52 v53 v54 v55 v56 v57 v58 v59 v60:Value}
def mO (p0:Int):Option (Bool):=
 (bX (decide (p0≥2)) (some (decide (p0≤12)))).bind fun a=>
 some a
theorem A5 (d:Own c0 G F) (a:Int) {r:Bool} (H:mO a=some r): Calls prog 114 #[I a] c0.w (aO c0 fun c v=>Own c G (F)∧v=B r):=by
 unfold mO at H;refine en func114 rfl rfl (sr (va (B false) (wln (W.seq (bn H fun e f H=>W.join (Jn c0 fun c l=>Own c G (F)∧l= [(2,B e)]) ?_ ?_)))))
 ·clear H;refine W.region (va (I a) (va (B (decide (a≥2))) ?_));rcases bo (decide (a≥2)) with b | b
  ·have g:=anT b f;refine vb b (wa (I a) (wa (B (decide (a≤12))) ?_));obtain rfl:=si g;exact vv (B (decide (a≤12))) (wln (jn c0 ⟨d,rfl⟩))
  obtain rfl:=anF b f;exact vb b (pz (vv (B false) (wln (jn c0 ⟨d,rfl⟩))))
 rintro j n ⟨i,k,_,rfl,m,rfl,h,rfl⟩;refine nrm (W.ret ?_);obtain rfl:=si H;exact r1 (qq i ⟨h,rfl⟩)
def ky (p0:ba):Option (Er):=
 (mO p0.Kind).bind fun d=>
 if (!d)=true then
 some (Er.sent 5)
 else
 (bX (decide (p0.Kind≤4)) (some (p0.Kind != 2))).bind fun a=>
 (bX a ((orE (decide (p0.A < 0)) (some (decide (p0.A > 2)))).bind fun c=>
 some c)).bind fun b=>
 if b=true then
 some (Er.sent 3)
 else
 some Er.nil
theorem tA (S:Own c0 G F) (hG:Gl [3,5] c0) (a:ba) {r:Er} (h2:Sl (RI .u8) c0 v1 a.Bytes) (H:ky a=some r): Calls prog 75 #[.agg #[I a.Kind,I a.A,I a.B,v1]] c0.w (aO c0 fun c v=>∃R,Own c G (F)∧v=R∧RE 318 126 c R r):=by
 unfold ky at H;refine en func75 rfl rfl (sr ?_);obtain ⟨U,X,Z,rfl⟩:=(h2).form;refine me (bx 81 [I a.Kind,I a.A,I a.B,.slice U X Z] S) ?_;rintro v10 c9 P ⟨i,rfl,T,k⟩;refine va (.nilIface) (wln (W.seq (W.block (sr (va (Q i) (vx (l1 u_3 (k 0 _ rfl)) (bn H fun u D H=>cl (A5 T a.Kind D) ?_)))))));rintro v17 b l16 ⟨d,rfl⟩;refine vv (B (!u)) (wln (cn H (fun E H=>?_) (fun E H=>?_)))
 ·refine sr ?_;obtain ⟨v19,o⟩:=(hG.mono (P.trans l16)).get 5 (by decide);refine vx (l1 qd o.im) (va (v19) (wln (W.ret (bkr (thr ?_)))));obtain rfl:=si H;exact r1 (qq b ⟨v19,d,rfl,o⟩)
 refine W.seq (bn H fun a0 p H=>bn H fun x j H=>W.join (Jn b fun c l=>Own c G (F)∧l= [(9,B x)]) ?_ ?_)
 ·clear H;refine W.region (va (Q i) (vx (l1 u_3 ((mm k) 0 _ rfl)) (va (B (decide (a.Kind≤4))) ?_)));rcases bo (decide (a.Kind≤4)) with e | e
  ·have y:=anT e p;refine vb e (wa (Q i) (wn (vx (l1 u_3 ((mm k) 0 _ rfl)) (wa (B (a.Kind != 2)) ?_))));obtain rfl:=si y;refine va (B (a.Kind != 2)) ?_;rcases bo (a.Kind != 2) with f | f
   ·have h:=anT f j;refine vb f (wa (Qo i (0+1)) (wn (vx (l1 u_3 ((mm k) 1 _ rfl)) (wa (B (decide (a.A < 0))) (wn (bn h fun b0 q h=>?_))))));rcases bo (decide (a.A < 0)) with g | g
    ·obtain rfl:=orT g q;refine vb g (pz (ps (wa (B true) ?_)));obtain rfl:=si h;exact vv (B true) (wln (jn b ⟨d,rfl⟩))
    have z:=orF g q;refine vb g (wa (Qo i (0+1)) (wn (vx (l1 u_3 ((mm k) 1 _ rfl)) (wa (B (decide (a.A > 2))) (wn ?_)))));obtain rfl:=si z;refine va (B (decide (a.A > 2))) ?_;obtain rfl:=si h;exact vv (B (decide (a.A > 2))) (wln (jn b ⟨d,rfl⟩))
   obtain rfl:=anF f j;exact vb f (pz (pz (pz (pz (vv (B false) (wln (jn b ⟨d,rfl⟩)))))))
  obtain rfl:=anF e p;refine vb e (pz (ps (va (B false) ?_)));have s:false=false:=rfl;obtain rfl:=anF s j;exact vb s (pz (pz (pz (pz (vv (B false) (wln (jn b ⟨d,rfl⟩)))))))
 rintro e_ w_ ⟨n,e0,_,rfl,N,rfl,m,rfl⟩;refine nrm (cn H (fun M H=>?_) (fun M H=>?_))
 ·refine sr ?_;obtain ⟨v38,t⟩:=(hG.mono (P.trans (l16.trans N))).get 3 (by decide);refine vx (l1 qd t.im) (va (v38) (wln (W.ret (bkr (thr ?_)))));obtain rfl:=si H;exact r1 (qq n ⟨v38,m,rfl,t⟩)
 refine W.skip (bkn (nrm (sr (va (.nilIface) (wln (W.ret ?_))))));obtain rfl:=si H;exact r1 (qq n ⟨.nilIface,m,rfl,rfl⟩)
def iq (sg:Sto) (p0:Option Nat) (p1:ba):Option (Sto):=
 (p0).bind fun e=>
 (sg.place_Pen[e]?).bind fun b=>
 (bJ sg b.G).bind fun f=>
 if (p1.Kind==10)=true then
 (kb sg b.G 0 f p1.A).bind fun i=>
 some i
 else
 if (p1.Kind==11)=true then
 (jG sg b.G 0 f p1.A).bind fun j=>
 some j
 else
 if (p1.Kind==8)=true then
 (jG sg b.G b.At.Row f p1.A).bind fun g=>
 (g.place_Pen[e]?).bind fun c=>
 (dr c.At).bind fun d=>
 (g.set_place_Pen e (⟨c.G,d,c.Auto⟩:bf)).bind fun a=>
 some a
 else
 if (p1.Kind==9)=true then
 (kb sg b.G b.At.Row f p1.A).bind fun h=>
 (h.place_Pen[e]?).bind fun c=>
 (dr c.At).bind fun d=>
 (h.set_place_Pen e (⟨c.G,d,c.Auto⟩:bf)).bind fun a=>
 some a
 else
 (dr b.At).bind fun d=>
 (sg.set_place_Pen e (⟨b.G,d,b.Auto⟩:bf)).bind fun a=>
 some a
theorem qL (O0:Own c0 G F) (s:Rel c0 sg G) (p0:Option Nat) (f:ba) {r:Sto} (h2:Pt 2 c0 v1 p0) (h4:Sl (RI .u8) c0 v3 f.Bytes) (H:iq sg p0 f=some r): Calls prog 115 #[v1,.agg #[I f.Kind,I f.A,I f.B,v3]] c0.w (aO c0 fun c v=>∃G_:Gm,Own c G_ (F)∧Rel c r G_∧v= .tuple #[]):=by
 unfold iq at H;refine en func115 rfl rfl (sr ?_);obtain ⟨a5,a6,a7,rfl⟩:=(h4).form;refine me (bx 81 [I f.Kind,I f.A,I f.B,.slice a5 a6 a7] O0) ?_;rintro v12 q3 x ⟨t,rfl,O9,q⟩;refine wln (sr (va (v1) (bn H fun z3 y1 H=>?_)));obtain ⟨a,rfl,l⟩:=((h2.mono x)).get y1;refine vv (Q a) (bn H fun e z1 H=>?_);obtain ⟨v17,g,n⟩:=Rel.open_place_Pen (s.mono x) z1 l;refine vx (le1 0 iZ (O9.gon g 0 rfl)) (bn H fun i b2 H=>cl (bE O9 s.m e.G n b2) ?_);rintro v26 s3 b0 ⟨k,rfl⟩;refine va (I i) (wln (W.seq (sr (va (Q t) (vx (l1 u_3 ((mm q) 0 _ rfl)) (wln (W.block (sr (vv (B (f.Kind==10)) (wln (cn H (fun c2 H=>?_) (fun c2 H=>?_))))))))))))
 ·refine W.seq (rD [7] (Kp G []) k ?_);intro n1 a4 M;have u2:Kp G [] n1:=(Kp.nil M);refine ta 0 (Q a) (ta 1 (Q a) (ta 2 (Q a) (tkx 3 u2 (fun p h j=>le1 0 iZ (j.gon g 0 rfl)) (ta 4 (I i) (ta 5 (Qo t (0+1)) (tx 6 (fun p h=>l1 u_3 ((mm q) 1 _ rfl)) (bn H fun j3 d2 H=>o1 7 (gc 7 (qF M s.m e.G 0 i f.A n.m d2) ?_))))))));rintro v37 q1 b4 ⟨z0,c1,j1,rfl⟩;refine ⟨.inl rfl,dn (nrm (W.ret (bkr (thr ?_))))⟩;obtain rfl:=si H;exact r0 (qq q1 ⟨z0,c1,j1,rfl⟩)
 refine sr (vv (B (f.Kind==11)) (wln (cn H (fun e2 H=>?_) (fun e2 H=>?_))))
 ·refine W.seq (rD [7] (Kp G []) k ?_);intro s1 c4 N;have v2:Kp G [] s1:=(Kp.nil N);refine ta 0 (Q a) (ta 1 (Q a) (ta 2 (Q a) (tkx 3 v2 (fun p h j=>le1 0 iZ (j.gon g 0 rfl)) (ta 4 (I i) (ta 5 (Qo t (0+1)) (tx 6 (fun p h=>l1 u_3 ((mm q) 1 _ rfl)) (bn H fun k3 f2 H=>o1 7 (gc 7 (rN N s.m e.G 0 i f.A n.m f2) ?_))))))));rintro v48 t1 d4 ⟨a1,d1,k1,rfl⟩;refine ⟨.inl rfl,dn (nrm (W.ret (bkr (thr ?_))))⟩;obtain rfl:=si H;exact r0 (qq t1 ⟨a1,d1,k1,rfl⟩)
 refine sr (vv (B (f.Kind==8)) (wln (cn H (fun g2 H=>?_) (fun g2 H=>?_))))
 ·refine rD [12] (Kp G []) k ?_;intro u1 e4 P;have g0:Kp G [] u1:=(Kp.nil P);refine ta 0 (Q a) (ta 1 (Q a) (ta 2 (Q a) (tkx 3 g0 (fun p h j=>le1 0 iZ (j.gon g 0 rfl)) (ta 4 (Q a) (ta 5 (Q a) (ta 6 (Qo a 1) (ta 7 (Qo a 1) (tkx 8 g0 (fun p h j=>le1 1 u_3 (j.gon g 0 rfl)) (ta 9 (I i) (ta 10 (Qo t (0+1)) (tx 11 (fun p h=>l1 u_3 ((mm q) 1 _ rfl)) (bn H fun l3 i2 H=>o1 12 (gc 12 (rN P s.m e.G e.At.Row i f.A n.m i2) ?_)))))))))))));rintro v59 t3 f4 ⟨n3,R,U,rfl⟩;refine ⟨.inl rfl,dn (bkn (nrm (W.region (vv (Q a) (va (Q a) (va (Qo a 1) (bn H fun d j2 H=>?_)))))))⟩;obtain ⟨D,Z,k2⟩:=Rel.open_place_Pen U j2 (tm l);refine vx (leN 55 1 [I d.At.Row,I d.At.Col,B d.At.Pending] (R.gon Z 0 rfl)) (bn H fun b l2 H=>cl (jB R d.At l2) ?_);rintro j4 u3 d0 ⟨e1,rfl⟩;refine va (Q a) (va (Qo a 1) (md (gB 55 1 [I b.Row,I b.Col,B b.Pending] [D,I b.Row,I b.Col,B b.Pending,B d.Auto] 0 e1 Z ⟨rfl,rfl,rfl,trivial⟩) ?_));rintro w1 e0 f1;refine bn H fun o m2 H=>?_;obtain ⟨b1,g1,m1,y3,p3⟩:=Rel.put_place_Pen f1 (U.mono (d0.trans e0)) (E':=[(Eb a 57 [D,I b.Row,I b.Col,B b.Pending,B d.Auto])]) m2 ⟨a,D,(tm l),rfl,(k2.mono (d0.trans e0))⟩;refine WL.nil ?_;obtain rfl:=si H;exact n0 (qq w1 ⟨b1,g1,m1,rfl⟩)
 refine sr (vv (B (f.Kind==9)) (wln (cn H (fun n2 H=>?_) (fun n2 H=>?_))))
 ·refine rD [12] (Kp G []) k ?_;intro x1 g4 S;have h0:Kp G [] x1:=(Kp.nil S);refine ta 0 (Q a) (ta 1 (Q a) (ta 2 (Q a) (tkx 3 h0 (fun p h j=>le1 0 iZ (j.gon g 0 rfl)) (ta 4 (Q a) (ta 5 (Q a) (ta 6 (Qo a 1) (ta 7 (Qo a 1) (tkx 8 h0 (fun p h j=>le1 1 u_3 (j.gon g 0 rfl)) (ta 9 (I i) (ta 10 (Qo t (0+1)) (tx 11 (fun p h=>l1 u_3 ((mm q) 1 _ rfl)) (bn H fun m3 o2 H=>o1 12 (gc 12 (qF S s.m e.G e.At.Row i f.A n.m o2) ?_)))))))))))));rintro k4 w3 i4 ⟨o3,T,X,rfl⟩;refine ⟨.inl rfl,dn (bkn (nrm (W.region (vv (Q a) (va (Q a) (va (Qo a 1) (bn H fun d p2 H=>?_)))))))⟩;obtain ⟨E,a0,q2⟩:=Rel.open_place_Pen X p2 (tm l);refine vx (leN 55 1 [I d.At.Row,I d.At.Col,B d.At.Pending] (T.gon a0 0 rfl)) (bn H fun b s2 H=>cl (jB T d.At s2) ?_);rintro h3 x3 f0 ⟨i1,rfl⟩;refine va (Q a) (va (Qo a 1) (md (gB 55 1 [I b.Row,I b.Col,B b.Pending] [E,I b.Row,I b.Col,B b.Pending,B d.Auto] 0 i1 a0 ⟨rfl,rfl,rfl,trivial⟩) ?_));rintro u0 u k0;refine bn H fun o w0 H=>?_;obtain ⟨i0,l0,s0,d3,x2⟩:=Rel.put_place_Pen k0 (X.mono (f0.trans u)) (E':=[(Eb a 57 [E,I b.Row,I b.Col,B b.Pending,B d.Auto])]) w0 ⟨a,E,(tm l),rfl,(q2.mono (f0.trans u))⟩;refine WL.nil ?_;obtain rfl:=si H;exact n0 (qq u0 ⟨i0,l0,s0,rfl⟩)
 refine W.skip (bkn (nrm (W.region (vv (Q a) (va (Q a) (va (Qo a 1) (vx (leN 55 1 [I e.At.Row,I e.At.Col,B e.At.Pending] (k.gon g 0 rfl)) (bn H fun b x0 H=>cl (jB k e.At x0) ?_))))))));rintro i3 c3 y ⟨m0,rfl⟩;refine va (Q a) (va (Qo a 1) (md (gB 55 1 [I b.Row,I b.Col,B b.Pending] [v17,I b.Row,I b.Col,B b.Pending,B e.Auto] 0 m0 g ⟨rfl,rfl,rfl,trivial⟩) ?_));rintro v0 z o0;refine bn H fun o y0 H=>?_;obtain ⟨j0,q0,t0,e3,y2⟩:=Rel.put_place_Pen o0 (s.mono (x.trans (b0.trans (y.trans z)))) (E':=[(Eb a 57 [v17,I b.Row,I b.Col,B b.Pending,B e.Auto])]) y0 ⟨a,v17,(tm l),rfl,(n.mono (b0.trans (y.trans z)))⟩;refine WL.nil ?_;obtain rfl:=si H;exact n0 (qq v0 ⟨j0,q0,t0,rfl⟩)
def ly (sg:Sto) (p0:Option Nat) (p1:Int):Option (Sto):=
 (p0).bind fun f=>
 (sg.place_Pen[f]?).bind fun b=>
 (bB sg b.G b.At.Row).bind fun a=>
 if (p1==0)=true then
 (kP sg a b.At.Col).bind fun c=>
 some c
 else
 if (p1==1)=true then
 (lP sg a b.At.Col).bind fun d=>
 some d
 else
 (kh sg a).bind fun e=>
 some e
theorem uR (O0:Own c0 G F) (h:Rel c0 sg G) (hG:Gl [3,5] c0) (Z:Option Nat) (d:Int) {r:Sto} (h2:Pt 2 c0 v1 Z) (H:ly sg Z d=some r): Calls prog 150 #[v1,I d] c0.w (aO c0 fun c v=>∃G_:Gm,Own c G_ (F)∧Rel c r G_∧v= .tuple #[]):=by
 unfold ly at H;refine en func150 rfl rfl (W.seq (rD [] (Kp G []) O0 ?_));intro c3 X q;have p5:Kp G [] c3:=(Kp.nil q);refine ta 0 (v1) (bn H fun o0 h8 H=>?_);obtain ⟨a,rfl,h7⟩:=((h2.mono X)).get h8;refine ta 1 (Q a) (ta 2 (Q a) (bn H fun g h9 H=>?_));obtain ⟨v10,f,E⟩:=Rel.open_place_Pen (h.mono X) h9 h7;refine tkx 3 p5 (fun c' U j=>le1 0 iZ (j.gon f 0 rfl)) (ta 4 (Q a) (ta 5 (Q a) (ta 6 (Qo a 1) (ta 7 (Qo a 1) (tkx 8 p5 (fun c' U j=>le1 1 u_3 (j.gon f 0 rfl)) (bn H fun e M H=>o1 9 (gc 9 (cL q h.m g.G g.At.Row E M) ?_)))))));rintro v14 y q0 ⟨_,b,rfl,i⟩;have a0:Kp G [] y:=(Kp.nil b);refine ⟨.inr a0,ta 10 (v14) (dn (nrm (sr (va (I d) (wln (W.block (sr (vv (B (d==0)) (wln (cn H (fun N H=>?_) (fun N H=>?_)))))))))))⟩
 ·refine W.region (va (v14) (vv (Q a) (va (Qo a 1) (va (Qo a 2) (vx (le1 2 u_3 (b.gon f 0 rfl)) (bn H fun k0 P H=>cl (xC b h.m (hG.m.le (by decide)) e g.At.Col i P) ?_))))));rintro v30 z s0 ⟨k,o,t,rfl⟩;refine WL.nil (bkn ?_);obtain rfl:=si H;exact n0 (qq z ⟨k,o,t,rfl⟩)
 refine sr (vv (B (d==1)) (wln (cn H (fun R H=>?_) (fun R H=>?_))))
 ·refine W.region (va (v14) (vv (Q a) (va (Qo a 1) (va (Qo a 2) (vx (le1 2 u_3 (b.gon f 0 rfl)) (bn H fun l0 S H=>cl (zp b h.m (hG.m.le (by decide)) e g.At.Col i S) ?_))))));rintro v38 A t0 ⟨l,p,u,rfl⟩;refine WL.nil (bkn ?_);obtain rfl:=si H;exact n0 (qq A ⟨l,p,u,rfl⟩)
 refine W.region (va (v14) (bn H fun m0 T H=>cl (uQ b h.m (hG.m.le (by decide)) e i T) ?_));rintro v45 D u0 ⟨n,s,x,rfl⟩;refine WL.nil (bkn ?_);obtain rfl:=si H;exact n0 (qq D ⟨n,s,x,rfl⟩)
def mB (sg:Sto) (p0:Option Nat) (p1:Int):Option (Sto):=
 (ly sg p0 p1).bind fun c=>
 (p0).bind fun b=>
 (c.place_Pen[b]?).bind fun p=>
 (bJ c p.G).bind fun d=>
 (cV (σ:=Int×Sto) (τ:=Sto) ((d - 0).toNat+1) (fun a=>
 if (decide (a.1 < d))=true then
 ((orE (p1==2) ((bX (p1==0) ((a.2.place_Pen[b]?).bind fun j=>
 some (decide (a.1 > j.At.Row)))).bind fun f=>
 some f)).bind fun e=>
 (orE e ((bX (p1==1) ((a.2.place_Pen[b]?).bind fun k=>
 some (decide (a.1 < k.At.Row)))).bind fun h=>
 some h)).bind fun g=>
 if g=true then
 (a.2.place_Pen[b]?).bind fun l=>
 (bB a.2 l.G a.1).bind fun m=>
 (kh a.2 m).bind fun n=>
 some (n)
 else
 some (a.2)).bind fun o=>
 some (.inl ((w64 (a.1+1)),o))
 else
 some (.inr (a.2))) (0,c)).bind fun i=>
 some i
theorem xE (O0:Own c0 G F) (R0:Rel c0 sg G) (hG:Gl [3,5] c0) (p0:Option Nat) (f:Int) {r:Sto} (h2:Pt 2 c0 v1 p0) (H:mB sg p0 f=some r): Calls prog 151 #[v1,I f] c0.w (aO c0 fun c v=>∃G_:Gm,Own c G_ (F)∧Rel c r G_∧v= .tuple #[]):=by
 unfold mB at H;refine en func151 rfl rfl (sr (va (v1) (va (I f) (bn H fun s3 h3 H=>cl (uR O0 R0 (hG.le (by decide)) p0 f h2 h3) ?_))));rintro v9 c8 l8 ⟨G4,O5,R6,rfl⟩;refine wln (sr (va (v1) (bn H fun f3 j1 H=>?_)));obtain ⟨b,rfl,n⟩:=((h2.mono l8)).get j1;refine vv (Q b) (bn H fun l2 k1 H=>?_);obtain ⟨v14,n1,m1⟩:=Rel.open_place_Pen R6 k1 n;refine vx (le1 0 iZ (O5.gon n1 0 rfl)) (bn H fun A q1 H=>cl (bE O5 R6 l2.G m1 q1) ?_);rintro v23 R g3 ⟨x0,rfl⟩;refine va (I 0) (wln (W.block (bn H fun v2 U T=>lp U (fun a=>Jn R fun c l=>∃G_,Own c G_ (F)∧l= [(0,Q b),(1,I f),(12,I A),(13,I a.1)]∧Rel c a.2 G_) (fun S ex e w=>ex= .exit 0∧(Jn R fun c l=>∃G_,Own c G_ (F)∧l= []∧Rel c S G_) e w) ?_ ?_ ?_)))
 ·clear T U;intro a t3 i1 m2 H;revert i1 m2;rintro e_ w_ ⟨i,y2,_,rfl,i3,rfl,D,g,rfl,j⟩;refine sr (va (B (decide (a.1 < A))) (wln (W.seq (cn H (fun t1 H=>?_) (fun t1 H=>?_)))))
  ·refine W.skip (nrm (bn H fun t0 d w0=>W.seqJ (Jn i fun c l=>∃G_,Own c G_ (F)∧l= [(0,Q b),(1,I f),(12,I A),(13,I a.1)]∧Rel c t0 G_) ?_ ?_))
   ·refine W.block (sr (vv (I a.1) (wln (W.seq (bn d fun q2 X d=>bn d fun j0 z d=>W.join (Jn i fun c l=>Own c D (F)∧l= [(0,Q b),(1,I f),(4,I a.1),(12,I A),(13,I a.1),(43,B j0)]) ?_ ?_)))))
    ·clear d;refine W.region (va (I f) (va (B (f==2)) ?_));rcases bo (f==2) with o | o
     ·obtain rfl:=orT o X;refine vb o (pz (pz (pz (pz (pz (ps (va (B true) ?_)))))));have Z:true=true:=rfl;obtain rfl:=orT Z z;exact vb Z (pz (pz (pz (pz (pz (ps (va (B true) (wln (jn i ⟨g,rfl⟩)))))))))
     have u:=orF o X;refine vb o (wa (I f) (wa (B (f==0)) (wn (bn u fun s2 a0 u=>?_))));rcases bo (f==0) with p | p
     ·have E:=anT p a0;refine vb p (wa (I a.1) (wa (Q b) (wa (Q b) (wa (Qo b 1) (wa (Qo b 1) (wn (bn E fun k u1 E=>?_)))))));obtain ⟨v44,w1,c3⟩:=Rel.open_place_Pen j u1 (tm n);refine vx (le1 1 u_3 (g.gon w1 0 rfl)) (wa (B (decide (a.1 > k.At.Row))) (wn ?_));obtain rfl:=si E;refine va (B (decide (a.1 > k.At.Row))) ?_;obtain rfl:=si u;refine va (B (decide (a.1 > k.At.Row))) ?_;rcases bo (decide (a.1 > k.At.Row)) with q | q
      ·obtain rfl:=orT q z;exact vb q (pz (pz (pz (pz (pz (ps (va (B true) (wln (jn i ⟨g,rfl⟩)))))))))
      have x:=orF q z;refine vb q (wa (I f) (wa (B (f==1)) (wn (bn x fun k0 b0 x=>?_))));rcases bo (f==1) with s | s
      ·have M:=anT s b0;refine vb s (wa (I a.1) (wa (Q b) (wa (Q b) (wa (Qo b 1) (wa (Qo b 1) (wn (bn M fun h x1 M=>?_)))))));obtain ⟨v53,y1,d3⟩:=Rel.open_place_Pen j x1 (tm n);refine vx (le1 1 u_3 (g.gon y1 0 rfl)) (wa (B (decide (a.1 < h.At.Row))) (wn ?_));obtain rfl:=si M;refine va (B (decide (a.1 < h.At.Row))) ?_;obtain rfl:=si x;exact va (B (decide (a.1 < h.At.Row))) (wln (jn i ⟨g,rfl⟩))
      obtain rfl:=anF s b0;refine vb s (pz (pz (pz (ps (wa (B false) ?_)))));obtain rfl:=si x;exact va (B false) (wln (jn i ⟨g,rfl⟩))
     obtain rfl:=anF p a0;refine vb p (pz (pz (pz (ps (wa (B false) ?_)))));obtain rfl:=si u;refine va (B false) ?_;have d0:false=false:=rfl;have y:=orF d0 z;refine vb d0 (wa (I f) (wa (B (f==1)) (wn (bn y fun k0 e0 y=>?_))));rcases bo (f==1) with t | t
     ·have N:=anT t e0;refine vb t (wa (I a.1) (wa (Q b) (wa (Q b) (wa (Qo b 1) (wa (Qo b 1) (wn (bn N fun h z1 N=>?_)))))));obtain ⟨n3,b2,e3⟩:=Rel.open_place_Pen j z1 (tm n);refine vx (le1 1 u_3 (g.gon b2 0 rfl)) (wa (B (decide (a.1 < h.At.Row))) (wn ?_));obtain rfl:=si N;refine va (B (decide (a.1 < h.At.Row))) ?_;obtain rfl:=si y;exact va (B (decide (a.1 < h.At.Row))) (wln (jn i ⟨g,rfl⟩))
     obtain rfl:=anF t e0;refine vb t (pz (pz (pz (ps (wa (B false) ?_)))));obtain rfl:=si y;exact va (B false) (wln (jn i ⟨g,rfl⟩))
    rintro e_ w_ ⟨e1,z2,_,rfl,k2,rfl,P,rfl⟩;refine nrm (cn d (fun c2 d=>?_) (fun c2 d=>?_))
    ·refine W.region (vv (Q b) (va (Q b) (bn d fun m0 d2 d=>?_)));obtain ⟨o3,f2,e2⟩:=Rel.open_place_Pen (j.mono k2) d2 (tm n);refine vx (le1 0 iZ (P.gon f2 0 rfl)) (va (I a.1) (bn d fun s0 g2 d=>cl (cL P j.m m0.G a.1 e2 g2) ?_));rintro p3 x2 j3 ⟨_,z0,rfl,i2⟩;refine bn d fun w2 j2 d=>cl (uQ z0 j.m (hG.m.le (by decide)) s0 i2 j2) ?_;rintro q3 f1 k3 ⟨u0,a1,c1,rfl⟩;refine WL.nil (bkn (nrm ?_));obtain rfl:=si d;exact jn f1 ⟨u0,a1,rfl,c1⟩
    refine W.skip (bkn (nrm ?_));obtain rfl:=si d;exact jn e1 ⟨D,P,rfl,j.m⟩
   rintro e_ w_ ⟨g1,a3,_,rfl,l3,rfl,v0,b1,rfl,d1⟩;refine W.region (vv (I (w64 (a.1+1))) (WL.nil ?_));obtain rfl:=si w0;exact ⟨_,rfl,jn g1 ⟨v0,b1,rfl,d1⟩⟩
  refine W.exit (thx ?_);obtain rfl:=si H;exact ⟨_,rfl,rfl,jn i ⟨D,g,rfl,j⟩⟩
 ·exact jn R ⟨G4,x0,rfl,R6.m⟩
 rintro _ e_ w_ ⟨rfl,h1,b3,_,rfl,m3,rfl,f0,g0,rfl,h0⟩;refine bke ?_;obtain rfl:=si T;exact n0 (qq h1 ⟨f0,g0,h0,rfl⟩)
def fG (sg:Sto) (p0:Option Nat) (p1:ba):Option (Sto):=
 (p0).bind fun e=>
 (sg.place_Pen[e]?).bind fun a=>
 (bB sg a.G a.At.Row).bind fun c=>
 if (p1.Kind==2)=true then
 (bV sg a.G).bind fun f=>
 (bJ sg a.G).bind fun g=>
 (kQ p1.A p1.B f g).bind fun h=>
 (sg.set_place_Pen e (⟨a.G,h,a.Auto⟩:bf)).bind fun d=>
 some d
 else
 if (p1.Kind==3)=true then
 (ly sg p0 p1.A).bind fun i=>
 some i
 else
 if (p1.Kind==4)=true then
 (mB sg p0 p1.A).bind fun j=>
 some j
 else
 if (p1.Kind==5)=true then
 (jJ sg c a.At.Col p1.A).bind fun k=>
 some k
 else
 if (p1.Kind==6)=true then
 (jZ sg c a.At.Col p1.A).bind fun l=>
 some l
 else
 if (p1.Kind==7)=true then
 (ka sg c a.At.Col p1.A).bind fun m=>
 some m
 else
 if (p1.Kind==12)=true then
 (sg.set_place_Pen e (⟨a.G,a.At,p1.A != 0⟩:bf)).bind fun b=>
 some b
 else
 some sg
theorem zq (O0:Own c0 G F) (k:Rel c0 sg G) (hG:Gl [3,5] c0) (D:Option Nat) (b:ba) {r:Sto} (h2:Pt 2 c0 v1 D) (h4:Sl (RI .u8) c0 v3 b.Bytes) (H:fG sg D b=some r): Calls prog 116 #[v1,.agg #[I b.Kind,I b.A,I b.B,v3]] c0.w (aO c0 fun c v=>∃G_:Gm,Own c G_ (F)∧Rel c r G_∧v= .tuple #[]):=by
 unfold fG at H;refine en func116 rfl rfl (sr ?_);obtain ⟨a5,a6,a7,rfl⟩:=(h4).form;refine me (bx 81 [I b.Kind,I b.A,I b.B,.slice a5 a6 a7] O0) ?_;rintro v12 e4 q ⟨n,rfl,O9,i⟩;refine wln (W.seq (rD [] (Kp G []) O9 ?_));intro b2 s E;have e0:Kp G [] b2:=(Kp.nil E);refine ta 0 (v1) (bn H fun g4 n2 H=>?_);obtain ⟨a,rfl,x⟩:=((h2.mono (q.trans s))).get n2;refine ta 1 (Q a) (ta 2 (Q a) (bn H fun d o2 H=>?_));obtain ⟨v20,h,o⟩:=Rel.open_place_Pen (k.mono (q.trans s)) o2 x;refine tkx 3 e0 (fun l f j=>le1 0 iZ (j.gon h 0 rfl)) (ta 4 (Q a) (ta 5 (Q a) (ta 6 (Qo a 1) (ta 7 (Qo a 1) (tkx 8 e0 (fun l f j=>le1 1 u_3 (j.gon h 0 rfl)) (bn H fun p p2 H=>o1 9 (gc 9 (cL E k.m d.G d.At.Row o p2) ?_)))))));rintro v24 U t ⟨_,g,rfl,y⟩;have d3:Kp G [] U:=(Kp.nil g);refine ⟨.inr d3,ta 10 (v24) (dn (nrm (sr (va (Q n) (vx (l1 u_3 ((mm i) 0 _ rfl)) (wln (W.block (sr (vv (B (b.Kind==2)) (wln (cn H (fun q2 H=>?_) (fun q2 H=>?_))))))))))))⟩
 ·refine rD [18] (Kp G []) g ?_;intro c2 X M;have f0:Kp G [] c2:=(Kp.nil M);refine ta 0 (Q a) (ta 1 (Qo n (0+1)) (tx 2 (fun l f=>l1 u_3 ((mm i) 1 _ rfl)) (ta 3 (Qo n (0+2)) (tx 4 (fun l f=>l1 u_3 ((mm i) 2 _ rfl)) (ta 5 (Q a) (ta 6 (Q a) (ta 7 (Q a) (tkx 8 f0 (fun l f j=>le1 0 iZ (j.gon h 0 rfl)) (ta 10 (Q a) (ta 11 (Q a) (ta 12 (Q a) (tkx 13 f0 (fun l f j=>le1 0 iZ (j.gon h 0 rfl)) (bn H fun f1 s2 H=>o1 9 (gc 9 (cG M k.m d.G o.m s2) ?_))))))))))))));rintro v43 d2 Z ⟨N,rfl⟩;have e3:Kp G [] d2:=(Kp.nil N);refine ⟨.inr e3,bn H fun g1 t2 H=>o1 14 (gc 14 (bE N k.m d.G o.m t2) ?_)⟩;rintro v51 e2 a0 ⟨P,rfl⟩;have f3:Kp G [] e2:=(Kp.nil P);refine ⟨.inr f3,bn H fun e u2 H=>o1 15 (gc 15 (rQ P b.A b.B f1 g1 u2) ?_)⟩;rintro v59 f2 b0 ⟨R,rfl⟩;have g3:Kp G [] f2:=(Kp.nil R);refine ⟨.inr g3,ta 16 (Q a) (ta 17 (Qo a 1) (o1 18 (gD 18 (gB 55 1 [I e.Row,I e.Col,B e.Pending] [v20,I e.Row,I e.Col,B e.Pending,B d.Auto] 0 R h ⟨rfl,rfl,rfl,trivial⟩) ?_)))⟩;rintro g2 d0 n1;refine bn H fun h1 v2 H=>?_;obtain ⟨i1,q1,w1,f4,d4⟩:=Rel.put_place_Pen n1 (k.mono (q.trans (s.trans (t.trans (X.trans (Z.trans (a0.trans (b0.trans d0)))))))) (E':=[(Eb a 57 [v20,I e.Row,I e.Col,B e.Pending,B d.Auto])]) v2 ⟨a,v20,(tm x),rfl,(o.mono (t.trans (X.trans (Z.trans (a0.trans (b0.trans d0))))))⟩;refine ⟨.inl rfl,dn (bkn ?_)⟩;obtain rfl:=si H;exact n0 (qq g2 ⟨i1,q1,w1,rfl⟩)
 refine sr (vv (B (b.Kind==3)) (wln (cn H (fun w2 H=>?_) (fun w2 H=>?_))))
 ·refine W.region (va (Q a) (va (Qo n (0+1)) (vx (l1 u_3 ((mm i) 1 _ rfl)) (bn H fun y3 x2 H=>cl (uR g k.m (hG.m.le (by decide)) D b.A h2.m x2) ?_))));rintro n4 i2 i4 ⟨j1,s1,x1,rfl⟩;refine WL.nil (bkn ?_);obtain rfl:=si H;exact n0 (qq i2 ⟨j1,s1,x1,rfl⟩)
 refine sr (vv (B (b.Kind==4)) (wln (cn H (fun y2 H=>?_) (fun y2 H=>?_))))
 ·refine W.region (va (Q a) (va (Qo n (0+1)) (vx (l1 u_3 ((mm i) 1 _ rfl)) (bn H fun z3 z2 H=>cl (xE g k.m (hG.m.le (by decide)) D b.A h2.m z2) ?_))));rintro o4 j2 j4 ⟨k1,t1,y1,rfl⟩;refine WL.nil (bkn ?_);obtain rfl:=si H;exact n0 (qq j2 ⟨k1,t1,y1,rfl⟩)
 refine sr (vv (B (b.Kind==5)) (wln (cn H (fun a3 H=>?_) (fun a3 H=>?_))))
 ·refine rD [8] (Kp G []) g ?_;intro k2 k4 S;have h3:Kp G [] k2:=(Kp.nil S);refine ta 0 (v24) (ta 1 (Q a) (ta 2 (Q a) (ta 3 (Qo a 1) (ta 4 (Qo a 2) (tkx 5 h3 (fun l f j=>le1 2 u_3 (j.gon h 0 rfl)) (ta 6 (Qo n (0+1)) (tx 7 (fun l f=>l1 u_3 ((mm i) 1 _ rfl)) (bn H fun a4 b3 H=>o1 8 (gc 8 (xD S k.m (hG.m.le (by decide)) p d.At.Col b.A y.m b3) ?_)))))))));rintro p4 l2 l4 ⟨m1,u1,z1,rfl⟩;refine ⟨.inl rfl,dn (bkn ?_)⟩;obtain rfl:=si H;exact n0 (qq l2 ⟨m1,u1,z1,rfl⟩)
 refine sr (vv (B (b.Kind==6)) (wln (cn H (fun c3 H=>?_) (fun c3 H=>?_))))
 ·refine rD [8] (Kp G []) g ?_;intro m2 m4 T;have i3:Kp G [] m2:=(Kp.nil T);refine ta 0 (v24) (ta 1 (Q a) (ta 2 (Q a) (ta 3 (Qo a 1) (ta 4 (Qo a 2) (tkx 5 i3 (fun l f j=>le1 2 u_3 (j.gon h 0 rfl)) (ta 6 (Qo n (0+1)) (tx 7 (fun l f=>l1 u_3 ((mm i) 1 _ rfl)) (bn H fun b4 x0 H=>o1 8 (gc 8 (wP T k.m (hG.m.le (by decide)) p d.At.Col b.A y.m x0) ?_)))))))));rintro w3 t0 s3 ⟨g0,j0,o0,rfl⟩;refine ⟨.inl rfl,dn (bkn ?_)⟩;obtain rfl:=si H;exact n0 (qq t0 ⟨g0,j0,o0,rfl⟩)
 refine sr (vv (B (b.Kind==7)) (wln (cn H (fun y0 H=>?_) (fun y0 H=>?_))))
 ·refine rD [8] (Kp G []) g ?_;intro u0 t3 u;have d1:Kp G [] u0:=(Kp.nil u);refine ta 0 (v24) (ta 1 (Q a) (ta 2 (Q a) (ta 3 (Qo a 1) (ta 4 (Qo a 2) (tkx 5 d1 (fun l f j=>le1 2 u_3 (j.gon h 0 rfl)) (ta 6 (Qo n (0+1)) (tx 7 (fun l f=>l1 u_3 ((mm i) 1 _ rfl)) (bn H fun c4 z0 H=>o1 8 (gc 8 (wQ u k.m (hG.m.le (by decide)) p d.At.Col b.A y.m z0) ?_)))))))));rintro x3 v0 u3 ⟨h0,k0,q0,rfl⟩;refine ⟨.inl rfl,dn (bkn ?_)⟩;obtain rfl:=si H;exact n0 (qq v0 ⟨h0,k0,q0,rfl⟩)
 refine sr (vv (B (b.Kind==12)) (wln (cn H (fun a1 H=>?_) (fun a1 H=>?_))))
 ·refine W.region (va (Q a) (va (Qo n (0+1)) (vx (l1 u_3 ((mm i) 1 _ rfl)) (va (B (b.A != 0)) (va (Q a) (va (Qo a 4) (md (gC 4 4 (B (b.A != 0)) [v20,I d.At.Row,I d.At.Col,B d.At.Pending,B (b.A != 0)] 0 g h ⟨rfl,trivial⟩) ?_)))))));rintro w0 z l0;refine bn H fun e1 b1 H=>?_;obtain ⟨i0,m0,s0,p3,l3⟩:=Rel.put_place_Pen l0 (k.mono (q.trans (s.trans (t.trans z)))) (E':=[(Eb a 57 [v20,I d.At.Row,I d.At.Col,B d.At.Pending,B (b.A != 0)])]) b1 ⟨a,v20,(tm x),rfl,(o.mono (t.trans z))⟩;refine WL.nil (bkn ?_);obtain rfl:=si H;exact n0 (qq w0 ⟨i0,m0,s0,rfl⟩)
 refine W.skip (bkn ?_);obtain rfl:=si H;exact n0 (qq U ⟨G,g,k.m,rfl⟩)
def oW (sg:Sto) (p0:Option Nat) (p1:ba):Option (Sto×Er):=
 (ky p1).bind fun g=>
 if (!g.isNil)=true then
 some (sg,g)
 else
 (orE p0.isNone ((p0).bind fun i=>
 (sg.place_Pen[i]?).bind fun j=>
 some j.G.isNone)).bind fun h=>
 if h=true then
 some (sg,Er.nil)
 else
 (p0).bind fun d=>
 (sg.place_Pen[d]?).bind fun b=>
 (bV sg b.G).bind fun k=>
 (bJ sg b.G).bind fun l=>
 (ed b.At k l).bind fun e=>
 (sg.set_place_Pen d (⟨b.G,e,b.Auto⟩:bf)).bind fun f=>
 (f.set_place_Pen d (⟨b.G,(⟨e.Row,e.Col,false⟩:aj),b.Auto⟩:bf)).bind fun a=>
 (if (p1.Kind==8)=true then
 (iq a p0 p1).bind fun c=>
 some (c)
 else
 if (p1.Kind==9)=true then
 (iq a p0 p1).bind fun c=>
 some (c)
 else
 (if (p1.Kind==10)=true then
 some (p1.Kind==10)
 else
 some (p1.Kind==11)).bind fun o=>
 if o=true then
 (iq a p0 p1).bind fun c=>
 some (c)
 else
 (fG a p0 p1).bind fun m=>
 some (m)).bind fun n=>
 some (n,Er.nil)
theorem Ec (O0:Own c0 G F) (t:Rel c0 sg G) (hG:Gl [3,5] c0) (s:Option Nat) (e:ba) {r:Sto×Er} (u:Pt 2 c0 v1 s) (P:Sl (RI .u8) c0 v3 e.Bytes) (H:oW sg s e=some r): Calls prog 76 #[v1,.agg #[I e.Kind,I e.A,I e.B,v3]] c0.w (aO c0 fun c v=>∃y1,∃G_:Gm,Own c G_ (F)∧Rel c r.1 G_∧v=y1∧RE 318 126 c y1 r.2):=by
 unfold oW at H;refine en func76 rfl rfl (sr ?_);obtain ⟨a5,a6,a7,rfl⟩:=(P).form;refine me (bx 81 [I e.Kind,I e.A,I e.B,.slice a5 a6 a7] O0) ?_;rintro v12 w4 p ⟨b8,rfl,O9,k⟩;refine va (.nilIface) (wln (W.seq (sr (vx (lN 81 k) (bn H fun x3 z2 H=>cl (tA O9 (hG.m.le (by decide)) e P.m z2) ?_)))));rintro v14 D q ⟨_,x,rfl,o0⟩;refine va (v14) (wln (sr (va (v14) (vr (B (!x3.isNil)) (by rcases (o0).cs with ⟨h,i⟩ | ⟨b_,h,i⟩ | ⟨b_,h,i⟩ <;> (subst h; rw [i]; kernel_rfl)) (wln (cn H (fun a3 H=>?_) (fun a3 H=>?_)))))))
 ·refine sr (vv (v14) (wln (W.ret (thr ?_))));obtain rfl:=si H;exact r1 (qq D ⟨v14,G,x,t.m,rfl,o0⟩)
 refine W.skip (nrm (W.seq (W.seq (bn H fun n1 q0 H=>W.join (Jn D fun c l=>Own c G (F)∧l= [(0,v1),(3,Q b8),(19,B n1)]) ?_ ?_))))
 ·clear H;refine W.region (va (v1) (vr (B s.isNone) (by rcases u.m.cs with ⟨h,i⟩ | ⟨b_,h,i⟩ <;> (subst h; rw [i]; kernel_rfl)) ?_));rcases bo (s.isNone) with o | o
  ·obtain rfl:=orT o q0;exact vb o (pz (pz (ps (va (B true) (wln (jn D ⟨x,rfl⟩))))))
  have n:=orF o q0;refine vb o (wa (v1) (wn (bn n fun i4 c3 n=>?_)));obtain ⟨m0,rfl,b3⟩:=((u.mono (p.trans q))).get c3;refine va (Q m0) (wa (Q m0) (wn (bn n fun e0 d3 n=>?_)));obtain ⟨v30,f3,e3⟩:=Rel.open_place_Pen (t.mono (p.trans q)) d3 b3;refine vx (le1 0 iZ (x.gon f3 0 rfl)) (wn (vr (B e0.G.isNone) (by rcases (e3).cs with ⟨h,i⟩ | ⟨b_,h,i⟩ <;> (subst h; rw [i]; kernel_rfl)) ?_));obtain rfl:=si n;exact va (B e0.G.isNone) (wln (jn D ⟨x,rfl⟩))
 rintro e_ w_ ⟨s2,y4,_,rfl,U,rfl,h0,rfl⟩;refine nrm (cn H (fun g3 H=>?_) (fun g3 H=>?_))
 ·refine sr (va (.nilIface) (wln (W.ret (thr ?_))));obtain rfl:=si H;exact r1 (qq s2 ⟨.nilIface,G,h0,t.m,rfl,rfl⟩)
 refine W.skip (nrm (W.seq (rD [18] (Kp G []) h0 ?_)));intro t2 X i0;have f0:Kp G [] t2:=(Kp.nil i0);refine ta 0 (v1) (ta 1 (v1) (bn H fun j4 h3 H=>?_));obtain ⟨a,rfl,S⟩:=((u.mono (p.trans (q.trans (U.trans X))))).get h3;refine ta 2 (Q a) (ta 3 (Qo a 1) (bn H fun d i3 H=>?_));obtain ⟨v47,N,M⟩:=Rel.open_place_Pen (t.mono (p.trans (q.trans (U.trans X)))) i3 S;refine tkx 4 f0 (fun c' s0 T=>leN 55 1 [I d.At.Row,I d.At.Col,B d.At.Pending] (T.gon N 0 rfl)) (ta 5 (Q a) (ta 6 (Q a) (ta 7 (Q a) (tkx 8 f0 (fun c' s0 T=>le1 0 iZ (T.gon N 0 rfl)) (ta 10 (Q a) (ta 11 (Q a) (ta 12 (Q a) (tkx 13 f0 (fun c' s0 T=>le1 0 iZ (T.gon N 0 rfl)) (bn H fun z1 j3 H=>o1 9 (gc 9 (cG i0 t.m d.G M j3) ?_))))))))));rintro v56 u2 Z ⟨j0,rfl⟩;have s3:Kp G [] u2:=(Kp.nil j0);refine ⟨.inr s3,bn H fun b2 k3 H=>o1 14 (gc 14 (bE j0 t.m d.G M.m k3) ?_)⟩;rintro c5 v2 a0 ⟨k0,rfl⟩;have t3:Kp G [] v2:=(Kp.nil k0);refine ⟨.inr t3,bn H fun b l3 H=>o1 15 (gc 15 (dI k0 d.At z1 b2 l3) ?_)⟩;rintro d5 w2 b0 ⟨l0,rfl⟩;have u3:Kp G [] w2:=(Kp.nil l0);refine ⟨.inr u3,ta 16 (Q a) (ta 17 (Qo a 1) (o1 18 (gD 18 (gB 55 1 [I b.Row,I b.Col,B b.Pending] [v47,I b.Row,I b.Col,B b.Pending,B d.Auto] 0 l0 N ⟨rfl,rfl,rfl,trivial⟩) ?_)))⟩;rintro x4 d0 k2;refine bn H fun e2 n3 H=>?_;obtain ⟨t4,l2,o2,m3,u4⟩:=Rel.put_place_Pen k2 (t.mono (p.trans (q.trans (U.trans (X.trans (Z.trans (a0.trans (b0.trans d0)))))))) (E':=[(Eb a 57 [v47,I b.Row,I b.Col,B b.Pending,B d.Auto])]) n3 ⟨a,v47,(tm S),rfl,(M.mono (Z.trans (a0.trans (b0.trans d0))))⟩;refine ⟨.inl rfl,dn (nrm (sr (vv (Q a) (va (Qo a 1) (va (Qo a 3) (md (gC 4 3 (B false) [v47,I b.Row,I b.Col,B false,B d.Auto] 0 l2 m3 ⟨rfl,trivial⟩) ?_))))))⟩;rintro E t0 m2;refine bn H fun f2 o3 H=>?_;obtain ⟨g2,y,z,z4,v4⟩:=Rel.put_place_Pen m2 (o2.mono t0) (E':=[(Eb a 57 [v47,I b.Row,I b.Col,B false,B d.Auto])]) o3 ⟨a,v47,(tm S),rfl,(M.mono (Z.trans (a0.trans (b0.trans (d0.trans t0)))))⟩;refine wln (bn H fun c2 f j2=>W.seqJ (Jn E fun c l=>∃G_,Own c G_ (F)∧l= []∧Rel c c2 G_) ?_ ?_)
 ·refine sr (va (Q b8) (vx (l1 u_3 ((mm k) 0 _ rfl)) (wln (W.block (W.seq (W.block (W.seq (W.block (W.block (W.block (W.seq (W.seq (sr (vv (B (e.Kind==8)) (wln (cn f (fun p3 f=>?_) (fun p3 f=>?_)))))))))))))))))
  ·refine W.exit (thx (thx (bke (bkn (bkn (nrm (sr (va (Q a) (vx (lN 81 (mm k)) (bn f fun g0 q3 f=>cl (qL y z s e u.m P.m q3) ?_))))))))));rintro e5 x2 b5 ⟨i2,n2,p2,rfl⟩;refine wln (W.exit (bko rfl (thx (bke (nrm ?_)))));obtain rfl:=si f;exact jn x2 ⟨i2,n2,rfl,p2⟩
  refine W.skip (nrm (W.seq (sr (vv (B (e.Kind==9)) (wln (cn f (fun q1 f=>?_) (fun q1 f=>?_)))))))
  ·refine W.exit (thx (thx (bko rfl (bke (bkn (nrm (sr (va (Q a) (vx (lN 81 (mm k)) (bn f fun g0 s1 f=>cl (qL y z s e u.m P.m s1) ?_))))))))));rintro p4 i1 k4 ⟨u0,y0,c1,rfl⟩;refine wln (W.exit (bko rfl (thx (bke (nrm ?_)))));obtain rfl:=si f;exact jn i1 ⟨u0,y0,rfl,c1⟩
  refine W.skip (nrm (bn f fun d2 j g=>W.seqJ (Jn E fun c l=>Own c g2 (F)∧l= [(0,Q a),(3,Q b8),(48,B d2)]) ?_ ?_))
  ·refine sr (vv (B (e.Kind==10)) (wln (cn j (fun t1 j=>?_) (fun t1 j=>?_))))
   ·refine W.skip (nrm ?_);obtain rfl:=si j;exact jn E ⟨y,rfl⟩
   refine W.region (vv (B (e.Kind==11)) (wln ?_));obtain rfl:=si j;exact jn E ⟨y,rfl⟩
  rintro e_ w_ ⟨e4,f4,_,rfl,l4,rfl,R,rfl⟩;refine cn g (fun u1 g=>?_) (fun u1 g=>?_)
  ·refine W.exit (thx (bko rfl (bko rfl (bke (nrm (sr (va (Q a) (vx (lN 81 (mm k)) (bn g fun g0 w1 g=>cl (qL R z.m s e u.m P.m w1) ?_)))))))));rintro q4 j1 m4 ⟨v0,z0,d1,rfl⟩;refine wln (W.exit (bko rfl (thx (bke (nrm ?_)))));obtain rfl:=si g;exact jn j1 ⟨v0,z0,rfl,d1⟩
  refine W.skip (nrm (W.exit (bko rfl (bko rfl (bko rfl (thx (bke (nrm (sr (va (Q a) (vx (lN 81 (mm k)) (bn g fun s4 x1 g=>cl (zq R z.m (hG.m.le (by decide)) s e u.m P.m x1) ?_))))))))))));rintro r4 k1 n4 ⟨w0,a1,e1,rfl⟩;refine wln (W.exit (bke (nrm ?_)));obtain rfl:=si g;exact jn k1 ⟨w0,a1,rfl,e1⟩
 rintro e_ w_ ⟨m1,g4,_,rfl,o4,rfl,x0,b1,rfl,f1⟩;refine sr (va (.nilIface) (wln (W.ret ?_)));obtain rfl:=si j2;exact r1 (qq m1 ⟨.nilIface,x0,b1,f1,rfl,rfl⟩)
def nI (p0:Er):Option (Int):=
 if p0.isNil=true then
 some 0
 else
 (ip p0 (Er.sent 1)).bind fun a=>
 if a=true then
 some 1
 else
 (ip p0 (Er.sent 2)).bind fun b=>
 if b=true then
 some 2
 else
 (ip p0 (Er.sent 3)).bind fun c=>
 if c=true then
 some 3
 else
 (ip p0 (Er.sent 4)).bind fun d=>
 if d=true then
 some 4
 else
 (ip p0 (Er.sent 5)).bind fun e=>
 if e=true then
 some 5
 else
 (ip p0 (Er.sent 6)).bind fun f=>
 if f=true then
 some 6
 else
 (ip p0 (Er.sent 7)).bind fun g=>
 if g=true then
 some 7
 else
 (ip p0 (Er.sent 0)).bind fun h=>
 if h=true then
 some 8
 else
 some 9
theorem B6 (O0:Own c0 G F) (hG:Gl [0,1,2,3,4,5,6,7] c0) (a:Er) {r:Int} (e:RE 318 126 c0 v1 a) (H:nI a=some r): Calls prog 42 #[v1] c0.w (aO c0 fun c v=>Own c G (F)∧v=I r):=by
 unfold nI at H;refine en func42 rfl rfl (sr (va (I 0) (wln (W.seq (W.block (sr (va (v1) (vr (B a.isNil) (by rcases (e).cs with ⟨h,i⟩ | ⟨b_,h,i⟩ | ⟨b_,h,i⟩ <;> (subst h; rw [i]; kernel_rfl)) (va (B a.isNil) (wln (cn H (fun h3 H=>?_) (fun h3 H=>?_))))))))))))
 ·refine sr (va (I 0) (wln (W.ret (bkr (thr ?_)))));obtain rfl:=si H;exact r1 (qq c0 ⟨O0,rfl⟩)
 refine sr (va (v1) ?_);obtain ⟨v4,h5⟩:=hG.get 1 (by decide);refine vx (l1 qd h5.im) (bn H fun N h6 H=>cl (iY O0 (hG.le (by decide)) a (Er.sent 1) e h5 h6) ?_);rintro v12 d0 b ⟨O8,rfl⟩;refine va (B N) (wln (cn H (fun k0 H=>?_) (fun k0 H=>?_)))
 ·refine sr (va (I 1) (wln (W.ret (bkr (thr ?_)))));obtain rfl:=si H;exact r1 (qq d0 ⟨O8,rfl⟩)
 refine sr (va (v1) ?_);obtain ⟨v14,u⟩:=(hG.mono b).get 2 (by decide);refine vx (l1 qd u.im) (bn H fun P l0 H=>cl (iY O8 (hG.m.le (by decide)) a (Er.sent 2) e.m u l0) ?_);rintro v22 e0 d ⟨k,rfl⟩;refine va (B P) (wln (cn H (fun m0 H=>?_) (fun m0 H=>?_)))
 ·refine sr (va (I 2) (wln (W.ret (bkr (thr ?_)))));obtain rfl:=si H;exact r1 (qq e0 ⟨k,rfl⟩)
 refine sr (va (v1) ?_);obtain ⟨v24,x⟩:=(hG.mono (b.trans d)).get 3 (by decide);refine vx (l1 qd x.im) (bn H fun R o0 H=>cl (iY k (hG.m.le (by decide)) a (Er.sent 3) e.m x o0) ?_);rintro v32 f0 f ⟨l,rfl⟩;refine va (B R) (wln (cn H (fun q0 H=>?_) (fun q0 H=>?_)))
 ·refine sr (va (I 3) (wln (W.ret (bkr (thr ?_)))));obtain rfl:=si H;exact r1 (qq f0 ⟨l,rfl⟩)
 refine sr (va (v1) ?_);obtain ⟨v34,y⟩:=(hG.mono (b.trans (d.trans f))).get 4 (by decide);refine vx (l1 qd y.im) (bn H fun S s0 H=>cl (iY l (hG.m.le (by decide)) a (Er.sent 4) e.m y s0) ?_);rintro v42 g0 g ⟨n,rfl⟩;refine va (B S) (wln (cn H (fun t0 H=>?_) (fun t0 H=>?_)))
 ·refine sr (va (I 4) (wln (W.ret (bkr (thr ?_)))));obtain rfl:=si H;exact r1 (qq g0 ⟨n,rfl⟩)
 refine sr (va (v1) ?_);obtain ⟨v44,z⟩:=(hG.mono (b.trans (d.trans (f.trans g)))).get 5 (by decide);refine vx (l1 qd z.im) (bn H fun T u0 H=>cl (iY n (hG.m.le (by decide)) a (Er.sent 5) e.m z u0) ?_);rintro v52 h0 j ⟨o,rfl⟩;refine va (B T) (wln (cn H (fun w0 H=>?_) (fun w0 H=>?_)))
 ·refine sr (va (I 5) (wln (W.ret (bkr (thr ?_)))));obtain rfl:=si H;exact r1 (qq h0 ⟨o,rfl⟩)
 refine sr (va (v1) ?_);obtain ⟨v54,A⟩:=(hG.mono (b.trans (d.trans (f.trans (g.trans j))))).get 6 (by decide);refine vx (l1 qd A.im) (bn H fun U x0 H=>cl (iY o (hG.m.le (by decide)) a (Er.sent 6) e.m A x0) ?_);rintro i1 i0 M ⟨p,rfl⟩;refine va (B U) (wln (cn H (fun y0 H=>?_) (fun y0 H=>?_)))
 ·refine sr (va (I 6) (wln (W.ret (bkr (thr ?_)))));obtain rfl:=si H;exact r1 (qq i0 ⟨p,rfl⟩)
 refine sr (va (v1) ?_);obtain ⟨j1,D⟩:=(hG.mono (b.trans (d.trans (f.trans (g.trans (j.trans M)))))).get 7 (by decide);refine vx (l1 qd D.im) (bn H fun X z0 H=>cl (iY p (hG.m.le (by decide)) a (Er.sent 7) e.m D z0) ?_);rintro k1 j0 d1 ⟨q,rfl⟩;refine va (B X) (wln (cn H (fun a1 H=>?_) (fun a1 H=>?_)))
 ·refine sr (va (I 7) (wln (W.ret (bkr (thr ?_)))));obtain rfl:=si H;exact r1 (qq j0 ⟨q,rfl⟩)
 refine sr (va (v1) ?_);obtain ⟨m1,E⟩:=(hG.mono (b.trans (d.trans (f.trans (g.trans (j.trans (M.trans d1))))))).get 0 (by decide);refine vx (l1 qd E.im) (bn H fun Z b1 H=>cl (iY q (hG.m.le (by decide)) a (Er.sent 0) e.m E b1) ?_);rintro n1 t h1 ⟨s,rfl⟩;refine va (B Z) (wln (cn H (fun c1 H=>?_) (fun c1 H=>?_)))
 ·refine sr (va (I 8) (wln (W.ret (bkr (thr ?_)))));obtain rfl:=si H;exact r1 (qq t ⟨s,rfl⟩)
 refine W.skip (bkn (nrm (sr (va (I 9) (wln (W.ret ?_))))));obtain rfl:=si H;exact r1 (qq t ⟨s,rfl⟩)
def ki (p0:aj) (p1:Int) (p2:Int):Option (Bool):=
 (ed p0 p1 p2).bind fun a=>
 some (p0.Row==a.Row && (p0.Col==a.Col && (p0.Pending==a.Pending && true)))
theorem wX (l:Own c0 G F) (a:aj) (d:Int) (e:Int) {r:Bool} (H:ki a d e=some r): Calls prog 83 #[.agg #[I a.Row,I a.Col,B a.Pending],I d,I e] c0.w (aO c0 fun c v=>Own c G (F)∧v=B r):=by
 unfold ki at H;refine en func83 rfl rfl (sr (me (bx 55 [I a.Row,I a.Col,B a.Pending] l) ?_));rintro v5 t u ⟨s,rfl,m,j⟩;refine va (B false) (wln (W.seq (rD [] (Kp G0 []) m ?_)));intro o x n;have y:Kp G0 [] o:=Kp.nil0;refine tx 0 (fun i g=>lN 55 (mm j)) (tx 1 (fun i g=>lN 55 (mm j)) (ta 2 (I d) (ta 3 (I e) (bn H fun b p H=>o1 4 (gc 4 (dI n a d e p) ?_)))));rintro v15 f q ⟨h,rfl⟩;have k:Kp G0 [] f:=Kp.nil0;refine ⟨.inr k,AC.take 5 (B (a.Row==b.Row && (a.Col==b.Col && (a.Pending==b.Pending && true)))) rfl (by kernel_rfl) (by kernel_rfl) (fun i g=>(EW (T:=55) (xs:= #[I a.Row,I a.Col,B a.Pending]) (ys:= #[I b.Row,I b.Col,B b.Pending]) (r:=(a.Row==b.Row && (a.Col==b.Col && (a.Pending==b.Pending && true)))) underlying55 (by kernel_rfl) (by kernel_rfl) (EqP.int (by kernel_rfl) u_3 rfl rfl (EqP.int (by kernel_rfl) u_3 rfl rfl (EqP.bool (by kernel_rfl) u_4 rfl rfl EqP.nil))) (by kernel_rfl) _)) (ta 6 (B (a.Row==b.Row && (a.Col==b.Col && (a.Pending==b.Pending && true)))) (dn (nrm (W.ret ?_))))⟩;obtain rfl:=si H;exact r1 (qq f ⟨h,rfl⟩)
def jg (sg:Sto) (p0:Int) (p1:Int):Option (Sto×(Option Nat)):=
 (mL sg p0 p1).bind fun b=>
 (nG b.1 b.2).bind fun c=>
 (some (c.1.add_screen_Screen (⟨c.2,b.2⟩:dK))).bind fun a=>
 some (a,(some c.1.screen_Screen.length))
theorem tu (O0:Own c0 G F) (R0:Rel c0 sg G) (g:Int) (h:Int) {r:Sto×(Option Nat)} (H:jg sg g h=some r): Calls prog 6 #[I g,I h] c0.w (aO c0 fun c v=>∃y1,∃G_:Gm,Own c G_ (F)∧Rel c r.1 G_∧dY G G_∧v=y1∧Pt 5 c y1 r.2):=by
 unfold jg at H;refine en func6 rfl rfl (sr (va (.pointer none) (wln (sr (va (I g) (va (I h) (bn H fun n h1 H=>cl (A1 O0 R0 g h h1) ?_)))))));rintro v2 c8 l8 ⟨_,G4,O5,R6,a7,rfl,p⟩;have D:=(dY.refl _).trans a7;refine va (v2) (wln (sr (va (v2) (bn H fun o R H=>cl (B4 O5 R6 n.2 p R) ?_))));rintro v12 j0 m ⟨_,i0,t,A,M,rfl,l⟩;have j:=D.trans M;refine va (v2) ?_;obtain ⟨d,rfl⟩:=(l).form;obtain ⟨e,rfl⟩:=((p.mono m)).form;refine va (.agg #[.pointer d,.pointer e]) (me (al 47 [.pointer d,.pointer e] t) ?_);rintro v26 k0 f ⟨a,rfl,u⟩;have y:=u.sD 1 [0];refine bn H fun q S H=>?_;obtain ⟨k,s,T,o0,U,z,i,l0,X,N⟩:=Rel.new_screen_Screen (E:=[(Eb a 47 [.pointer d,.pointer e])]) (F:=F) (x:=(⟨o.2,n.2⟩:dK)) (b:=a) y (A.mono f) (fun c_ hle_=>⟨a,(.pointer d),(.pointer e),rfl,rfl,(l.mono (f.trans hle_)),(p.mono ((m.trans f).trans hle_))⟩);rw [aH S] at i;refine WL.gh T.1 ?_;have m0:=dY.nil j X;have P:=j.trans N;have Z:Pt 5 k (Q a) (some o.1.screen_Screen.length):=⟨a,rfl,U⟩;refine va (Q a) (wln (W.ret ?_));obtain rfl:=si H;exact r1 (qq k ⟨(Q a),s,z,i,P,rfl,Z⟩)
def gH (sg:Sto) (p0:Option Nat) (p1:ba):Option (Sto×Er):=
 if p0.isNone=true then
 some (sg,(Er.sent 0))
 else
 if (p1.Kind==0)=true then
 (p0).bind fun g=>
 (sg.screen_Screen[g]?).bind fun i=>
 (ge sg i.Feeder p1.Bytes).bind fun o=>
 some (o,Er.nil)
 else
 if (p1.Kind==1)=true then
 (p0).bind fun h=>
 (sg.screen_Screen[h]?).bind fun j=>
 (gb sg j.Feeder).bind fun p=>
 some (p,Er.nil)
 else
 if (p1.Kind==13)=true then
 (p0).bind fun a=>
 (sg.screen_Screen[a]?).bind fun k=>
 (cY sg k.Feeder).bind fun c=>
 (c.screen_Screen[a]?).bind fun l=>
 (oq c l.pen p1.A p1.B).bind fun q=>
 some (q,Er.nil)
 else
 (ky p1).bind fun d=>
 if (!d.isNil)=true then
 some (sg,d)
 else
 (p0).bind fun b=>
 (sg.screen_Screen[b]?).bind fun m=>
 (cY sg m.Feeder).bind fun e=>
 (e.screen_Screen[b]?).bind fun n=>
 (oW e n.pen p1).bind fun f=>
 some (f.1,f.2)
theorem ss (O0:Own c0 G F) (d:Rel c0 sg G) (hG:Gl [0,3,5] c0) (p0:Option Nat) (a:ba) {r:Sto×Er} (t:Pt 5 c0 v1 p0) (z:Sl (RI .u8) c0 v3 a.Bytes) (H:gH sg p0 a=some r): Calls prog 41 #[v1,.agg #[I a.Kind,I a.A,I a.B,v3]] c0.w (aO c0 fun c v=>∃y1,∃G_:Gm,Own c G_ (F)∧Rel c r.1 G_∧v=y1∧RE 318 126 c y1 r.2):=by
 unfold gH at H;refine en func41 rfl rfl (sr ?_);obtain ⟨a5,a6,a7,rfl⟩:=(z).form;refine me (bx 81 [I a.Kind,I a.A,I a.B,.slice a5 a6 a7] O0) ?_;rintro v12 s1 b ⟨y,rfl,l,h⟩;refine va (.nilIface) (wln (W.seq (sr (va (v1) (vr (B p0.isNone) (by rcases t.m.cs with ⟨e,f⟩ | ⟨b_,e,f⟩ <;> (subst e; rw [f]; kernel_rfl)) (wln (cn H (fun c2 H=>?_) (fun c2 H=>?_))))))))
 ·refine sr ?_;obtain ⟨v14,S⟩:=(hG.mono b).get 0 (by decide);refine vx (l1 qd S.im) (va (v14) (wln (W.ret (thr ?_))));obtain rfl:=si H;exact r1 (qq s1 ⟨v14,G,l,d.m,rfl,S⟩)
 refine W.skip (nrm (W.seq (sr (va (Q y) (vx (l1 u_3 (h 0 _ rfl)) (wln (W.block (sr (vv (B (a.Kind==0)) (wln (cn H (fun d2 H=>?_) (fun d2 H=>?_))))))))))))
 ·refine rD [6] (Kp G []) l ?_;intro t1 Z E;have i3:Kp G [] t1:=(Kp.nil E);refine ta 0 (v1) (bn H fun t3 f2 H=>?_);obtain ⟨P,rfl,e2⟩:=((t.mono (b.trans Z))).get f2;refine ta 1 (Q P) (ta 2 (Q P) (bn H fun u0 g2 H=>?_));obtain ⟨v24,v26,j2,i2,n4⟩:=Rel.open_screen_Screen (d.mono (b.trans Z)) g2 e2;refine tkx 3 i3 (fun n g u=>le1 0 EB (u.gon j2 0 rfl)) (ta 4 (Qo y (0+3)) (tx 5 (fun n g=>l1 mZ ((mm h) 3 _ rfl)) (bn H fun f4 k2 H=>o1 6 (gc 6 (ru E d.m (hG.m.le (by decide)) u0.Feeder a.Bytes i2 z.m k2) ?_))));rintro v35 u1 r4 ⟨d1,g1,k1,rfl⟩;refine ⟨.inl rfl,dn (bkn (nrm (sr (va (.nilIface) (wln (W.ret ?_))))))⟩;obtain rfl:=si H;exact r1 (qq u1 ⟨.nilIface,d1,g1,k1,rfl,rfl⟩)
 refine sr (vv (B (a.Kind==1)) (wln (cn H (fun l2 H=>?_) (fun l2 H=>?_))))
 ·refine W.region (va (v1) (bn H fun u3 n2 H=>?_));obtain ⟨R,rfl,m2⟩:=((t.mono b)).get n2;refine vv (Q R) (bn H fun v0 o2 H=>?_);obtain ⟨v41,v43,q2,p2,o4⟩:=Rel.open_screen_Screen (d.mono b) o2 m2;refine vx (le1 0 EB (l.gon q2 0 rfl)) (bn H fun g4 s2 H=>cl (rq l d.m (hG.m.le (by decide)) v0.Feeder p2 s2) ?_);rintro v52 w1 s4 ⟨e1,h1,m1,rfl⟩;refine WL.nil (bkn (nrm (sr (va (.nilIface) (wln (W.ret ?_))))));obtain rfl:=si H;exact r1 (qq w1 ⟨.nilIface,e1,h1,m1,rfl,rfl⟩)
 refine sr (vv (B (a.Kind==13)) (wln (cn H (fun t2 H=>?_) (fun t2 H=>?_))))
 ·refine sr (va (v1) (bn H fun w3 u2 H=>?_));obtain ⟨i,rfl,T⟩:=((t.mono b)).get u2;refine vv (Q i) (bn H fun w0 v2 H=>?_);obtain ⟨v58,v60,x2,w2,p4⟩:=Rel.open_screen_Screen (d.mono b) v2 T;refine vx (le1 0 EB (l.gon x2 0 rfl)) (bn H fun i4 y2 H=>cl (iF l d.m w0.Feeder w2 y2) ?_);rintro v4 m4 t4 ⟨D,i1,N,rfl⟩;refine wln (rD [8] (Kp D []) i1 ?_);intro x1 h3 M;have j3:Kp D [] x1:=(Kp.nil M);refine ta 0 (Q i) (ta 1 (Q i) (ta 2 (Qo i 1) (bn H fun x0 z2 H=>?_)));obtain ⟨w4,x4,b3,q4,a3⟩:=Rel.open_screen_Screen (N.mono h3) z2 (tm T);refine tkx 3 j3 (fun n g u=>le1 1 zL (u.gon b3 0 rfl)) (ta 4 (Qo y (0+1)) (tx 5 (fun n g=>l1 u_3 ((mm h) 1 _ rfl)) (ta 6 (Qo y (0+2)) (tx 7 (fun n g=>l1 u_3 ((mm h) 2 _ rfl)) (bn H fun j4 c3 H=>o1 8 (gc 8 (xt M N.m (hG.m.le (by decide)) x0.pen a.A a.B a3 c3) ?_))))));rintro y4 z1 u4 ⟨f1,j1,n1,rfl⟩;refine ⟨.inl rfl,dn (bkn (nrm (sr (va (.nilIface) (wln (W.ret ?_))))))⟩;obtain rfl:=si H;exact r1 (qq z1 ⟨.nilIface,f1,j1,n1,rfl,rfl⟩)
 refine W.seq (sr (vx (lN 81 h) (bn H fun c1 d3 H=>cl (tA l (hG.m.le (by decide)) a z.m d3) ?_)));rintro k b2 a0 ⟨_,q,rfl,U⟩;refine va (k) (wln (sr (va (k) (vr (B (!c1.isNil)) (by rcases (U).cs with ⟨e,f⟩ | ⟨b_,e,f⟩ | ⟨b_,e,f⟩ <;> (subst e; rw [f]; kernel_rfl)) (wln (cn H (fun e3 H=>?_) (fun e3 H=>?_)))))))
 ·refine sr (vv (k) (wln (W.ret (thr (bkr (thr ?_))))));obtain rfl:=si H;exact r1 (qq b2 ⟨k,G,q,d.m,rfl,U⟩)
 refine W.skip (nrm (sr (va (v1) (bn H fun x3 f3 H=>?_))));obtain ⟨j,rfl,X⟩:=((t.mono (b.trans a0))).get f3;refine vv (Q j) (bn H fun y0 g3 H=>?_);obtain ⟨a4,b4,j0,i0,q3⟩:=Rel.open_screen_Screen (d.mono (b.trans a0)) g3 X;refine vx (le1 0 EB (q.gon j0 0 rfl)) (bn H fun k4 k0 H=>cl (iF q d.m y0.Feeder i0 k0) ?_);rintro c4 p3 y3 ⟨o,d0,s,rfl⟩;refine wln (W.seq (rD [5] (Kp o []) d0 ?_));intro g0 t0 p;have b1:Kp o [] g0:=(Kp.nil p);refine ta 0 (Q j) (ta 1 (Q j) (ta 2 (Qo j 1) (bn H fun z0 l0 H=>?_)));obtain ⟨d4,e4,o0,s3,m0⟩:=Rel.open_screen_Screen (s.mono t0) l0 (tm X);refine tkx 3 b1 (fun n g u=>le1 1 zL (u.gon o0 0 rfl)) (tx 4 (fun n g=>lN 81 (mm h)) (bn H fun l4 q0 H=>o1 5 (gc 5 (Ec p s.m (hG.m.le (by decide)) z0.pen a m0 z.m q0) ?_)));rintro x h0 z3 ⟨_,b0,e0,f0,rfl,s0⟩;refine ⟨.inl rfl,ta 6 (x) (dn (nrm (W.ret (bkr (thr ?_)))))⟩;obtain rfl:=si H;exact r1 (qq h0 ⟨x,b0,e0,f0,rfl,s0⟩)
def di (sg:Sto) (p0:Option Nat):Option (bU):=
 if p0.isNone=true then
 some (⟨0,0,([]:List aq),(⟨0,0,false⟩:aj),false⟩:bU)
 else
 (p0).bind fun b=>
 (sg.screen_Screen[b]?).bind fun d=>
 (d.pen).bind fun c=>
 (sg.place_Pen[c]?).bind fun a=>
 (bV sg a.G).bind fun e=>
 (bJ sg a.G).bind fun f=>
 (io sg a.G).bind fun g=>
 some (⟨e,f,g,a.At,a.Auto⟩:bU)
theorem iw (O0:Own c0 G F) (o:Rel c0 sg G) (U:Option Nat) {r:bU} (h2:Pt 5 c0 v1 U) (H:di sg U=some r): Calls prog 29 #[v1] c0.w (aO c0 fun c v=>∃X y2,Own c G (es true cU X 101 y2 r.Lines :: F)∧v= .agg #[I r.Wide,I r.High,X,I r.At.Row,I r.At.Col,B r.At.Pending,B r.Auto]∧OA cU c X y2 r.Lines):=by
 unfold di at H;refine en func29 rfl rfl (sr (me (al 74 [I 0,I 0,Y,I 0,I 0,B false,B false] O0) ?_));rintro v6 c5 T ⟨b3,rfl,y⟩;refine wln (W.seq (sr (va (v1) (vr (B U.isNone) (by rcases h2.m.cs with ⟨N,P⟩ | ⟨b_,N,P⟩ <;> (subst N; rw [P]; kernel_rfl)) (wln (cn H (fun h7 H=>?_) (fun h7 H=>?_)))))))
 ·refine sr (va (.agg #[I 0,I 0,Y,I 0,I 0,B false,B false]) (md (sA 74 [I 0,I 0,Y,I 0,I 0,B false,B false] 0 y ⟨rfl,rfl,rfl,rfl,rfl,rfl,rfl,trivial⟩) ?_));rintro S l9 O8;refine wln (W.ret (thr ?_));obtain rfl:=si H;have g0:OA cU S (Y) [] []:=OA.nil (aI _);have z:=O8.addHole (e:=es true cU (Y) 101 [] ([]:List aq)) rfl;have Z:=z.sD 2 [0];exact uV (c:=S) (vs:=[I 0,I 0,Y,I 0,I 0,B false,B false]) rfl (by kernel_rfl) (by kernel_rfl) (by kernel_rfl) (z.on 1 rfl _ rfl).1 ⟨_,S,rfl,rfl,pt,(Y),[],Z,rfl,g0⟩
 refine W.skip (nrm (sr (va (v1) (bn H fun e1 i0 H=>?_))));obtain ⟨b,rfl,h0⟩:=((h2.mono T)).get i0;refine va (Q b) (va (Qo b 1) (bn H fun g1 j0 H=>?_));obtain ⟨v17,v19,q,i1,l0⟩:=Rel.open_screen_Screen (o.mono T) j0 h0;refine vx (le1 1 zL (y.gon q 0 rfl)) (bn H fun f1 o0 H=>?_);obtain ⟨d,rfl,m0⟩:=(l0).get o0;refine vv (Q d) (bn H fun a q0 H=>?_);obtain ⟨v26,t,s⟩:=Rel.open_place_Pen (o.mono T) q0 m0;refine vx (le1 0 iZ (y.gon t 0 rfl)) (va (v26) (wln (W.seq (rD [] (Kp G []) y ?_))));intro b0 j1 A;have l:Kp G [] b0:=(Kp.nil A);refine ta 0 (v26) (ta 2 (v26) (ta 4 (v26) (ta 6 (Q b) (ta 7 (Q b) (ta 8 (Qo b 1) (tkx 9 l (fun R x f=>le1 1 zL (f.gon q 0 rfl)) (ta 10 (Q d) (ta 11 (Qo d 1) (tkx 12 l (fun R x f=>leN 55 1 [I a.At.Row,I a.At.Col,B a.At.Pending] (f.gon t 0 rfl)) (ta 13 (Q b) (ta 14 (Q b) (ta 15 (Qo b 1) (tkx 16 l (fun R x f=>le1 1 zL (f.gon q 0 rfl)) (ta 17 (Q d) (ta 18 (Qo d 4) (tkx 19 l (fun R x f=>le1 4 u_4 (f.gon t 0 rfl)) (bn H fun g s0 H=>o1 1 (gc 1 (cG A o.m a.G s.m s0) ?_))))))))))))))))));rintro v38 d0 k1 ⟨D,rfl⟩;have v0:Kp G [] d0:=(Kp.nil D);refine ⟨.inr v0,bn H fun h t0 H=>o1 3 (gc 3 (bE D o.m a.G s.m t0) ?_)⟩;rintro v46 e0 m1 ⟨E,rfl⟩;have w0:Kp G [] e0:=(Kp.nil E);refine ⟨.inr w0,bn H fun h1 u0 H=>o1 5 (gc 5 (tz E o.m a.G s.m u0) ?_)⟩;rintro v49 f0 n1 ⟨_,z0,M,rfl,u⟩;have x0:Kp G [] f0:=(Kp.nil M);refine ⟨.inr x0,?_⟩;obtain ⟨i,j,k,rfl⟩:=(u).form;refine ta 20 (.agg #[I g,I h,.slice i j k,I a.At.Row,I a.At.Col,B a.At.Pending,B a.Auto]) (o1 21 (gD 21 (sA 74 [I g,I h,.slice i j k,I a.At.Row,I a.At.Col,B a.At.Pending,B a.Auto] 1 M ⟨rfl,rfl,(u).one,rfl,rfl,rfl,rfl,trivial⟩) ?_));rintro p p1 n;have y0:Kp G [] p:=(Kp.nil n);refine ⟨.inr y0,dn (nrm (W.ret ?_))⟩;obtain rfl:=si H;have a0:=n.sD 2 [0];exact uV (c:=p) (vs:=[I g,I h,.slice i j k,I a.At.Row,I a.At.Col,B a.At.Pending,B a.Auto]) rfl (by kernel_rfl) (by kernel_rfl) (by kernel_rfl) (n.on 1 rfl _ rfl).1 ⟨_,p,rfl,rfl,pt,(.slice i j k),z0,a0,rfl,u.m⟩
def fM (sg:Sto) (p0:Option Nat):Option (Int):=
 if p0.isNone=true then
 some 0
 else
 (p0).bind fun c=>
 (sg.screen_Screen[c]?).bind fun a=>
 (gJ sg a.Feeder).bind fun b=>
 some b
theorem qH (d:Own c0 G F) (i:Rel c0 sg G) (f:Option Nat) {r:Int} (n:Pt 5 c0 v1 f) (H:fM sg f=some r): Calls prog 35 #[v1] c0.w (aO c0 fun c v=>Own c G (F)∧v=I r):=by
 unfold fM at H;refine en func35 rfl rfl (sr (va (I 0) (wln (W.seq (sr (va (v1) (vr (B f.isNone) (by rcases (n).cs with ⟨a,b⟩ | ⟨z,a,b⟩ <;> (subst a; rw [b]; kernel_rfl)) (wln (cn H (fun o H=>?_) (fun o H=>?_))))))))))
 ·refine sr (va (I 0) (wln (W.ret (thr ?_))));obtain rfl:=si H;exact r1 (qq c0 ⟨d,rfl⟩)
 refine W.skip (nrm (sr (va (v1) (bn H fun x q H=>?_))));obtain ⟨j,rfl,p⟩:=(n).get q;refine vv (Q j) (bn H fun e s H=>?_);obtain ⟨v8,v10,l,t,u⟩:=Rel.open_screen_Screen i s p;refine vx (le1 0 EB (d.gon l 0 rfl)) (bn H fun g m H=>cl (su d i e.Feeder t m) ?_);rintro v19 k y ⟨h,rfl⟩;refine va (I g) (wln (W.ret ?_));obtain rfl:=si H;exact r1 (qq k ⟨h,rfl⟩)
def kC (p0:bU):Option (Int):=
 (cV (σ:=Int×Int) (τ:=Int) (((p0.Lines.length:Int) - 0).toNat+1) (fun a=>
 if (decide (a.2 < (p0.Lines.length:Int)))=true then
 (idx p0.Lines a.2).bind fun c=>
 (cV (σ:=Int×Int) (τ:=Int) (((c.Cells.length:Int) - 0).toNat+1) (fun b=>
 if (decide (b.2 < (c.Cells.length:Int)))=true then
 (idx c.Cells b.2).bind fun f=>
 some (.inl ((w64 (b.1+(f.Text.length:Int))),(w64 (b.2+1))))
 else
 some (.inr (b.1))) (a.1,0)).bind fun e=>
 some (.inl (e,(w64 (a.2+1))))
 else
 some (.inr (a.1))) (0,0)).bind fun d=>
 some d
theorem zv (O0:Own c0 G F) (b:bU) {r:Int} (z:Sl cU c0 v1 b.Lines) (H:kC b=some r): Calls prog 36 #[.agg #[I b.Wide,I b.High,v1,I b.At.Row,I b.At.Col,B b.At.Pending,B b.Auto]] c0.w (aO c0 fun c v=>Own c G (F)∧v=I r):=by
 unfold kC at H;refine en func36 rfl rfl (sr ?_);obtain ⟨u,x,y,rfl⟩:=(z).form;refine me (bx 74 [I b.Wide,I b.High,.slice u x y,I b.At.Row,I b.At.Col,B b.At.Pending,B b.Auto] O0) ?_;rintro v10 c9 l9 ⟨b6,rfl,O7,m8⟩;refine va (I 0) (wln (sr (va (I 0) (wln (W.seq (sr (va (Qo b6 (0+2)) (vx (l1 qc (m8 2 _ rfl)) (vx (ln 3 qc z.m) (va (I 0) (wln (W.block (bn H fun s T E=>lp T (fun d=>Jn c9 fun c l=>Own c G (F)∧l= [(3,I d.1),(9,.slice u x y),(10,I (b.Lines.length:Int)),(11,I d.2)]) (fun A ex e w=>ex= .exit 0∧(Jn c9 fun c l=>Own c G (F)∧l= [(3,I A)]) e w) ?_ ?_ ?_)))))))))))))
 ·clear E T;intro d h1 p t H;revert p t;rintro e_ w_ ⟨s0,w1,_,rfl,b1,rfl,N,rfl⟩;refine sr (va (B (decide (d.2 < (b.Lines.length:Int)))) (wln (W.seq (cn H (fun x0 H=>?_) (fun x0 H=>?_)))))
  ·refine W.skip (nrm (W.seq (W.block (sr (bn H fun f U H=>?_)))));obtain ⟨n1,y0,f1⟩:=Sl.at (z.mono (l9.trans b1)) (bW U);obtain ⟨v24,rfl,g⟩:=y0;refine vx (ix qc z.m U) (vx (lN 101 f1) (me (al 101 [Y,B false] N) ?_));rintro v29 t1 a0 ⟨n,rfl,f0⟩;obtain ⟨i,j,k,rfl⟩:=((g.mono a0)).form;refine md (sA 101 [.slice i j k,B f.Wrap] 0 f0 ⟨g.m.one,rfl,trivial⟩) ?_;rintro o c1 P;refine wln (sr (va (Q n) (vx (le1 0 dN (P.on 0 rfl)) (vx (ln 3 dN g.m) (va (I 0) (wln (W.block (bn H fun s1 X M=>lp X (fun a=>Jn o fun c l=>Own c G ((Eb n 101 [.slice i j k,B f.Wrap]) :: F)∧l= [(3,I a.1),(9,.slice u x y),(10,I (b.Lines.length:Int)),(11,I d.2),(16,.slice i j k),(17,I (f.Cells.length:Int)),(18,I a.2)]) (fun D ex e w=>ex= .exit 2∧(Jn o fun c l=>Own c G ((Eb n 101 [.slice i j k,B f.Wrap]) :: F)∧l= [(3,I D),(9,.slice u x y),(10,I (b.Lines.length:Int)),(11,I d.2)]) e w) ?_ ?_ ?_))))))))
   ·clear M X;intro a h1 p t H;revert p t;rintro e_ w_ ⟨t0,x1,_,rfl,d1,rfl,R,rfl⟩;refine sr (va (B (decide (a.2 < (f.Cells.length:Int)))) (wln (W.seq (cn H (fun z0 H=>?_) (fun z0 H=>?_)))))
    ·refine W.skip (nrm (W.seq (W.block (sr (bn H fun h Z H=>?_)))));obtain ⟨p1,a1,g1⟩:=Sl.at (g.mono (a0.trans (c1.trans d1))) (bW Z);obtain ⟨v48,rfl,q⟩:=a1;refine vx (ix dN g.m Z) (vx (lN 104 g1) (me (al 104 [I 0,Y] R) ?_));rintro v53 u1 e1 ⟨q0,rfl,g0⟩;obtain ⟨l0,m0,o0,rfl⟩:=((q.mono e1)).form;refine md (sA 104 [I h.Kind,.slice l0 m0 o0] 0 g0 ⟨rfl,q.m.one,trivial⟩) ?_;rintro u0 b2 S;refine wln (W.region (va (I a.1) (va (Qo q0 1) (vx (le1 1 dS (S.on 0 rfl)) (vx (ln 3 dS q.m) (vv (I (w64 (a.1+(h.Text.length:Int)))) (WL.nil (bkn (nrm (W.region (vv (I (w64 (a.2+1))) (WL.nil ?_))))))))))));obtain rfl:=si H;refine ⟨_,rfl,?_⟩;have h0:=S.sD 2 [1];exact jn u0 ⟨h0,rfl⟩
    refine W.exit (thx ?_);obtain rfl:=si H;exact ⟨_,rfl,rfl,jn t0 ⟨R,rfl⟩⟩
   ·exact jn o ⟨P,rfl⟩
   rintro _ e_ w_ ⟨rfl,v0,y1,_,rfl,c2,rfl,i0,rfl⟩;refine bke (bkn (nrm (W.region (vv (I (w64 (d.2+1))) (WL.nil ?_)))));obtain rfl:=si M;refine ⟨_,rfl,?_⟩;have j0:=i0.sD 1 [];exact jn v0 ⟨j0,rfl⟩
  refine W.exit (thx ?_);obtain rfl:=si H;exact ⟨_,rfl,rfl,jn s0 ⟨N,rfl⟩⟩
 ·exact jn c9 ⟨O7,rfl⟩
 rintro _ e_ w_ ⟨rfl,w0,z1,_,rfl,d2,rfl,k0,rfl⟩;refine bke (nrm (sr (vv (I s) (wln (W.ret ?_)))));obtain rfl:=si E;exact r1 (qq w0 ⟨k0,rfl⟩)
def lS (p0:Int):Option (Int):=
 some (aS 1 (aM p0 1024))
theorem tB (b:Own c0 G F) (a:Int) {r:Int} (H:lS a=some r): Calls prog 63 #[I a] c0.w (aO c0 fun c v=>Own c G (F)∧v=I r):=by
 unfold lS at H;refine en func63 rfl rfl (sr (va (I 0) (wln (sr (va (I a) (va (I (aM a 1024)) (vv (I (aS 1 (aM a 1024))) (wln (W.ret ?_)))))))));obtain rfl:=si H;exact r1 (qq c0 ⟨b,rfl⟩)
def kD (p0:Int) (p1:Int):Option (Int):=
 (lS p0).bind fun a=>
 (lS p1).bind fun b=>
 some (w64 ((w64 (a * b)) * 16))
theorem zw (h:Own c0 G F) (d:Int) (e:Int) {r:Int} (H:kD d e=some r): Calls prog 37 #[I d,I e] c0.w (aO c0 fun c v=>Own c G (F)∧v=I r):=by
 unfold kD at H;refine en func37 rfl rfl (sr (va (I 0) (wln (sr (va (I d) (bn H fun a j H=>cl (tB h d j) ?_))))));rintro v7 m n ⟨i,rfl⟩;refine va (I e) (bn H fun b k H=>cl (tB i e k) ?_);rintro v14 g l ⟨f,rfl⟩;refine va (I (w64 (a * b))) (vv (I (w64 ((w64 (a * b)) * 16))) (wln (W.ret ?_)));obtain rfl:=si H;exact r1 (qq g ⟨f,rfl⟩)
def gY (p0:List aa):Option (List Int):=
 (cV (σ:=(List Int)×Int) (τ:=(List Int)) (((p0.length:Int) - 0).toNat+1) (fun a=>
 if (decide (a.2 < (p0.length:Int)))=true then
 ((idx p0 a.2).bind fun b=>
 if (b.Kind==0)=true then
 (app a.1 ([32]:List Int)).bind fun c=>
 some (c)
 else
 (if (b.Kind==1)=true then
 some (b.Kind==1)
 else
 some (b.Kind==2)).bind fun f=>
 if f=true then
 (app a.1 b.Text).bind fun d=>
 some (d)
 else
 some (a.1)).bind fun e=>
 some (.inl (e,(w64 (a.2+1))))
 else
 some (.inr (a.1))) (([]:List Int),0)).bind fun g=>
 some g
theorem pQ (O0:Own c0 G F) (n:List aa) {r:List Int} (P:Sl ax c0 v1 n) (H:gY n=some r): Calls prog 126 #[v1] c0.w (aO c0 fun c v=>∃S y2,Own c G (es true (RI .i32) S 21 y2 r :: F)∧v=S∧OA (RI .i32) c S y2 r):=by
 unfold gY at H;refine en func126 rfl rfl (sr (va (Y) (wln (sr (va (Y) (wln (W.seq (sr (va (v1) (vx (ln 3 dN P) (va (I 0) (wln (W.block (bn H fun t2 h3 X=>lp h3 (fun b=>Jn c0 fun c l=>∃v5 o,Own c G (es true (RI .i32) v5 21 o b.1 :: F)∧l= [(3,v5),(6,v1),(7,I (n.length:Int)),(8,I b.2)]∧OA (RI .i32) c v5 o b.1) (fun t ex e w=>ex= .exit 0∧(Jn c0 fun c l=>∃v7 x,Own c G (es true (RI .i32) v7 21 x t :: F)∧l= [(3,v7)]∧OA (RI .i32) c v7 x t) e w) ?_ ?_ ?_))))))))))))))
 ·clear X h3;intro b v2 u0 s1 H;revert u0 s1;rintro N R ⟨c9,f2,_,rfl,l9,rfl,v5,o,y,rfl,j⟩;refine sr (va (B (decide (b.2 < (n.length:Int)))) (wln (W.seq (cn H (fun v0 H=>?_) (fun v0 H=>?_)))))
  ·refine W.skip (nrm (bn H fun u d U=>W.seqJ (Jn c9 fun c l=>∃v19 k,Own c G (es true (RI .i32) v19 21 k u :: F)∧l= [(3,v19),(6,v1),(7,I (n.length:Int)),(8,I b.2)]∧OA (RI .i32) c v19 k u) ?_ ?_))
   ·refine W.block (sr (bn d fun a E d=>?_));obtain ⟨x1,w0,n1⟩:=Sl.at (P.mono l9) (bW E);obtain ⟨v25,rfl,s⟩:=w0;refine vx (ix dN P.m E) (vx (lN 104 n1) (me (al 104 [I 0,Y] y) ?_));rintro v30 c2 m1 ⟨i,rfl,Z⟩;obtain ⟨z,A,D,rfl⟩:=((s.mono m1)).form;refine md (sA 104 [I a.Kind,.slice z A D] 0 Z ⟨rfl,s.m.one,trivial⟩) ?_;rintro q k2 h;refine wln (sr (va (Q i) (vx (le1 0 u_3 (h.on 0 rfl)) (wln (W.block (sr (vv (B (a.Kind==0)) (wln (cn d (fun y0 d=>?_) (fun y0 d=>?_))))))))))
    ·refine W.region (va (v5) (me (sl (RI .i32) 21 [[J 32]] ([32]:List Int) h ⟨rfl,trivial⟩) ?_));rintro v41 d2 l2 ⟨u2,a0,z0⟩;obtain ⟨e2,b1,m2,b0,a1⟩:=a0.frz 0 rfl z0;refine WL.gh b1 (bn d fun z1 c1 d=>me (ap (RI .i32) (J 0) 4 102 2 b0 j.m a1 c1 dS) ?_);rintro v51 l0 n2 ⟨p1,d0,d1⟩;refine va (v51) (WL.nil (bkn (bkn (nrm ?_))));obtain rfl:=si d;have e0:=d0.sD 3 [2];exact jn l0 ⟨v51,p1,e0,rfl,d1⟩
    refine bn d fun T g f=>W.seqJ (Jn q fun c l=>Own c G ((Eb i 104 [I a.Kind,.slice z A D]) :: es true (RI .i32) v5 21 o b.1 :: F)∧l= [(3,v5),(5,Q i),(6,v1),(7,I (n.length:Int)),(8,I b.2),(19,B T)]) ?_ ?_
    ·refine sr (vv (B (a.Kind==1)) (wln (cn g (fun e1 g=>?_) (fun e1 g=>?_))))
     ·refine W.skip (nrm ?_);obtain rfl:=si g;exact jn q ⟨h,rfl⟩
     refine W.region (vv (B (a.Kind==2)) (wln ?_));obtain rfl:=si g;exact jn q ⟨h,rfl⟩
    rintro N R ⟨m0,g2,_,rfl,o2,rfl,p,rfl⟩;refine cn f (fun f1 f=>?_) (fun f1 f=>?_)
    ·refine W.region (va (v5) (va (Qo i 1) (vx (le1 1 dS (p.on 0 rfl)) (bn f fun b2 g1 f=>me (ap (RI .i32) (J 0) 4 102 1 p j.m s.m g1 dS) ?_))));rintro M o0 p2 ⟨q1,f0,h1⟩;refine va (M) (WL.nil (bkn (bkn (nrm ?_))));obtain rfl:=si f;have g0:=f0.sD 2 [1];exact jn o0 ⟨M,q1,g0,rfl,h1⟩
    refine W.skip (bkn (bkn (nrm ?_)));obtain rfl:=si f;have h0:=p.sD 2 [1];exact jn m0 ⟨v5,o,h0,rfl,j.m⟩
   rintro N R ⟨q0,i2,_,rfl,q2,rfl,v19,k,i0,rfl,i1⟩;refine W.region (vv (I (w64 (b.2+1))) (WL.nil ?_));obtain rfl:=si U;exact ⟨_,rfl,jn q0 ⟨v19,k,i0,rfl,i1⟩⟩
  refine W.exit (thx ?_);obtain rfl:=si H;exact ⟨_,rfl,rfl,jn c9 ⟨v5,o,y,rfl,j⟩⟩
 ·have j1:OA (RI .i32) c0 (Y) [] []:=OA.nil (aI _);have j0:=O0.addHole (e:=es true (RI .i32) (Y) 21 [] ([]:List Int)) rfl;exact jn c0 ⟨(Y),[],j0,rfl,j1⟩
 rintro _ N R ⟨rfl,s0,j2,_,rfl,s2,rfl,v7,x,k0,rfl,k1⟩;refine bke (nrm (sr (vv (v7) (wln (W.ret ?_)))));obtain rfl:=si X;exact r1 (qq s0 ⟨v7,x,k0,rfl,k1⟩)
def iN (p0:List aa):Option (List aa):=
 (bX (decide ((w64 ((p0.length:Int) - 1))≥0)) ((idx p0 (w64 ((p0.length:Int) - 1))).bind fun b=>
 some (b.Kind==0))).bind fun a=>
 if a=true then
 (slc p0 0 (w64 ((p0.length:Int) - 1))).bind fun c=>
 some c
 else
 some p0
theorem uj (j:Own c0 G F) (a:List aa) {r:List aa} (b:Sl ax c0 v1 a) (H:iN a=some r): Calls prog 127 #[v1] c0.w (aO c0 fun c v=>∃u,Own c G (F)∧v=u∧Sl ax c u r):=by
 unfold iN at H;refine en func127 rfl rfl (sr (va (Y) (wln (W.seq (sr (va (v1) (vx (ln 3 dN b) (vv (I (w64 ((a.length:Int) - 1))) (wln (W.seq (bn H fun i q H=>W.join (Jn c0 fun c l=>Own c G (F)∧l= [(0,v1),(3,I (w64 ((a.length:Int) - 1))),(16,B i)]) ?_ ?_)))))))))))
 ·clear H;refine W.region (va (I (w64 ((a.length:Int) - 1))) (va (B (decide ((w64 ((a.length:Int) - 1))≥0))) ?_));rcases bo (decide ((w64 ((a.length:Int) - 1))≥0)) with d | d
  ·have h:=anT d q;refine vb d (wa (v1) (wa (I (w64 ((a.length:Int) - 1))) (wn (bn h fun e s h=>?_))));obtain ⟨E,x,y⟩:=Sl.at b (bW s);obtain ⟨v10,rfl,D⟩:=x;refine vx (ix dN b s) (wa (Qo (sb v1) (so v1+(w64 ((a.length:Int) - 1)).toNat * 2)) (wn (vx (l1 u_3 (y 0 _ rfl)) (wa (B (e.Kind==0)) ?_))));obtain rfl:=si h;exact va (B (e.Kind==0)) (wln (jn c0 ⟨j,rfl⟩))
  obtain rfl:=anF d q;exact vb d (pz (pz (pz (va (B false) (wln (jn c0 ⟨j,rfl⟩))))))
 rintro M N ⟨g,A,_,rfl,t,rfl,f,rfl⟩;refine nrm (cn H (fun k H=>?_) (fun k H=>?_))
 ·refine sr (va (v1) (va (I (w64 ((a.length:Int) - 1))) (bn H fun z n H=>?_)));obtain ⟨v20,o,p⟩:=qm (k':= .i64) dN (by kernel_rfl) (b.mono t) n;refine vr v20 (rx (by kernel_rfl) (o _)) (va (v20) (wln (W.ret (thr ?_))));obtain rfl:=si H;exact r1 (qq g ⟨v20,f,rfl,p⟩)
 refine W.skip (nrm (sr (vv (v1) (wln (W.ret ?_)))));obtain rfl:=si H;exact r1 (qq g ⟨v1,f,rfl,b.m⟩)
def iM (p0:List aa):Option (List aa):=
 (cV (σ:=Int) (τ:=Int) (((p0.length:Int) - 0).toNat+1) (fun a=>
 (bX (decide (a > 0)) ((idx p0 (w64 (a - 1))).bind fun c=>
 some (c.Kind==0))).bind fun b=>
 if b=true then
 some (.inl ((w64 (a - 1))))
 else
 some (.inr (a))) ((p0.length:Int))).bind fun e=>
 (slc p0 0 e).bind fun d=>
 some d
theorem ui (O0:Own c0 G F) (s:List aa) {r:List aa} (h:Sl ax c0 v1 s) (H:iM s=some r): Calls prog 128 #[v1] c0.w (aO c0 fun c v=>∃Z,Own c G (F)∧v=Z∧Sl ax c Z r):=by
 unfold iM at H;refine en func128 rfl rfl (sr (va (Y) (wln (sr (va (v1) (vx (ln 3 dN h) (va (I (s.length:Int)) (wln (W.seq (W.block (bn H fun T E g=>lp E (fun a=>Jn c0 fun c l=>Own c G (F)∧l= [(0,v1),(3,I a)]) (fun q ex e w=>ex= .exit 0∧(Jn c0 fun c l=>Own c G (F)∧l= [(0,v1),(3,I q)]) e w) ?_ ?_ ?_)))))))))))
 ·clear g E;intro a j0 z X H;revert z X;rintro y U ⟨o,g6,_,rfl,l5,rfl,u,rfl⟩;refine W.seq (W.seq (bn H fun p k H=>W.join (Jn o fun c l=>Own c G (F)∧l= [(0,v1),(3,I a),(16,B p)]) ?_ ?_))
  ·clear H;refine W.region (va (I a) (va (B (decide (a > 0))) ?_));rcases bo (decide (a > 0)) with b | b
   ·have d:=anT b k;refine vb b (wa (v1) (wa (I a) (wa (I (w64 (a - 1))) (wn (bn d fun f n d=>?_)))));obtain ⟨d0,A,S⟩:=Sl.at (h.mono l5) (bW n);obtain ⟨v18,rfl,h0⟩:=A;refine vx (ix dN h.m n) (wa (Qo (sb v1) (so v1+(w64 (a - 1)).toNat * 2)) (wn (vx (l1 u_3 (S 0 _ rfl)) (wa (B (f.Kind==0)) ?_))));obtain rfl:=si d;exact va (B (f.Kind==0)) (wln (jn o ⟨u,rfl⟩))
   obtain rfl:=anF b k;exact vb b (pz (pz (pz (ps (va (B false) (wln (jn o ⟨u,rfl⟩)))))))
  rintro y U ⟨j,f0,_,rfl,i0,rfl,i,rfl⟩;refine nrm (cn H (fun D H=>?_) (fun D H=>?_))
  ·refine W.skip (nrm (W.block (W.region (va (I a) (vv (I (w64 (a - 1))) (WL.nil (bkn ?_)))))));obtain rfl:=si H;exact ⟨_,rfl,jn j ⟨i,rfl⟩⟩
  refine W.exit (thx ?_);obtain rfl:=si H;exact ⟨_,rfl,rfl,jn j ⟨i,rfl⟩⟩
 ·exact jn c0 ⟨O0,rfl⟩
 rintro _ y U ⟨rfl,x,g0,_,rfl,R,rfl,t,rfl⟩;refine bke (nrm (sr (va (v1) (va (I T) (bn g fun e0 M g=>?_)))));obtain ⟨v34,N,P⟩:=qm (k':= .i64) dN (by kernel_rfl) (h.mono R) M;refine vr v34 (rx (by kernel_rfl) (N _)) (va (v34) (wln (W.ret ?_)));obtain rfl:=si g;exact r1 (qq x ⟨v34,t,rfl,P⟩)
def gx (p0:bU):Option (List (List Int)):=
 (cV (σ:=(List (List Int))×(List Int)×Int) (τ:=(List (List Int))) (((p0.Lines.length:Int) - 0).toNat+1) (fun a=>
 if (decide (a.2.2 < (p0.Lines.length:Int)))=true then
 ((idx p0.Lines a.2.2).bind fun b=>
 (bX b.Wrap (some (decide (a.2.2 < (w64 ((p0.Lines.length:Int) - 1)))))).bind fun d=>
 if d=true then
 (iN b.Cells).bind fun f=>
 (gY f).bind fun g=>
 (app a.2.1 g).bind fun h=>
 some (a.1,h)
 else
 (iM b.Cells).bind fun i=>
 (gY i).bind fun j=>
 (app a.2.1 j).bind fun k=>
 (app a.1 ([k]:List (List Int))).bind fun l=>
 some (l,([]:List Int))).bind fun c=>
 some (.inl (c.1,c.2,(w64 (a.2.2+1))))
 else
 some (.inr (a.1))) (([]:List (List Int)),([]:List Int),0)).bind fun e=>
 some e
theorem uk (O0:Own c0 G F) (d:bU) {r:List (List Int)} (P:Sl cU c0 v1 d.Lines) (H:gx d=some r): Calls prog 95 #[.agg #[I d.Wide,I d.High,v1,I d.At.Row,I d.At.Col,B d.At.Pending,B d.Auto]] c0.w (aO c0 fun c v=>∃y1 y2,Own c G (es true (RL (RI .i32)) y1 102 y2 r :: F)∧v=y1∧OA (RL (RI .i32)) c y1 y2 r):=by
 unfold gx at H;refine en func95 rfl rfl (sr ?_);obtain ⟨T,U,X,rfl⟩:=(P).form;refine me (bx 74 [I d.Wide,I d.High,.slice T U X,I d.At.Row,I d.At.Col,B d.At.Pending,B d.Auto] O0) ?_;rintro v10 M l9 ⟨A,rfl,O7,m8⟩;refine va (Y) (wln (sr (va (Y) (wln (sr (va (Y) (wln (W.seq (sr (va (Qo A (0+2)) (vx (l1 qc (m8 2 _ rfl)) (vx (ln 3 qc P.m) (va (I 0) (wln (W.block (bn H fun r4 g0 Z=>lp g0 (fun a=>Jn M fun c l=>∃v13 p v15 g,Own c G (es true (RI .i32) v13 21 p a.2.1 :: es true (RL (RI .i32)) v15 102 g a.1 :: F)∧l= [(1,Q A),(3,v15),(4,v13),(8,.slice T U X),(9,I (d.Lines.length:Int)),(10,I a.2.2)]∧OA (RI .i32) c v13 p a.2.1∧OA (RL (RI .i32)) c v15 g a.1) (fun o ex e w=>ex= .exit 0∧(Jn M fun c l=>∃v17 q,Own c G (es true (RL (RI .i32)) v17 102 q o :: F)∧l= [(3,v17)]∧OA (RL (RI .i32)) c v17 q o) e w) ?_ ?_ ?_))))))))))))))))
 ·clear Z g0;intro a v5 w2 t3 H;revert w2 t3;rintro e_ w_ ⟨f0,i5,_,rfl,n3,rfl,v13,p,v15,g,a0,rfl,h0,R⟩;refine sr (va (B (decide (a.2.2 < (d.Lines.length:Int)))) (wln (W.seq (cn H (fun x2 H=>?_) (fun x2 H=>?_)))))
  ·refine W.skip (nrm (bn H fun h b l2=>W.seqJ (Jn f0 fun c l=>∃v30 s v32 t,Own c G (es true (RI .i32) v30 21 s h.2 :: es true (RL (RI .i32)) v32 102 t h.1 :: F)∧l= [(1,Q A),(3,v32),(4,v30),(8,.slice T U X),(9,I (d.Lines.length:Int)),(10,I a.2.2)]∧OA (RI .i32) c v30 s h.2∧OA (RL (RI .i32)) c v32 t h.1) ?_ ?_))
   ·refine W.block (sr (va (I a.2.2) (bn b fun f i0 b=>?_)));obtain ⟨q4,z2,p3⟩:=Sl.at (P.mono (l9.trans n3)) (bW i0);obtain ⟨v38,rfl,n⟩:=z2;refine vx (ix qc P.m i0) (vx (lN 101 p3) (me (al 101 [Y,B false] a0) ?_));rintro v43 c5 o3 ⟨i,rfl,n2⟩;refine va (I a.2.2) ?_;obtain ⟨b0,d0,e0,rfl⟩:=((n.mono o3)).form;refine md (sA 101 [.slice b0 d0 e0,B f.Wrap] 0 n2 ⟨n.m.one,rfl,trivial⟩) ?_;rintro E k5 u;refine wln (W.seq (W.seq (bn b fun f1 j0 b=>W.join (Jn E fun c l=>Own c G ((Eb i 101 [.slice b0 d0 e0,B f.Wrap]) :: es true (RI .i32) v13 21 p a.2.1 :: es true (RL (RI .i32)) v15 102 g a.1 :: F)∧l= [(1,Q A),(3,v15),(4,v13),(6,Q i),(8,.slice T U X),(9,I (d.Lines.length:Int)),(10,I a.2.2),(24,B f1)]) ?_ ?_)))
    ·clear b;refine W.region (va (Qo i 1) (vx (le1 1 u_4 (u.on 0 rfl)) ?_));rcases bo (f.Wrap) with j | j
     ·have m2:=anT j j0;refine vb j (wa (I a.2.2) (wa (Qo A (0+2)) (wn (vx (l1 qc ((mm m8) 2 _ rfl)) (wn (vx (ln 3 qc P.m) (wa (I (w64 ((d.Lines.length:Int) - 1))) (wa (B (decide (a.2.2 < (w64 ((d.Lines.length:Int) - 1))))) ?_))))))));obtain rfl:=si m2;exact va (B (decide (a.2.2 < (w64 ((d.Lines.length:Int) - 1))))) (wln (jn E ⟨u,rfl⟩))
     obtain rfl:=anF j j0;exact vb j (pz (pz (pz (va (B false) (wln (jn E ⟨u,rfl⟩))))))
    rintro e_ w_ ⟨d5,j5,_,rfl,l5,rfl,k,rfl⟩;refine nrm (cn b (fun b3 b=>?_) (fun b3 b=>?_))
    ·refine sr (va (v13) (va (Q i) (vx (le1 0 dN (k.on 0 rfl)) (bn b fun g2 c3 b=>cl (uj k f.Cells n.m c3) ?_))));rintro v60 e5 m5 ⟨_,o2,rfl,d3⟩;refine bn b fun x4 e3 b=>cl (pQ o2 g2 d3 e3) ?_;rintro s5 f5 n5 ⟨_,r5,p2,rfl,f3⟩;obtain ⟨g5,h3,o5,q2,g3⟩:=p2.frz 0 rfl f3;refine WL.gh h3 (bn b fun y4 i3 b=>me (ap (RI .i32) (J 0) 4 102 2 q2 h0.m g3 i3 dS) ?_);rintro k0 v2 p5 ⟨s3,s2,j3⟩;refine va (k0) (wln (W.exit (thx (bke (nrm ?_)))));obtain rfl:=si b;have t2:=s2.sD 4 [2,3];exact jn v2 ⟨k0,s3,v15,g,t2,rfl,j3,R.m⟩
    refine W.skip (nrm (sr (va (v15) (va (v13) (va (Q i) (vx (le1 0 dN (k.on 0 rfl)) (bn b fun i2 k3 b=>cl (ui k f.Cells n.m k3) ?_)))))));rintro t5 h5 q5 ⟨_,u2,rfl,l3⟩;refine bn b fun z4 m3 b=>cl (pQ u2 i2 l3 m3) ?_;rintro u5 x3 g4 ⟨_,s4,l0,rfl,h1⟩;obtain ⟨y3,j1,h4,m0,i1⟩:=l0.frz 0 rfl h1;refine WL.gh j1 (bn b fun j2 k1 b=>me (ap (RI .i32) (J 0) 4 102 2 m0 h0.m i1 k1 dS) ?_);rintro v4 z3 i4 ⟨t4,o0,m1⟩;obtain ⟨b4,n1,j4,q0,N⟩:=o0.frz 2 rfl m1;refine WL.gh n1 ?_;obtain ⟨x,y,z,rfl⟩:=(N).form;refine me (sl (RL (RI .i32)) 102 [[.slice x y z]] ([j2]:List (List Int)) q0 ⟨⟨(.slice x y z),rfl,N⟩,trivial⟩) ?_;rintro w4 c4 k4 ⟨u4,s0,p1⟩;obtain ⟨d4,s1,l4,t0,q1⟩:=s0.frz 0 rfl p1;refine WL.gh s1 (bn b fun b5 t1 b=>me (ap (RL (RI .i32)) (Y) 24 153 4 t0 R.m q1 t1 uz) ?_);rintro S D m4 ⟨e2,u0,u1⟩;refine va (S) (wln (W.region (va (Y) (WL.nil (bkn (nrm ?_))))));obtain rfl:=si b;have w1:OA (RI .i32) D (Y) [] []:=OA.nil (aI _);have v0:=u0.addHole (e:=es true (RI .i32) (Y) 21 [] ([]:List Int)) rfl;have w0:=v0.sD 6 [0,5];exact jn D ⟨(Y),[],S,e2,w0,rfl,w1,u1⟩
   rintro e_ w_ ⟨d1,e4,_,rfl,n4,rfl,v30,s,v32,t,x0,rfl,x1,z1⟩;refine W.region (vv (I (w64 (a.2.2+1))) (WL.nil ?_));obtain rfl:=si l2;exact ⟨_,rfl,jn d1 ⟨v30,s,v32,t,x0,rfl,x1,z1⟩⟩
  refine W.exit (thx ?_);obtain rfl:=si H;refine ⟨_,rfl,rfl,?_⟩;have y0:=a0.sD 2 [1];exact jn f0 ⟨v15,g,y0,rfl,R⟩
 ·have b2:OA (RI .i32) M (Y) [] []:=OA.nil (aI _);have z0:=O7.addHole (e:=es true (RI .i32) (Y) 21 [] ([]:List Int)) rfl;have c2:OA (RL (RI .i32)) M (Y) [] []:=OA.nil (aI _);have a1:=z0.addHole (e:=es true (RL (RI .i32)) (Y) 102 [] ([]:List (List Int))) rfl;have b1:=a1.sD 2 [1,0];exact jn M ⟨(Y),[],(Y),[],b1,rfl,b2,c2⟩
 rintro _ e_ w_ ⟨rfl,e1,f4,_,rfl,o4,rfl,v17,q,c1,rfl,d2⟩;refine bke (nrm (sr (vv (v17) (wln (W.ret ?_)))));obtain rfl:=si Z;exact r1 (qq e1 ⟨v17,q,c1,rfl,d2⟩)
def gZ (p0:bU):Option (List Int):=
 (gx p0).bind fun d=>
 (cV (σ:=(List (List Int))) (τ:=(List (List Int))) (((d.length:Int) - 0).toNat+1) (fun b=>
 (bX (decide ((b.length:Int) > 0)) ((idx b (w64 ((b.length:Int) - 1))).bind fun g=>
 some ((g.length:Int)==0))).bind fun e=>
 if e=true then
 (slc b 0 (w64 ((b.length:Int) - 1))).bind fun h=>
 some (.inl (h))
 else
 some (.inr (b))) (d)).bind fun c=>
 (cV (σ:=(List Int)×Int) (τ:=(List Int)) (((c.length:Int) - 0).toNat+1) (fun a=>
 if (decide (a.2 < (c.length:Int)))=true then
 (idx c a.2).bind fun i=>
 (if (decide (a.2 > 0))=true then
 (app a.1 ([10]:List Int)).bind fun j=>
 some (j)
 else
 some (a.1)).bind fun l=>
 (app l i).bind fun k=>
 some (.inl (k,(w64 (a.2+1))))
 else
 some (.inr (a.1))) (([]:List Int),0)).bind fun f=>
 some f
theorem vj (O0:Own c0 G F) (d:bU) {r:List Int} (h2:Sl cU c0 v1 d.Lines) (H:gZ d=some r): Calls prog 60 #[.agg #[I d.Wide,I d.High,v1,I d.At.Row,I d.At.Col,B d.At.Pending,B d.Auto]] c0.w (aO c0 fun c v=>∃y1 y2,Own c G (es true (RI .i32) y1 21 y2 r :: F)∧v=y1∧OA (RI .i32) c y1 y2 r):=by
 unfold gZ at H;refine en func60 rfl rfl (sr ?_);obtain ⟨a3,a4,a5,rfl⟩:=(h2).form;refine me (bx 74 [I d.Wide,I d.High,.slice a3 a4 a5,I d.At.Row,I d.At.Col,B d.At.Pending,B d.Auto] O0) ?_;rintro v10 c9 l9 ⟨b6,rfl,O7,m8⟩;refine va (Y) (wln (sr (vx (lN 74 m8) (bn H fun k4 t1 H=>cl (uk O7 d h2.m t1) ?_))));rintro v12 f0 b4 ⟨_,h4,i1,rfl,u1⟩;refine va (v12) (wln (W.seq (W.block (bn H fun N h0 b=>lp h0 (fun j=>Jn f0 fun c l=>∃v23,Own c G (F)∧l= [(3,v23)]∧Sl (RL (RI .i32)) c v23 j) (fun e1 ex e w=>ex= .exit 0∧(Jn f0 fun c l=>∃v24,Own c G (F)∧l= [(3,v24)]∧Sl (RL (RI .i32)) c v24 e1) e w) ?_ ?_ ?_))))
 ·clear b h0;intro j v2 D X H;revert D X;rintro A U ⟨y,w3,_,rfl,c4,rfl,v23,d0,rfl,g⟩;refine W.seq (W.seq (bn H fun x0 i0 H=>W.join (Jn y fun c l=>Own c G (F)∧l= [(3,v23),(21,B x0)]) ?_ ?_))
  ·clear H;refine W.region (va (v23) (vx (ln 3 uz g) (va (B (decide ((j.length:Int) > 0))) ?_)));rcases bo (decide ((j.length:Int) > 0)) with k | k
   ·have t:=anT k i0;refine vb k (wa (v23) (wa (v23) (wn (vx (ln 3 uz g) (wa (I (w64 ((j.length:Int) - 1))) (wn (bn t fun Z j0 t=>?_)))))));obtain ⟨l3,x1,t2⟩:=Sl.at g (bW j0);obtain ⟨v39,rfl,z1⟩:=x1;refine vx (ix uz g j0) (wn (vx (l1 dS (t2 0 _ rfl)) (wn (vx (ln 3 dS z1) (wa (B ((Z.length:Int)==0)) ?_)))));obtain rfl:=si t;exact va (B ((Z.length:Int)==0)) (wln (jn y ⟨d0,rfl⟩))
   obtain rfl:=anF k i0;exact vb k (pz (pz (pz (pz (va (B false) (wln (jn y ⟨d0,rfl⟩)))))))
  rintro A U ⟨g0,x3,_,rfl,q2,rfl,e0,rfl⟩;refine nrm (cn H (fun b2 H=>?_) (fun b2 H=>?_))
  ·refine W.skip (nrm (W.block (W.region (vv (v23) (vx (ln 3 uz g.m) (va (I (w64 ((j.length:Int) - 1))) (bn H fun p3 c2 H=>?_)))))));obtain ⟨v49,d2,e2⟩:=qm (k':= .i64) uz (by kernel_rfl) (g.mono q2) c2;refine vr v49 (rx (by kernel_rfl) (d2 _)) (va (v49) (WL.nil (bkn ?_)));obtain rfl:=si H;exact ⟨_,rfl,jn g0 ⟨v49,e0,rfl,e2⟩⟩
  refine W.exit (thx ?_);obtain rfl:=si H;exact ⟨_,rfl,rfl,jn g0 ⟨v23,e0,rfl,g.m⟩⟩
 ·obtain ⟨s1,g2,d4,j1,f2⟩:=i1.frz 0 rfl u1;have k1:=j1.sD 1 [];exact ⟨s1,_,_,g2.symm,pt,us,v12,k1,rfl,f2⟩
 rintro _ A U ⟨rfl,p,y3,_,rfl,e4,rfl,v24,m1,rfl,E⟩;refine bke (nrm (sr (va (Y) (wln (W.seq (sr (va (v24) (vx (ln 3 uz E) (va (I 0) (wln (W.block (bn b fun o3 k0 b0=>lp k0 (fun a=>Jn p fun c l=>∃h n,Own c G (es true (RI .i32) h 21 n a.1 :: F)∧l= [(4,h),(27,v24),(28,I (N.length:Int)),(29,I a.2)]∧OA (RI .i32) c h n a.1) (fun q ex e w=>ex= .exit 2∧(Jn p fun c l=>∃i s,Own c G (es true (RI .i32) i 21 s q :: F)∧l= [(4,i)]∧OA (RI .i32) c i s q) e w) ?_ ?_ ?_))))))))))))
 ·clear b0 k0;intro a v2 D X b;revert D X;rintro A U ⟨z,z3,_,rfl,s2,rfl,h,n,x,rfl,M⟩;refine sr (va (B (decide (a.2 < (N.length:Int)))) (wln (W.seq (cn b (fun i2 b=>?_) (fun i2 b=>?_)))))
  ·refine W.skip (nrm (W.seq (W.block (sr (va (I a.2) (bn b fun q3 l0 b=>?_))))));obtain ⟨m3,j2,u2⟩:=Sl.at (E.mono s2) (bW l0);obtain ⟨T,rfl,k2⟩:=j2;refine vx (ix uz E.m l0) (vx (l1 dS (u2 0 _ rfl)) (va (I a.2) (va (T) (wln (bn b fun a0 f u=>W.seqJ (Jn z fun c l=>∃o P,Own c G (es true (RI .i32) o 21 P a0 :: F)∧l= [(4,o),(6,T),(27,v24),(28,I (N.length:Int)),(29,I a.2)]∧OA (RI .i32) c o P a0) ?_ ?_)))))
   ·refine sr (va (I a.2) (va (B (decide (a.2 > 0))) (wln (cn f (fun l2 f=>?_) (fun l2 f=>?_)))))
    ·refine W.region (va (h) (me (sl (RI .i32) 21 [[J 10]] ([10]:List Int) x ⟨rfl,trivial⟩) ?_));rintro j4 u3 f4 ⟨i4,n1,m2⟩;obtain ⟨v3,o2,g4,p1,n2⟩:=n1.frz 0 rfl m2;refine WL.gh o2 (bn f fun s3 p2 f=>me (ap (RI .i32) (J 0) 4 102 1 p1 M.m n2 p2 dS) ?_);rintro R u0 h3 ⟨f1,q1,y0⟩;refine va (R) (wln ?_);obtain rfl:=si f;have m0:=q1.sD 2 [1];exact jn u0 ⟨R,f1,m0,rfl,y0⟩
    refine W.skip (nrm ?_);obtain rfl:=si f;exact jn z ⟨h,n,x,rfl,M⟩
   rintro A U ⟨e3,f3,_,rfl,i3,rfl,o,P,o0,rfl,z0⟩;refine W.region (va (o) (va (T) (bn u fun t3 a1 u=>me (ap (RI .i32) (J 0) 4 102 0 o0 z0 k2.m a1 dS) ?_)));rintro S v0 j3 ⟨g1,q0,b1⟩;refine va (S) (WL.nil (bkn (nrm (W.region (vv (I (w64 (a.2+1))) (WL.nil ?_))))));obtain rfl:=si u;exact ⟨_,rfl,jn v0 ⟨S,g1,q0,rfl,b1⟩⟩
  refine W.exit (thx ?_);obtain rfl:=si b;exact ⟨_,rfl,rfl,jn z ⟨h,n,x,rfl,M⟩⟩
 ·have c1:OA (RI .i32) p (Y) [] []:=OA.nil (aI _);have s0:=m1.addHole (e:=es true (RI .i32) (Y) 21 [] ([]:List Int)) rfl;exact jn p ⟨(Y),[],s0,rfl,c1⟩
 rintro _ A U ⟨rfl,w0,g3,_,rfl,k3,rfl,i,s,t0,rfl,d1⟩;refine bke (nrm (sr (vv (i) (wln (W.ret ?_)))));obtain rfl:=si b0;exact r1 (qq w0 ⟨i,s,t0,rfl,d1⟩)
def kN (p0:Int):Option (Int):=
 (dE p0).bind fun a=>
 if (!a)=true then
 some 0
 else
 if (decide (p0 < 128))=true then
 some 1
 else
 if (decide (p0 < 2048))=true then
 some 2
 else
 if (decide (p0 < 65536))=true then
 some 3
 else
 some 4
theorem xA (h:Own c0 G F) (a:Int) {r:Int} (H:kN a=some r): Calls prog 124 #[J a] c0.w (aO c0 fun c v=>Own c G (F)∧v=I r):=by
 unfold kN at H;refine en func124 rfl rfl (sr (va (I 0) (wln (W.seq (W.block (sr (va (J a) (bn H fun e i H=>cl (km h a i) ?_))))))));rintro v7 d l ⟨b,rfl⟩;refine vv (B (!e)) (wln (cn H (fun j H=>?_) (fun j H=>?_)))
 ·refine sr (va (I 0) (wln (W.ret (bkr (thr ?_)))));obtain rfl:=si H;exact r1 (qq d ⟨b,rfl⟩)
 refine sr (va (J a) (vv (B (decide (a < 128))) (wln (cn H (fun k H=>?_) (fun k H=>?_)))))
 ·refine sr (va (I 1) (wln (W.ret (bkr (thr ?_)))));obtain rfl:=si H;exact r1 (qq d ⟨b,rfl⟩)
 refine sr (va (J a) (vv (B (decide (a < 2048))) (wln (cn H (fun f H=>?_) (fun f H=>?_)))))
 ·refine sr (va (I 2) (wln (W.ret (bkr (thr ?_)))));obtain rfl:=si H;exact r1 (qq d ⟨b,rfl⟩)
 refine sr (va (J a) (vv (B (decide (a < 65536))) (wln (cn H (fun g H=>?_) (fun g H=>?_)))))
 ·refine sr (va (I 3) (wln (W.ret (bkr (thr ?_)))));obtain rfl:=si H;exact r1 (qq d ⟨b,rfl⟩)
 refine W.skip (bkn (nrm (sr (va (I 4) (wln (W.ret ?_))))));obtain rfl:=si H;exact r1 (qq d ⟨b,rfl⟩)
def ot (p0:Int):Option (Int):=
 if (p0==2)=true then
 some 192
 else
 if (p0==3)=true then
 some 224
 else
 if (p0==4)=true then
 some 240
 else
 some 0
theorem xz (b:Own c0 G F) (a:Int) {r:Int} (H:ot a=some r): Calls prog 125 #[I a] c0.w (aO c0 fun c v=>Own c G (F)∧v= .int .u8 r):=by
 unfold ot at H;refine en func125 rfl rfl (sr (va (.int .u8 0) (wln (W.seq (sr (va (I a) (wln (W.block (sr (vv (B (a==2)) (wln (cn H (fun d H=>?_) (fun d H=>?_)))))))))))))
 ·refine sr (va (.int .u8 192) (wln (W.ret (bkr (thr ?_)))));obtain rfl:=si H;exact r1 (qq c0 ⟨b,rfl⟩)
 refine sr (vv (B (a==3)) (wln (cn H (fun e H=>?_) (fun e H=>?_))))
 ·refine sr (va (.int .u8 224) (wln (W.ret (bkr (thr ?_)))));obtain rfl:=si H;exact r1 (qq c0 ⟨b,rfl⟩)
 refine sr (vv (B (a==4)) (wln (cn H (fun f H=>?_) (fun f H=>?_))))
 ·refine sr (va (.int .u8 240) (wln (W.ret (bkr (thr ?_)))));obtain rfl:=si H;exact r1 (qq c0 ⟨b,rfl⟩)
 refine W.skip (bkn (nrm (sr (va (.int .u8 0) (wln (W.ret ?_))))));obtain rfl:=si H;exact r1 (qq c0 ⟨b,rfl⟩)
def kO (p0:Int):Option (List Int):=
 (kN p0).bind fun b=>
 if (b==0)=true then
 some ([]:List Int)
 else
 (rep b 0).bind fun f=>
 (cV (σ:=Int×(List Int)×Int) (τ:=(Int×(List Int))) (((w64 (b - 1)) - 0).toNat+1) (fun a=>
 if (decide (a.2.2 > 0))=true then
 (idx a.2.1 a.2.2).bind fun h=>
 (mj a.2.1 a.2.2 (gi .u8 128 (IntKind.u8.wrap (dM .i32 a.1 63)))).bind fun d=>
 some (.inl ((a.1.fdiv (2 ^ 6)),d,(w64 (a.2.2 - 1))))
 else
 some (.inr (a.1,a.2.1))) (p0,f,(w64 (b - 1)))).bind fun c=>
 (ot b).bind fun g=>
 (idx c.2 0).bind fun i=>
 (mj c.2 0 (gi .u8 g (IntKind.u8.wrap c.1))).bind fun e=>
 some e
theorem xB (O0:Own c0 G F) (q:Int) {r:List Int} (H:kO q=some r): Calls prog 94 #[J q] c0.w (aO c0 fun c v=>∃D y2,Own c G (es true (RI .u8) D 5 y2 r :: F)∧v=D∧OA (RI .u8) c D y2 r):=by
 unfold kO at H;refine en func94 rfl rfl (sr (va (Y) (wln (sr (va (J q) (bn H fun b h1 H=>cl (xA O0 q h1) ?_))))));rintro v7 c6 l6 ⟨M,rfl⟩;refine va (I b) (wln (W.seq (sr (va (I b) (va (B (b==0)) (wln (cn H (fun h8 H=>?_) (fun h8 H=>?_))))))))
 ·refine sr (va (Y) (wln (W.ret (thr ?_))));obtain rfl:=si H;have e0:OA (RI .u8) c6 (Y) [] []:=OA.nil (aI _);have O9:=M.addHole (e:=es true (RI .u8) (Y) 5 [] ([]:List Int)) rfl;exact r1 (qq c6 ⟨(Y),[],O9,rfl,e0⟩)
 refine W.skip (nrm (sr (va (I b) (bn H fun e1 t H=>me (Own.mkS (kl:= .i64) (kc:= .i64) (R:=(RI .u8)) (z:= .int .u8 0) (lz:=[.int .u8 0]) (x:=0) (by_:=1) (i:=b) (j:=b) true M (aI _) t (Ld _) (BH t) mZ (by kernel_rfl) rfl rfl (fun _=>rfl) (by kernel_rfl) (by kernel_rfl)) ?_))));rintro v16 n n1 ⟨q0,E,f0⟩;refine va (v16) (wln (W.seq (sr (va (I b) (vv (I (w64 (b - 1))) (wln (W.block (bn H fun d y f=>lp y (fun a=>Jn n fun c l=>∃v19 k,Own c G (es true (RI .u8) v19 5 k a.2.1 :: F)∧l= [(0,J a.1),(3,I b),(4,v19),(5,I a.2.2)]∧OA (RI .u8) c v19 k a.2.1) (fun g ex e w=>ex= .exit 0∧(Jn n fun c l=>∃v21 p,Own c G (es true (RI .u8) v21 5 p g.2 :: F)∧l= [(0,J g.1),(3,I b),(4,v21)]∧OA (RI .u8) c v21 p g.2) e w) ?_ ?_ ?_))))))))
 ·clear f y;intro a v1 d0 u0 H;revert d0 u0;rintro e_ w_ ⟨X,k1,_,rfl,p1,rfl,v19,k,s,rfl,o⟩;refine W.seq (sr (va (I a.2.2) (va (B (decide (a.2.2 > 0))) (wln (cn H (fun g0 H=>?_) (fun g0 H=>?_))))))
  ·refine W.skip (nrm (W.seq (W.block (sr (va (v19) (va (I a.2.2) (va (J a.1) (va (J (dM .i32 a.1 63)) (va (.int .u8 (IntKind.u8.wrap (dM .i32 a.1 63))) (va (.int .u8 (gi .u8 128 (IntKind.u8.wrap (dM .i32 a.1 63)))) (bn H fun f1 h0 H=>vx (ixO mZ o h0) (bn H fun c1 i0 H=>md (Own.stW (R:=(RI .u8)) (T:=5) (us:=[.int .u8 (gi .u8 128 (IntKind.u8.wrap (dM .i32 a.1 63)))]) (x':=(gi .u8 128 (IntKind.u8.wrap (dM .i32 a.1 63)))) (u:= .int .u8 (gi .u8 128 (IntKind.u8.wrap (dM .i32 a.1 63)))) 0 s (by kernel_rfl) rfl o i0 rfl (by kernel_rfl) ⟨rfl,trivial⟩ rfl rfl) ?_))))))))))));rintro Z q1 ⟨s0,N,j0⟩;refine wln (W.region (va (J a.1) (vv (J (a.1.fdiv (2 ^ 6))) (WL.nil (bkn (nrm (W.region (va (I a.2.2) (vv (I (w64 (a.2.2 - 1))) (WL.nil ?_))))))))));obtain rfl:=si H;exact ⟨_,rfl,jn Z ⟨v19,s0,N,rfl,j0⟩⟩
  refine W.exit (thx ?_);obtain rfl:=si H;exact ⟨_,rfl,rfl,jn X ⟨v19,k,s,rfl,o⟩⟩
 ·exact jn n ⟨v16,q0,E,rfl,f0⟩
 rintro _ e_ w_ ⟨rfl,i1,m1,_,rfl,s1,rfl,v21,p,P,rfl,A⟩;refine bke (nrm (sr (va (v21) (va (I b) (bn f fun h k0 f=>cl (xz P b k0) ?_)))));rintro v50 j1 t1 ⟨S,rfl⟩;refine va (J d.1) (va (.int .u8 (IntKind.u8.wrap d.1)) (va (.int .u8 (gi .u8 h (IntKind.u8.wrap d.1))) (bn f fun g1 l0 f=>vx (ixO mZ A.m l0) (bn f fun d1 m0 f=>md (Own.stW (R:=(RI .u8)) (T:=5) (us:=[.int .u8 (gi .u8 h (IntKind.u8.wrap d.1))]) (x':=(gi .u8 h (IntKind.u8.wrap d.1))) (u:= .int .u8 (gi .u8 h (IntKind.u8.wrap d.1))) 0 S (by kernel_rfl) rfl A.m m0 rfl (by kernel_rfl) ⟨rfl,trivial⟩ rfl rfl) ?_))));rintro a0 u1 ⟨t0,U,o0⟩;refine wln (sr (vv (v21) (wln (W.ret ?_))));obtain rfl:=si f;exact r1 (qq a0 ⟨v21,t0,U,rfl,o0⟩)
def lJ (p0:List Int):Option ((List Int)×Er):=
 (cV (σ:=(List Int)×Int) (τ:=((List Int)×Er) ⊕ (List Int)) (((p0.length:Int) - 0).toNat+1) (fun a=>
 if (decide (a.2 < (p0.length:Int)))=true then
 (idx p0 a.2).bind fun c=>
 (dE c).bind fun d=>
 if (!d)=true then
 (qA a.2 (Er.sent 1)).bind fun e=>
 some (.inr (.inl (([]:List Int),e)))
 else
 (kO c).bind fun f=>
 (app a.1 f).bind fun g=>
 some (.inl (g,(w64 (a.2+1))))
 else
 some (.inr (.inr (a.1)))) (([]:List Int),0)).bind fun b=>
 match b with
 | .inl b=>
 some b
 | .inr b=>
 some (b,Er.nil)
theorem zj (O0:Own c0 G F) (hG:Gl [1] c0) (i:List Int) {r:(List Int)×Er} (A:Sl (RI .i32) c0 v1 i) (H:lJ i=some r): Calls prog 58 #[v1] c0.w (aO c0 fun c v=>∃M y2 y3,Own c G (es true (RI .u8) M 5 y2 r.1 :: F)∧v= .tuple #[M,y3]∧OA (RI .u8) c M y2 r.1∧RE 318 126 c y3 r.2):=by
 unfold lJ at H;refine en func58 rfl rfl (sr (va (Y) (va (.nilIface) (wln (sr (va (Y) (wln (W.seq (sr (va (v1) (vx (ln 3 dS A) (va (I 0) (wln (W.block (bn H fun d h3 z=>lp h3 (fun a=>Jn c0 fun c l=>∃v5 j,Own c G (es true (RI .u8) v5 5 j a.1 :: F)∧l= [(4,v5),(7,v1),(8,I (i.length:Int)),(9,I a.2)]∧OA (RI .u8) c v5 j a.1) (fun t=>match t with | .inl D=>(fun h ex e w=>ex= .ret∧(Jn c0 fun c l=>∃v9 g v11,Own c G (es true (RI .u8) v9 5 g h.1 :: F)∧l= [(2,v9),(3,v11)]∧OA (RI .u8) c v9 g h.1∧RE 318 126 c v11 h.2) e w) D | .inr D=>(fun f ex e w=>ex= .exit 0∧(Jn c0 fun c l=>∃v7 k,Own c G (es true (RI .u8) v7 5 k f :: F)∧l= [(4,v7)]∧OA (RI .u8) c v7 k f) e w) D) ?_ ?_ ?_)))))))))))))))
 ·clear z h3;intro a l2 i0 j1 H;revert i0 j1;rintro e_ w_ ⟨d0,z1,_,rfl,x,rfl,v5,j,n,rfl,q⟩;refine sr (va (B (decide (a.2 < (i.length:Int)))) (wln (W.seq (cn H (fun k0 H=>?_) (fun k0 H=>?_)))))
  ·refine W.skip (nrm (W.seq (W.block (sr (va (I a.2) (bn H fun b s H=>?_))))));obtain ⟨p1,l0,g1⟩:=Sl.at (A.mono x) (bW s);obtain rfl:=l0;refine vx (ix dS A.m s) (vx (l1 rh (g1 0 _ rfl)) (va (I a.2) (va (J b) (wln (W.seq (sr (va (J b) (bn H fun E m0 H=>cl (km n b m0) ?_))))))));rintro v30 u1 f1 ⟨o,rfl⟩;refine va (B (!E)) (wln (cn H (fun q0 H=>?_) (fun q0 H=>?_)))
   ·refine sr (va (I a.2) ?_);obtain ⟨v32,u⟩:=(hG.mono (x.trans f1)).get 1 (by decide);refine vx (l1 qd u.im) (bn H fun q1 s0 H=>cl (uS o a.2 (Er.sent 1) u s0) ?_);rintro v35 p d2 ⟨_,N,rfl,t0⟩;refine va (Y) (va (v35) (wln (W.ret (thr (bkr (thr ?_))))));obtain rfl:=si H;refine ⟨_,rfl,⟨rfl,?_⟩⟩;have u0:OA (RI .u8) p (Y) [] []:=OA.nil (aI _);have P:=N.addHole (e:=es true (RI .u8) (Y) 5 [] ([]:List Int)) rfl;have R:=P.sD 2 [0];exact jn p ⟨(Y),[],v35,R,rfl,u0,t0⟩
   refine W.skip (nrm (W.region (va (v5) (va (J b) (bn H fun s1 v0 H=>cl (xB o b v0) ?_)))));rintro v47 w1 e2 ⟨_,k2,S,rfl,w0⟩;obtain ⟨x1,y0,f2,T,x0⟩:=S.frz 0 rfl w0;refine WL.gh y0 (bn H fun t1 z0 H=>me (ap (RI .u8) (.int .u8 0) 1 31 1 T q.m x0 z0 mZ) ?_);rintro y e0 g2 ⟨h1,U,a1⟩;refine va (y) (WL.nil (bkn (nrm (W.region (vv (I (w64 (a.2+1))) (WL.nil ?_))))));obtain rfl:=si H;refine ⟨_,rfl,?_⟩;have X:=U.sD 2 [1];exact jn e0 ⟨y,h1,X,rfl,a1⟩
  refine W.exit (thx ?_);obtain rfl:=si H;exact ⟨_,rfl,rfl,jn d0 ⟨v5,j,n,rfl,q⟩⟩
 ·have b1:OA (RI .u8) c0 (Y) [] []:=OA.nil (aI _);have Z:=O0.addHole (e:=es true (RI .u8) (Y) 5 [] ([]:List Int)) rfl;exact jn c0 ⟨(Y),[],Z,rfl,b1⟩
 rcases d with d | d
 ·intro j0; revert j0;rintro _ e_ w_ ⟨rfl,f0,b2,_,rfl,i2,rfl,v9,g,v11,a0,rfl,c1,d1⟩;refine bkr (thr ?_);obtain rfl:=si z;exact r2 (qq f0 ⟨v9,g,v11,a0,rfl,c1,d1⟩)
 rintro _ e_ w_ ⟨rfl,g0,c2,_,rfl,j2,rfl,v7,k,b0,rfl,e1⟩;refine bke (nrm (sr (vv (v7) (va (.nilIface) (wln (W.ret ?_))))));obtain rfl:=si z;exact r2 (qq g0 ⟨v7,k,.nilIface,b0,rfl,e1,rfl⟩)
def gy (p0:bU):Option (List Int):=
 (gZ p0).bind fun a=>
 (gw a).bind fun b=>
 (lJ b).bind fun c=>
 some c.1
theorem ul (M:Own c0 G F) (hG:Gl [1] c0) (a:bU) {r:List Int} (n:Sl cU c0 v1 a.Lines) (H:gy a=some r): Calls prog 33 #[.agg #[I a.Wide,I a.High,v1,I a.At.Row,I a.At.Col,B a.At.Pending,B a.Auto]] c0.w (aO c0 fun c v=>∃b E,Own c G (es true (RI .u8) b 5 E r :: F)∧v=b∧OA (RI .u8) c b E r):=by
 unfold gy at H;refine en func33 rfl rfl (sr ?_);obtain ⟨P,R,S,rfl⟩:=(n).form;refine me (bx 74 [I a.Wide,I a.High,.slice P R S,I a.At.Row,I a.At.Col,B a.At.Pending,B a.Auto] M) ?_;rintro v10 c9 l9 ⟨b6,rfl,N,T⟩;refine va (Y) (wln (sr (vx (lN 74 T) (bn H fun A k H=>cl (vj N a n.m k) ?_))));rintro v12 U d0 ⟨_,i0,d,rfl,l⟩;obtain ⟨X,p,e0,e,o⟩:=d.frz 0 rfl l;refine WL.gh p (bn H fun D q H=>cl (pg e A o q) ?_);rintro v26 Z f0 ⟨_,j0,f,rfl,s⟩;obtain ⟨a0,u,g0,g,t⟩:=f.frz 0 rfl s;refine WL.gh u (bn H fun k0 x H=>cl (zj g (hG.m.le (by decide)) D t x) ?_);rintro v50 j h0 ⟨v40,z,v43,h,rfl,y,b0⟩;refine va (.tuple #[v40,v43]) (va (v40) (va (v43) (va (v40) (va (v43) (wln (sr (vv (v40) (wln (W.ret ?_)))))))));obtain rfl:=si H;have i:=h.sD 3 [0];exact r1 (qq j ⟨v40,z,i,rfl,y⟩)
end Go.Proofs.YtceciacilfhmjaaGreatDoor
namespace Go.Proofs.YtceciacilfhmjaaGreatDoor
open Go Go.Lt
set_option maxRecDepth 10000
set_option linter.unusedVariables false
attribute [local irreducible] W WL AC
open Tryz Go.RowKit
def vY:Go.Shelf.Ren:=⟨fun | 0=>0 | 1=>1 | 2=>2 | 99=>20 | 101=>31 | 103=>136 | 119=>258 | 120=>231 | 129=>160 | 137=>135 | 138=>134 | 143=>26 | 146=>64 | 151=>206 | 152=>230 | 156=>53 | 160=>137 | 165=>90 | 166=>8 | 169=>10 | 171=>34 | 172=>138 | 173=>85 | 195=>164 | 197=>25 | 205=>234 | 206=>38 | 208=>54 | 210=>166 | 217=>79 | 218=>165 | 219=>45 | 221=>98 | 224=>81 | 225=>80 | 227=>169 | 228=>205 | 231=>167 | 232=>168 | 233=>170 | 234=>171 | 235=>172 | 236=>173 | 240=>14 | 241=>123 | 243=>61 | 244=>174 | 245=>175 | 246=>96 | 247=>208 | 260=>44 | 266=>119 | 267=>82 | 268=>133 | 271=>207 | 276=>27 | 277=>158 | 279=>209 | 280=>210 | 281=>211 | 282=>212 | 283=>129 | 284=>130 | 285=>131 | 286=>132 | 287=>232 | 314=>120 | 316=>233 | 317=>159 | 318=>161 | 319=>162 | 320=>163 | 321=>259 | 322=>260 | 337=>203 | 338=>204 | 347=>273 | 348=>274 | 349=>275 | 350=>276 | 351=>277 | 352=>278 | 353=>279 | 354=>280 | 355=>281 | 356=>282 | 357=>283 | 358=>284 | 359=>285 | 360=>288 | 361=>289 | 362=>290 | 363=>311 | 364=>308 | 365=>309 | 366=>296 | 367=>332 | n=>n,fun | 0=>0 | 1=>1 | 2=>2 | 3=>3 | 4=>4 | 5=>5 | 6=>6 | 7=>7 | 8=>8 | 9=>9 | 10=>10 | 11=>11 | 12=>12 | 13=>13 | 14=>14 | 15=>15 | 16=>16 | 17=>17 | 18=>18 | 19=>19 | 20=>20 | 21=>21 | 22=>24 | 23=>77 | 24=>200 | 25=>201 | 27=>68 | 28=>112 | 31=>83 | 37=>31 | 39=>188 | 40=>150 | 41=>271 | 43=>86 | 46=>139 | 47=>232 | 48=>249 | 49=>347 | 51=>183 | 52=>270 | 53=>193 | 54=>194 | 55=>143 | 57=>156 | 61=>118 | 63=>272 | 64=>294 | 67=>107 | 69=>23 | 70=>30 | 71=>32 | 72=>33 | 73=>148 | 74=>37 | 75=>38 | 76=>39 | 77=>40 | 80=>41 | 81=>84 | 83=>82 | 84=>146 | 85=>274 | 86=>275 | 103=>233 | 104=>65 | 105=>66 | 106=>67 | 108=>299 | 111=>179 | 112=>322 | 113=>155 | 114=>117 | 115=>235 | 116=>236 | 117=>237 | 118=>238 | 119=>138 | 122=>234 | 123=>239 | 124=>240 | 127=>51 | 128=>241 | 131=>159 | 137=>140 | 138=>141 | 139=>142 | 143=>318 | 144=>319 | 145=>320 | 146=>184 | 150=>199 | 151=>185 | 164=>69 | 165=>70 | 166=>228 | 167=>273 | 168=>276 | 169=>277 | 170=>278 | 171=>192 | 172=>195 | 173=>196 | 174=>197 | 175=>295 | 176=>296 | 209=>297 | 210=>298 | 211=>229 | 212=>230 | 213=>231 | 214=>317 | 232=>292 | 233=>293 | 238=>329 | 239=>330 | 240=>331 | 241=>332 | 242=>333 | 243=>335 | 244=>168 | 245=>336 | 246=>337 | 247=>338 | 248=>339 | 249=>340 | n=>n,fun | 1=>10 | 3=>8 | 4=>9 | 15=>15 | 16=>16 | 17=>12 | 18=>13 | 19=>14 | n=>n⟩
theorem Jw:Lays.n166 Tryz.prog vY:=by
 constructor <;> first | kernel_rfl | (intro w; kernel_rfl) | (constructor <;> first | kernel_rfl | (intro w; kernel_rfl))
def wd:Go.Shelf.Ren:=⟨fun | 0=>0 | 1=>1 | 2=>2 | 99=>20 | 101=>31 | 103=>136 | 119=>258 | 120=>231 | 129=>160 | 137=>135 | 138=>134 | 143=>26 | 146=>64 | 151=>206 | 152=>230 | 156=>53 | 160=>137 | 165=>90 | 166=>8 | 169=>10 | 171=>34 | 172=>138 | 173=>85 | 195=>164 | 197=>25 | 205=>234 | 206=>38 | 208=>54 | 210=>166 | 217=>79 | 218=>165 | 219=>45 | 221=>98 | 224=>81 | 225=>80 | 227=>169 | 228=>205 | 231=>167 | 232=>168 | 233=>170 | 234=>171 | 235=>172 | 236=>173 | 240=>14 | 241=>123 | 243=>61 | 244=>174 | 245=>175 | 246=>96 | 247=>208 | 260=>44 | 266=>119 | 267=>82 | 268=>133 | 271=>207 | 276=>27 | 277=>158 | 279=>209 | 280=>210 | 281=>211 | 282=>212 | 283=>129 | 284=>130 | 285=>131 | 286=>132 | 287=>232 | 314=>120 | 316=>233 | 317=>159 | 318=>161 | 319=>162 | 320=>163 | 321=>259 | 322=>260 | 337=>203 | 338=>204 | 347=>273 | 348=>274 | 349=>275 | 350=>276 | 351=>277 | 352=>278 | 353=>279 | 354=>280 | 355=>281 | 356=>282 | 357=>283 | 358=>284 | 359=>285 | 360=>288 | 361=>289 | 362=>290 | 363=>311 | 364=>308 | 365=>309 | 366=>296 | 367=>332 | n=>n,fun | 0=>0 | 1=>1 | 2=>2 | 3=>3 | 4=>4 | 5=>5 | 6=>6 | 7=>7 | 8=>8 | 9=>9 | 10=>10 | 11=>11 | 12=>12 | 13=>13 | 14=>14 | 15=>15 | 16=>16 | 17=>17 | 18=>18 | 19=>19 | 20=>20 | 21=>21 | 22=>24 | 23=>77 | 24=>200 | 25=>201 | 27=>68 | 28=>112 | 31=>83 | 37=>31 | 39=>188 | 40=>150 | 41=>271 | 43=>86 | 46=>139 | 47=>232 | 48=>249 | 49=>347 | 51=>183 | 52=>270 | 53=>193 | 54=>194 | 55=>143 | 57=>156 | 61=>118 | 63=>272 | 64=>294 | 67=>107 | 69=>23 | 70=>30 | 71=>32 | 72=>33 | 73=>148 | 74=>37 | 75=>38 | 76=>39 | 77=>40 | 80=>41 | 81=>84 | 83=>82 | 84=>146 | 85=>274 | 86=>275 | 103=>233 | 104=>65 | 105=>66 | 106=>67 | 108=>299 | 111=>179 | 112=>322 | 113=>155 | 114=>117 | 115=>235 | 116=>236 | 117=>237 | 118=>238 | 119=>138 | 122=>234 | 123=>239 | 124=>240 | 127=>51 | 128=>241 | 131=>159 | 137=>140 | 138=>141 | 139=>142 | 143=>318 | 144=>319 | 145=>320 | 146=>184 | 150=>199 | 151=>185 | 164=>69 | 165=>70 | 166=>228 | 167=>273 | 168=>276 | 169=>277 | 170=>278 | 171=>192 | 172=>195 | 173=>196 | 174=>197 | 175=>295 | 176=>296 | 209=>297 | 210=>298 | 211=>229 | 212=>230 | 213=>231 | 214=>317 | 232=>292 | 233=>293 | 238=>329 | 239=>330 | 240=>331 | 241=>332 | 242=>333 | 243=>335 | 244=>168 | 245=>336 | 246=>337 | 247=>338 | 248=>339 | 249=>340 | n=>n,fun | 1=>10 | 3=>8 | 4=>9 | 15=>15 | 16=>16 | 17=>12 | 18=>13 | 19=>14 | n=>n⟩
theorem Jx:Lays.n169 Tryz.prog wd:=by
 constructor <;> first | kernel_rfl | (intro w; kernel_rfl) | (constructor <;> first | kernel_rfl | (intro w; kernel_rfl))
theorem FA:Go.Proofs.Builder.Extra Tryz.prog vY:=by
 constructor <;> first | kernel_rfl | (intro w; kernel_rfl) | decide | (constructor <;> kernel_rfl)
theorem FE:Go.Proofs.Builder.Extra Tryz.prog wd:=by
 constructor <;> first | kernel_rfl | (intro w; kernel_rfl) | decide | (constructor <;> kernel_rfl)
abbrev isB (B:Nat) (bs:List UInt8) (w:World):Prop:=Lib.IsBuilder 33 5 B B (Lib.byteCells bs) w
structure Br (up:Bool) (c1 c:Cx) (G:Gm) (F:List En) (bs:List UInt8):Prop where
 le:c1.le c
 own1:Own c1 G F
 own:Own c G F
 is:isB c1.w.heap.size bs c.w
 A:∀k o,c1.w.heap.size≤k→(c.A k o↔up=true)
 sz:c1.w.heap.size≤c.w.heap.size
theorem wq {B:Nat} {bs:List UInt8} {w w':World} (h:isB B bs w) (hk:∀k,B≤k→k < w.heap.size→w'.heap[k]? = w.heap[k]?):isB B bs w':=by
 have one:∀p,Lib.BuilderAt 33 5 B B p (Lib.byteCells bs) w→Lib.BuilderAt 33 5 B B p (Lib.byteCells bs) w':=fun p ⟨h1,v,h2,h3,h4⟩=>by
  refine ⟨h1,v,(hk B (ao _) (Array.getElem?_eq_some_iff.1 h2).1).trans h2,⟨h3.1,h3.2.imp id fun ⟨g,cap,cur,e,hg,hh,r⟩=>⟨g,cap,cur,e,hg,(hk g hg (Array.getElem?_eq_some_iff.1 hh).1).trans hh,r⟩⟩,h4⟩
 exact h.imp (one _) (one _)
theorem rZ {c1 c c':Cx} {G:Gm} {F:List En} (O1:Own c1 G F) (O:Own c G F) (hw:∀k,k < c1.w.heap.size→c'.w.heap[k]? = c.w.heap[k]?∧∀o,c'.A k o↔c.A k o) (ht:c'.t=c.t):Own c' G F:=
 ⟨⟨fun i e he=>(O.m.1 i e he).keep fun b hb=>hw b ((O1.m.1 i e he).lt hb),O.m.2⟩,fun g k hk=>by rw [ht]; exact O.t0 g k hk⟩
section
variable {c1 c c':Cx} {G:Gm} {F:List En} {bs:List UInt8}
theorem Br.drew (h:Br true c1 c G F bs):Br true c1 ⟨c.w.drew,c.A,c.t⟩ G F bs:=
 ⟨h.le.trans (Cx.drew_le c).le,h.own1,h.own.keep (Cx.drew_le c),wq h.is fun _ _ _=>rfl,h.A,h.sz⟩
theorem Br.low (h:Br true c1 c G F bs):∃cl:Cx,cl.w=c.w∧Br false c1 cl G F bs:=by
 refine ⟨⟨c.w,fun k o=>k < c1.w.heap.size∧c.A k o,c.t⟩,rfl,?_,h.own1,rZ h.own1 h.own (fun k hk=>⟨rfl,fun o=>⟨fun q=>q.2,fun q=>⟨hk,q⟩⟩⟩) rfl,h.is,fun k o hk=>⟨fun q=>by simp only at q; omega,fun q=>by cases q⟩,h.sz⟩;exact h.le.trans ⟨rfl,rfl,ao _,fun _ _ _ q=>⟨rfl,fun r=>q r.2⟩,fun _ _ _=>rfl,fun _ _ _=>rfl,fun _ _ _ q=>q⟩
theorem Br.upx (h:Br false c1 c G F bs) (k:c.le c') (O:Own c' G F):∃cr:Cx,cr.w=c'.w∧(∀k o,cr.A k o↔(k < c1.w.heap.size∧c'.A k o)∨c1.w.heap.size≤k)∧cr.t=c'.t∧Br true c1 cr G F bs:=by
 have hle:=h.le.trans k;refine ⟨⟨c'.w,fun k o=>(k < c1.w.heap.size∧c'.A k o)∨c1.w.heap.size≤k,c'.t⟩,rfl,fun _ _=>oD,rfl,⟨hle.os,hle.output,hle.size,fun i o hi hA=>⟨(hle.cell i o hi hA).1,fun q=>?_⟩,hle.block,hle.frz,hle.t⟩,h.own1,
  rZ h.own1 O (fun i hi=>⟨rfl,fun o=>⟨fun q=>q.elim (fun q=>q.2) (fun q=>by omega),fun q=> .inl ⟨hi,q⟩⟩⟩) rfl,wq h.is fun i h1 h2=>k.block i h2 fun o q=>(by have:=(h.A i o h1).1 q; cases this),fun i o hi=>⟨fun _=>rfl,fun _=> .inr hi⟩,cQ h.sz k.size⟩
 rcases q with q | q
 ·exact (hle.cell i o hi hA).2 q.2
 ·omega
theorem Br.up (h:Br false c1 c G F bs) (k:c.le c') (O:Own c' G F):∃cr:Cx,cr.w=c'.w∧Br true c1 cr G F bs:=by
 obtain ⟨cr,e,_,_,B⟩:=h.upx k O;exact ⟨cr,e,B⟩
theorem Br.below {w':World} (h:Br true c1 c G F bs) (hb:RowKit.Below c.w.heap.size c.w w'):∃c':Cx,c'.w=w'∧c.le c'∧Br true c1 c' G F bs:=by
 have hle:c.le ⟨w',c.A,c.t⟩:=⟨hb.os,hb.output,hb.size,fun k o hk hA=>⟨bZ (w:=c.w) (a:=⟨k,o,none⟩) (hb.block k hk),hA⟩,fun k hk _=>hb.block k hk,fun a ha _=>by simp only [World.frozen?,hb.block _ ha],fun _ _ _ q=>q⟩;exact ⟨⟨w',c.A,c.t⟩,rfl,hle,h.le.trans hle,h.own1,rZ h.own1 h.own (fun k hk=>⟨hb.block k (ei hk h.sz),fun _=>oD⟩) rfl,wq h.is fun k _ h2=>hb.block k h2,h.A,cQ h.sz hb.size⟩
theorem Br.turn {w':World} {bs':List UInt8} (h:Br true c1 c G F bs) (hb:RowKit.Below c1.w.heap.size c.w w') (his:isB c1.w.heap.size bs' w'):∃c':Cx,c'.w=w'∧c.le c'∧Br true c1 c' G F bs':=by
 have hlt:∀k o,¬c.A k o→k < c1.w.heap.size:=fun k o hA=>by
  rcases aR k c1.w.heap.size with q | q
  ·exact q
  ·exact absurd ((h.A k o q).2 rfl) hA
 have hle:c.le ⟨w',c.A,c.t⟩:=⟨hb.os,hb.output,hb.size,fun k o _ hA=>⟨bZ (w:=c.w) (a:=⟨k,o,none⟩) (hb.block k (hlt k o hA)),hA⟩,fun k _ hA=>hb.block k (hlt k 0 (hA 0)),fun a _ hA=>by simp only [World.frozen?,hb.block _ (hlt _ _ hA)],fun _ _ _ q=>q⟩;exact ⟨⟨w',c.A,c.t⟩,rfl,hle,h.le.trans hle,h.own1,rZ h.own1 h.own (fun k hk=>⟨hb.block k hk,fun _=>oD⟩) rfl,his,h.A,cQ h.sz hb.size⟩
def Ba (bs:List UInt8) (s:ByteArray):Option (List UInt8):=if bs.length+s.size≤140737488355328 then some (bs++blS s) else none
theorem tC (h:Br true c1 c G F bs) (s:ByteArray) {r:List UInt8} (H:Ba bs s=some r):
  Calls Tryz.prog 8 #[.pointer (some ⟨c1.w.heap.size,0,none⟩),.string s] c.w (aO c fun c' v=>Br true c1 c' G F r∧v= .tuple #[.int .i64 (s.size:Int),.nilIface]):=by
 unfold Ba at H;split at H
 ·rename_i hh
  cases H;refine (Go.Proofs.Any.Builder_WriteString Jw FA c1.w.heap.size c1.w.heap.size (Lib.byteCells bs) s c.w h.is (by rw [Lib.byteCells_length]; exact hh) h.sz).mono ?_;rintro e w' ⟨rfl,hB,hb⟩;obtain ⟨c',rfl,h2,h3⟩:=h.turn (bs':=bs++blS s) hb (.inr (by
   have:Lib.byteCells (bs++blS s)=Lib.byteCells bs++Lib.strCells s:=by
    unfold Lib.byteCells;rw [bb];rfl
   rw [this];exact hB))
  exact ⟨_,c',rfl,rfl,h2,h3,rfl⟩
 ·cases H
theorem Ei (h:Br true c1 c G F bs):Calls Tryz.prog 10 #[.pointer (some ⟨c1.w.heap.size,0,none⟩)] c.w (aO c fun c' v=>Own c' G F∧v= .string (mkS bs)):=by
 refine (Go.Proofs.Any.Builder_String_any Jx FE c1.w.heap.size c1.w.heap.size bs c.w h.is h.sz).mono ?_;rintro e w' ⟨rfl,hb⟩;have hlt:∀k o,¬c.A k o→k < c1.w.heap.size:=fun k o hA=>by
  rcases aR k c1.w.heap.size with q | q
  ·exact q
  ·exact absurd ((h.A k o q).2 rfl) hA
 have hle:c.le ⟨w',c.A,c.t⟩:=⟨hb.os,hb.output,hb.size,fun k o _ hA=>⟨bZ (w:=c.w) (a:=⟨k,o,none⟩) (hb.block k (hlt k o hA)),hA⟩,fun k _ hA=>hb.block k (hlt k 0 (hA 0)),fun a _ hA=>by simp only [World.frozen?,hb.block _ (hlt _ _ hA)],fun _ _ _ q=>q⟩;exact ⟨_,⟨w',c.A,c.t⟩,rfl,rfl,hle,rZ h.own1 h.own (fun k hk=>⟨hb.block k hk,fun _=>oD⟩) rfl,rfl⟩
theorem JV {ρ:Operand→Value} {o:Oper} (O:Own c G F) (hr:(execOp ρ o).run Tryz.prog c.w= .ok (.value (.pointer (some ⟨c.w.heap.size,0,none⟩))) (c.w.alloc (.cells #[.pointer none,.slice none 0 0] 33))):
  ∃v c',(execOp ρ o).run Tryz.prog c.w= .ok (.value v) c'.w∧c.le c'∧(v= .pointer (some ⟨c.w.heap.size,0,none⟩)∧Br true c c' G F []):=by
 have hb:=(gV _ c.w).alloc (ao _) (.cells #[.pointer none,.slice none 0 0] 33);have hle:c.le ⟨c.w.alloc (.cells #[.pointer none,.slice none 0 0] 33),fun k o=>(k < c.w.heap.size∧c.A k o)∨c.w.heap.size≤k,c.t⟩:=
  ⟨hb.os,hb.output,hb.size,fun k o hk hA=>⟨bZ (w:=c.w) (a:=⟨k,o,none⟩) (hb.block k hk),fun q=>q.elim (fun q=>hA q.2) (fun q=>by omega)⟩,fun k hk _=>hb.block k hk,fun a ha _=>by simp only [World.frozen?,hb.block _ ha],fun _ _ _ q=>q⟩
 exact ⟨_,_,hr,hle,rfl,hle,O,rZ O O (fun k hk=>⟨hb.block k hk,fun o=>⟨fun q=>q.elim (fun q=>q.2) (fun q=>by omega),fun q=> .inl ⟨hk,q⟩⟩⟩) rfl,Lib.fresh_isBuilder _ _ c.w,fun k o hk=>⟨fun _=>rfl,fun _=> .inr hk⟩,hb.size⟩
theorem Br.nA (h:Br false c1 c G F bs):∀k o,c1.w.heap.size≤k→¬c.A k o:=fun k o hk q=>by
 have:=(h.A k o hk).1 q;cases this
theorem Br.call (h:Br true c1 c G F bs) {f:FuncId} {args:Array Value} {v0:Value} (hc:∀cl:Cx,cl.w=c.w→Br false c1 cl G F bs→Calls Tryz.prog f args cl.w (aO cl fun c' v=>Own c' G F∧v=v0)):
  Calls Tryz.prog f args c.w (aO c fun c' v=>Br true c1 c' G F bs∧v=v0):=by
 have hlow:Br false c1 ⟨c.w,fun k o=>k < c1.w.heap.size∧c.A k o,c.t⟩ G F bs:=
  ⟨h.le.trans ⟨rfl,rfl,ao _,fun _ _ _ q=>⟨rfl,fun r=>q r.2⟩,fun _ _ _=>rfl,fun _ _ _=>rfl,fun _ _ _ q=>q⟩,h.own1,rZ h.own1 h.own (fun k hk=>⟨rfl,fun o=>⟨fun q=>q.2,fun q=>⟨hk,q⟩⟩⟩) rfl,h.is,fun k o hk=>⟨fun q=>by simp only at q; omega,fun q=>by cases q⟩,h.sz⟩
 refine (hc ⟨c.w,fun k o=>k < c1.w.heap.size∧c.A k o,c.t⟩ rfl hlow).mono ?_;rintro e w' ⟨v,c',he,rfl,hle,O,hv⟩;obtain ⟨cr,e1,e2,e3,B⟩:=hlow.upx hle O;have hA:∀k o,¬c.A k o→k < c1.w.heap.size:=fun k o q=>by
  rcases aR k c1.w.heap.size with r | r
  ·exact r
  ·exact absurd ((h.A k o r).2 rfl) q
 have hle2:c.le cr:=by
  refine ⟨by rw [e1]; exact hle.os,by rw [e1]; exact hle.output,by rw [e1]; exact hle.size,fun k o hk q=>?_,fun k hk q=>by rw [e1]; exact hle.block k hk (fun o r=>q o r.2),fun a ha q=>by simp only [World.frozen?,e1]; exact hle.frz a ha (fun r=>q r.2),fun g k b q=>by rw [e3]; exact hle.t g k b q⟩;have h1:=hle.cell k o hk (fun r=>q r.2);refine ⟨by rw [e1]; exact h1.1,fun r=>?_⟩;rcases (e2 k o).1 r with r | r
  ·exact h1.2 r.2
  ·have:=hA k o q;omega
 exact ⟨v,cr,he,e1.symm,hle2,B,hv⟩
theorem K2 {ρ:Operand→Value} {o:Oper} (h:Br true c1 c G F bs) (xs:List ByteArray) (hm:Nat.ble xs.length 4294967296=true) (hr:(execOp ρ o).run Tryz.prog c.w= .ok (.value (.slice (some ⟨c.w.heap.size,0,none⟩) xs.length xs.length)) (c.w.alloc (.cells (xs.map Value.string).toArray 9))):
  ∃v c',(execOp ρ o).run Tryz.prog c.w= .ok (.value v) c'.w∧c.le c'∧(Br true c1 c' G F bs∧∀cl:Cx,cl.w=c'.w→(∀k o,c1.w.heap.size≤k→¬cl.A k o)→Sl RS cl v xs):=by
 have hm:=bh hm;obtain ⟨c',e1,h2,h3⟩:=h.below ((gV c.w.heap.size c.w).alloc (ao _) (.cells (xs.map Value.string).toArray 9));refine ⟨_,c',by rw [e1]; exact hr,h2,h3,fun cl ew hA=>⟨_,xs.length,rfl,ao _,by unfold maxLen; omega,fun i x hx=>⟨_,_,[.string x],rfl,rfl,fun j u hu=>?_⟩⟩⟩
 cases j with
 | succ j=>simp at hu
 | zero=>
  simp only [fj,az] at hu;subst hu;refine ⟨?_,hA _ _ h.sz,?_⟩
  ·rw [ew,e1];simp
  ·rw [ew,e1,fg _ _ _ _ _ _ (qv c.w _),bj,dx,show 0+i * RS.size+0=i by show 0+i * 1+0=i; omega,hx];rfl
end
end Go.Proofs.YtceciacilfhmjaaGreatDoor
namespace Go.Proofs.YtceciacilfhmjaaGreatDoor
open Go Go.Lt
set_option maxRecDepth 10000
set_option linter.unusedVariables false
attribute [local irreducible] W WL AC
open Tryz
variable {c0:Cx} {G:Gm} {F:List En} {sg:Sto} {v1 v2 v3 v4 v5 v6 v7 v8 v9 v10 v11 v12 v13 v14 v15 v16 v17 v18 v19 v20 v21 v22 v23 v24 v25 v26 v27 v28 v29 v30 v31 v32 v33 v34 v35 v36 v37 v38 v39 v40 v41 v42 v43 v44 v45 v46 v47 v48 v49 v50 v51 v52 v53 v54 v55 v56 v57 v58 v59 v60:Value}
def lH (p0:bU):Option (Bool):=
 (orE (p0.High != (p0.Lines.length:Int)) (some (decide (p0.High < 1)))).bind fun d=>
 (orE d (some (decide (p0.High > 1024)))).bind fun e=>
 (orE e (some (decide (p0.Wide < 1)))).bind fun f=>
 (orE f (some (decide (p0.Wide > 1024)))).bind fun g=>
 (orE g ((ki p0.At p0.Wide p0.High).bind fun j=>
 some (!j))).bind fun h=>
 if h=true then
 some false
 else
 (cV (σ:=Int) (τ:=Bool ⊕ Unit) (((p0.Lines.length:Int) - 0).toNat+1) (fun b=>
 if (decide (b < (p0.Lines.length:Int)))=true then
 (idx p0.Lines b).bind fun c=>
 (orE ((c.Cells.length:Int) != p0.Wide) ((jm c.Cells).bind fun k=>
 some (!k))).bind fun i=>
 if i=true then
 some (.inr (.inl false))
 else
 some (.inl ((w64 (b+1))))
 else
 some (.inr (.inr ()))) (0)).bind fun a=>
 match a with
 | .inl a=>
 some a
 | .inr a=>
 some true
theorem zg (O0:Own c0 G F) (a:bU) {r:Bool} (T:Sl cU c0 v1 a.Lines) (H:lH a=some r): Calls prog 46 #[.agg #[I a.Wide,I a.High,v1,I a.At.Row,I a.At.Col,B a.At.Pending,B a.Auto]] c0.w (aO c0 fun c v=>Own c G (F)∧v=B r):=by
 unfold lH at H;refine en func46 rfl rfl (sr ?_);obtain ⟨a3,a4,a5,rfl⟩:=(T).form;refine me (bx 74 [I a.Wide,I a.High,.slice a3 a4 a5,I a.At.Row,I a.At.Col,B a.At.Pending,B a.Auto] O0) ?_;rintro v10 E l9 ⟨b,rfl,D,f⟩;refine va (B false) (wln (W.seq (W.seq (bn H fun u2 k0 H=>bn H fun v2 S H=>bn H fun w2 z H=>bn H fun x2 j H=>bn H fun f1 h H=>W.join (Jn E fun c l=>Own c G (F)∧l= [(1,Q b),(40,B f1)]) ?_ ?_))))
 ·clear H;refine W.region (va (Qo b (0+1)) (vx (l1 u_3 (f 1 _ rfl)) (va (Qo b (0+2)) (vx (l1 qc (f 2 _ rfl)) (vx (ln 3 qc T.m) (va (B (a.High != (a.Lines.length:Int))) ?_))))));rcases bo (a.High != (a.Lines.length:Int)) with n | n
  ·obtain rfl:=orT n k0;refine vb n (pz (ps (va (B true) ?_)));have l0:true=true:=rfl;obtain rfl:=orT l0 S;refine vb l0 (pz (ps (va (B true) ?_)));have m0:true=true:=rfl;obtain rfl:=orT m0 z;refine vb m0 (pz (ps (va (B true) ?_)));have o0:true=true:=rfl;obtain rfl:=orT o0 j;refine vb o0 (pz (ps (va (B true) ?_)));have q0:true=true:=rfl;obtain rfl:=orT q0 h;exact vb q0 (pz (pz (pz (pz (va (B true) (wln (jn E ⟨D,rfl⟩)))))))
  have i1:=orF n k0;refine vb n (wa (Qo b (0+1)) (wn (vx (l1 u_3 (f 1 _ rfl)) (wa (B (decide (a.High < 1))) ?_))));obtain rfl:=si i1;refine va (B (decide (a.High < 1))) ?_;rcases bo (decide (a.High < 1)) with o | o
  ·obtain rfl:=orT o S;refine vb o (pz (ps (va (B true) ?_)));have s0:true=true:=rfl;obtain rfl:=orT s0 z;refine vb s0 (pz (ps (va (B true) ?_)));have t0:true=true:=rfl;obtain rfl:=orT t0 j;refine vb t0 (pz (ps (va (B true) ?_)));have u0:true=true:=rfl;obtain rfl:=orT u0 h;exact vb u0 (pz (pz (pz (pz (va (B true) (wln (jn E ⟨D,rfl⟩)))))))
  have j1:=orF o S;refine vb o (wa (Qo b (0+1)) (wn (vx (l1 u_3 (f 1 _ rfl)) (wa (B (decide (a.High > 1024))) ?_))));obtain rfl:=si j1;refine va (B (decide (a.High > 1024))) ?_;rcases bo (decide (a.High > 1024)) with p | p
  ·obtain rfl:=orT p z;refine vb p (pz (ps (va (B true) ?_)));have v0:true=true:=rfl;obtain rfl:=orT v0 j;refine vb v0 (pz (ps (va (B true) ?_)));have w0:true=true:=rfl;obtain rfl:=orT w0 h;exact vb w0 (pz (pz (pz (pz (va (B true) (wln (jn E ⟨D,rfl⟩)))))))
  have k1:=orF p z;refine vb p (wa (Q b) (wn (vx (l1 u_3 (f 0 _ rfl)) (wa (B (decide (a.Wide < 1))) ?_))));obtain rfl:=si k1;refine va (B (decide (a.Wide < 1))) ?_;rcases bo (decide (a.Wide < 1)) with q | q
  ·obtain rfl:=orT q j;refine vb q (pz (ps (va (B true) ?_)));have x0:true=true:=rfl;obtain rfl:=orT x0 h;exact vb x0 (pz (pz (pz (pz (va (B true) (wln (jn E ⟨D,rfl⟩)))))))
  have m1:=orF q j;refine vb q (wa (Q b) (wn (vx (l1 u_3 (f 0 _ rfl)) (wa (B (decide (a.Wide > 1024))) ?_))));obtain rfl:=si m1;refine va (B (decide (a.Wide > 1024))) ?_;rcases bo (decide (a.Wide > 1024)) with s | s
  ·obtain rfl:=orT s h;exact vb s (pz (pz (pz (pz (va (B true) (wln (jn E ⟨D,rfl⟩)))))))
  have M:=orF s h;refine vb s (wa (Qo b (0+3)) (wn (vx (lN 55 (KG (k:=3) (l:=[I a.At.Row,I a.At.Col,B a.At.Pending]) f rfl)) (wa (Q b) (wn (vx (l1 u_3 (f 0 _ rfl)) (wa (Qo b (0+1)) (wn (vx (l1 u_3 (f 1 _ rfl)) (wn (bn M fun U e2 M=>cl (wX D a.At a.Wide a.High e2) ?_)))))))))));rintro v42 w1 h3 ⟨n1,rfl⟩;refine wa (B (!U)) ?_;obtain rfl:=si M;exact va (B (!U)) (wln (jn w1 ⟨n1,rfl⟩))
 rintro Z w_ ⟨i,d3,_,rfl,l2,rfl,b0,rfl⟩;refine nrm (cn H (fun f2 H=>?_) (fun f2 H=>?_))
 ·refine sr (va (B false) (wln (W.ret (thr ?_))));obtain rfl:=si H;exact r1 (qq i ⟨b0,rfl⟩)
 refine W.skip (nrm (W.seq (sr (va (Qo b (0+2)) (vx (l1 qc ((mm f) 2 _ rfl)) (vx (ln 3 qc T.m) (va (I 0) (wln (W.block (bn H fun x y0 N=>lp y0 (fun d=>Jn i fun c l=>Own c G (F)∧l= [(1,Q b),(42,.slice a3 a4 a5),(43,I (a.Lines.length:Int)),(44,I d)]) (fun t=>match t with | .inl x_=>(fun p2 ex e w=>ex= .ret∧(Jn i fun c l=>Own c G (F)∧l= [(2,B p2)]) e w) x_ | .inr x_=>(fun s2 ex e w=>ex= .exit 0∧(Jn i fun c l=>Own c G (F)∧l= []) e w) x_) ?_ ?_ ?_))))))))))
 ·clear N y0;intro d q3 c2 q2 H;revert c2 q2;rintro Z w_ ⟨x1,e3,_,rfl,m2,rfl,d0,rfl⟩;refine sr (va (B (decide (d < (a.Lines.length:Int)))) (wln (W.seq (cn H (fun g2 H=>?_) (fun g2 H=>?_)))))
  ·refine W.skip (nrm (W.seq (W.block (sr (bn H fun g z0 H=>?_)))));obtain ⟨b3,i2,o2⟩:=Sl.at (T.mono (l9.trans (l2.trans m2))) (bW z0);obtain ⟨n3,rfl,A⟩:=i2;refine vx (ix qc T.m z0) (vx (lN 101 o2) (me (al 101 [Y,B false] d0) ?_));rintro o3 c3 n2 ⟨R,rfl,p1⟩;obtain ⟨f0,g0,h0,rfl⟩:=((A.mono n2)).form;refine md (sA 101 [.slice f0 g0 h0,B g.Wrap] 0 p1 ⟨A.m.one,rfl,trivial⟩) ?_;rintro i0 i3 y;refine wln (W.seq (bn H fun g1 a1 H=>W.join (Jn i0 fun c l=>Own c G ((Eb R 101 [.slice f0 g0 h0,B g.Wrap]) :: F)∧l= [(1,Q b),(42,.slice a3 a4 a5),(43,I (a.Lines.length:Int)),(44,I d),(59,B g1)]) ?_ ?_))
   ·clear H;refine W.region (va (Q R) (vx (le1 0 dN (y.on 0 rfl)) (vx (ln 3 dN A.m) (va (Q b) (vx (l1 u_3 ((mm f) 0 _ rfl)) (va (B ((g.Cells.length:Int) != a.Wide)) ?_))))));rcases bo ((g.Cells.length:Int) != a.Wide) with u | u
    ·obtain rfl:=orT u a1;exact vb u (pz (pz (va (B true) (wln (jn i0 ⟨y,rfl⟩)))))
    have P:=orF u a1;refine vb u (wa (Q R) (wn (vx (le1 0 dN (y.on 0 rfl)) (wn (bn P fun X j2 P=>cl (pL y g.Cells A.m j2) ?_)))));rintro p3 y1 j3 ⟨q1,rfl⟩;refine wa (B (!X)) ?_;obtain rfl:=si P;exact va (B (!X)) (wln (jn y1 ⟨q1,rfl⟩))
   rintro Z w_ ⟨j0,f3,_,rfl,k3,rfl,e0,rfl⟩;refine nrm (cn H (fun k2 H=>?_) (fun k2 H=>?_))
   ·refine sr (va (B false) (wln (W.ret (bkr (thr ?_)))));obtain rfl:=si H;refine ⟨_,rfl,⟨rfl,?_⟩⟩;have s1:=e0.sD 1 [];exact jn j0 ⟨s1,rfl⟩
   refine W.skip (bkn (nrm (W.region (vv (I (w64 (d+1))) (WL.nil ?_)))));obtain rfl:=si H;refine ⟨_,rfl,?_⟩;have t1:=e0.sD 1 [];exact jn j0 ⟨t1,rfl⟩
  refine W.exit (thx ?_);obtain rfl:=si H;exact ⟨_,rfl,rfl,jn x1 ⟨d0,rfl⟩⟩
 ·exact jn i ⟨b0,rfl⟩
 rcases x with x | x
 ·intro d2; revert d2;rintro _ Z w_ ⟨rfl,z1,g3,_,rfl,l3,rfl,u1,rfl⟩;refine bkr (thr ?_);obtain rfl:=si N;exact r1 (qq z1 ⟨u1,rfl⟩)
 rintro _ Z w_ ⟨rfl,b2,y2,_,rfl,m3,rfl,b1,rfl⟩;refine bke (nrm (sr (va (B true) (wln (W.ret ?_)))));obtain rfl:=si N;exact r1 (qq b2 ⟨b1,rfl⟩)
def iX (p0:List ByteArray):Option (ByteArray):=
 (fJ p0 (⟨#[32]⟩:ByteArray)).bind fun a=>
 (rW a (⟨#[10]⟩:ByteArray)).bind fun b=>
 some b
theorem nZ (e:Own c0 G F) (hT:Et c0) (b:List ByteArray) {r:ByteArray} (h:Sl RS c0 v1 b) (H:iX b=some r): Calls prog 47 #[v1] c0.w (aO c0 fun c v=>Own c G (F)∧v= .string r):=by
 unfold iX at H;refine en func47 rfl rfl (sr (va (.string (⟨#[]⟩:ByteArray)) (wln (sr (va (v1) (bn H fun j i H=>cl (lW e hT b (⟨#[32]⟩:ByteArray) h i) ?_))))));rintro v9 g k ⟨f,rfl⟩;refine bn H fun a d H=>vr (.string a) (rx (by kernel_rfl) (lB d _)) (va (.string a) (wln (W.ret ?_)));obtain rfl:=si H;exact r1 (qq g ⟨f,rfl⟩)
def iW (p0:Bool) (p1:ByteArray) (p2:ByteArray):Option (ByteArray):=
 if p0=true then
 some p1
 else
 some p2
theorem uO (e:Own c0 G F) (d:Bool) (a:ByteArray) (b:ByteArray) {r:ByteArray} (H:iW d a b=some r): Calls prog 48 #[B d,.string a,.string b] c0.w (aO c0 fun c v=>Own c G (F)∧v= .string r):=by
 unfold iW at H;refine en func48 rfl rfl (sr (va (.string (⟨#[]⟩:ByteArray)) (wln (W.seq (sr (va (B d) (wln (cn H (fun f H=>?_) (fun f H=>?_)))))))))
 ·refine sr (vv (.string a) (wln (W.ret (thr ?_))));obtain rfl:=si H;exact r1 (qq c0 ⟨e,rfl⟩)
 refine W.skip (nrm (sr (vv (.string b) (wln (W.ret ?_)))));obtain rfl:=si H;exact r1 (qq c0 ⟨e,rfl⟩)
def lO (p0:Int):Option (ByteArray):=
 if (decide (p0 < 10))=true then
 (na (⟨#[48,49,50,51,52,53,54,55,56,57,97,98,99,100,101,102,103,104,105,106,107,108,109,110,111,112,113,114,115,116,117,118,119,120,121,122]⟩:ByteArray) p0 (w64 (p0+1))).bind fun b=>
 some b
 else
 (na (⟨#[48,48,48,49,48,50,48,51,48,52,48,53,48,54,48,55,48,56,48,57,49,48,49,49,49,50,49,51,49,52,49,53,49,54,49,55,49,56,49,57,50,48,50,49,50,50,50,51,50,52,50,53,50,54,50,55,50,56,50,57,51,48,51,49,51,50,51,51,51,52,51,53,51,54,51,55,51,56,51,57,52,48,52,49,52,50,52,51,52,52,52,53,52,54,52,55,52,56,52,57,53,48,53,49,53,50,53,51,53,52,53,53,53,54,53,55,53,56,53,57,54,48,54,49,54,50,54,51,54,52,54,53,54,54,54,55,54,56,54,57,55,48,55,49,55,50,55,51,55,52,55,53,55,54,55,55,55,56,55,57,56,48,56,49,56,50,56,51,56,52,56,53,56,54,56,55,56,56,56,57,57,48,57,49,57,50,57,51,57,52,57,53,57,54,57,55,57,56,57,57]⟩:ByteArray) (w64 (p0 * 2)) (w64 ((w64 (p0 * 2))+2))).bind fun a=>
 some a
theorem tv (e:Own c0 G F) (a:Int) {r:ByteArray} (H:lO a=some r): Calls prog 129 #[I a] c0.w (aO c0 fun c v=>Own c G (F)∧v= .string r):=by
 unfold lO at H;refine en func129 rfl rfl (sr (va (.string (⟨#[]⟩:ByteArray)) (wln (W.seq (sr (va (I a) (va (B (decide (a < 10))) (wln (cn H (fun f H=>?_) (fun f H=>?_))))))))))
 ·refine sr (vv (I a) (va (I (w64 (a+1))) (bn H fun d g H=>vr (.string d) (rx (by kernel_rfl) (ql (k:= .i64) (k':= .i64) u_9 g _)) (va (.string d) (wln (W.ret (thr ?_)))))));obtain rfl:=si H;exact r1 (qq c0 ⟨e,rfl⟩)
 refine W.skip (nrm (sr (va (I a) (va (I (w64 (a * 2))) (va (I a) (va (I (w64 (a * 2))) (va (I (w64 ((w64 (a * 2))+2))) (bn H fun b h H=>vr (.string b) (rx (by kernel_rfl) (ql (k:= .i64) (k':= .i64) u_9 h _)) (va (.string b) (wln (W.ret ?_)))))))))));obtain rfl:=si H;exact r1 (qq c0 ⟨e,rfl⟩)
def fE (p0:Int):Option (Bool):=
 some ((dM .i64 p0 (w64 (p0 - 1)))==0)
theorem oz (b:Own c0 G F) (a:Int) {r:Bool} (H:fE a=some r): Calls prog 162 #[I a] c0.w (aO c0 fun c v=>Own c G (F)∧v=B r):=by
 unfold fE at H;refine en func162 rfl rfl (sr (va (B false) (wln (sr (vv (I a) (va (I (w64 (a - 1))) (va (I (dM .i64 a (w64 (a - 1)))) (vv (B ((dM .i64 a (w64 (a - 1)))==0)) (wln (W.ret ?_))))))))));obtain rfl:=si H;exact r1 (qq c0 ⟨b,rfl⟩)
def iu (p0:Int):Option (Int):=
 if false=true then
 none
 else
 (jo p0).bind fun a=>
 some a
theorem qN (e:Own c0 G F) (hB:Tb6 c0) (a:Int) {r:Int} (H:iu a=some r): Calls prog 163 #[.int .u64 a] c0.w (aO c0 fun c v=>Own c G (F)∧v=I r):=by
 unfold iu at H;refine en func163 rfl rfl (sr (va (I 0) (wln (W.seq (W.cond (t:=false) (by kernel_rfl) (fun b=>?_) (fun b=>?_))))))
 ·cases b
 have H:=ie b H;refine W.skip (nrm (sr (va (.int .u64 a) (bn H fun d h H=>cl (pM e hB a h) ?_))));rintro v8 g i ⟨f,rfl⟩;refine va (I d) (wln (W.ret ?_));obtain rfl:=si H;exact r1 (qq g ⟨f,rfl⟩)
def gk (p0:List Int) (p1:Int) (p2:Int) (p3:Bool) (p4:Bool):Option ((List Int)×ByteArray):=
 (orE (decide (p2 < 2)) (some (p2==10))).bind fun v=>
 (orE v (some (decide (p2 > 36)))).bind fun n=>
 if n=true then
 none
 else
 (if p3=true then
 some ((IntKind.u64.wrap (0 - p1)))
 else
 some (p1)).bind fun g=>
 ((fE p2).bind fun q=>
 if q=true then
 (iu (IntKind.u64.wrap p2)).bind fun r=>
 (cV (σ:=Int×(List Int)×Int) (τ:=(Int×(List Int)×Int)) ((g - (IntKind.u64.wrap p2)).toNat+2) (fun b=>
 if (decide (b.1≥(IntKind.u64.wrap p2)))=true then
 (nb (⟨#[48,49,50,51,52,53,54,55,56,57,97,98,99,100,101,102,103,104,105,106,107,108,109,110,111,112,113,114,115,116,117,118,119,120,121,122]⟩:ByteArray) (dM .u64 b.1 (IntKind.u64.wrap ((IntKind.u64.wrap p2) - 1)))).bind fun s=>
 (xo 65 b.2.1 (w64 (b.2.2 - 1))).bind fun z=>
 (mj b.2.1 (w64 (b.2.2 - 1)) s).bind fun o=>
 (shn (IntKind.u64.wrap r)).bind fun t=>
 some (.inl ((b.1.fdiv (2 ^ (min t 64))),o,(w64 (b.2.2 - 1))))
 else
 some (.inr (b.1,b.2.1,b.2.2))) (g,(List.replicate 65 (0:Int)),65)).bind fun d=>
 (nb (⟨#[48,49,50,51,52,53,54,55,56,57,97,98,99,100,101,102,103,104,105,106,107,108,109,110,111,112,113,114,115,116,117,118,119,120,121,122]⟩:ByteArray) d.1).bind fun u=>
 (xo 65 d.2.1 (w64 (d.2.2 - 1))).bind fun A=>
 (mj d.2.1 (w64 (d.2.2 - 1)) u).bind fun p=>
 some (p,(w64 (d.2.2 - 1)))
 else
 (cV (σ:=Int×(List Int)×Int) (τ:=(Int×(List Int)×Int)) ((g - (IntKind.u64.wrap p2)).toNat+2) (fun a=>
 if (decide (a.1≥(IntKind.u64.wrap p2)))=true then
 (dvg (IntKind.u64.wrap p2)).bind fun D=>
 (nb (⟨#[48,49,50,51,52,53,54,55,56,57,97,98,99,100,101,102,103,104,105,106,107,108,109,110,111,112,113,114,115,116,117,118,119,120,121,122]⟩:ByteArray) (IntKind.u64.wrap (a.1 - (IntKind.u64.wrap ((IntKind.u64.wrap (a.1.tdiv (IntKind.u64.wrap p2))) * (IntKind.u64.wrap p2)))))).bind fun k=>
 (xo 65 a.2.1 (w64 (a.2.2 - 1))).bind fun w=>
 (mj a.2.1 (w64 (a.2.2 - 1)) k).bind fun h=>
 some (.inl ((IntKind.u64.wrap (a.1.tdiv (IntKind.u64.wrap p2))),h,(w64 (a.2.2 - 1))))
 else
 some (.inr (a.1,a.2.1,a.2.2))) (g,(List.replicate 65 (0:Int)),65)).bind fun e=>
 (nb (⟨#[48,49,50,51,52,53,54,55,56,57,97,98,99,100,101,102,103,104,105,106,107,108,109,110,111,112,113,114,115,116,117,118,119,120,121,122]⟩:ByteArray) e.1).bind fun l=>
 (xo 65 e.2.1 (w64 (e.2.2 - 1))).bind fun x=>
 (mj e.2.1 (w64 (e.2.2 - 1)) l).bind fun i=>
 some (i,(w64 (e.2.2 - 1)))).bind fun c=>
 (if p3=true then
 (xo 65 c.1 (w64 (c.2 - 1))).bind fun y=>
 (mj c.1 (w64 (c.2 - 1)) 45).bind fun j=>
 some (j,(w64 (c.2 - 1)))
 else
 some (c.1,c.2)).bind fun f=>
 if p4=true then
 none
 else
 (slc f.1 f.2 f.1.length).bind fun m=>
 some (([]:List Int),(uq m))
theorem pE (O0:Own c0 G F) (hB:Tb6 c0) (p0:List Int) (p1:Int) (f:Int) (N:Bool) (P:Bool) {r:(List Int)×ByteArray} (h2:Sl (RI .u8) c0 v1 p0) (H:gk p0 p1 f N P=some r): Calls prog 132 #[v1,.int .u64 p1,I f,B N,B P] c0.w (aO c0 fun c v=>∃y1 y2,Own c G (es true (RI .u8) y1 5 y2 r.1 :: F)∧v= .tuple #[y1,.string r.2]∧OA (RI .u8) c y1 y2 r.1):=by
 unfold gk at H;refine en func132 rfl rfl (sr (va (Y) (va (.string (⟨#[]⟩:ByteArray)) (wln (W.seq (W.seq (bn H fun t6 h3 H=>bn H fun i2 h4 H=>W.join (Jn c0 fun c l=>Own c G (F)∧l= [(0,v1),(1,.int .u64 p1),(2,I f),(3,B N),(4,B P),(10,Y),(11,.string (⟨#[]⟩:ByteArray)),(28,B i2)]) ?_ ?_)))))))
 ·clear H;refine W.region (va (I f) (va (B (decide (f < 2))) ?_));rcases bo (decide (f < 2)) with h5 | h5
  ·obtain rfl:=orT h5 h3;refine vb h5 (pz (va (B true) ?_));have h6:true=true:=rfl;obtain rfl:=orT h6 h4;exact vb h6 (pz (va (B true) (wln (jn c0 ⟨O0,rfl⟩))))
  have H7:=orF h5 h3;refine vb h5 (wa (I f) (wa (B (f==10)) ?_));obtain rfl:=si H7;refine va (B (f==10)) ?_;rcases bo (f==10) with h8 | h8
  ·obtain rfl:=orT h8 h4;exact vb h8 (pz (va (B true) (wln (jn c0 ⟨O0,rfl⟩))))
  have H9:=orF h8 h4;refine vb h8 (wa (I f) (wa (B (decide (f > 36))) ?_));obtain rfl:=si H9;exact va (B (decide (f > 36))) (wln (jn c0 ⟨O0,rfl⟩))
 rintro e_ w_ ⟨r6,u6,_,rfl,z6,rfl,b4,rfl⟩;refine nrm (cn H (fun n4 H=>?_) (fun n4 H=>?_))
 ·cases H
 refine W.skip (nrm (sr (me (Own.alA (k:= .u8) (T:=231) 65 b4 (by kernel_rfl) (by kernel_rfl)) ?_)));rintro v22 t0 a7 ⟨h0,b1,rfl,g1,k1⟩;refine wln (sr (va (I 65) (wln (bn H fun y3 d0 z3=>W.seqJ (Jn t0 fun c l=>Own c G (es true (RI .u8) (.slice (some ⟨h0,0,none⟩) 65 65) 231 b1 (List.replicate 65 (0:Int)) :: F)∧l= [(0,v1),(1,.int .u64 y3),(2,I f),(3,B N),(4,B P),(10,Y),(11,.string (⟨#[]⟩:ByteArray)),(12,Q h0),(13,I 65)]) ?_ ?_))))
 ·refine sr (va (B N) (wln (cn d0 (fun o4 d0=>?_) (fun o4 d0=>?_))))
  ·refine W.region (va (.int .u64 p1) (vv (.int .u64 (IntKind.u64.wrap (0 - p1))) (wln ?_)));obtain rfl:=si d0;exact jn t0 ⟨g1,rfl⟩
  refine W.skip (nrm ?_);obtain rfl:=si d0;exact jn t0 ⟨g1,rfl⟩
 rintro e_ w_ ⟨i4,v6,_,rfl,b7,rfl,c4,rfl⟩;refine bn z3 fun j d a4=>W.seqJ (Jn i4 fun c l=>∃i0 D,Own c G (es true (RI .u8) (.slice (some ⟨D,0,none⟩) 65 65) 231 i0 j.1 :: F)∧l= [(0,v1),(3,B N),(4,B P),(10,Y),(11,.string (⟨#[]⟩:ByteArray)),(12,Q D),(13,I j.2)]∧OA (RI .u8) c (.slice (some ⟨D,0,none⟩) 65 65) i0 j.1) ?_ ?_
 ·refine sr (va (I f) (bn d fun n6 r4 d=>cl (oz c4 f r4) ?_));rintro v42 u0 c7 ⟨h1,rfl⟩;refine wln (cn d (fun s4 d=>?_) (fun s4 d=>?_))
  ·refine sr (va (I f) (va (.int .u64 (IntKind.u64.wrap f)) (bn d fun S t4 d=>cl (qN h1 hB.m (IntKind.u64.wrap f) t4) ?_)));rintro v50 v0 d7 ⟨d4,rfl⟩;refine vv (.int .u64 (IntKind.u64.wrap S)) (wln (sr (va (I f) (vv (.int .u64 (IntKind.u64.wrap f)) (wln (sr (va (I f) (va (.int .u64 (IntKind.u64.wrap f)) (vv (.int .u64 (IntKind.u64.wrap ((IntKind.u64.wrap f) - 1))) (wln (W.seq (W.block (bn d fun o m1 q=>lp m1 (fun h=>Jn v0 fun c l=>∃j0 E,Own c G (es true (RI .u8) (.slice (some ⟨E,0,none⟩) 65 65) 231 j0 h.2.1 :: F)∧l= [(0,v1),(1,.int .u64 h.1),(3,B N),(4,B P),(10,Y),(11,.string (⟨#[]⟩:ByteArray)),(12,Q E),(13,I h.2.2),(14,.int .u64 (IntKind.u64.wrap S)),(15,.int .u64 (IntKind.u64.wrap f)),(16,.int .u64 (IntKind.u64.wrap ((IntKind.u64.wrap f) - 1)))]∧OA (RI .u8) c (.slice (some ⟨E,0,none⟩) 65 65) j0 h.2.1) (fun t ex e w=>ex= .exit 0∧(Jn v0 fun c l=>∃c1 U,Own c G (es true (RI .u8) (.slice (some ⟨U,0,none⟩) 65 65) 231 c1 t.2.1 :: F)∧l= [(0,v1),(1,.int .u64 t.1),(3,B N),(4,B P),(10,Y),(11,.string (⟨#[]⟩:ByteArray)),(12,Q U),(13,I t.2.2)]∧OA (RI .u8) c (.slice (some ⟨U,0,none⟩) 65 65) c1 t.2.1) e w) ?_ ?_ ?_)))))))))))))
   ·clear q m1;intro h o5 w0 e1 d;revert w0 e1;rintro e_ w_ ⟨j4,w6,_,rfl,e7,rfl,j0,E,i1,rfl,n1⟩;refine W.seq (sr (va (.int .u64 h.1) (va (.int .u64 (IntKind.u64.wrap f)) (va (B (decide (h.1≥(IntKind.u64.wrap f)))) (wln (cn d (fun v4 d=>?_) (fun v4 d=>?_)))))))
    ·refine W.skip (nrm (W.block (sr (va (I h.2.2) (vv (I (w64 (h.2.2 - 1))) (wln (sr (va (I (w64 (h.2.2 - 1))) (va (.int .u64 h.1) (va (.int .u64 (IntKind.u64.wrap ((IntKind.u64.wrap f) - 1))) (va (.int .u64 (dM .u64 h.1 (IntKind.u64.wrap ((IntKind.u64.wrap f) - 1)))) (bn d fun a0 w4 d=>vr (.int .u8 a0) (rx (by kernel_rfl) (iy (k:= .u64) u_9 w4 _)) (bn d fun o6 x4 d=>?_)))))))))))));obtain ⟨y4,z4⟩:=td x4;refine vr (.pointer (some ⟨sb (.slice (some ⟨E,0,none⟩) 65 65),(w64 (h.2.2 - 1)).toNat * 1,none⟩)) (rx (by kernel_rfl) (nx (k:= .i64) xN (by kernel_rfl) (la y4).1 z4 _)) (bn d fun l6 a5 d=>md (Own.stW (R:=(RI .u8)) (T:=5) (us:=[.int .u8 a0]) (x':=a0) (u:= .int .u8 a0) 0 i1 (by kernel_rfl) rfl n1 a5 rfl (by kernel_rfl) ⟨rfl,trivial⟩ rfl rfl) ?_);rintro k4 f7 ⟨m5,e4,b5⟩;refine wln (W.region (va (.int .u64 h.1) (va (.int .u64 (IntKind.u64.wrap S)) (bn d fun f1 c5 d=>vr (.int .u64 (h.1.fdiv (2 ^ (min f1 64)))) (Hn (k':= .u64) (a:=h.1) (b:=(IntKind.u64.wrap S)) c5 (by kernel_rfl) _) (va (.int .u64 (h.1.fdiv (2 ^ (min f1 64)))) (WL.nil (bkn ?_)))))));obtain rfl:=si d;exact ⟨_,rfl,jn k4 ⟨m5,E,e4,rfl,b5⟩⟩
    refine W.exit (thx ?_);obtain rfl:=si d;exact ⟨_,rfl,rfl,jn j4 ⟨j0,E,i1,rfl,n1⟩⟩
   ·exact jn v0 ⟨b1,h0,d4,rfl,k1.m⟩
   rintro _ e_ w_ ⟨rfl,s6,x6,_,rfl,g7,rfl,c1,U,f4,rfl,d5⟩;refine bke (nrm (sr (va (I o.2.2) (vv (I (w64 (o.2.2 - 1))) (wln (W.region (va (I (w64 (o.2.2 - 1))) (va (.int .u64 o.1) (bn q fun b0 e5 q=>vr (.int .u8 b0) (rx (by kernel_rfl) (iy (k:= .u64) u_9 e5 _)) (bn q fun p6 f5 q=>?_))))))))));obtain ⟨g5,i5⟩:=td f5;refine vr (.pointer (some ⟨sb (.slice (some ⟨U,0,none⟩) 65 65),(w64 (o.2.2 - 1)).toNat * 1,none⟩)) (rx (by kernel_rfl) (nx (k:= .i64) xN (by kernel_rfl) (la g5).1 i5 _)) (bn q fun m6 j5 q=>md (Own.stW (R:=(RI .u8)) (T:=5) (us:=[.int .u8 b0]) (x':=b0) (u:= .int .u8 b0) 0 f4 (by kernel_rfl) rfl d5 j5 rfl (by kernel_rfl) ⟨rfl,trivial⟩ rfl rfl) ?_);rintro l4 h7 ⟨n5,g4,k5⟩;refine wln ?_;obtain rfl:=si q;exact jn l4 ⟨n5,U,g4,rfl,k5⟩
  refine sr (va (I f) (vv (.int .u64 (IntKind.u64.wrap f)) (wln (W.seq (W.block (bn d fun p q1 s=>lp q1 (fun g=>Jn u0 fun c l=>∃k0 M,Own c G (es true (RI .u8) (.slice (some ⟨M,0,none⟩) 65 65) 231 k0 g.2.1 :: F)∧l= [(0,v1),(1,.int .u64 g.1),(3,B N),(4,B P),(10,Y),(11,.string (⟨#[]⟩:ByteArray)),(12,Q M),(13,I g.2.2),(17,.int .u64 (IntKind.u64.wrap f))]∧OA (RI .u8) c (.slice (some ⟨M,0,none⟩) 65 65) k0 g.2.1) (fun x ex e w=>ex= .exit 2∧(Jn u0 fun c l=>∃d1 X,Own c G (es true (RI .u8) (.slice (some ⟨X,0,none⟩) 65 65) 231 d1 x.2.1 :: F)∧l= [(0,v1),(1,.int .u64 x.1),(3,B N),(4,B P),(10,Y),(11,.string (⟨#[]⟩:ByteArray)),(12,Q X),(13,I x.2.2)]∧OA (RI .u8) c (.slice (some ⟨X,0,none⟩) 65 65) d1 x.2.1) e w) ?_ ?_ ?_))))))
  ·clear s q1;intro g o5 w0 e1 d;revert w0 e1;rintro e_ w_ ⟨m4,y6,_,rfl,i7,rfl,k0,M,j1,rfl,x0⟩;refine W.seq (sr (va (.int .u64 g.1) (va (.int .u64 (IntKind.u64.wrap f)) (va (B (decide (g.1≥(IntKind.u64.wrap f)))) (wln (cn d (fun j2 d=>?_) (fun j2 d=>?_)))))))
   ·refine W.skip (nrm (W.block (sr (va (I g.2.2) (vv (I (w64 (g.2.2 - 1))) (wln (sr (va (.int .u64 g.1) (va (.int .u64 (IntKind.u64.wrap f)) (bn d fun q6 k2 d=>vr (.int .u64 (IntKind.u64.wrap (g.1.tdiv (IntKind.u64.wrap f)))) (Hp (a:=g.1) (b:=(IntKind.u64.wrap f)) k2 (by kernel_rfl) _) (va (.int .u64 (IntKind.u64.wrap (g.1.tdiv (IntKind.u64.wrap f)))) (wln (sr (va (I (w64 (g.2.2 - 1))) (va (.int .u64 g.1) (va (.int .u64 (IntKind.u64.wrap (g.1.tdiv (IntKind.u64.wrap f)))) (va (.int .u64 (IntKind.u64.wrap f)) (va (.int .u64 (IntKind.u64.wrap ((IntKind.u64.wrap (g.1.tdiv (IntKind.u64.wrap f))) * (IntKind.u64.wrap f)))) (va (.int .u64 (IntKind.u64.wrap (g.1 - (IntKind.u64.wrap ((IntKind.u64.wrap (g.1.tdiv (IntKind.u64.wrap f))) * (IntKind.u64.wrap f)))))) (bn d fun y l2 d=>vr (.int .u8 y) (rx (by kernel_rfl) (iy (k:= .u64) u_9 l2 _)) (bn d fun t5 m2 d=>?_)))))))))))))))))))));obtain ⟨n2,o2⟩:=td m2;refine vr (.pointer (some ⟨sb (.slice (some ⟨M,0,none⟩) 65 65),(w64 (g.2.2 - 1)).toNat * 1,none⟩)) (rx (by kernel_rfl) (nx (k:= .i64) xN (by kernel_rfl) (la n2).1 o2 _)) (bn d fun q5 q2 d=>md (Own.stW (R:=(RI .u8)) (T:=5) (us:=[.int .u8 y]) (x':=y) (u:= .int .u8 y) 0 j1 (by kernel_rfl) rfl x0 q2 rfl (by kernel_rfl) ⟨rfl,trivial⟩ rfl rfl) ?_);rintro e2 d6 ⟨t3,t1,s2⟩;refine wln (W.region (vv (.int .u64 (IntKind.u64.wrap (g.1.tdiv (IntKind.u64.wrap f)))) (WL.nil (bkn ?_))));obtain rfl:=si d;exact ⟨_,rfl,jn e2 ⟨t3,M,t1,rfl,s2⟩⟩
   refine W.exit (thx ?_);obtain rfl:=si d;exact ⟨_,rfl,rfl,jn m4 ⟨k0,M,j1,rfl,x0⟩⟩
  ·exact jn u0 ⟨b1,h0,h1,rfl,k1.m⟩
  rintro _ e_ w_ ⟨rfl,y5,a6,_,rfl,e6,rfl,d1,X,u1,rfl,t2⟩;refine bke (nrm (sr (va (I p.2.2) (vv (I (w64 (p.2.2 - 1))) (wln (W.region (va (I (w64 (p.2.2 - 1))) (va (.int .u64 p.1) (bn s fun z u2 s=>vr (.int .u8 z) (rx (by kernel_rfl) (iy (k:= .u64) u_9 u2 _)) (bn s fun u5 v2 s=>?_))))))))));obtain ⟨w2,x2⟩:=td v2;refine vr (.pointer (some ⟨sb (.slice (some ⟨X,0,none⟩) 65 65),(w64 (p.2.2 - 1)).toNat * 1,none⟩)) (rx (by kernel_rfl) (nx (k:= .i64) xN (by kernel_rfl) (la w2).1 x2 _)) (bn s fun r5 z2 s=>md (Own.stW (R:=(RI .u8)) (T:=5) (us:=[.int .u8 z]) (x':=z) (u:= .int .u8 z) 0 u1 (by kernel_rfl) rfl t2 z2 rfl (by kernel_rfl) ⟨rfl,trivial⟩ rfl rfl) ?_);rintro f2 f6 ⟨u3,w1,a3⟩;refine wln ?_;obtain rfl:=si s;exact jn f2 ⟨u3,X,w1,rfl,a3⟩
 rintro e_ w_ ⟨q0,b6,_,rfl,g6,rfl,i0,D,o0,rfl,y0⟩;refine bn a4 fun A i n=>W.seqJ (Jn q0 fun c l=>∃f0 Z,Own c G (es true (RI .u8) (.slice (some ⟨Z,0,none⟩) 65 65) 231 f0 A.1 :: F)∧l= [(0,v1),(4,B P),(10,Y),(11,.string (⟨#[]⟩:ByteArray)),(12,Q Z),(13,I A.2)]∧OA (RI .u8) c (.slice (some ⟨Z,0,none⟩) 65 65) f0 A.1) ?_ ?_
 ·refine sr (va (B N) (wln (cn i (fun b3 i=>?_) (fun b3 i=>?_))))
  ·refine sr (va (I j.2) (vv (I (w64 (j.2 - 1))) (wln (W.region (va (I (w64 (j.2 - 1))) (bn i fun v5 c3 i=>?_))))));obtain ⟨d3,e3⟩:=td c3;refine vr (.pointer (some ⟨sb (.slice (some ⟨D,0,none⟩) 65 65),(w64 (j.2 - 1)).toNat * 1,none⟩)) (rx (by kernel_rfl) (nx (k:= .i64) xN (by kernel_rfl) (la d3).1 e3 _)) (bn i fun s5 f3 i=>md (Own.stW (R:=(RI .u8)) (T:=5) (us:=[.int .u8 45]) (x':=45) (u:= .int .u8 45) 0 o0 (by kernel_rfl) rfl y0 f3 rfl (by kernel_rfl) ⟨rfl,trivial⟩ rfl rfl) ?_);rintro g2 i6 ⟨v3,x1,g3⟩;refine wln ?_;obtain rfl:=si i;exact jn g2 ⟨v3,D,x1,rfl,g3⟩
  refine W.skip (nrm ?_);obtain rfl:=si i;exact jn q0 ⟨i0,D,o0,rfl,y0⟩
 rintro e_ w_ ⟨z5,c6,_,rfl,j6,rfl,f0,Z,z1,rfl,i3⟩;refine W.seq (sr (va (B P) (wln (cn n (fun j3 n=>?_) (fun j3 n=>?_)))))
 ·cases n
 refine W.skip (nrm (sr (va (I A.2) ?_)));obtain ⟨s0,l3,k6,b2,k3⟩:=z1.frz 0 rfl i3;refine WL.gh l3 (bn n fun l0 m3 n=>?_);obtain ⟨w3,n3,o3⟩:=EX (k:= .i64) xN (by kernel_rfl) k3 m3;refine vr w3 (rx (by kernel_rfl) (n3 _)) (vr (.string (uq l0)) (rx (by kernel_rfl) (zZ mZ u_5 u_9 o3)) (va (.string (uq l0)) (wln (W.ret ?_))));obtain rfl:=si n;have q3:OA (RI .u8) s0 (Y) [] []:=OA.nil (aI _);have c2:=b2.addHole (e:=es true (RI .u8) (Y) 5 [] ([]:List Int)) rfl;have d2:=c2.sD 2 [0];exact r2 (qq s0 ⟨(Y),[],d2,rfl,q3⟩)
def gP (p0:Int) (p1:Int):Option (ByteArray):=
 if (p1==10)=true then
 (bX (decide (0≤p0)) (some (decide (p0 < 100)))).bind fun c=>
 if c=true then
 (lO p0).bind fun a=>
 some a
 else
 none
 else
 (gk ([]:List Int) (IntKind.u64.wrap p0) p1 (decide (p0 < 0)) false).bind fun b=>
 some b.2
theorem pZ (f:Own c0 G F) (hB:Tb6 c0) (a:Int) (d:Int) {r:ByteArray} (H:gP a d=some r):
    Calls prog 96 #[I a,I d] c0.w (aO c0 fun c v=>Own c G (F)∧v= .string r):=by
 unfold gP at H
 refine en func96 rfl rfl (sr (va (.string (⟨#[]⟩:ByteArray)) (wln (W.seq (sr (va (I d) (va (B (d==10)) (wln (cn H (fun x H=>?_) (fun x H=>?_))))))))))
 ·refine W.seq (W.seq (bn H fun n s H=>W.join (Jn c0 fun c l=>Own c G (F)∧l= [(0,I a),(17,B n)]) ?_ ?_))
  ·clear H
   refine W.region (va (I a) (va (B (decide (0≤a))) ?_))
   rcases bo (decide (0≤a)) with e | e
   ·have t:=anT e s
    refine vb e (wa (I a) (wa (B (decide (a < 100))) ?_))
    obtain rfl:=si t
    exact va (B (decide (a < 100))) (wln (jn c0 ⟨f,rfl⟩))
   obtain rfl:=anF e s
   exact vb e (pz (va (B false) (wln (jn c0 ⟨f,rfl⟩))))
  rintro M R ⟨E,N,_,rfl,P,rfl,u,rfl⟩
  refine nrm (cn H (fun o H=>?_) (fun o H=>?_))
  ·refine sr (va (I a) (bn H fun g p H=>cl (tv u a p) ?_))
   rintro v18 k z ⟨h,rfl⟩
   refine va (.string g) (wln (W.ret (thr (thr ?_))))
   obtain rfl:=si H
   exact r1 (qq k ⟨h,rfl⟩)
  cases H
 refine W.skip (nrm (sr (va (I a) (va (.int .u64 (IntKind.u64.wrap a)) (va (I d) (va (I a) (va (B (decide (a < 0))) (bn H fun b q H=>cl (pE f hB ([]:List Int) (IntKind.u64.wrap a) d (decide (a < 0)) false (Sl.nl _ _) q) ?_))))))))
 rintro v28 m A ⟨v20,D,i,rfl,y⟩
 refine va (.tuple #[v20,.string b.2]) (va (v20) (va (.string b.2) (va (v20) (va (.string b.2) (wln (sr (vv (.string b.2) (wln (W.ret ?_)))))))))
 obtain rfl:=si H
 have j:=i.sD 1 []
 exact r1 (qq m ⟨j,rfl⟩)
def fZ (p0:Int) (p1:Int):Option (ByteArray):=
 (gP p0 p1).bind fun a=>
 some a
theorem rn (e:Own c0 G F) (hB:Tb6 c0) (a:Int) (b:Int) {r:ByteArray} (H:fZ a b=some r): Calls prog 85 #[I a,I b] c0.w (aO c0 fun c v=>Own c G (F)∧v= .string r):=by
 unfold fZ at H;refine en func85 rfl rfl (sr (va (.string (⟨#[]⟩:ByteArray)) (wln (sr (va (I a) (va (I b) (bn H fun d h H=>cl (pZ e hB a b h) ?_)))))));rintro v7 g i ⟨f,rfl⟩;refine va (.string d) (wln (W.ret ?_));obtain rfl:=si H;exact r1 (qq g ⟨f,rfl⟩)
def lu (p0:aa):Option (ByteArray):=
 if (p0.Kind==0)=true then
 some (⟨#[46]⟩:ByteArray)
 else
 if (p0.Kind==3)=true then
 some (⟨#[61]⟩:ByteArray)
 else
 (cV (σ:=(List ByteArray)×Int) (τ:=(List ByteArray)) (((p0.Text.length:Int) - 0).toNat+1) (fun a=>
 if (decide (a.2 < (p0.Text.length:Int)))=true then
 (idx p0.Text a.2).bind fun d=>
 (fZ (w64 d) 16).bind fun e=>
 (app a.1 ([e]:List ByteArray)).bind fun f=>
 some (.inl (f,(w64 (a.2+1))))
 else
 some (.inr (a.1))) (([]:List ByteArray),0)).bind fun c=>
 (fJ c (⟨#[43]⟩:ByteArray)).bind fun b=>
 if (p0.Kind==2)=true then
 (rW (⟨#[62]⟩:ByteArray) b).bind fun g=>
 some g
 else
 some b
theorem AZ (O0:Own c0 G F) (hB:Tb6 c0) (hT:Et c0) (d:aa) {r:ByteArray} (q:Sl (RI .i32) c0 v1 d.Text) (H:lu d=some r): Calls prog 49 #[.agg #[I d.Kind,v1]] c0.w (aO c0 fun c v=>Own c G (F)∧v= .string r):=by
 unfold lu at H;refine en func49 rfl rfl (sr ?_);obtain ⟨a3,a4,a5,rfl⟩:=(q).form;refine me (bx 104 [I d.Kind,.slice a3 a4 a5] O0) ?_;rintro v10 j l9 ⟨k,rfl,A,D⟩;refine va (.string (⟨#[]⟩:ByteArray)) (wln (W.seq (sr (va (Q k) (vx (l1 u_3 (D 0 _ rfl)) (wln (W.block (sr (vv (B (d.Kind==0)) (wln (cn H (fun i0 H=>?_) (fun i0 H=>?_))))))))))))
 ·refine sr (va (.string (⟨#[46]⟩:ByteArray)) (wln (W.ret (bkr (thr ?_)))));obtain rfl:=si H;exact r1 (qq j ⟨A,rfl⟩)
 refine sr (vv (B (d.Kind==3)) (wln (cn H (fun j0 H=>?_) (fun j0 H=>?_))))
 ·refine sr (va (.string (⟨#[61]⟩:ByteArray)) (wln (W.ret (bkr (thr ?_)))));obtain rfl:=si H;exact r1 (qq j ⟨A,rfl⟩)
 refine W.skip (bkn (nrm (sr (va (Y) (wln (W.seq (sr (va (Qo k (0+1)) (vx (l1 dS (D 1 _ rfl)) (vx (ln 3 dS q.m) (va (I 0) (wln (W.block (bn H fun E x a=>lp x (fun b=>Jn j fun c l=>∃v15 i,Own c G (es true RS v15 9 i b.1 :: F)∧l= [(1,Q k),(3,v15),(14,.slice a3 a4 a5),(15,I (d.Text.length:Int)),(16,I b.2)]∧OA RS c v15 i b.1) (fun h ex e w=>ex= .exit 1∧(Jn j fun c l=>∃v17 n,Own c G (es true RS v17 9 n h :: F)∧l= [(1,Q k),(3,v17)]∧OA RS c v17 n h) e w) ?_ ?_ ?_))))))))))))))
 ·clear a x;intro b i2 h0 f1 H;revert h0 f1;rintro e_ w_ ⟨f0,u1,_,rfl,c1,rfl,v15,i,s,rfl,y⟩;refine sr (va (B (decide (b.2 < (d.Text.length:Int)))) (wln (W.seq (cn H (fun k0 H=>?_) (fun k0 H=>?_)))))
  ·refine W.skip (nrm (W.seq (W.block (sr (bn H fun f z H=>?_)))));obtain ⟨j1,l0,d1⟩:=Sl.at (q.mono (l9.trans c1)) (bW z);obtain rfl:=l0;refine vx (ix dS q.m z) (vx (l1 rh (d1 0 _ rfl)) (va (J f) (wln (W.region (va (v15) (va (J f) (va (I (w64 f)) (bn H fun o m0 H=>cl (rn s hB.m (w64 f) 16 m0) ?_))))))));rintro v37 n1 x1 ⟨M,rfl⟩;refine me (sl RS 9 [[.string o]] ([o]:List ByteArray) M ⟨rfl,trivial⟩) ?_;rintro v42 p1 y1 ⟨f2,N,o0⟩;obtain ⟨q1,s0,z1,P,q0⟩:=N.frz 0 rfl o0;refine WL.gh s0 (bn H fun m1 t0 H=>me (ap RS (.string ByteArray.empty) 16 83 1 P y.m q0 t0 nq) ?_);rintro v52 g0 b2 ⟨e1,R,u0⟩;refine va (v52) (WL.nil (bkn (nrm (W.region (vv (I (w64 (b.2+1))) (WL.nil ?_))))));obtain rfl:=si H;refine ⟨_,rfl,?_⟩;have S:=R.sD 2 [1];exact jn g0 ⟨v52,e1,S,rfl,u0⟩
  refine W.exit (thx ?_);obtain rfl:=si H;exact ⟨_,rfl,rfl,jn f0 ⟨v15,i,s,rfl,y⟩⟩
 ·have v0:OA RS j (Y) [] []:=OA.nil (aI _);have T:=A.addHole (e:=es true RS (Y) 9 [] ([]:List ByteArray)) rfl;exact jn j ⟨(Y),[],T,rfl,v0⟩
 rintro _ e_ w_ ⟨rfl,s1,w1,_,rfl,c2,rfl,v17,n,U,rfl,w0⟩;refine bke (nrm (sr (va (v17) ?_)));obtain ⟨t1,y0,d2,X,x0⟩:=U.frz 0 rfl w0;refine WL.gh y0 (bn a fun g z0 a=>cl (lW X hT.m E (⟨#[43]⟩:ByteArray) x0 z0) ?_);rintro g2 u e2 ⟨t,rfl⟩;refine va (.string g) (wln (W.seq (sr (va (Q k) (vx (l1 u_3 ((mm D) 0 _ rfl)) (va (B (d.Kind==2)) (wln (cn a (fun a1 a=>?_) (fun a1 a=>?_)))))))))
 ·refine sr (va (.string g) (bn a fun p b1 a=>vr (.string p) (rx (by kernel_rfl) (lB b1 _)) (va (.string p) (wln (W.ret (thr ?_))))));obtain rfl:=si a;have Z:=t.sD 1 [];exact r1 (qq u ⟨Z,rfl⟩)
 refine W.skip (nrm (sr (vv (.string g) (wln (W.ret ?_)))));obtain rfl:=si a;have a0:=t.sD 1 [];exact r1 (qq u ⟨a0,rfl⟩)
def jY (p0:bU):Option (ByteArray):=
 (lH p0).bind fun y=>
 if (!y)=true then
 some (⟨#[]⟩:ByteArray)
 else
 (bu p0.Wide).bind fun h=>
 (bu p0.High).bind fun i=>
 (iX ([(⟨#[115,99,114,101,101,110]⟩:ByteArray),h,i]:List ByteArray)).bind fun j=>
 (Ba ([]:List UInt8) j).bind fun k=>
 (bu p0.At.Row).bind fun d=>
 (bu p0.At.Col).bind fun e=>
 (if p0.At.Pending=true then
 (app ([(⟨#[97,116]⟩:ByteArray),d,e]:List ByteArray) ([(⟨#[112,101,110,100,105,110,103]⟩:ByteArray)]:List ByteArray)).bind fun l=>
 some (l)
 else
 some (([(⟨#[97,116]⟩:ByteArray),d,e]:List ByteArray))).bind fun x=>
 (iX x).bind fun m=>
 (Ba k m).bind fun n=>
 (iW p0.Auto (⟨#[111,110]⟩:ByteArray) (⟨#[111,102,102]⟩:ByteArray)).bind fun o=>
 (iX ([(⟨#[97,117,116,111]⟩:ByteArray),o]:List ByteArray)).bind fun p=>
 (Ba n p).bind fun q=>
 (cV (σ:=Int×(List UInt8)) (τ:=(List UInt8)) (((p0.Lines.length:Int) - 0).toNat+1) (fun a=>
 if (decide (a.1 < (p0.Lines.length:Int)))=true then
 (idx p0.Lines a.1).bind fun c=>
 (iW c.Wrap (⟨#[43]⟩:ByteArray) (⟨#[45]⟩:ByteArray)).bind fun r=>
 (cV (σ:=(List ByteArray)×Int) (τ:=(List ByteArray)) (((c.Cells.length:Int) - 0).toNat+1) (fun b=>
 if (decide (b.2 < (c.Cells.length:Int)))=true then
 (idx c.Cells b.2).bind fun s=>
 (lu s).bind fun t=>
 (app b.1 ([t]:List ByteArray)).bind fun u=>
 some (.inl (u,(w64 (b.2+1))))
 else
 some (.inr (b.1))) (([r]:List ByteArray),0)).bind fun g=>
 (iX g).bind fun v=>
 (Ba a.2 v).bind fun w=>
 some (.inl ((w64 (a.1+1)),w))
 else
 some (.inr (a.2))) (0,q)).bind fun f=>
 some (mkS f)
theorem A0 (O0:Own c0 G F) (hB:Tb6 c0) (hT:Et c0) (b:bU) {r:ByteArray} (h2:Sl cU c0 v1 b.Lines) (H:jY b=some r): Calls prog 28 #[.agg #[I b.Wide,I b.High,v1,I b.At.Row,I b.At.Col,B b.At.Pending,B b.Auto]] c0.w (aO c0 fun c v=>Own c G (F)∧v= .string r):=by
 unfold jY at H;refine en func28 rfl rfl (sr ?_);obtain ⟨a3,a4,a5,rfl⟩:=(h2).form;refine me (bx 74 [I b.Wide,I b.High,.slice a3 a4 a5,I b.At.Row,I b.At.Col,B b.At.Pending,B b.Auto] O0) ?_;rintro v10 c9 l9 ⟨n,rfl,O7,D⟩;refine va (.string (⟨#[]⟩:ByteArray)) (wln (W.seq (sr (vx (lN 74 D) (bn H fun e8 e7 H=>cl (zg O7 b h2.m e7) ?_)))));rintro v17 f l16 ⟨k2,rfl⟩;refine va (B (!e8)) (wln (cn H (fun f7 H=>?_) (fun f7 H=>?_)))
 ·refine sr (va (.string (⟨#[]⟩:ByteArray)) (wln (W.ret (thr ?_))));obtain rfl:=si H;exact r1 (qq f ⟨k2,rfl⟩)
 refine W.skip (nrm (sr (me (JV k2 (by kernel_rfl)) ?_)));rintro v21 c19 l19 ⟨rfl,q6⟩;obtain ⟨c22,g7,e0⟩:=q6.low;refine WL.gh g7 ?_;have l22:=e0.le;have s6:=e0.own;refine wln (W.seq ?_);obtain ⟨u0,h7,r6⟩:=e0.up (Cx.le.refl _) s6;rw [←h7];refine W.regionE [] (Kp G0 []) (by kernel_rfl) ?_;have f0:=r6.drew;generalize (⟨u0.w.drew,u0.A,u0.t⟩:Cx)=c30 at f0⊢;have l30:=f0.le;refine ta 0 (Q n) (tx 1 (fun c' d1=>l1 u_3 ((mm D) 0 _ rfl)) (ta 3 (Qo n (0+1)) (tx 4 (fun c' d1=>l1 u_3 ((mm D) 1 _ rfl)) (bn H fun p1 i7 H=>o1 2 (gc 2 (f0.call fun c35 z B_=>have l35:=B_.le; dt B_.own hT.m b.Wide i7) ?_)))));rintro v33 c31 l31_ ⟨e2,rfl⟩;refine ⟨.inr Kp.nil0,?_⟩;have l31:=e2.le;refine bn H fun q1 j7 H=>o1 5 (gc 5 (e2.call fun c40 z B_=>have l40:=B_.le; dt B_.own hT.m b.High j7) ?_);rintro v38 c36 l36_ ⟨f2,rfl⟩;refine ⟨.inr Kp.nil0,?_⟩;have l36:=f2.le;refine o1 6 (gm 6 (K2 f2 ([(⟨#[115,99,114,101,101,110]⟩:ByteArray),p1,q1]:List ByteArray) (by kernel_rfl) (by kernel_rfl)) ?_);rintro v43 c41 l41_ ⟨g2,k7⟩;refine ⟨.inr Kp.nil0,?_⟩;have l41:=g2.le;refine bn H fun m6 l7 H=>o1 7 (gc 7 (g2.call fun a7 z B_=>have l49:=B_.le; nZ B_.own hT.m ([(⟨#[115,99,114,101,101,110]⟩:ByteArray),p1,q1]:List ByteArray) (k7 a7 z B_.nA) l7) ?_);rintro v47 c45 l45_ ⟨i2,rfl⟩;refine ⟨.inr Kp.nil0,?_⟩;have l45:=i2.le;refine bn H fun x_20 m7 H=>o1 8 (gc 8 (tC i2 m6 m7) ?_);rintro v52 c50 l50_ ⟨j2,rfl⟩;refine ⟨.inr Kp.nil0,?_⟩;have l50:=j2.le;refine dn ?_;obtain ⟨c54,n7,h0⟩:=j2.low;rw [←n7];have l54:=h0.le;have t6:=h0.own;refine nrm (W.seq (rD [] (Kp G0 []) t6 ?_));intro b7 v7 u6;have p60:Kp G0 [] b7:=Kp.nil0;refine ta 0 (.pointer (some ⟨n,0+3,none⟩)) (ta 1 (Qo n (0+3)) (tx 2 (fun c' d1=>l1 u_3 ((mm D) 3 _ rfl)) (ta 4 (Qo n (0+3)) (ta 5 (Qo n (0+4)) (tx 6 (fun c' d1=>l1 u_3 ((mm D) 4 _ rfl)) (bn H fun s1 o7 H=>o1 3 (gc 3 (dt u6 hT.m b.At.Row o7) ?_)))))));rintro v67 c7 w7 ⟨v6,rfl⟩;have z7:Kp G0 [] c7:=Kp.nil0;refine ⟨.inr z7,bn H fun t1 p7 H=>o1 7 (gc 7 (dt v6 hT.m b.At.Col p7) ?_)⟩;rintro v75 d7 x7 ⟨w6,rfl⟩;have a8:Kp G0 [] d7:=Kp.nil0;refine ⟨.inr a8,o1 8 (gm 8 (sl RS 9 [[.string (⟨#[97,116]⟩:ByteArray)],[.string s1],[.string t1]] ([(⟨#[97,116]⟩:ByteArray),s1,t1]:List ByteArray) w6 ⟨rfl,rfl,rfl,trivial⟩) ?_)⟩;rintro m1 v0 y7 ⟨c8,l2,m2⟩;have b8:Kp G0 [] v0:=Kp.nil0;refine ⟨.inr b8,ta 9 (m1) (dn (nrm (bn H fun a0 k a=>W.seqJ (Jn v0 fun c l=>∃E h1,Own c G (es true RS E 9 h1 a0 :: F)∧l= [(1,Q n),(3,.pointer (some ⟨f.w.heap.size,0,none⟩)),(4,E)]∧OA RS c E h1 a0) ?_ ?_)))⟩
 ·refine sr (va (Qo n (0+3)) (va (Qo n (0+5)) (vx (l1 u_4 ((mm D) 5 _ rfl)) (wln (cn k (fun q7 k=>?_) (fun q7 k=>?_))))))
  ·refine W.region (va (m1) (me (sl RS 9 [[.string (⟨#[112,101,110,100,105,110,103]⟩:ByteArray)]] ([(⟨#[112,101,110,100,105,110,103]⟩:ByteArray)]:List ByteArray) l2 ⟨rfl,trivial⟩) ?_));rintro v92 c91 l91 ⟨u89,x6,r7⟩;obtain ⟨c95,t7,l95,y6,s7⟩:=x6.frz 0 rfl r7;refine WL.gh t7 (bn k fun x_39 u7 k=>me (ap RS (.string ByteArray.empty) 16 83 1 y6 m2.m s7 u7 nq) ?_);rintro i1 z3 u9 ⟨d8,z6,h4⟩;refine va (i1) (wln ?_);obtain rfl:=si k;have v2:=z6.sD 2 [1];exact jn z3 ⟨i1,d8,v2,rfl,h4⟩
  refine W.skip (nrm ?_);obtain rfl:=si k;exact jn v0 ⟨m1,c8,l2,rfl,m2⟩
 rintro z w_ ⟨l8,p9,_,rfl,s5,rfl,E,h1,w2,rfl,i4⟩;refine sr (va (E) ?_);obtain ⟨n8,k4,t5,x2,j4⟩:=w2.frz 0 rfl i4;refine WL.gh k4 (bn a fun n6 l4 a=>cl (nZ x2 hT.m a0 j4 l4) ?_);rintro v121 o8 u5 ⟨y2,rfl⟩;refine bn a fun x_44 m4 a=>?_;have z2:=y2.sD 1 [];obtain ⟨p8,n4,n2⟩:=h0.up (v7.trans (w7.trans (x7.trans (y7.trans (s5.trans (t5.trans u5)))))) z2;refine WL.gh n4 (cl (tC n2 n6 m4) ?_);rintro v129 q8 v9 ⟨o2,rfl⟩;obtain ⟨r8,o4,M⟩:=o2.low;refine WL.gh o4 ?_;have w9:=M.le;have b3:=M.own;refine wln (sr (va (Qo n (0+6)) (vx (l1 u_4 ((mm D) 6 _ rfl)) (bn a fun X p4 a=>cl (uO b3 b.Auto (⟨#[111,110]⟩:ByteArray) (⟨#[111,102,102]⟩:ByteArray) p4) ?_))));rintro v140 s8 v5 ⟨c3,rfl⟩;refine me (sl RS 9 [[.string (⟨#[97,117,116,111]⟩:ByteArray)],[.string X]] ([(⟨#[97,117,116,111]⟩:ByteArray),X]:List ByteArray) c3 ⟨rfl,rfl,trivial⟩) ?_;rintro v145 t8 w5 ⟨u142,d3,q4⟩;obtain ⟨u8,s4,x5,e3,r4⟩:=d3.frz 0 rfl q4;refine WL.gh s4 (bn a fun o6 t4 a=>cl (nZ e3 hT.m ([(⟨#[97,117,116,111]⟩:ByteArray),X]:List ByteArray) r4 t4) ?_);rintro v156 v8 y5 ⟨f3,rfl⟩;refine bn a fun x_51 u4 a=>?_;have g3:=f3.sD 1 [];obtain ⟨w8,v4,p2⟩:=M.up (v5.trans (w5.trans (x5.trans y5))) g3;refine WL.gh v4 (cl (tC p2 o6 u4) ?_);rintro v164 x8 x9 ⟨q2,rfl⟩;obtain ⟨b4,w4,N⟩:=q2.low;refine WL.gh w4 ?_;have y9:=N.le;have h3:=N.own;refine wln (W.seq (sr (va (Qo n (0+2)) (vx (l1 qc ((mm D) 2 _ rfl)) (vx (ln 3 qc h2.m) (va (I 0) (wln (W.block (bn a fun i6 x0 i0=>lp x0 (fun d=>Jn f fun c l=>Own c G (F)∧l= [(3,.pointer (some ⟨f.w.heap.size,0,none⟩)),(47,.slice a3 a4 a5),(48,I (b.Lines.length:Int)),(49,I d.1)]∧Br false f c G (F) d.2) (fun c2 ex e w=>ex= .exit 0∧(Jn f fun c l=>Own c G (F)∧l= [(3,.pointer (some ⟨f.w.heap.size,0,none⟩))]∧Br false f c G (F) c2) e w) ?_ ?_ ?_)))))))))
 ·clear i0 x0;intro d f8 w0 n1 a;revert w0 n1;rintro z w_ ⟨c4,q9,_,rfl,z5,rfl,j0,rfl,d0⟩;refine sr (va (B (decide (d.1 < (b.Lines.length:Int)))) (wln (W.seq (cn a (fun x4 a=>?_) (fun x4 a=>?_)))))
  ·refine W.skip (nrm (W.seq (W.block (sr (bn a fun j y0 a=>?_)))));obtain ⟨g8,y4,g6⟩:=Sl.at (h2.mono (l9.trans (l16.trans z5))) (bW y0);obtain ⟨v183,rfl,o⟩:=y4;refine vx (ix qc h2.m y0) (vx (lN 101 g6) (me (al 101 [Y,B false] j0) ?_));rintro v188 y8 T ⟨x,rfl,i3⟩;obtain ⟨q,s,u,rfl⟩:=((o.mono T)).form;refine md (sA 101 [.slice q s u,B j.Wrap] 0 i3 ⟨o.m.one,rfl,trivial⟩) ?_;rintro z8 e1 k0;refine wln (sr (va (Qo x 1) (vx (le1 1 u_4 (k0.on 0 rfl)) (bn a fun u1 z4 a=>cl (uO k0 j.Wrap (⟨#[43]⟩:ByteArray) (⟨#[45]⟩:ByteArray) z4) ?_))));rintro v200 a9 f1 ⟨j3,rfl⟩;refine me (sl RS 9 [[.string u1]] ([u1]:List ByteArray) j3 ⟨rfl,trivial⟩) ?_;rintro j1 R g1 ⟨k6,l0,b5⟩;refine va (j1) (wln (W.seq (sr (va (Q x) (vx (le1 0 dN (l0.on 1 rfl)) (vx (ln 3 dN o.m) (va (I 0) (wln (W.block (bn a fun j6 a1 h=>lp a1 (fun g=>Jn R fun c l=>∃i y,Own c G (es true RS i 9 y g.1 :: (Eb x 101 [.slice q s u,B j.Wrap]) :: F)∧l= [(3,.pointer (some ⟨f.w.heap.size,0,none⟩)),(7,i),(47,.slice a3 a4 a5),(48,I (b.Lines.length:Int)),(49,I d.1),(58,.slice q s u),(59,I (j.Cells.length:Int)),(60,I g.2)]∧OA RS c i y g.1) (fun b0 ex e w=>ex= .exit 2∧(Jn R fun c l=>∃p U,Own c G (es true RS p 9 U b0 :: (Eb x 101 [.slice q s u,B j.Wrap]) :: F)∧l= [(3,.pointer (some ⟨f.w.heap.size,0,none⟩)),(7,p),(47,.slice a3 a4 a5),(48,I (b.Lines.length:Int)),(49,I d.1)]∧OA RS c p U b0) e w) ?_ ?_ ?_))))))))))
   ·clear h a1;intro g f8 w0 n1 a;revert w0 n1;rintro z w_ ⟨d4,r9,_,rfl,a6,rfl,i,y,m0,rfl,b1⟩;refine sr (va (B (decide (g.2 < (j.Cells.length:Int)))) (wln (W.seq (cn a (fun c5 a=>?_) (fun c5 a=>?_)))))
    ·refine W.skip (nrm (W.seq (W.block (sr (bn a fun Z c1 a=>?_)))));obtain ⟨h8,d5,h6⟩:=Sl.at (o.mono (T.trans (e1.trans (f1.trans (g1.trans a6))))) (bW c1);obtain ⟨v224,rfl,S⟩:=d5;refine vx (ix dN o.m c1) (vx (lN 104 h6) (me (al 104 [I 0,Y] m0) ?_));rintro v229 b9 c6 ⟨k8,rfl,k3⟩;obtain ⟨q0,s0,t0,rfl⟩:=((S.mono c6)).form;refine md (sA 104 [I Z.Kind,.slice q0 s0 t0] 0 k3 ⟨rfl,S.m.one,trivial⟩) ?_;rintro d9 z9 o0;refine wln (W.region (va (i) (vx (leN 104 0 [I Z.Kind,.slice q0 s0 t0] (o0.on 0 rfl)) (bn a fun w1 e5 a=>cl (AZ o0 hB.m hT.m Z S.m e5) ?_))));rintro v241 e9 l240 ⟨l3,rfl⟩;refine me (sl RS 9 [[.string w1]] ([w1]:List ByteArray) l3 ⟨rfl,trivial⟩) ?_;rintro v246 f9 l245 ⟨u243,m3,f5⟩;obtain ⟨g9,h5,l249,n3,g5⟩:=m3.frz 0 rfl f5;refine WL.gh h5 (bn a fun x_89 i5 a=>me (ap RS (.string ByteArray.empty) 16 83 2 n3 b1.m g5 i5 nq) ?_);rintro k1 e4 l255 ⟨l6,o3,j5⟩;refine va (k1) (WL.nil (bkn (nrm (W.region (vv (I (w64 (g.2+1))) (WL.nil ?_))))));obtain rfl:=si a;refine ⟨_,rfl,?_⟩;have p3:=o3.sD 4 [2,3];exact jn e4 ⟨k1,l6,p3,rfl,j5⟩
    refine W.exit (thx ?_);obtain rfl:=si a;exact ⟨_,rfl,rfl,jn d4 ⟨i,y,m0,rfl,b1⟩⟩
   ·exact jn R ⟨j1,k6,l0,rfl,b5⟩
   rintro _ z w_ ⟨rfl,h9,s9,_,rfl,d6,rfl,p,U,q3,rfl,k5⟩;refine bke (nrm (W.region (va (p) ?_)));obtain ⟨i9,m5,e6,s3,l5⟩:=q3.frz 0 rfl k5;refine WL.gh m5 (bn h fun p6 n5 h=>cl (nZ s3 hT.m j6 l5 n5) ?_);rintro v275 j9 f6 ⟨t3,rfl⟩;refine bn h fun x_97 o5 h=>?_;have u3:=t3.sD 2 [];obtain ⟨k9,p5,s2⟩:=d0.up (T.trans (e1.trans (f1.trans (g1.trans (d6.trans (e6.trans f6)))))) u3;refine WL.gh p5 (cl (tC s2 p6 o5) ?_);rintro v283 m9 l281 ⟨t2,rfl⟩;obtain ⟨f4,q5,P⟩:=t2.low;refine WL.gh q5 ?_;have l284:=P.le;have v3:=P.own;refine WL.nil (bkn (nrm (W.region (vv (I (w64 (d.1+1))) (WL.nil ?_)))));obtain rfl:=si h;exact ⟨_,rfl,jn f4 ⟨v3,rfl,P⟩⟩
  refine W.exit (thx ?_);obtain rfl:=si a;exact ⟨_,rfl,rfl,jn c4 ⟨j0,rfl,d0⟩⟩
 ·exact jn b4 ⟨h3,rfl,N⟩
 rintro _ z w_ ⟨rfl,n9,t9,_,rfl,l288,rfl,w3,rfl,u2⟩;refine bke (nrm (sr ?_));obtain ⟨o9,r5,g0⟩:=u2.up (Cx.le.refl _) w3;refine WL.gh r5 (cl (Ei g0) ?_);rintro v300 g4 b2 ⟨x3,rfl⟩;have l298:=g0.le.trans b2;refine va (.string (mkS i6)) (wln (W.ret ?_));obtain rfl:=si i0;exact r1 (qq g4 ⟨x3,rfl⟩)
end Go.Proofs.YtceciacilfhmjaaGreatDoor
