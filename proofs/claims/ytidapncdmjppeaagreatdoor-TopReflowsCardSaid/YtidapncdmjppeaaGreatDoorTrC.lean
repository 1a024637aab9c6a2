/- Parts of the proofs of TopReflows: the walk through the code, and plain Lean. No condition. -/
import Derived.Test.YtidapncdmjppeaaGreatDoorTrA
import Derived.Test.YtidapncdmjppeaaGreatDoorProg
import Derived.Test.YtidapncdmjppeaaGreatDoorTrB
import Derived.WalkKit
set_option linter.unusedVariables false
set_option linter.unusedSimpArgs false
namespace Go.Proofs.YtidapncdmjppeaaGreatDoor
open Go Go.Lt
set_option maxRecDepth 10000
set_option linter.unusedVariables false
attribute [local irreducible] W WL AC
open Tryz
variable {c0:Cx} {G:Gm} {F:List En} {sg:Sto} {v1 v2 v3 v4 v5 v6 v7 v8 v9 v10 v11 v12 v13 v14 v15 v16 v17 v18 v19 v20 v21 v22 v23 v24 v25 v26 v27 v28 v29 v30 v31 v32 v33 v34 v35 v36 v37 v38 v39 v40 v41 v42 v43 v44 v45 v46 v47 v48 v49 v50 v51 v52 v53 v54 v55 v56 v57 v58 v59 v60:Value}
def kh:List (Int×Int×Int):=[(0,9,3),(10,10,2),(11,12,3),(13,13,1),(14,31,3),(127,159,3),(173,173,3),(768,879,4),(1155,1161,4),(1425,1469,4),(1471,1471,4),(1473,1474,4),(1476,1477,4),(1479,1479,4),(1536,1541,7),(1552,1562,4),(1564,1564,3),(1611,1631,4),(1648,1648,4),(1750,1756,4),(1757,1757,7),(1759,1764,4),(1767,1768,4),(1770,1773,4),(1807,1807,7),(1809,1809,4),(1840,1866,4),(1958,1968,4),(2027,2035,4),(2070,2073,4),(2075,2083,4),(2192,2193,7),(2259,2273,4),(2274,2274,7),(2275,2306,4),(2307,2307,8),(2362,2362,4),(2363,2363,8),(2364,2364,4),(2366,2368,8),(2369,2376,4),(2377,2380,8),(2381,2381,4),(2382,2383,8),(2385,2391,4),(2402,2403,4),(2433,2433,4),(2434,2435,8),(2492,2492,4),(2494,2494,4),(2495,2496,8),(2497,2500,4),(2503,2504,8),(2507,2508,8),(2509,2509,4),(2519,2519,4),(2530,2531,4),(2561,2562,4),(2563,2563,8),(2620,2620,4),(2622,2624,8),(2625,2626,4),(2631,2632,4),(2635,2637,4),(2691,2691,8),(2748,2748,4),(2750,2752,8),(2753,2757,4),(2761,2761,8),(2765,2765,4),(2818,2819,8),(2876,2876,4),(2878,2879,4),(2880,2880,8),(2881,2884,4),(2887,2888,8),(2893,2893,4),(2902,2903,4),(3073,3075,8),(3132,3132,4),(3134,3136,4),(3137,3140,8),(3142,3144,4),(3146,3149,4),(3276,3277,4),(3330,3331,8),(3390,3390,4),(3391,3392,8),(3393,3396,4),(3398,3400,8),(3405,3405,4),(3406,3406,7),(3633,3633,4),(3635,3635,8),(3636,3642,4),(3655,3662,4),(3761,3761,4),(3763,3763,8),(3764,3772,4),(3864,3865,4),(3902,3903,8),(3953,3966,4),(4155,4156,8),(4957,4959,4),(6158,6158,3),(6832,6862,4),(7616,7679,4),(8203,8203,3),(8204,8204,4),(8205,8205,5),(8206,8207,3),(8232,8238,3),(8288,8303,3),(8400,8432,4),(12330,12335,4),(12441,12442,4),(42607,42610,4),(64286,64286,4),(65024,65039,4),(65056,65071,4),(65279,65279,3),(65520,65531,3),(69821,69821,7),(69837,69837,7),(127462,127487,6),(127995,127999,4),(917504,917535,3),(917536,917631,4),(917632,917759,3),(917760,917999,4),(918000,921599,3)]
def lY:Option (List (Int×Int×Int)):=
 some kh
theorem yX (d:Own c0 G F) {r:List (Int×Int×Int)} (H:lY=some r): Calls prog 238 #[] c0.w (aQ c0 fun c v=>∃a b,Own c G (es true gg a 313 b r :: F)∧v=a∧OA gg c a b r):=by
 unfold lY at H;refine en func238 rfl rfl (sr (va (Y) (wln (sr (va (aE 0 9 3) (va (aE 10 10 2) (va (aE 11 12 3) (va (aE 13 13 1) (va (aE 14 31 3) (va (aE 127 159 3) (va (aE 173 173 3) (va (aE 768 879 4) (va (aE 1155 1161 4) (va (aE 1425 1469 4) (va (aE 1471 1471 4) (va (aE 1473 1474 4) (va (aE 1476 1477 4) (va (aE 1479 1479 4) (va (aE 1536 1541 7) (va (aE 1552 1562 4) (va (aE 1564 1564 3) (va (aE 1611 1631 4) (va (aE 1648 1648 4) (va (aE 1750 1756 4) (va (aE 1757 1757 7) (va (aE 1759 1764 4) (va (aE 1767 1768 4) (va (aE 1770 1773 4) (va (aE 1807 1807 7) (va (aE 1809 1809 4) (va (aE 1840 1866 4) (va (aE 1958 1968 4) (va (aE 2027 2035 4) (va (aE 2070 2073 4) (va (aE 2075 2083 4) (va (aE 2192 2193 7) (va (aE 2259 2273 4) (va (aE 2274 2274 7) (va (aE 2275 2306 4) (va (aE 2307 2307 8) (va (aE 2362 2362 4) (va (aE 2363 2363 8) (va (aE 2364 2364 4) (va (aE 2366 2368 8) (va (aE 2369 2376 4) (va (aE 2377 2380 8) (va (aE 2381 2381 4) (va (aE 2382 2383 8) (va (aE 2385 2391 4) (va (aE 2402 2403 4) (va (aE 2433 2433 4) (va (aE 2434 2435 8) (va (aE 2492 2492 4) (va (aE 2494 2494 4) (va (aE 2495 2496 8) (va (aE 2497 2500 4) (va (aE 2503 2504 8) (va (aE 2507 2508 8) (va (aE 2509 2509 4) (va (aE 2519 2519 4) (va (aE 2530 2531 4) (va (aE 2561 2562 4) (va (aE 2563 2563 8) (va (aE 2620 2620 4) (va (aE 2622 2624 8) (va (aE 2625 2626 4) (va (aE 2631 2632 4) (va (aE 2635 2637 4) (va (aE 2691 2691 8) (va (aE 2748 2748 4) (va (aE 2750 2752 8) (va (aE 2753 2757 4) (va (aE 2761 2761 8) (va (aE 2765 2765 4) (va (aE 2818 2819 8) (va (aE 2876 2876 4) (va (aE 2878 2879 4) (va (aE 2880 2880 8) (va (aE 2881 2884 4) (va (aE 2887 2888 8) (va (aE 2893 2893 4) (va (aE 2902 2903 4) (va (aE 3073 3075 8) (va (aE 3132 3132 4) (va (aE 3134 3136 4) (va (aE 3137 3140 8) (va (aE 3142 3144 4) (va (aE 3146 3149 4) (va (aE 3276 3277 4) (va (aE 3330 3331 8) (va (aE 3390 3390 4) (va (aE 3391 3392 8) (va (aE 3393 3396 4) (va (aE 3398 3400 8) (va (aE 3405 3405 4) (va (aE 3406 3406 7) (va (aE 3633 3633 4) (va (aE 3635 3635 8) (va (aE 3636 3642 4) (va (aE 3655 3662 4) (va (aE 3761 3761 4) (va (aE 3763 3763 8) (va (aE 3764 3772 4) (va (aE 3864 3865 4) (va (aE 3902 3903 8) (va (aE 3953 3966 4) (va (aE 4155 4156 8) (va (aE 4957 4959 4) (va (aE 6158 6158 3) (va (aE 6832 6862 4) (va (aE 7616 7679 4) (va (aE 8203 8203 3) (va (aE 8204 8204 4) (va (aE 8205 8205 5) (va (aE 8206 8207 3) (va (aE 8232 8238 3) (va (aE 8288 8303 3) (va (aE 8400 8432 4) (va (aE 12330 12335 4) (va (aE 12441 12442 4) (va (aE 42607 42610 4) (va (aE 64286 64286 4) (va (aE 65024 65039 4) (va (aE 65056 65071 4) (va (aE 65279 65279 3) (va (aE 65520 65531 3) (va (aE 69821 69821 7) (va (aE 69837 69837 7) (va (aE 127462 127487 6) (va (aE 127995 127999 4) (va (aE 917504 917535 3) (va (aE 917536 917631 4) (va (aE 917632 917759 3) (va (aE 917760 917999 4) (va (aE 918000 921599 3) (me (Own.sl (R:=gg) (E:=313) (ls:=kh.map (fun x=>[I x.1,I x.2.1,I x.2.2])) (vs:=(kh.map (fun x=>[I x.1,I x.2.1,I x.2.2])).flatten) (xs:=kh) true d (aK _) rfl (qB.map _ (fun _=>rfl) _) (by kernel_rfl) (by kernel_rfl)) ?_))))))))))))))))))))))))))))))))))))))))))))))))))))))))))))))))))))))))))))))))))))))))))))))))))))))))))))))))))))))))))))))))))))))));rintro v5 f i ⟨h,e,g⟩;refine va (v5) (wln (W.ret ?_));obtain rfl:=si H;exact r1 (qq f ⟨v5,h,e,rfl,g⟩)
def mO (p0:Int) (q0_0:List (Int×Int×Int)) (q1_0:Int):Option (Bool):=
 (idx q0_0 p0).bind fun a=>
 some (decide (a.2.1≥(w64 q1_0)))
theorem zW {d:Nat} {e:Nat} (o:Own c0 G F) (b:Int) (q0_0:List (Int×Int×Int)) (q1_0:Int) {r:Bool} (s:∀j u,([v2]:List Value)[j]? = some u→Im c0 d (0+j) u) (k:Sl gg c0 v2 q0_0) (t:∀j u,([J q1_0]:List Value)[j]? = some u→Im c0 e (0+j) u) (H:mO b q0_0 q1_0=some r): Calls prog 240 #[I b,Q d,Q e] c0.w (aQ c0 fun c v=>Own c G (F)∧v=B r):=by
 unfold mO at H;refine en func240 rfl rfl (sr (va (B false) (wln (W.seq (rD [] (Kp G0 []) o ?_)))));intro h q p;have y:Kp G0 [] h:=Kp.nil0;refine tx 0 (fun g a=>l1 go ((mm s) 0 _ rfl)) (ta 1 (I b) (bn H fun f l H=>?_));obtain ⟨x,i,n⟩:=Sl.at (k.mono q) (bi l);obtain rfl:=i;refine tx 2 (fun g a=>ix go k.m l) (ta 3 (Qo (sb v2) (so v2+b.toNat * 3+1)) (tx 4 (fun g a=>l1 u_3 ((mm n) 1 _ rfl)) (tx 5 (fun g a=>l1 oU ((mm t) 0 _ rfl)) (ta 6 (I (w64 q1_0)) (ta 7 (B (decide (f.2.1≥(w64 q1_0)))) (ta 8 (B (decide (f.2.1≥(w64 q1_0)))) (dn (nrm (W.ret ?_)))))))));obtain rfl:=si H;exact r1 (qq h ⟨p,rfl⟩)
def fH (p0:Int) (p1:Int) (p2:Int):Option (Bool):=
 (bL (decide (p0≥p1)) (some (decide (p0≤p2)))).bind fun a=>
 some a
theorem jE (f:Own c0 G F) (a:Int) (e:Int) (b:Int) {r:Bool} (H:fH a e b=some r): Calls prog 266 #[J a,J e,J b] c0.w (aQ c0 fun c v=>Own c G (F)∧v=B r):=by
 unfold fH at H;refine en func266 rfl rfl (sr (va (B false) (wln (W.seq (bn H fun g h H=>W.join (Jn c0 fun c l=>Own c G (F)∧l= [(6,B g)]) ?_ ?_)))))
 ·clear H;refine W.region (va (J a) (va (J e) (va (B (decide (a≥e))) ?_)));rcases bo (decide (a≥e)) with d | d
  ·have i:=anT d h;refine vb d (wa (J a) (wa (J b) (wa (B (decide (a≤b))) ?_)));obtain rfl:=si i;exact vv (B (decide (a≤b))) (wln (jn c0 ⟨f,rfl⟩))
  obtain rfl:=anF d h;exact vb d (pz (ps (vv (B false) (wln (jn c0 ⟨f,rfl⟩)))))
 rintro m p ⟨k,n,_,rfl,o,rfl,j,rfl⟩;refine nrm (W.ret ?_);obtain rfl:=si H;exact r1 (qq k ⟨j,rfl⟩)
def jo (p0:Int):Option (Bool):=
 (fH p0 44032 55203).bind fun a=>
 some a
theorem rZ (d:Own c0 G F) (a:Int) {r:Bool} (H:jo a=some r): Calls prog 267 #[J a] c0.w (aQ c0 fun c v=>Own c G (F)∧v=B r):=by
 unfold jo at H;refine en func267 rfl rfl (sr (va (B false) (wln (sr (va (J a) (bn H fun b g H=>cl (jE d a 44032 55203 g) ?_))))));rintro v7 f h ⟨e,rfl⟩;refine va (B b) (wln (W.ret ?_));obtain rfl:=si H;exact r1 (qq f ⟨e,rfl⟩)
def jz (p0:Int):Option (Int):=
 (fH p0 4352 4447).bind fun i=>
 (orE i ((fH p0 43360 43388).bind fun j=>
 some j)).bind fun h=>
 if h=true then
 some 9
 else
 (fH p0 4448 4519).bind fun c=>
 (orE c ((fH p0 55216 55238).bind fun d=>
 some d)).bind fun a=>
 if a=true then
 some 10
 else
 (fH p0 4520 4607).bind fun e=>
 (orE e ((fH p0 55243 55291).bind fun f=>
 some f)).bind fun b=>
 if b=true then
 some 11
 else
 (jo p0).bind fun g=>
 if (!g)=true then
 some 0
 else
 if (((w32 (p0 - 44032)).tmod 28)==0)=true then
 some 12
 else
 some 13
theorem vq (O0:Own c0 G F) (a:Int) {r:Int} (H:jz a=some r): Calls prog 241 #[J a] c0.w (aQ c0 fun c v=>Own c G (F)∧v=I r):=by
 unfold jz at H;refine en func241 rfl rfl (sr (va (I 0) (wln (W.seq (W.block (W.seq (bn H fun w0 h1 H=>bn H fun e0 h2 H=>W.join (Jn c0 fun c l=>Own c G (F)∧l= [(0,J a),(3,B e0)]) ?_ ?_)))))))
 ·clear H;refine W.region (va (J a) (cl (jE O0 a 4352 4447 h1) ?_));rintro v8 c7 l7 ⟨S,rfl⟩;rcases bo (w0) with j | j
  ·obtain rfl:=orT j h2;exact vb j (pz (vv (B true) (wln (jn c7 ⟨S,rfl⟩))))
  have e:=orF j h2;refine vb j (wa (J a) (wn (bn e fun A g0 e=>cl (jE S a 43360 43388 g0) ?_)));rintro v17 U l16 ⟨P,rfl⟩;obtain rfl:=si e;exact vv (B A) (wln (jn U ⟨P,rfl⟩))
 rintro e_ w_ ⟨u,a1,_,rfl,d1,rfl,o,rfl⟩;refine nrm (cn H (fun i0 H=>?_) (fun i0 H=>?_))
 ·refine sr (va (I 9) (wln (W.ret (bkr (thr ?_)))));obtain rfl:=si H;exact r1 (qq u ⟨o,rfl⟩)
 refine W.seq (bn H fun M j0 H=>bn H fun D y H=>W.join (Jn u fun c l=>Own c G (F)∧l= [(0,J a),(10,B D)]) ?_ ?_)
 ·clear H;refine W.region (va (J a) (cl (jE o a 4448 4519 j0) ?_));rintro v32 X e1 ⟨p,rfl⟩;rcases bo (M) with b | b
  ·obtain rfl:=orT b y;exact vb b (pz (vv (B true) (wln (jn X ⟨p,rfl⟩))))
  have f:=orF b y;refine vb b (wa (J a) (wn (bn f fun k k0 f=>cl (jE p a 55216 55238 k0) ?_)));rintro v41 Z f1 ⟨R,rfl⟩;obtain rfl:=si f;exact vv (B k) (wln (jn Z ⟨R,rfl⟩))
 rintro e_ w_ ⟨x,b1,_,rfl,g1,rfl,q,rfl⟩;refine nrm (cn H (fun l0 H=>?_) (fun l0 H=>?_))
 ·refine sr (va (I 10) (wln (W.ret (bkr (thr ?_)))));obtain rfl:=si H;exact r1 (qq x ⟨q,rfl⟩)
 refine W.seq (bn H fun N m0 H=>bn H fun E z H=>W.join (Jn x fun c l=>Own c G (F)∧l= [(0,J a),(17,B E)]) ?_ ?_)
 ·clear H;refine W.region (va (J a) (cl (jE q a 4520 4607 m0) ?_));rintro v56 a0 i1 ⟨s,rfl⟩;rcases bo (N) with d | d
  ·obtain rfl:=orT d z;exact vb d (pz (vv (B true) (wln (jn a0 ⟨s,rfl⟩))))
  have g:=orF d z;refine vb d (wa (J a) (wn (bn g fun m o0 g=>cl (jE s a 55243 55291 o0) ?_)));rintro n1 b0 j1 ⟨T,rfl⟩;obtain rfl:=si g;exact vv (B m) (wln (jn b0 ⟨T,rfl⟩))
 rintro e_ w_ ⟨d0,c1,_,rfl,k1,rfl,t,rfl⟩;refine nrm (cn H (fun q0 H=>?_) (fun q0 H=>?_))
 ·refine sr (va (I 11) (wln (W.ret (bkr (thr ?_)))));obtain rfl:=si H;exact r1 (qq d0 ⟨t,rfl⟩)
 refine sr (va (J a) (bn H fun n s0 H=>cl (rZ t a s0) ?_));rintro p1 i m1 ⟨h,rfl⟩;refine vv (B (!n)) (wln (cn H (fun t0 H=>?_) (fun t0 H=>?_)))
 ·refine sr (va (I 0) (wln (W.ret (bkr (thr ?_)))));obtain rfl:=si H;exact r1 (qq i ⟨h,rfl⟩)
 refine sr (va (J a) (va (J (w32 (a - 44032))) (va (J ((w32 (a - 44032)).tmod 28)) (vv (B (((w32 (a - 44032)).tmod 28)==0)) (wln (cn H (fun u0 H=>?_) (fun u0 H=>?_)))))))
 ·refine sr (va (I 12) (wln (W.ret (bkr (thr ?_)))));obtain rfl:=si H;exact r1 (qq i ⟨h,rfl⟩)
 refine W.skip (bkn (nrm (sr (va (I 13) (wln (W.ret ?_))))));obtain rfl:=si H;exact r1 (qq i ⟨h,rfl⟩)
def fh (p0:Int) (p1_0_0:List (Int×Int×Int)) (p1_1_0:Int):Option (Int):=
 (cO (σ:=Int×Int) (τ:=Int) ((p0 - 0).toNat+1) (fun a=>
 if (decide (a.1 < a.2))=true then
 (mO (w64 ((IntKind.u64.wrap (w64 (a.1+a.2))).fdiv (2 ^ 1))) p1_0_0 p1_1_0).bind fun b=>
 if (!b)=true then
 some (.inl ((w64 ((w64 ((IntKind.u64.wrap (w64 (a.1+a.2))).fdiv (2 ^ 1)))+1)),a.2))
 else
 some (.inl (a.1,(w64 ((IntKind.u64.wrap (w64 (a.1+a.2))).fdiv (2 ^ 1)))))
 else
 some (.inr (a.1))) (0,p0)).bind fun c=>
 some c
theorem og {b1_0:Nat} {b1_1:Nat} (A:Own c0 G F) (b:Int) (p1_0_0:List (Int×Int×Int)) (p1_1_0:Int) {r:Int} (N:∀j u,([v2]:List Value)[j]? = some u→Im c0 b1_0 (0+j) u) (M:Sl gg c0 v2 p1_0_0) (P:∀j u,([J p1_1_0]:List Value)[j]? = some u→Im c0 b1_1 (0+j) u) (H:fh b p1_0_0 p1_1_0=some r): Calls prog 239 #[I b,.func (.func 240) #[] #[Q b1_0,Q b1_1]] c0.w (aQ c0 fun c v=>Own c G (F)∧v=I r):=by
 unfold fh at H;refine en func239 rfl rfl (sr (va (I 0) (wln (sr (va (I b) (va (I 0) (va (I b) (wln (W.seq (W.block (bn H fun g y k=>lp y (fun a=>Jn c0 fun c l=>Own c G (F)∧l= [(1,.func (.func 240) #[] #[Q b1_0,Q b1_1]),(5,I a.1),(6,I a.2)]) (fun h ex e w=>ex= .exit 0∧(Jn c0 fun c l=>Own c G (F)∧l= [(5,I h)]) e w) ?_ ?_ ?_)))))))))))
 ·clear k y;intro a X q z H;revert q z;rintro E R ⟨D,Z,_,rfl,l7,rfl,o,rfl⟩;refine W.seq (sr (va (I a.1) (va (I a.2) (va (B (decide (a.1 < a.2))) (wln (cn H (fun s H=>?_) (fun s H=>?_)))))))
  ·refine W.skip (nrm (W.block (sr (va (I a.1) (va (I a.2) (va (I (w64 (a.1+a.2))) (va (.int .u64 (IntKind.u64.wrap (w64 (a.1+a.2)))) (va (.int .u64 ((IntKind.u64.wrap (w64 (a.1+a.2))).fdiv (2 ^ 1))) (vv (I (w64 ((IntKind.u64.wrap (w64 (a.1+a.2))).fdiv (2 ^ 1)))) (wln (sr (va (.func (.func 240) #[] #[Q b1_0,Q b1_1]) (va (I (w64 ((IntKind.u64.wrap (w64 (a.1+a.2))).fdiv (2 ^ 1)))) (bn H fun i t H=>cl (zW o (w64 ((IntKind.u64.wrap (w64 (a.1+a.2))).fdiv (2 ^ 1))) p1_0_0 p1_1_0 (mm N) M.m (mm P) t) ?_))))))))))))));rintro v20 f T ⟨d,rfl⟩;refine va (B (!i)) (wln (cn H (fun x H=>?_) (fun x H=>?_)))
   ·refine W.region (va (I (w64 ((IntKind.u64.wrap (w64 (a.1+a.2))).fdiv (2 ^ 1)))) (vv (I (w64 ((w64 ((IntKind.u64.wrap (w64 (a.1+a.2))).fdiv (2 ^ 1)))+1))) (WL.nil (bkn ?_))));obtain rfl:=si H;exact ⟨_,rfl,jn f ⟨d,rfl⟩⟩
   refine W.region (vv (I (w64 ((IntKind.u64.wrap (w64 (a.1+a.2))).fdiv (2 ^ 1)))) (WL.nil (bkn ?_)));obtain rfl:=si H;exact ⟨_,rfl,jn f ⟨d,rfl⟩⟩
  refine W.exit (thx ?_);obtain rfl:=si H;exact ⟨_,rfl,rfl,jn D ⟨o,rfl⟩⟩
 ·exact jn c0 ⟨A,rfl⟩
 rintro _ E R ⟨rfl,p,S,_,rfl,U,rfl,n,rfl⟩;refine bke (nrm (sr (vv (I g) (wln (W.ret ?_)))));obtain rfl:=si k;exact r1 (qq p ⟨n,rfl⟩)
def pH (p0:Int):Option (Int):=
 (lY).bind fun a=>
 (fh (a.length:Int) a p0).bind fun b=>
 (bL (decide (b < (a.length:Int))) ((idx a b).bind fun d=>
 some (decide (d.1≤(w64 p0))))).bind fun c=>
 if c=true then
 (idx a b).bind fun e=>
 some e.2.2
 else
 (jz p0).bind fun f=>
 some f
theorem Dq (O0:Own c0 G F) (i:Int) {r:Int} (H:pH i=some r): Calls prog 209 #[J i] c0.w (aQ c0 fun c v=>Own c G (F)∧v=I r):=by
 unfold pH at H;refine en func209 rfl rfl (sr (me (bx 21 [J i] O0) ?_));rintro v5 c4 l4 ⟨b1,rfl,O2,R⟩;refine va (I 0) (wln (sr (bn H fun j h6 H=>cl (yX O2 h6) ?_)));rintro v7 h1 p1 ⟨_,u8,U,rfl,s⟩;refine me (al 310 [Y] U) ?_;rintro v19 i1 E ⟨y,rfl,X⟩;obtain ⟨b,d,e,rfl⟩:=((s.mono E)).form;refine md (sC 310 0 (.slice b d e) [.slice b d e] 0 X ⟨s.m.one,trivial⟩) ?_;rintro j1 v0 t;refine wln (sr (vx (le1 0 go (t.on 0 rfl)) (vx (lnO 3 go s.m) ?_)));obtain ⟨k1,l0,q1,Z,g⟩:=t.frz 1 rfl (s.mono (E.trans v0));refine WL.gh l0 ?_;obtain ⟨m1,m0,M,a0,n⟩:=Own.frzB 0 Z rfl;refine WL.gh m0 ?_;have b0:=a0.sD 2 [1];refine va (.func (.func 240) #[] #[Q y,Q b1]) (bn H fun a o0 H=>cl (og b0 (j.length:Int) j i n g.m (mm R) o0) ?_);rintro v40 i0 N ⟨d0,rfl⟩;refine va (I a) (wln (W.seq (W.seq (bn H fun P z H=>W.join (Jn i0 fun c l=>Own c G (es false gg (.slice b d e) 313 u8 j :: F)∧l= [(1,Q b1),(3,Q y),(4,I a),(23,B P)]) ?_ ?_))))
 ·clear H;refine rD [] (Kp G0 []) d0 ?_;intro p w0 u;have t1:Kp G0 [] p:=Kp.nil0;refine ta 0 (I a) (tx 1 (fun k f=>l1 go ((mm n) 0 _ rfl)) (tx 2 (fun k f=>ln 3 go g.m) (ta 3 (B (decide (a < (j.length:Int)))) ?_)));rcases bo (decide (a < (j.length:Int))) with h | h
  ·have o:=anT h z;refine bn o fun q A o=>AC.takeb 4 h rfl (by kernel_rfl) (by kernel_rfl) (fun k f=>(by kernel_rfl)) (tx 5 (fun k f=>l1 go ((mm n) 0 _ rfl)) (ta 6 (I a) ?_));obtain ⟨e1,q0,y0⟩:=Sl.at (g.mono (M.trans (N.trans w0))) (bi A);obtain rfl:=q0;refine tx 7 (fun k f=>ix go g.m A) (ta 8 (Qo (sb (.slice b d e)) (so (.slice b d e)+a.toNat * 3)) (tx 9 (fun k f=>l1 u_3 ((mm y0) 0 _ rfl)) (tx 10 (fun k f=>l1 oU ((mm R) 0 _ rfl)) (ta 11 (I (w64 i)) (ta 12 (B (decide (q.1≤(w64 i)))) ?_)))));obtain rfl:=si o;exact ta 13 (B (decide (q.1≤(w64 i)))) (dn (nrm (jn p ⟨u,rfl⟩)))
  obtain rfl:=anF h z;exact AC.takeb 4 h rfl (by kernel_rfl) (by kernel_rfl) (fun k f=>(by kernel_rfl)) (tp 5 (tp 6 (tp 7 (tp 8 (tp 9 (tp 10 (tp 11 (tp 12 (ta 13 (B false) (dn (nrm (jn p ⟨u,rfl⟩))))))))))))
 rintro e_ w_ ⟨j0,n1,_,rfl,x0,rfl,x,rfl⟩;refine nrm (cn H (fun s0 H=>?_) (fun s0 H=>?_))
 ·refine sr (vx (l1 go ((mm n) 0 _ rfl)) (va (I a) (bn H fun S D H=>?_)));obtain ⟨f1,t0,z0⟩:=Sl.at (g.mono (M.trans (N.trans x0))) (bi D);obtain rfl:=t0;refine vx (ix go g.m D) (va (Qo (sb (.slice b d e)) (so (.slice b d e)+a.toNat * 3+2)) (vx (l1 u_3 (z0 2 _ rfl)) (va (I S.2.2) (wln (W.ret (thr ?_))))));obtain rfl:=si H;have e0:=x.sD 1 [];exact r1 (qq j0 ⟨e0,rfl⟩)
 refine W.skip (nrm (sr (vx (l1 oU ((mm R) 0 _ rfl)) (bn H fun T u0 H=>cl (vq x i u0) ?_))));rintro u1 k0 s1 ⟨f0,rfl⟩;refine va (I T) (wln (W.ret ?_));obtain rfl:=si H;have g0:=f0.sD 1 [];exact r1 (qq k0 ⟨g0,rfl⟩)
def lX (p0:Int) (q0_0:List (Int×Int)) (q1_0:Int):Option (Bool):=
 (idx q0_0 p0).bind fun a=>
 some (decide (a.2≥q1_0))
theorem yW {d:Nat} {e:Nat} (o:Own c0 G F) (b:Int) (q0_0:List (Int×Int)) (q1_0:Int) {r:Bool} (s:∀j u,([v2]:List Value)[j]? = some u→Im c0 d (0+j) u) (k:Sl qn c0 v2 q0_0) (t:∀j u,([J q1_0]:List Value)[j]? = some u→Im c0 e (0+j) u) (H:lX b q0_0 q1_0=some r): Calls prog 243 #[I b,Q d,Q e] c0.w (aQ c0 fun c v=>Own c G (F)∧v=B r):=by
 unfold lX at H;refine en func243 rfl rfl (sr (va (B false) (wln (W.seq (rD [] (Kp G0 []) o ?_)))));intro h q p;have y:Kp G0 [] h:=Kp.nil0;refine tx 0 (fun g a=>l1 tC ((mm s) 0 _ rfl)) (ta 1 (I b) (bn H fun f l H=>?_));obtain ⟨x,i,n⟩:=Sl.at (k.mono q) (bi l);obtain rfl:=i;refine tx 2 (fun g a=>ix tC k.m l) (ta 3 (Qo (sb v2) (so v2+b.toNat * 2+1)) (tx 4 (fun g a=>l1 oU ((mm n) 1 _ rfl)) (tx 5 (fun g a=>l1 oU ((mm t) 0 _ rfl)) (ta 6 (B (decide (f.2≥q1_0))) (ta 7 (B (decide (f.2≥q1_0))) (dn (nrm (W.ret ?_))))))));obtain rfl:=si H;exact r1 (qq h ⟨p,rfl⟩)
def kg:List (Int×Int):=[(169,169),(174,174),(8252,8252),(8265,8265),(8482,8482),(8505,8505),(8596,8601),(8617,8618),(8986,8987),(9000,9000),(9096,9096),(9167,9167),(9193,9203),(9208,9210),(9410,9410),(9642,9643),(9654,9654),(9664,9664),(9723,9726),(9728,9733),(9735,9746),(9748,9861),(9872,9989),(9992,10002),(10004,10004),(10006,10006),(10013,10013),(10017,10017),(10024,10024),(10035,10036),(10052,10052),(10055,10055),(10060,10060),(10062,10062),(10067,10069),(10071,10071),(10083,10087),(10133,10135),(10145,10145),(10160,10160),(10175,10175),(10548,10549),(11013,11015),(11035,11036),(11088,11088),(11093,11093),(12336,12336),(12349,12349),(12951,12951),(12953,12953),(126976,127231),(127245,127247),(127279,127279),(127340,127345),(127358,127359),(127374,127374),(127377,127386),(127405,127461),(127489,127503),(127514,127514),(127535,127535),(127538,127546),(127548,127551),(127561,127994),(128000,128317),(128326,128591),(128640,128767),(128884,128895),(128981,129023),(129036,129039),(129096,129103),(129114,129119),(129160,129167),(129198,129279),(129292,129338),(129340,129349),(129351,129791),(130048,131069)]
def kO:Option (List (Int×Int)):=
 some kg
theorem xp (d:Own c0 G F) {r:List (Int×Int)} (H:kO=some r): Calls prog 242 #[] c0.w (aQ c0 fun c v=>∃a b,Own c G (es true qn a 316 b r :: F)∧v=a∧OA qn c a b r):=by
 unfold kO at H;refine en func242 rfl rfl (sr (va (Y) (wln (sr (va (JII 169 169) (va (JII 174 174) (va (JII 8252 8252) (va (JII 8265 8265) (va (JII 8482 8482) (va (JII 8505 8505) (va (JII 8596 8601) (va (JII 8617 8618) (va (JII 8986 8987) (va (JII 9000 9000) (va (JII 9096 9096) (va (JII 9167 9167) (va (JII 9193 9203) (va (JII 9208 9210) (va (JII 9410 9410) (va (JII 9642 9643) (va (JII 9654 9654) (va (JII 9664 9664) (va (JII 9723 9726) (va (JII 9728 9733) (va (JII 9735 9746) (va (JII 9748 9861) (va (JII 9872 9989) (va (JII 9992 10002) (va (JII 10004 10004) (va (JII 10006 10006) (va (JII 10013 10013) (va (JII 10017 10017) (va (JII 10024 10024) (va (JII 10035 10036) (va (JII 10052 10052) (va (JII 10055 10055) (va (JII 10060 10060) (va (JII 10062 10062) (va (JII 10067 10069) (va (JII 10071 10071) (va (JII 10083 10087) (va (JII 10133 10135) (va (JII 10145 10145) (va (JII 10160 10160) (va (JII 10175 10175) (va (JII 10548 10549) (va (JII 11013 11015) (va (JII 11035 11036) (va (JII 11088 11088) (va (JII 11093 11093) (va (JII 12336 12336) (va (JII 12349 12349) (va (JII 12951 12951) (va (JII 12953 12953) (va (JII 126976 127231) (va (JII 127245 127247) (va (JII 127279 127279) (va (JII 127340 127345) (va (JII 127358 127359) (va (JII 127374 127374) (va (JII 127377 127386) (va (JII 127405 127461) (va (JII 127489 127503) (va (JII 127514 127514) (va (JII 127535 127535) (va (JII 127538 127546) (va (JII 127548 127551) (va (JII 127561 127994) (va (JII 128000 128317) (va (JII 128326 128591) (va (JII 128640 128767) (va (JII 128884 128895) (va (JII 128981 129023) (va (JII 129036 129039) (va (JII 129096 129103) (va (JII 129114 129119) (va (JII 129160 129167) (va (JII 129198 129279) (va (JII 129292 129338) (va (JII 129340 129349) (va (JII 129351 129791) (va (JII 130048 131069) (me (Own.sl (R:=qn) (E:=316) (ls:=kg.map (fun x=>[J x.1,J x.2])) (vs:=(kg.map (fun x=>[J x.1,J x.2])).flatten) (xs:=kg) true d (aK _) rfl (qB.map _ (fun _=>rfl) _) (by kernel_rfl) (by kernel_rfl)) ?_)))))))))))))))))))))))))))))))))))))))))))))))))))))))))))))))))))))))))))))))))));rintro v5 f i ⟨h,e,g⟩;refine va (v5) (wln (W.ret ?_));obtain rfl:=si H;exact r1 (qq f ⟨v5,h,e,rfl,g⟩)
def eQ (p0:Int) (p1_0_0:List (Int×Int)) (p1_1_0:Int):Option (Int):=
 (cO (σ:=Int×Int) (τ:=Int) ((p0 - 0).toNat+1) (fun a=>
 if (decide (a.1 < a.2))=true then
 (lX (w64 ((IntKind.u64.wrap (w64 (a.1+a.2))).fdiv (2 ^ 1))) p1_0_0 p1_1_0).bind fun b=>
 if (!b)=true then
 some (.inl ((w64 ((w64 ((IntKind.u64.wrap (w64 (a.1+a.2))).fdiv (2 ^ 1)))+1)),a.2))
 else
 some (.inl (a.1,(w64 ((IntKind.u64.wrap (w64 (a.1+a.2))).fdiv (2 ^ 1)))))
 else
 some (.inr (a.1))) (0,p0)).bind fun c=>
 some c
theorem nz {b1_0:Nat} {b1_1:Nat} (A:Own c0 G F) (b:Int) (p1_0_0:List (Int×Int)) (p1_1_0:Int) {r:Int} (N:∀j u,([v2]:List Value)[j]? = some u→Im c0 b1_0 (0+j) u) (M:Sl qn c0 v2 p1_0_0) (P:∀j u,([J p1_1_0]:List Value)[j]? = some u→Im c0 b1_1 (0+j) u) (H:eQ b p1_0_0 p1_1_0=some r): Calls prog 239 #[I b,.func (.func 243) #[] #[Q b1_0,Q b1_1]] c0.w (aQ c0 fun c v=>Own c G (F)∧v=I r):=by
 unfold eQ at H;refine en func239 rfl rfl (sr (va (I 0) (wln (sr (va (I b) (va (I 0) (va (I b) (wln (W.seq (W.block (bn H fun g y k=>lp y (fun a=>Jn c0 fun c l=>Own c G (F)∧l= [(1,.func (.func 243) #[] #[Q b1_0,Q b1_1]),(5,I a.1),(6,I a.2)]) (fun h ex e w=>ex= .exit 0∧(Jn c0 fun c l=>Own c G (F)∧l= [(5,I h)]) e w) ?_ ?_ ?_)))))))))))
 ·clear k y;intro a X q z H;revert q z;rintro E R ⟨D,Z,_,rfl,l7,rfl,o,rfl⟩;refine W.seq (sr (va (I a.1) (va (I a.2) (va (B (decide (a.1 < a.2))) (wln (cn H (fun s H=>?_) (fun s H=>?_)))))))
  ·refine W.skip (nrm (W.block (sr (va (I a.1) (va (I a.2) (va (I (w64 (a.1+a.2))) (va (.int .u64 (IntKind.u64.wrap (w64 (a.1+a.2)))) (va (.int .u64 ((IntKind.u64.wrap (w64 (a.1+a.2))).fdiv (2 ^ 1))) (vv (I (w64 ((IntKind.u64.wrap (w64 (a.1+a.2))).fdiv (2 ^ 1)))) (wln (sr (va (.func (.func 243) #[] #[Q b1_0,Q b1_1]) (va (I (w64 ((IntKind.u64.wrap (w64 (a.1+a.2))).fdiv (2 ^ 1)))) (bn H fun i t H=>cl (yW o (w64 ((IntKind.u64.wrap (w64 (a.1+a.2))).fdiv (2 ^ 1))) p1_0_0 p1_1_0 (mm N) M.m (mm P) t) ?_))))))))))))));rintro v20 f T ⟨d,rfl⟩;refine va (B (!i)) (wln (cn H (fun x H=>?_) (fun x H=>?_)))
   ·refine W.region (va (I (w64 ((IntKind.u64.wrap (w64 (a.1+a.2))).fdiv (2 ^ 1)))) (vv (I (w64 ((w64 ((IntKind.u64.wrap (w64 (a.1+a.2))).fdiv (2 ^ 1)))+1))) (WL.nil (bkn ?_))));obtain rfl:=si H;exact ⟨_,rfl,jn f ⟨d,rfl⟩⟩
   refine W.region (vv (I (w64 ((IntKind.u64.wrap (w64 (a.1+a.2))).fdiv (2 ^ 1)))) (WL.nil (bkn ?_)));obtain rfl:=si H;exact ⟨_,rfl,jn f ⟨d,rfl⟩⟩
  refine W.exit (thx ?_);obtain rfl:=si H;exact ⟨_,rfl,rfl,jn D ⟨o,rfl⟩⟩
 ·exact jn c0 ⟨A,rfl⟩
 rintro _ E R ⟨rfl,p,S,_,rfl,U,rfl,n,rfl⟩;refine bke (nrm (sr (vv (I g) (wln (W.ret ?_)))));obtain rfl:=si k;exact r1 (qq p ⟨n,rfl⟩)
def nS (p0:Int):Option (Bool):=
 (kO).bind fun a=>
 (eQ (a.length:Int) a p0).bind fun b=>
 (bL (decide (b < (a.length:Int))) ((idx a b).bind fun d=>
 some (decide (d.1≤p0)))).bind fun c=>
 some c
theorem BJ (O0:Own c0 G F) (j:Int) {r:Bool} (H:nS j=some r): Calls prog 210 #[J j] c0.w (aQ c0 fun c v=>Own c G (F)∧v=B r):=by
 unfold nS at H;refine en func210 rfl rfl (sr (me (bx 21 [J j] O0) ?_));rintro v5 c4 l4 ⟨b1,rfl,O2,m3⟩;refine va (B false) (wln (sr (bn H fun h h6 H=>cl (xp O2 h6) ?_)));rintro v7 u0 a1 ⟨_,u8,D,rfl,s⟩;refine me (al 314 [Y] D) ?_;rintro v19 v0 z ⟨U,rfl,E⟩;obtain ⟨d,e,f,rfl⟩:=((s.mono z)).form;refine md (sC 314 0 (.slice d e f) [.slice d e f] 0 E ⟨s.m.one,trivial⟩) ?_;rintro w0 f0 t;refine wln (sr (vx (le1 0 tC (t.on 0 rfl)) (vx (lnO 3 tC s.m) ?_)));obtain ⟨x0,a0,c1,M,n⟩:=t.frz 1 rfl (s.mono (z.trans f0));refine WL.gh a0 ?_;obtain ⟨y0,b0,g0,N,q⟩:=Own.frzB 0 M rfl;refine WL.gh b0 ?_;have P:=N.sD 2 [1];refine va (.func (.func 243) #[] #[Q U,Q b1]) (bn H fun a d0 H=>cl (nz P (h.length:Int) h j q n.m (mm m3) d0) ?_);rintro v40 X h0 ⟨R,rfl⟩;refine va (I a) (wln (W.seq (bn H fun A x H=>W.join (Jn X fun c l=>Own c G (es false qn (.slice d e f) 316 u8 h :: F)∧l= [(2,B A)]) ?_ ?_)))
 ·clear H;refine rD [] (Kp G0 []) R ?_;intro p i0 u;have e1:Kp G0 [] p:=Kp.nil0;refine ta 0 (I a) (tx 1 (fun i b=>l1 tC ((mm q) 0 _ rfl)) (tx 2 (fun i b=>ln 3 tC n.m) (ta 3 (B (decide (a < (h.length:Int)))) ?_)));rcases bo (decide (a < (h.length:Int))) with g | g
  ·have o:=anT g x;refine bn o fun k y o=>AC.takeb 4 g rfl (by kernel_rfl) (by kernel_rfl) (fun i b=>(by kernel_rfl)) (tx 5 (fun i b=>l1 tC ((mm q) 0 _ rfl)) (ta 6 (I a) ?_));obtain ⟨s0,e0,k0⟩:=Sl.at (n.mono (g0.trans (h0.trans i0))) (bi y);obtain rfl:=e0;refine tx 7 (fun i b=>ix tC n.m y) (ta 8 (Qo (sb (.slice d e f)) (so (.slice d e f)+a.toNat * 2)) (tx 9 (fun i b=>l1 oU ((mm k0) 0 _ rfl)) (tx 10 (fun i b=>l1 oU ((mm m3) 0 _ rfl)) (ta 11 (B (decide (k.1≤j))) ?_))));obtain rfl:=si o;exact ta 12 (B (decide (k.1≤j))) (ta 13 (B (decide (k.1≤j))) (dn (nrm (jn p ⟨u,rfl⟩))))
  obtain rfl:=anF g x;exact AC.takeb 4 g rfl (by kernel_rfl) (by kernel_rfl) (fun i b=>(by kernel_rfl)) (tp 5 (tp 6 (tp 7 (tp 8 (tp 9 (tp 10 (tp 11 (ta 12 (B false) (ta 13 (B false) (dn (nrm (jn p ⟨u,rfl⟩))))))))))))
 rintro e_ w_ ⟨Z,z0,_,rfl,d1,rfl,S,rfl⟩;refine nrm (W.ret ?_);obtain rfl:=si H;have T:=S.sD 1 [];exact r1 (qq Z ⟨T,rfl⟩)
def mb (p0:Int) (q0_0:List (Int×Int×Int)) (q1_0:Int):Option (Bool):=
 (idx q0_0 p0).bind fun a=>
 some (decide (a.2.1≥(w64 q1_0)))
theorem zc {d:Nat} {e:Nat} (o:Own c0 G F) (b:Int) (q0_0:List (Int×Int×Int)) (q1_0:Int) {r:Bool} (s:∀j u,([v2]:List Value)[j]? = some u→Im c0 d (0+j) u) (k:Sl gg c0 v2 q0_0) (t:∀j u,([J q1_0]:List Value)[j]? = some u→Im c0 e (0+j) u) (H:mb b q0_0 q1_0=some r): Calls prog 245 #[I b,Q d,Q e] c0.w (aQ c0 fun c v=>Own c G (F)∧v=B r):=by
 unfold mb at H;refine en func245 rfl rfl (sr (va (B false) (wln (W.seq (rD [] (Kp G0 []) o ?_)))));intro h q p;have y:Kp G0 [] h:=Kp.nil0;refine tx 0 (fun g a=>l1 go ((mm s) 0 _ rfl)) (ta 1 (I b) (bn H fun f l H=>?_));obtain ⟨x,i,n⟩:=Sl.at (k.mono q) (bi l);obtain rfl:=i;refine tx 2 (fun g a=>ix go k.m l) (ta 3 (Qo (sb v2) (so v2+b.toNat * 3+1)) (tx 4 (fun g a=>l1 u_3 ((mm n) 1 _ rfl)) (tx 5 (fun g a=>l1 oU ((mm t) 0 _ rfl)) (ta 6 (I (w64 q1_0)) (ta 7 (B (decide (f.2.1≥(w64 q1_0)))) (ta 8 (B (decide (f.2.1≥(w64 q1_0)))) (dn (nrm (W.ret ?_)))))))));obtain rfl:=si H;exact r1 (qq h ⟨p,rfl⟩)
def ki:List (Int×Int×Int):=[(768,879,3),(1155,1159,3),(1425,1469,3),(1552,1562,3),(1611,1631,3),(2325,2361,1),(2364,2364,3),(2381,2381,2),(2385,2388,3),(2392,2399,1),(2424,2431,1),(2453,2472,1),(2474,2480,1),(2482,2482,1),(2486,2489,1),(2492,2492,3),(2509,2509,2),(2524,2525,1),(2527,2527,1),(2544,2545,1),(2709,2728,1),(2730,2736,1),(2738,2739,1),(2741,2745,1),(2748,2748,3),(2765,2765,2),(2809,2809,1),(2837,2856,1),(2858,2864,1),(2866,2867,1),(2869,2873,1),(2876,2876,3),(2893,2893,2),(2908,2909,1),(2911,2911,1),(2929,2929,1),(3093,3112,1),(3114,3129,1),(3132,3132,3),(3149,3149,2),(3160,3162,1),(3349,3386,1),(3405,3405,2),(6832,6845,3),(7616,7679,3),(8205,8205,3),(8400,8412,3),(12330,12335,3),(12441,12442,3),(65056,65071,3)]
def kU:Option (List (Int×Int×Int)):=
 some ki
theorem xz (d:Own c0 G F) {r:List (Int×Int×Int)} (H:kU=some r): Calls prog 244 #[] c0.w (aQ c0 fun c v=>∃a b,Own c G (es true gg a 313 b r :: F)∧v=a∧OA gg c a b r):=by
 unfold kU at H;refine en func244 rfl rfl (sr (va (Y) (wln (sr (va (aE 768 879 3) (va (aE 1155 1159 3) (va (aE 1425 1469 3) (va (aE 1552 1562 3) (va (aE 1611 1631 3) (va (aE 2325 2361 1) (va (aE 2364 2364 3) (va (aE 2381 2381 2) (va (aE 2385 2388 3) (va (aE 2392 2399 1) (va (aE 2424 2431 1) (va (aE 2453 2472 1) (va (aE 2474 2480 1) (va (aE 2482 2482 1) (va (aE 2486 2489 1) (va (aE 2492 2492 3) (va (aE 2509 2509 2) (va (aE 2524 2525 1) (va (aE 2527 2527 1) (va (aE 2544 2545 1) (va (aE 2709 2728 1) (va (aE 2730 2736 1) (va (aE 2738 2739 1) (va (aE 2741 2745 1) (va (aE 2748 2748 3) (va (aE 2765 2765 2) (va (aE 2809 2809 1) (va (aE 2837 2856 1) (va (aE 2858 2864 1) (va (aE 2866 2867 1) (va (aE 2869 2873 1) (va (aE 2876 2876 3) (va (aE 2893 2893 2) (va (aE 2908 2909 1) (va (aE 2911 2911 1) (va (aE 2929 2929 1) (va (aE 3093 3112 1) (va (aE 3114 3129 1) (va (aE 3132 3132 3) (va (aE 3149 3149 2) (va (aE 3160 3162 1) (va (aE 3349 3386 1) (va (aE 3405 3405 2) (va (aE 6832 6845 3) (va (aE 7616 7679 3) (va (aE 8205 8205 3) (va (aE 8400 8412 3) (va (aE 12330 12335 3) (va (aE 12441 12442 3) (va (aE 65056 65071 3) (me (Own.sl (R:=gg) (E:=313) (ls:=ki.map (fun x=>[I x.1,I x.2.1,I x.2.2])) (vs:=(ki.map (fun x=>[I x.1,I x.2.1,I x.2.2])).flatten) (xs:=ki) true d (aK _) rfl (qB.map _ (fun _=>rfl) _) (by kernel_rfl) (by kernel_rfl)) ?_)))))))))))))))))))))))))))))))))))))))))))))))))))))));rintro v5 f i ⟨h,e,g⟩;refine va (v5) (wln (W.ret ?_));obtain rfl:=si H;exact r1 (qq f ⟨v5,h,e,rfl,g⟩)
def eU (p0:Int) (p1_0_0:List (Int×Int×Int)) (p1_1_0:Int):Option (Int):=
 (cO (σ:=Int×Int) (τ:=Int) ((p0 - 0).toNat+1) (fun a=>
 if (decide (a.1 < a.2))=true then
 (mb (w64 ((IntKind.u64.wrap (w64 (a.1+a.2))).fdiv (2 ^ 1))) p1_0_0 p1_1_0).bind fun b=>
 if (!b)=true then
 some (.inl ((w64 ((w64 ((IntKind.u64.wrap (w64 (a.1+a.2))).fdiv (2 ^ 1)))+1)),a.2))
 else
 some (.inl (a.1,(w64 ((IntKind.u64.wrap (w64 (a.1+a.2))).fdiv (2 ^ 1)))))
 else
 some (.inr (a.1))) (0,p0)).bind fun c=>
 some c
theorem nC {b1_0:Nat} {b1_1:Nat} (A:Own c0 G F) (b:Int) (p1_0_0:List (Int×Int×Int)) (p1_1_0:Int) {r:Int} (N:∀j u,([v2]:List Value)[j]? = some u→Im c0 b1_0 (0+j) u) (M:Sl gg c0 v2 p1_0_0) (P:∀j u,([J p1_1_0]:List Value)[j]? = some u→Im c0 b1_1 (0+j) u) (H:eU b p1_0_0 p1_1_0=some r): Calls prog 239 #[I b,.func (.func 245) #[] #[Q b1_0,Q b1_1]] c0.w (aQ c0 fun c v=>Own c G (F)∧v=I r):=by
 unfold eU at H;refine en func239 rfl rfl (sr (va (I 0) (wln (sr (va (I b) (va (I 0) (va (I b) (wln (W.seq (W.block (bn H fun g y k=>lp y (fun a=>Jn c0 fun c l=>Own c G (F)∧l= [(1,.func (.func 245) #[] #[Q b1_0,Q b1_1]),(5,I a.1),(6,I a.2)]) (fun h ex e w=>ex= .exit 0∧(Jn c0 fun c l=>Own c G (F)∧l= [(5,I h)]) e w) ?_ ?_ ?_)))))))))))
 ·clear k y;intro a X q z H;revert q z;rintro E R ⟨D,Z,_,rfl,l7,rfl,o,rfl⟩;refine W.seq (sr (va (I a.1) (va (I a.2) (va (B (decide (a.1 < a.2))) (wln (cn H (fun s H=>?_) (fun s H=>?_)))))))
  ·refine W.skip (nrm (W.block (sr (va (I a.1) (va (I a.2) (va (I (w64 (a.1+a.2))) (va (.int .u64 (IntKind.u64.wrap (w64 (a.1+a.2)))) (va (.int .u64 ((IntKind.u64.wrap (w64 (a.1+a.2))).fdiv (2 ^ 1))) (vv (I (w64 ((IntKind.u64.wrap (w64 (a.1+a.2))).fdiv (2 ^ 1)))) (wln (sr (va (.func (.func 245) #[] #[Q b1_0,Q b1_1]) (va (I (w64 ((IntKind.u64.wrap (w64 (a.1+a.2))).fdiv (2 ^ 1)))) (bn H fun i t H=>cl (zc o (w64 ((IntKind.u64.wrap (w64 (a.1+a.2))).fdiv (2 ^ 1))) p1_0_0 p1_1_0 (mm N) M.m (mm P) t) ?_))))))))))))));rintro v20 f T ⟨d,rfl⟩;refine va (B (!i)) (wln (cn H (fun x H=>?_) (fun x H=>?_)))
   ·refine W.region (va (I (w64 ((IntKind.u64.wrap (w64 (a.1+a.2))).fdiv (2 ^ 1)))) (vv (I (w64 ((w64 ((IntKind.u64.wrap (w64 (a.1+a.2))).fdiv (2 ^ 1)))+1))) (WL.nil (bkn ?_))));obtain rfl:=si H;exact ⟨_,rfl,jn f ⟨d,rfl⟩⟩
   refine W.region (vv (I (w64 ((IntKind.u64.wrap (w64 (a.1+a.2))).fdiv (2 ^ 1)))) (WL.nil (bkn ?_)));obtain rfl:=si H;exact ⟨_,rfl,jn f ⟨d,rfl⟩⟩
  refine W.exit (thx ?_);obtain rfl:=si H;exact ⟨_,rfl,rfl,jn D ⟨o,rfl⟩⟩
 ·exact jn c0 ⟨A,rfl⟩
 rintro _ E R ⟨rfl,p,S,_,rfl,U,rfl,n,rfl⟩;refine bke (nrm (sr (vv (I g) (wln (W.ret ?_)))));obtain rfl:=si k;exact r1 (qq p ⟨n,rfl⟩)
def nZ (p0:Int):Option (Int):=
 (kU).bind fun a=>
 (eU (a.length:Int) a p0).bind fun b=>
 (orE (b==(a.length:Int)) ((idx a b).bind fun d=>
 some (decide (d.1 > (w64 p0))))).bind fun c=>
 if c=true then
 some 0
 else
 (idx a b).bind fun e=>
 some e.2.2
theorem BP (O0:Own c0 G F) (k:Int) {r:Int} (H:nZ k=some r): Calls prog 211 #[J k] c0.w (aQ c0 fun c v=>Own c G (F)∧v=I r):=by
 unfold nZ at H;refine en func211 rfl rfl (sr (me (bx 21 [J k] O0) ?_));rintro v5 c4 l4 ⟨b1,rfl,O2,m3⟩;refine va (I 0) (wln (sr (bn H fun i h6 H=>cl (xz O2 h6) ?_)));rintro v7 d1 j1 ⟨_,u8,T,rfl,s⟩;refine me (al 310 [Y] T) ?_;rintro v19 e1 M ⟨y,rfl,U⟩;obtain ⟨b,d,e,rfl⟩:=((s.mono M)).form;refine md (sC 310 0 (.slice b d e) [.slice b d e] 0 U ⟨s.m.one,trivial⟩) ?_;rintro f1 m0 t;refine wln (sr (vx (le1 0 go (t.on 0 rfl)) (vx (lnO 3 go s.m) ?_)));obtain ⟨g1,g0,k1,X,g⟩:=t.frz 1 rfl (s.mono (M.trans m0));refine WL.gh g0 ?_;obtain ⟨h1,h0,N,Z,n⟩:=Own.frzB 0 X rfl;refine WL.gh h0 ?_;have a0:=Z.sD 2 [1];refine va (.func (.func 245) #[] #[Q y,Q b1]) (bn H fun a i0 H=>cl (nC a0 (i.length:Int) i k n g.m (mm m3) i0) ?_);rintro v40 f0 P ⟨b0,rfl⟩;refine va (I a) (wln (W.seq (W.seq (bn H fun R A H=>W.join (Jn f0 fun c l=>Own c G (es false gg (.slice b d e) 313 u8 i :: F)∧l= [(3,Q y),(4,I a),(23,B R)]) ?_ ?_))))
 ·clear H;refine rD [] (Kp G0 []) b0 ?_;intro p o0 u;have m1:Kp G0 [] p:=Kp.nil0;refine ta 0 (I a) (tx 1 (fun j f=>l1 go ((mm n) 0 _ rfl)) (tx 2 (fun j f=>ln 3 go g.m) (ta 3 (B (a==(i.length:Int))) ?_)));rcases bo (a==(i.length:Int)) with h | h
  ·obtain rfl:=orT h A;exact AC.takeb 4 h rfl (by kernel_rfl) (by kernel_rfl) (fun j f=>(by kernel_rfl)) (tp 5 (tp 6 (tp 7 (tp 8 (tp 9 (tp 10 (tp 11 (tp 12 (ta 13 (B true) (dn (nrm (jn p ⟨u,rfl⟩))))))))))))
  have o:=orF h A;refine bn o fun q D o=>AC.takeb 4 h rfl (by kernel_rfl) (by kernel_rfl) (fun j f=>(by kernel_rfl)) (tx 5 (fun j f=>l1 go ((mm n) 0 _ rfl)) (ta 6 (I a) ?_));obtain ⟨z0,j0,t0⟩:=Sl.at (g.mono (N.trans (P.trans o0))) (bi D);obtain rfl:=j0;refine tx 7 (fun j f=>ix go g.m D) (ta 8 (Qo (sb (.slice b d e)) (so (.slice b d e)+a.toNat * 3)) (tx 9 (fun j f=>l1 u_3 ((mm t0) 0 _ rfl)) (tx 10 (fun j f=>l1 oU ((mm m3) 0 _ rfl)) (ta 11 (I (w64 k)) (ta 12 (B (decide (q.1 > (w64 k)))) ?_)))));obtain rfl:=si o;exact ta 13 (B (decide (q.1 > (w64 k)))) (dn (nrm (jn p ⟨u,rfl⟩)))
 rintro e_ w_ ⟨z,i1,_,rfl,q0,rfl,x,rfl⟩;refine nrm (cn H (fun k0 H=>?_) (fun k0 H=>?_))
 ·refine sr (va (I 0) (wln (W.ret (thr ?_))));obtain rfl:=si H;have d0:=x.sD 1 [];exact r1 (qq z ⟨d0,rfl⟩)
 refine W.skip (nrm (sr (vx (l1 go ((mm n) 0 _ rfl)) (va (I a) (bn H fun S E H=>?_)))));obtain ⟨a1,l0,u0⟩:=Sl.at (g.mono (N.trans (P.trans q0))) (bi E);obtain rfl:=l0;refine vx (ix go g.m E) (va (Qo (sb (.slice b d e)) (so (.slice b d e)+a.toNat * 3+2)) (vx (l1 u_3 (u0 2 _ rfl)) (va (I S.2.2) (wln (W.ret ?_)))));obtain rfl:=si H;have e0:=x.sD 1 [];exact r1 (qq z ⟨e0,rfl⟩)
def ma (p0:Int) (q0_0:List (Int×Int×Int)) (q1_0:Int):Option (Bool):=
 (idx q0_0 p0).bind fun a=>
 some (decide (a.2.1≥(w64 q1_0)))
theorem za {d:Nat} {e:Nat} (o:Own c0 G F) (b:Int) (q0_0:List (Int×Int×Int)) (q1_0:Int) {r:Bool} (s:∀j u,([v2]:List Value)[j]? = some u→Im c0 d (0+j) u) (k:Sl gg c0 v2 q0_0) (t:∀j u,([J q1_0]:List Value)[j]? = some u→Im c0 e (0+j) u) (H:ma b q0_0 q1_0=some r): Calls prog 247 #[I b,Q d,Q e] c0.w (aQ c0 fun c v=>Own c G (F)∧v=B r):=by
 unfold ma at H;refine en func247 rfl rfl (sr (va (B false) (wln (W.seq (rD [] (Kp G0 []) o ?_)))));intro h q p;have y:Kp G0 [] h:=Kp.nil0;refine tx 0 (fun g a=>l1 go ((mm s) 0 _ rfl)) (ta 1 (I b) (bn H fun f l H=>?_));obtain ⟨x,i,n⟩:=Sl.at (k.mono q) (bi l);obtain rfl:=i;refine tx 2 (fun g a=>ix go k.m l) (ta 3 (Qo (sb v2) (so v2+b.toNat * 3+1)) (tx 4 (fun g a=>l1 u_3 ((mm n) 1 _ rfl)) (tx 5 (fun g a=>l1 oU ((mm t) 0 _ rfl)) (ta 6 (I (w64 q1_0)) (ta 7 (B (decide (f.2.1≥(w64 q1_0)))) (ta 8 (B (decide (f.2.1≥(w64 q1_0)))) (dn (nrm (W.ret ?_)))))))));obtain rfl:=si H;exact r1 (qq h ⟨p,rfl⟩)
def jJ:List (Int×Int×Int):=[(4352,4447,1),(8361,8361,3),(8986,8987,1),(9001,9002,1),(9193,9196,1),(9200,9200,1),(9203,9203,1),(9725,9726,1),(9748,9749,1),(9800,9811,1),(9855,9855,1),(9875,9875,1),(9889,9889,1),(9898,9899,1),(9917,9918,1),(9924,9925,1),(9934,9934,1),(9940,9940,1),(9962,9962,1),(9970,9971,1),(9973,9973,1),(9978,9978,1),(9981,9981,1),(9989,9989,1),(9994,9995,1),(10024,10024,1),(10060,10060,1),(10062,10062,1),(10067,10069,1),(10071,10071,1),(10133,10135,1),(10160,10160,1),(10175,10175,1),(11035,11036,1),(11088,11088,1),(11093,11093,1),(11904,11929,1),(11931,12019,1),(12032,12245,1),(12272,12287,1),(12288,12288,2),(12289,12350,1),(12353,12438,1),(12441,12543,1),(12549,12591,1),(12593,12686,1),(12688,12771,1),(12784,12830,1),(12832,12871,1),(12880,19903,1),(19968,42124,1),(42128,42182,1),(43360,43388,1),(44032,55203,1),(63744,64255,1),(65040,65049,1),(65072,65106,1),(65108,65126,1),(65128,65131,1),(65281,65376,2),(65377,65470,3),(65474,65479,3),(65482,65487,3),(65490,65495,3),(65498,65500,3),(65504,65510,2),(65512,65518,3),(94176,94180,1),(94208,100343,1),(100352,101589,1),(110592,110882,1),(126980,126980,1),(127183,127183,1),(127374,127374,1),(127377,127386,1),(127488,127490,1),(127504,127547,1),(127552,127560,1),(127568,127569,1),(127584,127589,1),(127744,127776,1),(127789,127797,1),(127799,127868,1),(127870,127891,1),(127904,127946,1),(127951,127955,1),(127968,127984,1),(127988,127988,1),(127992,128062,1),(128064,128064,1),(128066,128252,1),(128255,128317,1),(128331,128334,1),(128336,128359,1),(128378,128378,1),(128405,128406,1),(128420,128420,1),(128507,128591,1),(128640,128709,1),(128716,128716,1),(128720,128722,1),(128725,128727,1),(128732,128735,1),(128747,128748,1),(128756,128764,1),(128992,129003,1),(129008,129008,1),(129292,129338,1),(129340,129349,1),(129351,129535,1),(129648,129660,1),(129664,129672,1),(129680,129725,1),(129727,129733,1),(129742,129755,1),(129760,129768,1),(129776,129784,1),(131072,196605,1),(196608,262141,1)]
def kS:Option (List (Int×Int×Int)):=
 some jJ
theorem xy (d:Own c0 G F) {r:List (Int×Int×Int)} (H:kS=some r): Calls prog 246 #[] c0.w (aQ c0 fun c v=>∃a b,Own c G (es true gg a 313 b r :: F)∧v=a∧OA gg c a b r):=by
 unfold kS at H;refine en func246 rfl rfl (sr (va (Y) (wln (sr (va (aE 4352 4447 1) (va (aE 8361 8361 3) (va (aE 8986 8987 1) (va (aE 9001 9002 1) (va (aE 9193 9196 1) (va (aE 9200 9200 1) (va (aE 9203 9203 1) (va (aE 9725 9726 1) (va (aE 9748 9749 1) (va (aE 9800 9811 1) (va (aE 9855 9855 1) (va (aE 9875 9875 1) (va (aE 9889 9889 1) (va (aE 9898 9899 1) (va (aE 9917 9918 1) (va (aE 9924 9925 1) (va (aE 9934 9934 1) (va (aE 9940 9940 1) (va (aE 9962 9962 1) (va (aE 9970 9971 1) (va (aE 9973 9973 1) (va (aE 9978 9978 1) (va (aE 9981 9981 1) (va (aE 9989 9989 1) (va (aE 9994 9995 1) (va (aE 10024 10024 1) (va (aE 10060 10060 1) (va (aE 10062 10062 1) (va (aE 10067 10069 1) (va (aE 10071 10071 1) (va (aE 10133 10135 1) (va (aE 10160 10160 1) (va (aE 10175 10175 1) (va (aE 11035 11036 1) (va (aE 11088 11088 1) (va (aE 11093 11093 1) (va (aE 11904 11929 1) (va (aE 11931 12019 1) (va (aE 12032 12245 1) (va (aE 12272 12287 1) (va (aE 12288 12288 2) (va (aE 12289 12350 1) (va (aE 12353 12438 1) (va (aE 12441 12543 1) (va (aE 12549 12591 1) (va (aE 12593 12686 1) (va (aE 12688 12771 1) (va (aE 12784 12830 1) (va (aE 12832 12871 1) (va (aE 12880 19903 1) (va (aE 19968 42124 1) (va (aE 42128 42182 1) (va (aE 43360 43388 1) (va (aE 44032 55203 1) (va (aE 63744 64255 1) (va (aE 65040 65049 1) (va (aE 65072 65106 1) (va (aE 65108 65126 1) (va (aE 65128 65131 1) (va (aE 65281 65376 2) (va (aE 65377 65470 3) (va (aE 65474 65479 3) (va (aE 65482 65487 3) (va (aE 65490 65495 3) (va (aE 65498 65500 3) (va (aE 65504 65510 2) (va (aE 65512 65518 3) (va (aE 94176 94180 1) (va (aE 94208 100343 1) (va (aE 100352 101589 1) (va (aE 110592 110882 1) (va (aE 126980 126980 1) (va (aE 127183 127183 1) (va (aE 127374 127374 1) (va (aE 127377 127386 1) (va (aE 127488 127490 1) (va (aE 127504 127547 1) (va (aE 127552 127560 1) (va (aE 127568 127569 1) (va (aE 127584 127589 1) (va (aE 127744 127776 1) (va (aE 127789 127797 1) (va (aE 127799 127868 1) (va (aE 127870 127891 1) (va (aE 127904 127946 1) (va (aE 127951 127955 1) (va (aE 127968 127984 1) (va (aE 127988 127988 1) (va (aE 127992 128062 1) (va (aE 128064 128064 1) (va (aE 128066 128252 1) (va (aE 128255 128317 1) (va (aE 128331 128334 1) (va (aE 128336 128359 1) (va (aE 128378 128378 1) (va (aE 128405 128406 1) (va (aE 128420 128420 1) (va (aE 128507 128591 1) (va (aE 128640 128709 1) (va (aE 128716 128716 1) (va (aE 128720 128722 1) (va (aE 128725 128727 1) (va (aE 128732 128735 1) (va (aE 128747 128748 1) (va (aE 128756 128764 1) (va (aE 128992 129003 1) (va (aE 129008 129008 1) (va (aE 129292 129338 1) (va (aE 129340 129349 1) (va (aE 129351 129535 1) (va (aE 129648 129660 1) (va (aE 129664 129672 1) (va (aE 129680 129725 1) (va (aE 129727 129733 1) (va (aE 129742 129755 1) (va (aE 129760 129768 1) (va (aE 129776 129784 1) (va (aE 131072 196605 1) (va (aE 196608 262141 1) (me (Own.sl (R:=gg) (E:=313) (ls:=jJ.map (fun x=>[I x.1,I x.2.1,I x.2.2])) (vs:=(jJ.map (fun x=>[I x.1,I x.2.1,I x.2.2])).flatten) (xs:=jJ) true d (aK _) rfl (qB.map _ (fun _=>rfl) _) (by kernel_rfl) (by kernel_rfl)) ?_))))))))))))))))))))))))))))))))))))))))))))))))))))))))))))))))))))))))))))))))))))))))))))))))))))))))))))))))))))))))))));rintro v5 f i ⟨h,e,g⟩;refine va (v5) (wln (W.ret ?_));obtain rfl:=si H;exact r1 (qq f ⟨v5,h,e,rfl,g⟩)
def eR (p0:Int) (p1_0_0:List (Int×Int×Int)) (p1_1_0:Int):Option (Int):=
 (cO (σ:=Int×Int) (τ:=Int) ((p0 - 0).toNat+1) (fun a=>
 if (decide (a.1 < a.2))=true then
 (ma (w64 ((IntKind.u64.wrap (w64 (a.1+a.2))).fdiv (2 ^ 1))) p1_0_0 p1_1_0).bind fun b=>
 if (!b)=true then
 some (.inl ((w64 ((w64 ((IntKind.u64.wrap (w64 (a.1+a.2))).fdiv (2 ^ 1)))+1)),a.2))
 else
 some (.inl (a.1,(w64 ((IntKind.u64.wrap (w64 (a.1+a.2))).fdiv (2 ^ 1)))))
 else
 some (.inr (a.1))) (0,p0)).bind fun c=>
 some c
theorem nB {b1_0:Nat} {b1_1:Nat} (A:Own c0 G F) (b:Int) (p1_0_0:List (Int×Int×Int)) (p1_1_0:Int) {r:Int} (N:∀j u,([v2]:List Value)[j]? = some u→Im c0 b1_0 (0+j) u) (M:Sl gg c0 v2 p1_0_0) (P:∀j u,([J p1_1_0]:List Value)[j]? = some u→Im c0 b1_1 (0+j) u) (H:eR b p1_0_0 p1_1_0=some r): Calls prog 239 #[I b,.func (.func 247) #[] #[Q b1_0,Q b1_1]] c0.w (aQ c0 fun c v=>Own c G (F)∧v=I r):=by
 unfold eR at H;refine en func239 rfl rfl (sr (va (I 0) (wln (sr (va (I b) (va (I 0) (va (I b) (wln (W.seq (W.block (bn H fun g y k=>lp y (fun a=>Jn c0 fun c l=>Own c G (F)∧l= [(1,.func (.func 247) #[] #[Q b1_0,Q b1_1]),(5,I a.1),(6,I a.2)]) (fun h ex e w=>ex= .exit 0∧(Jn c0 fun c l=>Own c G (F)∧l= [(5,I h)]) e w) ?_ ?_ ?_)))))))))))
 ·clear k y;intro a X q z H;revert q z;rintro E R ⟨D,Z,_,rfl,l7,rfl,o,rfl⟩;refine W.seq (sr (va (I a.1) (va (I a.2) (va (B (decide (a.1 < a.2))) (wln (cn H (fun s H=>?_) (fun s H=>?_)))))))
  ·refine W.skip (nrm (W.block (sr (va (I a.1) (va (I a.2) (va (I (w64 (a.1+a.2))) (va (.int .u64 (IntKind.u64.wrap (w64 (a.1+a.2)))) (va (.int .u64 ((IntKind.u64.wrap (w64 (a.1+a.2))).fdiv (2 ^ 1))) (vv (I (w64 ((IntKind.u64.wrap (w64 (a.1+a.2))).fdiv (2 ^ 1)))) (wln (sr (va (.func (.func 247) #[] #[Q b1_0,Q b1_1]) (va (I (w64 ((IntKind.u64.wrap (w64 (a.1+a.2))).fdiv (2 ^ 1)))) (bn H fun i t H=>cl (za o (w64 ((IntKind.u64.wrap (w64 (a.1+a.2))).fdiv (2 ^ 1))) p1_0_0 p1_1_0 (mm N) M.m (mm P) t) ?_))))))))))))));rintro v20 f T ⟨d,rfl⟩;refine va (B (!i)) (wln (cn H (fun x H=>?_) (fun x H=>?_)))
   ·refine W.region (va (I (w64 ((IntKind.u64.wrap (w64 (a.1+a.2))).fdiv (2 ^ 1)))) (vv (I (w64 ((w64 ((IntKind.u64.wrap (w64 (a.1+a.2))).fdiv (2 ^ 1)))+1))) (WL.nil (bkn ?_))));obtain rfl:=si H;exact ⟨_,rfl,jn f ⟨d,rfl⟩⟩
   refine W.region (vv (I (w64 ((IntKind.u64.wrap (w64 (a.1+a.2))).fdiv (2 ^ 1)))) (WL.nil (bkn ?_)));obtain rfl:=si H;exact ⟨_,rfl,jn f ⟨d,rfl⟩⟩
  refine W.exit (thx ?_);obtain rfl:=si H;exact ⟨_,rfl,rfl,jn D ⟨o,rfl⟩⟩
 ·exact jn c0 ⟨A,rfl⟩
 rintro _ E R ⟨rfl,p,S,_,rfl,U,rfl,n,rfl⟩;refine bke (nrm (sr (vv (I g) (wln (W.ret ?_)))));obtain rfl:=si k;exact r1 (qq p ⟨n,rfl⟩)
def nX (p0:Int):Option (Int):=
 (kS).bind fun a=>
 (eR (a.length:Int) a p0).bind fun b=>
 (orE (b==(a.length:Int)) ((idx a b).bind fun d=>
 some (decide (d.1 > (w64 p0))))).bind fun c=>
 if c=true then
 some 0
 else
 (idx a b).bind fun e=>
 some e.2.2
theorem BN (O0:Own c0 G F) (k:Int) {r:Int} (H:nX k=some r): Calls prog 212 #[J k] c0.w (aQ c0 fun c v=>Own c G (F)∧v=I r):=by
 unfold nX at H;refine en func212 rfl rfl (sr (me (bx 21 [J k] O0) ?_));rintro v5 c4 l4 ⟨b1,rfl,O2,m3⟩;refine va (I 0) (wln (sr (bn H fun i h6 H=>cl (xy O2 h6) ?_)));rintro v7 d1 j1 ⟨_,u8,T,rfl,s⟩;refine me (al 310 [Y] T) ?_;rintro v19 e1 M ⟨y,rfl,U⟩;obtain ⟨b,d,e,rfl⟩:=((s.mono M)).form;refine md (sC 310 0 (.slice b d e) [.slice b d e] 0 U ⟨s.m.one,trivial⟩) ?_;rintro f1 m0 t;refine wln (sr (vx (le1 0 go (t.on 0 rfl)) (vx (lnO 3 go s.m) ?_)));obtain ⟨g1,g0,k1,X,g⟩:=t.frz 1 rfl (s.mono (M.trans m0));refine WL.gh g0 ?_;obtain ⟨h1,h0,N,Z,n⟩:=Own.frzB 0 X rfl;refine WL.gh h0 ?_;have a0:=Z.sD 2 [1];refine va (.func (.func 247) #[] #[Q y,Q b1]) (bn H fun a i0 H=>cl (nB a0 (i.length:Int) i k n g.m (mm m3) i0) ?_);rintro v40 f0 P ⟨b0,rfl⟩;refine va (I a) (wln (W.seq (W.seq (bn H fun R A H=>W.join (Jn f0 fun c l=>Own c G (es false gg (.slice b d e) 313 u8 i :: F)∧l= [(3,Q y),(4,I a),(23,B R)]) ?_ ?_))))
 ·clear H;refine rD [] (Kp G0 []) b0 ?_;intro p o0 u;have m1:Kp G0 [] p:=Kp.nil0;refine ta 0 (I a) (tx 1 (fun j f=>l1 go ((mm n) 0 _ rfl)) (tx 2 (fun j f=>ln 3 go g.m) (ta 3 (B (a==(i.length:Int))) ?_)));rcases bo (a==(i.length:Int)) with h | h
  ·obtain rfl:=orT h A;exact AC.takeb 4 h rfl (by kernel_rfl) (by kernel_rfl) (fun j f=>(by kernel_rfl)) (tp 5 (tp 6 (tp 7 (tp 8 (tp 9 (tp 10 (tp 11 (tp 12 (ta 13 (B true) (dn (nrm (jn p ⟨u,rfl⟩))))))))))))
  have o:=orF h A;refine bn o fun q D o=>AC.takeb 4 h rfl (by kernel_rfl) (by kernel_rfl) (fun j f=>(by kernel_rfl)) (tx 5 (fun j f=>l1 go ((mm n) 0 _ rfl)) (ta 6 (I a) ?_));obtain ⟨z0,j0,t0⟩:=Sl.at (g.mono (N.trans (P.trans o0))) (bi D);obtain rfl:=j0;refine tx 7 (fun j f=>ix go g.m D) (ta 8 (Qo (sb (.slice b d e)) (so (.slice b d e)+a.toNat * 3)) (tx 9 (fun j f=>l1 u_3 ((mm t0) 0 _ rfl)) (tx 10 (fun j f=>l1 oU ((mm m3) 0 _ rfl)) (ta 11 (I (w64 k)) (ta 12 (B (decide (q.1 > (w64 k)))) ?_)))));obtain rfl:=si o;exact ta 13 (B (decide (q.1 > (w64 k)))) (dn (nrm (jn p ⟨u,rfl⟩)))
 rintro e_ w_ ⟨z,i1,_,rfl,q0,rfl,x,rfl⟩;refine nrm (cn H (fun k0 H=>?_) (fun k0 H=>?_))
 ·refine sr (va (I 0) (wln (W.ret (thr ?_))));obtain rfl:=si H;have d0:=x.sD 1 [];exact r1 (qq z ⟨d0,rfl⟩)
 refine W.skip (nrm (sr (vx (l1 go ((mm n) 0 _ rfl)) (va (I a) (bn H fun S E H=>?_)))));obtain ⟨a1,l0,u0⟩:=Sl.at (g.mono (N.trans (P.trans q0))) (bi E);obtain rfl:=l0;refine vx (ix go g.m E) (va (Qo (sb (.slice b d e)) (so (.slice b d e)+a.toNat * 3+2)) (vx (l1 u_3 (u0 2 _ rfl)) (va (I S.2.2) (wln (W.ret ?_)))));obtain rfl:=si H;have e0:=x.sD 1 [];exact r1 (qq z ⟨e0,rfl⟩)
def pA (p0:Int):Option (aS):=
 (pH p0).bind fun b=>
 (nS p0).bind fun c=>
 (nZ p0).bind fun d=>
 (nX p0).bind fun a=>
 some (⟨b,c,d,a⟩:aS)
theorem Do (p:Own c0 G F) (a:Int) {r:aS} (H:pA a=some r): Calls prog 167 #[J a] c0.w (aQ c0 fun c v=>Own c G (F)∧v= .agg #[I r.Break,B r.Pict,I r.Conj,I r.East]):=by
 unfold pA at H;refine en func167 rfl rfl (sr (me (al 249 [I 0,B false,I 0,I 0] p) ?_));rintro v4 R S ⟨P,rfl,q⟩;refine wln (sr (va (J a) (bn H fun d t H=>cl (Dq q a t) ?_)));rintro v11 u A ⟨s,rfl⟩;refine va (J a) (bn H fun e m H=>cl (BJ s a m) ?_);rintro v18 x D ⟨i,rfl⟩;refine va (J a) (bn H fun f n H=>cl (BP i a n) ?_);rintro v25 y E ⟨j,rfl⟩;refine va (J a) (bn H fun b o H=>cl (BN j a o) ?_);rintro v32 z M ⟨k,rfl⟩;refine va (.agg #[I d,B e,I f,I b]) (md (sA 249 [I d,B e,I f,I b] 0 k ⟨rfl,rfl,rfl,rfl,trivial⟩) ?_);rintro h N g;refine wln (W.ret ?_);obtain rfl:=si H;have l:=g.sD 1 [];exact sI (c:=h) (vs:=[I d,B e,I f,I b]) rfl (by kernel_rfl) (by kernel_rfl) (by kernel_rfl) (g.on 0 rfl _ rfl).1 ⟨_,h,rfl,rfl,pt,l,rfl⟩
def mP (sg:Sto) (p0:Option Nat):Option (Sto×(Option Nat)):=
 (orE p0.isNone ((p0).bind fun d=>
 (sg.place_Pen[d]?).bind fun b=>
 some b.G.isNone)).bind fun c=>
 if c=true then
 some (sg,(none:Option Nat))
 else
 (some (sg.add_feed_Feeder (⟨p0,(⟨0,0,0,0,0⟩:bw),(⟨false,0,0,0,false⟩:cB),(none:Option Nat)⟩:bz))).bind fun a=>
 some (a,(some sg.feed_Feeder.length))
theorem zX (t:Own c0 G F) (u:Rel c0 sg G) (k:Option Nat) {r:Sto×(Option Nat)} (n:Pt 2 c0 v1 k) (H:mP sg k=some r): Calls prog 24 #[v1] c0.w (aQ c0 fun c v=>∃y1,∃G_:Gm,Own c G_ (F)∧Rel c r.1 G_∧dt G G_∧v=y1∧Pt 4 c y1 r.2):=by
 unfold mP at H;refine en func24 rfl rfl (sr (va (.pointer none) (wln (W.seq (W.seq (bn H fun T h3 H=>W.join (Jn c0 fun c l=>Own c G (F)∧l= [(0,v1),(11,B T)]) ?_ ?_))))))
 ·clear H;refine W.region (va (v1) (vr (B k.isNone) (by rcases (n).cs with ⟨d,e⟩ | ⟨b_,d,e⟩ <;> (subst d; rw [e]; kernel_rfl)) ?_));rcases bo (k.isNone) with h | h
  ·obtain rfl:=orT h h3;exact vb h (pz (pz (ps (va (B true) (wln (jn c0 ⟨t,rfl⟩))))))
  have g:=orF h h3;refine vb h (wa (v1) (wn (bn g fun t0 h8 g=>?_)));obtain ⟨R,rfl,h7⟩:=(n).get h8;refine va (Q R) (wa (Q R) (wn (bn g fun j h9 g=>?_)));obtain ⟨v10,X,U⟩:=Rel.open_place_Pen u h9 h7;refine vx (le1 0 iF (t.gon X 0 rfl)) (wn (vr (B j.G.isNone) (by rcases (U).cs with ⟨d,e⟩ | ⟨b_,d,e⟩ <;> (subst d; rw [e]; kernel_rfl)) ?_));obtain rfl:=si g;exact va (B j.G.isNone) (wln (jn c0 ⟨t,rfl⟩))
 rintro e_ w_ ⟨S,o0,_,rfl,i,rfl,o,rfl⟩;refine nrm (cn H (fun Z H=>?_) (fun Z H=>?_))
 ·refine sr (va (.pointer none) (wln (W.ret (thr ?_))));obtain rfl:=si H;exact r1 (qq S ⟨(.pointer none),G,o,u.m,(dt.refl _),rfl,rfl⟩)
 refine W.skip (nrm (sr (va (v1) ?_)));obtain ⟨f,rfl⟩:=((n.mono i)).form;refine va (.agg #[.pointer f,I 0,I 0,.int .u8 0,.int .u8 0,I 0,B false,I 0,I 0,I 0,B false,.pointer none]) (me (al 124 [.pointer f,I 0,I 0,.int .u8 0,.int .u8 0,I 0,B false,I 0,I 0,I 0,B false,.pointer none] o) ?_);rintro v24 m0 s ⟨a,rfl,A⟩;have D:=A.sD 1 [0];refine bn H fun y a0 H=>?_;obtain ⟨q,z,b0,u0,d0,M,p,q0,f0,N⟩:=Rel.new_feed_Feeder (E:=[(Eb a 124 [.pointer f,I 0,I 0,.int .u8 0,.int .u8 0,I 0,B false,I 0,I 0,I 0,B false,.pointer none])]) (F:=F) (x:=(⟨k,(⟨0,0,0,0,0⟩:bw),(⟨false,0,0,0,false⟩:cB),(none:Option Nat)⟩:bz)) (b:=a) D (u.mono (i.trans s)) (fun c_ hle_=>⟨a,(.pointer f),(.pointer none),rfl,rfl,(n.mono ((i.trans s).trans hle_)),rfl⟩);rw [aq a0] at p;refine WL.gh b0.1 ?_;have s0:=dt.nil (dt.refl _) f0;have P:=(dt.refl _).trans N;have g0:Pt 4 q (Q a) (some sg.feed_Feeder.length):=⟨a,rfl,d0⟩;refine va (Q a) (wln (W.ret ?_));obtain rfl:=si H;exact r1 (qq q ⟨(Q a),z,M,p,P,rfl,g0⟩)
def gM (p0:Int):Option (Int):=
 (orE (decide (p0 < 0)) (some (decide (p0 > 13)))).bind fun a=>
 if a=true then
 some 0
 else
 some p0
theorem qI (d:Own c0 G F) (a:Int) {r:Int} (H:gM a=some r): Calls prog 268 #[I a] c0.w (aQ c0 fun c v=>Own c G (F)∧v=I r):=by
 unfold gM at H;refine en func268 rfl rfl (sr (va (I 0) (wln (W.seq (W.seq (bn H fun g h H=>W.join (Jn c0 fun c l=>Own c G (F)∧l= [(0,I a),(8,B g)]) ?_ ?_))))))
 ·clear H;refine W.region (va (I a) (va (B (decide (a < 0))) ?_));rcases bo (decide (a < 0)) with b | b
  ·obtain rfl:=orT b h;exact vb b (pz (va (B true) (wln (jn c0 ⟨d,rfl⟩))))
  have j:=orF b h;refine vb b (wa (I a) (wa (B (decide (a > 13))) ?_));obtain rfl:=si j;exact va (B (decide (a > 13))) (wln (jn c0 ⟨d,rfl⟩))
 rintro k o ⟨f,m,_,rfl,n,rfl,e,rfl⟩;refine nrm (cn H (fun i H=>?_) (fun i H=>?_))
 ·refine sr (va (I 0) (wln (W.ret (thr ?_))));obtain rfl:=si H;exact r1 (qq f ⟨e,rfl⟩)
 refine W.skip (nrm (sr (vv (I a) (wln (W.ret ?_)))));obtain rfl:=si H;exact r1 (qq f ⟨e,rfl⟩)
def kP (p0:Int):Option (Bool):=
 if (p0==1)=true then
 some true
 else
 if (p0==2)=true then
 some true
 else
 if (p0==3)=true then
 some true
 else
 some false
theorem pR (b:Own c0 G F) (a:Int) {r:Bool} (H:kP a=some r): Calls prog 269 #[I a] c0.w (aQ c0 fun c v=>Own c G (F)∧v=B r):=by
 unfold kP at H;refine en func269 rfl rfl (sr (va (B false) (wln (W.seq (sr (va (I a) (wln (W.block (W.seq (W.block (W.block (W.block (W.seq (W.seq (sr (vv (B (a==1)) (wln (cn H (fun d H=>?_) (fun d H=>?_)))))))))))))))))))
 ·refine W.exit (thx (thx (bke (bkn (bkn (nrm (W.seq (sr (va (B true) (wln (W.ret (thr (bkr (thr ?_))))))))))))));obtain rfl:=si H;exact r1 (qq c0 ⟨b,rfl⟩)
 refine W.skip (nrm (W.seq (sr (vv (B (a==2)) (wln (cn H (fun e H=>?_) (fun e H=>?_)))))))
 ·refine W.exit (thx (thx (bko rfl (bke (bkn (nrm (W.seq (sr (va (B true) (wln (W.ret (thr (bkr (thr ?_))))))))))))));obtain rfl:=si H;exact r1 (qq c0 ⟨b,rfl⟩)
 refine W.skip (nrm (sr (vv (B (a==3)) (wln (cn H (fun f H=>?_) (fun f H=>?_))))))
 ·refine W.exit (thx (bko rfl (bko rfl (bke (nrm (W.seq (sr (va (B true) (wln (W.ret (thr (bkr (thr ?_)))))))))))));obtain rfl:=si H;exact r1 (qq c0 ⟨b,rfl⟩)
 refine W.skip (nrm (W.exit (bko rfl (bko rfl (bko rfl (thx (bke (nrm (sr (va (B false) (wln (W.ret ?_))))))))))));obtain rfl:=si H;exact r1 (qq c0 ⟨b,rfl⟩)
def lJ (p0:Int) (p1:Int):Option (Bool):=
 if (p0==9)=true then
 (orE (p1==9) (some (p1==10))).bind fun a=>
 (orE a (some (p1==12))).bind fun b=>
 (orE b (some (p1==13))).bind fun c=>
 some c
 else
 (if (p0==12)=true then
 some (p0==12)
 else
 some (p0==10)).bind fun e=>
 if e=true then
 (orE (p1==10) (some (p1==11))).bind fun d=>
 some d
 else
 (if (p0==13)=true then
 some (p0==13)
 else
 some (p0==11)).bind fun f=>
 if f=true then
 some (p1==11)
 else
 some false
theorem tn (m:Own c0 G F) (b:Int) (a:Int) {r:Bool} (H:lJ b a=some r): Calls prog 270 #[I b,I a] c0.w (aQ c0 fun c v=>Own c G (F)∧v=B r):=by
 unfold lJ at H;refine en func270 rfl rfl (sr (va (B false) (wln (W.seq (sr (va (I b) (wln (W.block (sr (vv (B (b==9)) (wln (cn H (fun h1 H=>?_) (fun h1 H=>?_)))))))))))))
 ·refine W.seq (bn H fun i0 Z H=>bn H fun j0 A H=>bn H fun x p H=>W.join (Jn c0 fun c l=>Own c G (F)∧l= [(4,B x)]) ?_ ?_)
  ·clear H;refine W.region (va (I a) (va (B (a==9)) ?_));rcases bo (a==9) with n | n
   ·obtain rfl:=orT n Z;refine vb n (pz (va (B true) ?_));have h6:true=true:=rfl;obtain rfl:=orT h6 A;refine vb h6 (pz (va (B true) ?_));have h7:true=true:=rfl;obtain rfl:=orT h7 p;exact vb h7 (pz (vv (B true) (wln (jn c0 ⟨m,rfl⟩))))
   have H8:=orF n Z;refine vb n (wa (I a) (wa (B (a==10)) ?_));obtain rfl:=si H8;refine va (B (a==10)) ?_;rcases bo (a==10) with o | o
   ·obtain rfl:=orT o A;refine vb o (pz (va (B true) ?_));have t:true=true:=rfl;obtain rfl:=orT t p;exact vb t (pz (vv (B true) (wln (jn c0 ⟨m,rfl⟩))))
   have N:=orF o A;refine vb o (wa (I a) (wa (B (a==12)) ?_));obtain rfl:=si N;refine va (B (a==12)) ?_;rcases bo (a==12) with i | i
   ·obtain rfl:=orT i p;exact vb i (pz (vv (B true) (wln (jn c0 ⟨m,rfl⟩))))
   have P:=orF i p;refine vb i (wa (I a) (wa (B (a==13)) ?_));obtain rfl:=si P;exact vv (B (a==13)) (wln (jn c0 ⟨m,rfl⟩))
  rintro z D ⟨U,l0,_,rfl,s0,rfl,S,rfl⟩;refine nrm (W.ret (bkr (thr ?_)));obtain rfl:=si H;exact r1 (qq U ⟨S,rfl⟩)
 refine bn H fun E f d=>W.seqJ (Jn c0 fun c l=>Own c G (F)∧l= [(1,I a),(5,I b),(22,B E)]) ?_ ?_
 ·refine sr (vv (B (b==12)) (wln (cn f (fun a0 f=>?_) (fun a0 f=>?_))))
  ·refine W.skip (nrm ?_);obtain rfl:=si f;exact jn c0 ⟨m,rfl⟩
  refine W.region (vv (B (b==10)) (wln ?_));obtain rfl:=si f;exact jn c0 ⟨m,rfl⟩
 rintro z D ⟨e,m0,_,rfl,t0,rfl,k,rfl⟩;refine cn d (fun b0 d=>?_) (fun b0 d=>?_)
 ·refine W.seq (bn d fun y u d=>W.join (Jn e fun c l=>Own c G (F)∧l= [(4,B y)]) ?_ ?_)
  ·clear d;refine W.region (va (I a) (va (B (a==10)) ?_));rcases bo (a==10) with j | j
   ·obtain rfl:=orT j u;exact vb j (pz (vv (B true) (wln (jn e ⟨k,rfl⟩))))
   have R:=orF j u;refine vb j (wa (I a) (wa (B (a==11)) ?_));obtain rfl:=si R;exact vv (B (a==11)) (wln (jn e ⟨k,rfl⟩))
  rintro z D ⟨X,o0,_,rfl,u0,rfl,T,rfl⟩;refine nrm (W.ret (bkr (thr ?_)));obtain rfl:=si d;exact r1 (qq X ⟨T,rfl⟩)
 refine bn d fun M g h=>W.seqJ (Jn e fun c l=>Own c G (F)∧l= [(1,I a),(31,B M)]) ?_ ?_
 ·refine sr (vv (B (b==13)) (wln (cn g (fun d0 g=>?_) (fun d0 g=>?_))))
  ·refine W.skip (nrm ?_);obtain rfl:=si g;exact jn e ⟨k,rfl⟩
  refine W.region (vv (B (b==11)) (wln ?_));obtain rfl:=si g;exact jn e ⟨k,rfl⟩
 rintro z D ⟨s,q0,_,rfl,v0,rfl,q,rfl⟩;refine cn h (fun e0 h=>?_) (fun e0 h=>?_)
 ·refine sr (va (I a) (vv (B (a==11)) (wln (W.ret (bkr (thr ?_))))));obtain rfl:=si h;exact r1 (qq s ⟨q,rfl⟩)
 refine W.skip (bkn (nrm (sr (va (B false) (wln (W.ret ?_))))));obtain rfl:=si h;exact r1 (qq s ⟨q,rfl⟩)
def eW (p0:Int) (p1:Int):Option (Int):=
 (gM p0).bind fun b=>
 (gM p1).bind fun a=>
 (bL (b==1) (some (a==2))).bind fun e=>
 if e=true then
 some 1
 else
 (kP b).bind fun i=>
 (orE i ((kP a).bind fun j=>
 some j)).bind fun f=>
 if f=true then
 some 0
 else
 ((lJ b a).bind fun d=>
 if d=true then
 some (d)
 else
 if (a==4)=true then
 some (a==4)
 else
 if (a==5)=true then
 some (a==5)
 else
 if (a==8)=true then
 some (a==8)
 else
 some (b==7)).bind fun k=>
 if k=true then
 some 1
 else
 ((bL (a==0) ((orE (b==5) (some (b==4))).bind fun g=>
 some g)).bind fun c=>
 if c=true then
 some (c)
 else
 (bL (b==6) (some (a==6))).bind fun h=>
 some (h)).bind fun l=>
 if l=true then
 some 2
 else
 some 0
theorem xq (O0:Own c0 G F) (E:Int) (M:Int) {r:Int} (H:eW E M=some r): Calls prog 248 #[I E,I M] c0.w (aQ c0 fun c v=>Own c G (F)∧v=I r):=by
 unfold eW at H;refine en func248 rfl rfl (sr (va (I 0) (wln (sr (va (I E) (bn H fun b h1 H=>cl (qI O0 E h1) ?_))))));rintro v7 c6 l6 ⟨O3,rfl⟩;refine va (I M) (bn H fun a h8 H=>cl (qI O3 M h8) ?_);rintro v14 y c2 ⟨N,rfl⟩;refine va (I b) (va (I a) (wln (W.seq (W.block (W.seq (bn H fun g0 a0 H=>W.join (Jn y fun c l=>Own c G (F)∧l= [(0,I b),(1,I a),(9,B g0)]) ?_ ?_))))))
 ·clear H;refine W.region (va (I b) (va (B (b==1)) ?_));rcases bo (b==1) with k | k
  ·have q0:=anT k a0;refine vb k (wa (I a) (wa (B (a==2)) ?_));obtain rfl:=si q0;exact vv (B (a==2)) (wln (jn y ⟨N,rfl⟩))
  obtain rfl:=anF k a0;exact vb k (pz (vv (B false) (wln (jn y ⟨N,rfl⟩))))
 rintro z A ⟨U,v1,_,rfl,d2,rfl,P,rfl⟩;refine nrm (cn H (fun z0 H=>?_) (fun z0 H=>?_))
 ·refine sr (va (I 1) (wln (W.ret (bkr (thr ?_)))));obtain rfl:=si H;exact r1 (qq U ⟨P,rfl⟩)
 refine W.seq (bn H fun k0 a1 H=>bn H fun h0 b0 H=>W.join (Jn U fun c l=>Own c G (F)∧l= [(0,I b),(1,I a),(16,B h0)]) ?_ ?_)
 ·clear H;refine W.region (va (I b) (cl (pR P b a1) ?_));rintro v32 w0 e2 ⟨R,rfl⟩;rcases bo (k0) with m | m
  ·obtain rfl:=orT m b0;exact vb m (pz (vv (B true) (wln (jn w0 ⟨R,rfl⟩))))
  have u:=orF m b0;refine vb m (wa (I a) (wn (bn u fun D b1 u=>cl (pR R a b1) ?_)));rintro v41 x0 f2 ⟨u0,rfl⟩;obtain rfl:=si u;exact vv (B D) (wln (jn x0 ⟨u0,rfl⟩))
 rintro z A ⟨X,w1,_,rfl,g2,rfl,S,rfl⟩;refine nrm (cn H (fun c1 H=>?_) (fun c1 H=>?_))
 ·refine sr (va (I 0) (wln (W.ret (bkr (thr ?_)))));obtain rfl:=si H;exact r1 (qq X ⟨S,rfl⟩)
 refine bn H fun m0 d g=>W.seqJ (Jn X fun c l=>Own c G (F)∧l= [(0,I b),(1,I a),(23,B m0)]) ?_ ?_
 ·refine sr (va (I b) (va (I a) (bn d fun l0 d1 d=>cl (tn S b a d1) ?_)));rintro v57 j h2 ⟨i,rfl⟩;refine va (B l0) (wln (cn d (fun e1 d=>?_) (fun e1 d=>?_)))
  ·refine W.skip (nrm ?_);obtain rfl:=si d;exact jn j ⟨i,rfl⟩
  refine sr (va (I a) (vv (B (a==4)) (wln (cn d (fun f1 d=>?_) (fun f1 d=>?_)))))
  ·refine W.skip (nrm ?_);obtain rfl:=si d;exact jn j ⟨i,rfl⟩
  refine sr (va (I a) (vv (B (a==5)) (wln (cn d (fun g1 d=>?_) (fun g1 d=>?_)))))
  ·refine W.skip (nrm ?_);obtain rfl:=si d;exact jn j ⟨i,rfl⟩
  refine sr (va (I a) (vv (B (a==8)) (wln (cn d (fun i1 d=>?_) (fun i1 d=>?_)))))
  ·refine W.skip (nrm ?_);obtain rfl:=si d;exact jn j ⟨i,rfl⟩
  refine W.region (va (I b) (vv (B (b==7)) (wln ?_)));obtain rfl:=si d;exact jn j ⟨i,rfl⟩
 rintro z A ⟨f,x1,_,rfl,i2,rfl,s,rfl⟩;refine cn g (fun j1 g=>?_) (fun j1 g=>?_)
 ·refine sr (va (I 1) (wln (W.ret (bkr (thr ?_)))));obtain rfl:=si g;exact r1 (qq f ⟨s,rfl⟩)
 refine bn g fun o0 e h=>W.seqJ (Jn f fun c l=>Own c G (F)∧l= [(35,B o0)]) ?_ ?_
 ·refine W.seq (bn e fun i0 d0 e=>W.join (Jn f fun c l=>Own c G (F)∧l= [(0,I b),(1,I a),(35,B i0)]) ?_ ?_)
  ·clear e;refine W.region (va (I a) (va (B (a==0)) ?_));rcases bo (a==0) with n | n
   ·have q:=anT n d0;refine vb n (wa (I b) (wa (B (b==5)) (wn (bn q fun s1 e0 q=>?_))));rcases bo (b==5) with o | o
    ·obtain rfl:=orT o e0;refine vb o (pz (wa (B true) ?_));obtain rfl:=si q;exact vv (B true) (wln (jn f ⟨s,rfl⟩))
    have s0:=orF o e0;refine vb o (wa (I b) (wa (B (b==4)) (wn ?_)));obtain rfl:=si s0;refine va (B (b==4)) ?_;obtain rfl:=si q;exact vv (B (b==4)) (wln (jn f ⟨s,rfl⟩))
   obtain rfl:=anF n d0;exact vb n (pz (pz (pz (vv (B false) (wln (jn f ⟨s,rfl⟩))))))
  rintro z A ⟨t,y1,_,rfl,j2,rfl,x,rfl⟩;refine nrm (cn e (fun k1 e=>?_) (fun k1 e=>?_))
  ·refine W.skip (nrm ?_);obtain rfl:=si e;exact jn t ⟨x,rfl⟩
  refine bn e fun j0 f0 e=>W.join (Jn t fun c l=>Own c G (F)∧l= [(35,B j0)]) ?_ ?_
  ·clear e;refine W.region (va (I b) (va (B (b==6)) ?_));rcases bo (b==6) with p | p
   ·have t0:=anT p f0;refine vb p (wa (I a) (wa (B (a==6)) ?_));obtain rfl:=si t0;exact vv (B (a==6)) (wln (jn t ⟨x,rfl⟩))
   obtain rfl:=anF p f0;exact vb p (pz (vv (B false) (wln (jn t ⟨x,rfl⟩))))
  rintro z A ⟨y0,z1,_,rfl,k2,rfl,v0,rfl⟩;refine nrm ?_;obtain rfl:=si e;exact jn y0 ⟨v0,rfl⟩
 rintro z A ⟨Z,b2,_,rfl,l2,rfl,T,rfl⟩;refine cn h (fun m1 h=>?_) (fun m1 h=>?_)
 ·refine sr (va (I 2) (wln (W.ret (bkr (thr ?_)))));obtain rfl:=si h;exact r1 (qq Z ⟨T,rfl⟩)
 refine W.skip (bkn (nrm (sr (va (I 0) (wln (W.ret ?_))))));obtain rfl:=si h;exact r1 (qq Z ⟨T,rfl⟩)
def dr (p0:cB):Option (cB):=
 if true=true then
 some (⟨false,0,0,0,false⟩:cB)
 else
 some p0
theorem lg {a:Nat} {r0_0:Value} {r0_1:Value} {r0_2:Value} {r0_3:Value} {r0_4:Value} {r0_5:Value} {r0_11:Value} (b:cB) (e:Own c0 G ((Eb a 124 [r0_0,r0_1,r0_2,r0_3,r0_4,r0_5,B b.some,I b.last,I b.pict,I b.conj,B b.odd,r0_11]) :: F)) {r:cB} (H:dr b=some r):
    Calls prog 108 #[.pointer (some ⟨a,6,none⟩)] c0.w (aQ c0 fun c v=>Own c G ((Eb a 124 [r0_0,r0_1,r0_2,r0_3,r0_4,r0_5,B r.some,I r.last,I r.pict,I r.conj,B r.odd,r0_11]) :: F)∧v= .tuple #[]):=by
 unfold dr at H
 refine en func108 rfl rfl (sr (va (Qo a 6) (va (B true) (wln (W.cond (t:=true) (by kernel_rfl) (fun d=>?_) (fun d=>?_))))))
 ·have H:=it d H
  refine W.region (va (Qo a 6) (va (.agg #[B false,I 0,I 0,I 0,B false]) (va (Qo a 6) (md (sB 121 6 [B false,I 0,I 0,I 0,B false] [r0_0,r0_1,r0_2,r0_3,r0_4,r0_5,B false,I 0,I 0,I 0,B false,r0_11] 0 e ⟨rfl,rfl,rfl,rfl,rfl,trivial⟩) ?_))))
  rintro g h f
  refine WL.nil ?_
  obtain rfl:=si H
  exact n0 (qq g ⟨f,rfl⟩)
 cases d
def cZ (sg:Sto) (p0:Option Nat):Option (Sto):=
 if (!p0.isNone)=true then
 (p0).bind fun c=>
 (sg.feed_Feeder[c]?).bind fun a=>
 (sg.set_feed_Feeder c (⟨a.pen,a.dec,a.seg,(none:Option Nat)⟩:bz)).bind fun d=>
 (dr a.seg).bind fun e=>
 (d.set_feed_Feeder c (⟨a.pen,a.dec,e,(none:Option Nat)⟩:bz)).bind fun b=>
 some b
 else
 some sg
theorem gX (n:Own c0 G F) (i:Rel c0 sg G) (k:Option Nat) {r:Sto} (M:Pt 4 c0 v1 k) (H:cZ sg k=some r): Calls prog 74 #[v1] c0.w (aQ c0 fun c v=>∃G_:Gm,Own c G_ (F)∧Rel c r G_∧v= .tuple #[]):=by
 unfold cZ at H;refine en func74 rfl rfl (sr (va (v1) (vr (B (!k.isNone)) (by rcases (M).cs with ⟨f,g⟩ | ⟨b_,f,g⟩ <;> (subst f; rw [g]; kernel_rfl)) (wln (cn H (fun T H=>?_) (fun T H=>?_))))))
 ·refine sr (va (v1) (bn H fun g0 U H=>?_));obtain ⟨d,rfl,j⟩:=(M).get U;refine va (Q d) (va (Qo d 11) (bn H fun a X H=>?_));obtain ⟨v8,v10,A,R,e0⟩:=Rel.open_feed_Feeder i X j;refine md (gC 122 11 (.pointer none) [v8,I a.dec.held,I a.dec.needs,.int .u8 a.dec.lo,.int .u8 a.dec.hi,I a.dec.bits,B a.seg.some,I a.seg.last,I a.seg.pict,I a.seg.conj,B a.seg.odd,.pointer none] 0 n A ⟨rfl,trivial⟩) ?_;rintro d0 e o;refine bn H fun S E H=>?_;obtain ⟨Z,p,x,D,a0⟩:=Rel.put_feed_Feeder o (i.mono e) (E':=[(Eb d 124 [v8,I a.dec.held,I a.dec.needs,.int .u8 a.dec.lo,.int .u8 a.dec.hi,I a.dec.bits,B a.seg.some,I a.seg.last,I a.seg.pict,I a.seg.conj,B a.seg.odd,.pointer none])]) E ⟨d,v8,(.pointer none),(tm j),rfl,(R.mono e),rfl⟩;refine wln (W.region (vv (Q d) (va (Qo d 6) ?_)));have q:=p.borrow 0 D rfl;refine bn H fun b N H=>cl (lg a.seg q N) ?_;rintro v29 z h ⟨s,rfl⟩;have t:=s.giveB 0 rfl;refine bn H fun l P H=>?_;obtain ⟨m,u,y,f0,b0⟩:=Rel.put_feed_Feeder t (x.mono h) (E':=[(Eb d 124 [v8,I a.dec.held,I a.dec.needs,.int .u8 a.dec.lo,.int .u8 a.dec.hi,I a.dec.bits,B b.some,I b.last,I b.pict,I b.conj,B b.odd,.pointer none])]) P ⟨d,v8,(.pointer none),(tm j),rfl,(R.mono (e.trans h)),rfl⟩;refine WL.nil ?_;obtain rfl:=si H;exact n0 (qq z ⟨m,u,y,rfl⟩)
 refine W.skip ?_;obtain rfl:=si H;exact n0 (qq c0 ⟨G,n,i,rfl⟩)
def cR (p0:cB) (p1:aS):Option (Bool):=
 if (!p0.some)=true then
 some false
 else
 ((bL (p1.Conj==1) (some (p0.conj==2))).bind fun a=>
 if a=true then
 some (a)
 else
 (bL p1.Pict (some (p0.pict==2))).bind fun c=>
 some (c)).bind fun e=>
 if e=true then
 some true
 else
 (eW p0.last p1.Break).bind fun b=>
 if (b==1)=true then
 some true
 else
 if (b==2)=true then
 (bL (p0.last==6) (some p0.odd)).bind fun d=>
 some d
 else
 some false
theorem lf {b:Nat} {r0_0:Value} {r0_1:Value} {r0_2:Value} {r0_3:Value} {r0_4:Value} {r0_5:Value} {r0_11:Value} (a:cB) (e:aS) (O0:Own c0 G ((Eb b 124 [r0_0,r0_1,r0_2,r0_3,r0_4,r0_5,B a.some,I a.last,I a.pict,I a.conj,B a.odd,r0_11]) :: F)) {r:Bool} (H:cR a e=some r): Calls prog 213 #[.pointer (some ⟨b,6,none⟩),.agg #[I e.Break,B e.Pict,I e.Conj,I e.East]] c0.w (aQ c0 fun c v=>Own c G ((Eb b 124 [r0_0,r0_1,r0_2,r0_3,r0_4,r0_5,B a.some,I a.last,I a.pict,I a.conj,B a.odd,r0_11]) :: F)∧v=B r):=by
 unfold cR at H;refine en func213 rfl rfl (sr (me (bx 249 [I e.Break,B e.Pict,I e.Conj,I e.East] O0) ?_));rintro v5 s l4 ⟨p,rfl,q,M⟩;refine va (B false) (wln (W.seq (sr (vv (Qo b 6) (va (Qo b 6) (vx (le1 6 u_4 (q.on 0 rfl)) (va (B (!a.some)) (wln (cn H (fun h6 H=>?_) (fun h6 H=>?_))))))))))
 ·refine sr (va (B false) (wln (W.ret (thr ?_))));obtain rfl:=si H;exact r1 (qq s ⟨q,rfl⟩)
 refine W.skip (nrm (W.seq (W.block (bn H fun P f d=>W.seqJ (Jn s fun c l=>Own c G ((Eb b 124 [r0_0,r0_1,r0_2,r0_3,r0_4,r0_5,B a.some,I a.last,I a.pict,I a.conj,B a.odd,r0_11]) :: F)∧l= [(0,.pointer (some ⟨b,6,none⟩)),(3,Q p),(10,B P)]) ?_ ?_))))
 ·refine W.seq (bn f fun z h9 f=>W.join (Jn s fun c l=>Own c G ((Eb b 124 [r0_0,r0_1,r0_2,r0_3,r0_4,r0_5,B a.some,I a.last,I a.pict,I a.conj,B a.odd,r0_11]) :: F)∧l= [(0,.pointer (some ⟨b,6,none⟩)),(3,Q p),(10,B z)]) ?_ ?_)
  ·clear f;refine W.region (va (Qo p (0+2)) (vx (l1 u_3 (M 2 _ rfl)) (va (B (e.Conj==1)) ?_)));rcases bo (e.Conj==1) with j | j
   ·have R:=anT j h9;refine vb j (wa (Qo b 6) (wa (Qo b 6) (wa (Qo b 9) (wn (vx (le1 9 u_3 (q.on 0 rfl)) (wa (B (a.conj==2)) ?_))))));obtain rfl:=si R;exact vv (B (a.conj==2)) (wln (jn s ⟨q,rfl⟩))
   obtain rfl:=anF j h9;exact vb j (pz (pz (ps (vv (B false) (wln (jn s ⟨q,rfl⟩))))))
  rintro E N ⟨o,u0,_,rfl,y0,rfl,n,rfl⟩;refine nrm (cn f (fun e0 f=>?_) (fun e0 f=>?_))
  ·refine W.skip (nrm ?_);obtain rfl:=si f;exact jn o ⟨n,rfl⟩
  refine bn f fun A x f=>W.join (Jn o fun c l=>Own c G ((Eb b 124 [r0_0,r0_1,r0_2,r0_3,r0_4,r0_5,B a.some,I a.last,I a.pict,I a.conj,B a.odd,r0_11]) :: F)∧l= [(0,.pointer (some ⟨b,6,none⟩)),(3,Q p),(10,B A)]) ?_ ?_
  ·clear f;refine W.region (va (Qo p (0+1)) (vx (l1 u_4 ((mm M) 1 _ rfl)) ?_));rcases bo (e.Pict) with k | k
   ·have S:=anT k x;refine vb k (wa (Qo b 6) (wa (Qo b 6) (wa (Qo b 8) (wn (vx (le1 8 u_3 (n.on 0 rfl)) (wa (B (a.pict==2)) ?_))))));obtain rfl:=si S;exact vv (B (a.pict==2)) (wln (jn o ⟨n,rfl⟩))
   obtain rfl:=anF k x;exact vb k (pz (pz (ps (vv (B false) (wln (jn o ⟨n,rfl⟩))))))
  rintro E N ⟨Z,v0,_,rfl,z0,rfl,U,rfl⟩;refine nrm ?_;obtain rfl:=si f;exact jn Z ⟨U,rfl⟩
 rintro E N ⟨a0,w0,_,rfl,a1,rfl,t,rfl⟩;refine cn d (fun f0 d=>?_) (fun f0 d=>?_)
 ·refine sr (va (B true) (wln (W.ret (bkr (thr ?_)))));obtain rfl:=si d;exact r1 (qq a0 ⟨t,rfl⟩)
 refine W.skip (bkn (nrm (W.seq (W.seq (rD [] (Kp G0 [(Eb b 124 [r0_0,r0_1,r0_2,r0_3,r0_4,r0_5,B a.some,I a.last,I a.pict,I a.conj,B a.odd,r0_11])]) t ?_)))));intro b0 c1 u;have l0:Kp G0 [(Eb b 124 [r0_0,r0_1,r0_2,r0_3,r0_4,r0_5,B a.some,I a.last,I a.pict,I a.conj,B a.odd,r0_11])] b0:=(Kp.cons (u.on 0 rfl) Kp.nil0);refine ta 0 (.pointer (some ⟨b,6,none⟩)) (ta 1 (Qo b 6) (ta 2 (Qo b 7) (tkx 3 l0 (fun c' k0 hk=>le1 7 u_3 (hk.on 0 rfl)) (ta 4 (Q p) (tx 5 (fun c' k0=>l1 u_3 ((mm M) 0 _ rfl)) (bn d fun i g0 d=>o1 6 (gc 6 (xq u a.last e.Break g0) ?_)))))));rintro v44 h d1 ⟨g,rfl⟩;have m0:Kp G0 [(Eb b 124 [r0_0,r0_1,r0_2,r0_3,r0_4,r0_5,B a.some,I a.last,I a.pict,I a.conj,B a.odd,r0_11])] h:=(Kp.cons (g.on 0 rfl) Kp.nil0);refine ⟨.inr m0,dn (nrm (W.block (sr (vv (B (i==1)) (wln (cn d (fun h0 d=>?_) (fun h0 d=>?_)))))))⟩
 ·refine sr (va (B true) (wln (W.ret (bkr (thr ?_)))));obtain rfl:=si d;exact r1 (qq h ⟨g,rfl⟩)
 refine sr (vv (B (i==2)) (wln (cn d (fun i0 d=>?_) (fun i0 d=>?_))))
 ·refine W.seq (bn d fun D y d=>W.join (Jn h fun c l=>Own c G ((Eb b 124 [r0_0,r0_1,r0_2,r0_3,r0_4,r0_5,B a.some,I a.last,I a.pict,I a.conj,B a.odd,r0_11]) :: F)∧l= [(4,B D)]) ?_ ?_)
  ·clear d;refine W.region (vv (Qo b 6) (va (Qo b 7) (vx (le1 7 u_3 (g.on 0 rfl)) (va (B (a.last==6)) ?_))));rcases bo (a.last==6) with m | m
   ·have T:=anT m y;refine vb m (wa (Qo b 6) (wa (Qo b 6) (wa (Qo b 10) (wn (vx (le1 10 u_4 (g.on 0 rfl)) ?_)))));obtain rfl:=si T;exact vv (B a.odd) (wln (jn h ⟨g,rfl⟩))
   obtain rfl:=anF m y;exact vb m (pz (pz (vv (B false) (wln (jn h ⟨g,rfl⟩)))))
  rintro E N ⟨d0,x0,_,rfl,e1,rfl,X,rfl⟩;refine nrm (W.ret (bkr (thr ?_)));obtain rfl:=si d;exact r1 (qq d0 ⟨X,rfl⟩)
 refine W.skip (bkn (nrm (sr (va (B false) (wln (W.ret ?_))))));obtain rfl:=si d;exact r1 (qq h ⟨g,rfl⟩)
def cI (p0:cB) (p1:aS):Option (Int):=
 if p1.Pict=true then
 some 1
 else
 (bL (p0.pict==1) (some (p1.Break==4))).bind fun a=>
 if a=true then
 some 1
 else
 (bL (p0.pict==1) (some (p1.Break==5))).bind fun b=>
 if b=true then
 some 2
 else
 some 0
theorem kx {b:Nat} {r0_0:Value} {r0_1:Value} {r0_2:Value} {r0_3:Value} {r0_4:Value} {r0_5:Value} {r0_11:Value} (a:cB) (d:aS) (A:Own c0 G ((Eb b 124 [r0_0,r0_1,r0_2,r0_3,r0_4,r0_5,B a.some,I a.last,I a.pict,I a.conj,B a.odd,r0_11]) :: F)) {r:Int} (H:cI a d=some r): Calls prog 214 #[.pointer (some ⟨b,6,none⟩),.agg #[I d.Break,B d.Pict,I d.Conj,I d.East]] c0.w (aQ c0 fun c v=>Own c G ((Eb b 124 [r0_0,r0_1,r0_2,r0_3,r0_4,r0_5,B a.some,I a.last,I a.pict,I a.conj,B a.odd,r0_11]) :: F)∧v=I r):=by
 unfold cI at H;refine en func214 rfl rfl (sr (me (bx 249 [I d.Break,B d.Pict,I d.Conj,I d.East] A) ?_));rintro v5 k T ⟨j,rfl,i,s⟩;refine va (I 0) (wln (W.seq (W.block (sr (va (Qo j (0+1)) (vx (l1 u_4 (s 1 _ rfl)) (va (B d.Pict) (wln (cn H (fun E H=>?_) (fun E H=>?_))))))))))
 ·refine sr (va (I 1) (wln (W.ret (bkr (thr ?_)))));obtain rfl:=si H;exact r1 (qq k ⟨i,rfl⟩)
 refine W.seq (bn H fun p y H=>W.join (Jn k fun c l=>Own c G ((Eb b 124 [r0_0,r0_1,r0_2,r0_3,r0_4,r0_5,B a.some,I a.last,I a.pict,I a.conj,B a.odd,r0_11]) :: F)∧l= [(0,.pointer (some ⟨b,6,none⟩)),(3,Q j),(8,B p)]) ?_ ?_)
 ·clear H;refine W.region (vv (Qo b 6) (va (Qo b 8) (vx (le1 8 u_3 (i.on 0 rfl)) (va (B (a.pict==1)) ?_))));rcases bo (a.pict==1) with h | h
  ·have z:=anT h y;refine vb h (wa (Q j) (wn (vx (l1 u_3 (s 0 _ rfl)) (wa (B (d.Break==4)) ?_))));obtain rfl:=si z;exact vv (B (d.Break==4)) (wln (jn k ⟨i,rfl⟩))
  obtain rfl:=anF h y;exact vb h (pz (ps (vv (B false) (wln (jn k ⟨i,rfl⟩)))))
 rintro D M ⟨g,N,_,rfl,R,rfl,f,rfl⟩;refine nrm (cn H (fun u H=>?_) (fun u H=>?_))
 ·refine sr (va (I 1) (wln (W.ret (bkr (thr ?_)))));obtain rfl:=si H;exact r1 (qq g ⟨f,rfl⟩)
 refine W.seq (bn H fun q o H=>W.join (Jn g fun c l=>Own c G ((Eb b 124 [r0_0,r0_1,r0_2,r0_3,r0_4,r0_5,B a.some,I a.last,I a.pict,I a.conj,B a.odd,r0_11]) :: F)∧l= [(19,B q)]) ?_ ?_)
 ·clear H;refine W.region (vv (Qo b 6) (va (Qo b 8) (vx (le1 8 u_3 (f.on 0 rfl)) (va (B (a.pict==1)) ?_))));rcases bo (a.pict==1) with e | e
  ·have t:=anT e o;refine vb e (wa (Q j) (wn (vx (l1 u_3 ((mm s) 0 _ rfl)) (wa (B (d.Break==5)) ?_))));obtain rfl:=si t;exact vv (B (d.Break==5)) (wln (jn g ⟨f,rfl⟩))
  obtain rfl:=anF e o;exact vb e (pz (ps (vv (B false) (wln (jn g ⟨f,rfl⟩)))))
 rintro D M ⟨n,P,_,rfl,S,rfl,m,rfl⟩;refine nrm (cn H (fun x H=>?_) (fun x H=>?_))
 ·refine sr (va (I 2) (wln (W.ret (bkr (thr ?_)))));obtain rfl:=si H;exact r1 (qq n ⟨m,rfl⟩)
 refine W.skip (bkn (nrm (sr (va (I 0) (wln (W.ret ?_))))));obtain rfl:=si H;exact r1 (qq n ⟨m,rfl⟩)
def cy (p0:cB) (p1:aS):Option (Int):=
 if (p1.Conj==1)=true then
 some 1
 else
 if (p0.conj==0)=true then
 some 0
 else
 if (p1.Conj==2)=true then
 some 2
 else
 if (p1.Conj==3)=true then
 some p0.conj
 else
 some 0
theorem kf {b:Nat} {r0_0:Value} {r0_1:Value} {r0_2:Value} {r0_3:Value} {r0_4:Value} {r0_5:Value} {r0_11:Value} (d:cB) (a:aS) (i:Own c0 G ((Eb b 124 [r0_0,r0_1,r0_2,r0_3,r0_4,r0_5,B d.some,I d.last,I d.pict,I d.conj,B d.odd,r0_11]) :: F)) {r:Int} (H:cy d a=some r): Calls prog 215 #[.pointer (some ⟨b,6,none⟩),.agg #[I a.Break,B a.Pict,I a.Conj,I a.East]] c0.w (aQ c0 fun c v=>Own c G ((Eb b 124 [r0_0,r0_1,r0_2,r0_3,r0_4,r0_5,B d.some,I d.last,I d.pict,I d.conj,B d.odd,r0_11]) :: F)∧v=I r):=by
 unfold cy at H;refine en func215 rfl rfl (sr (me (bx 249 [I a.Break,B a.Pict,I a.Conj,I a.East] i) ?_));rintro v5 f n ⟨g,rfl,e,h⟩;refine va (I 0) (wln (W.seq (W.block (sr (va (Qo g (0+2)) (vx (l1 u_3 (h 2 _ rfl)) (vv (B (a.Conj==1)) (wln (cn H (fun j H=>?_) (fun j H=>?_))))))))))
 ·refine sr (va (I 1) (wln (W.ret (bkr (thr ?_)))));obtain rfl:=si H;exact r1 (qq f ⟨e,rfl⟩)
 refine sr (vv (Qo b 6) (va (Qo b 9) (vx (le1 9 u_3 (e.on 0 rfl)) (vv (B (d.conj==0)) (wln (cn H (fun k H=>?_) (fun k H=>?_)))))))
 ·refine sr (va (I 0) (wln (W.ret (bkr (thr ?_)))));obtain rfl:=si H;exact r1 (qq f ⟨e,rfl⟩)
 refine sr (va (Qo g (0+2)) (vx (l1 u_3 (h 2 _ rfl)) (vv (B (a.Conj==2)) (wln (cn H (fun l H=>?_) (fun l H=>?_))))))
 ·refine sr (va (I 2) (wln (W.ret (bkr (thr ?_)))));obtain rfl:=si H;exact r1 (qq f ⟨e,rfl⟩)
 refine sr (va (Qo g (0+2)) (vx (l1 u_3 (h 2 _ rfl)) (vv (B (a.Conj==3)) (wln (cn H (fun m H=>?_) (fun m H=>?_))))))
 ·refine sr (vv (Qo b 6) (va (Qo b 9) (vx (le1 9 u_3 (e.on 0 rfl)) (va (I d.conj) (wln (W.ret (bkr (thr ?_))))))));obtain rfl:=si H;exact r1 (qq f ⟨e,rfl⟩)
 refine W.skip (bkn (nrm (sr (va (I 0) (wln (W.ret ?_))))));obtain rfl:=si H;exact r1 (qq f ⟨e,rfl⟩)
def cX (p0:cB) (p1:aS):Option (cB×Bool):=
 if false=true then
 some (p0,false)
 else
 (cR p0 p1).bind fun d=>
 (cI p0 p1).bind fun e=>
 (cy p0 p1).bind fun f=>
 (bL (p1.Break==6) ((bL p0.some (some (p0.last==6))).bind fun b=>
 (bL b (some p0.odd)).bind fun c=>
 some (!c))).bind fun a=>
 some ((⟨true,p1.Break,e,f,a⟩:cB),d)
theorem lx {a:Nat} {r0_0:Value} {r0_1:Value} {r0_2:Value} {r0_3:Value} {r0_4:Value} {r0_5:Value} {r0_11:Value} (b:cB) (f:aS) (O0:Own c0 G ((Eb a 124 [r0_0,r0_1,r0_2,r0_3,r0_4,r0_5,B b.some,I b.last,I b.pict,I b.conj,B b.odd,r0_11]) :: F)) {r:cB×Bool} (H:cX b f=some r): Calls prog 168 #[.pointer (some ⟨a,6,none⟩),.agg #[I f.Break,B f.Pict,I f.Conj,I f.East]] c0.w (aQ c0 fun c v=>Own c G ((Eb a 124 [r0_0,r0_1,r0_2,r0_3,r0_4,r0_5,B r.1.some,I r.1.last,I r.1.pict,I r.1.conj,B r.1.odd,r0_11]) :: F)∧v=B r.2):=by
 unfold cX at H;refine en func168 rfl rfl (sr (me (bx 249 [I f.Break,B f.Pict,I f.Conj,I f.East] O0) ?_));rintro v5 c4 l4 ⟨A,rfl,O2,o⟩;refine va (B false) (wln (W.seq (sr (va (Qo a 6) (va (B false) (wln (W.cond (t:=false) (by kernel_rfl) (fun E=>?_) (fun E=>?_))))))))
 ·cases E
 have H:=ie E H;refine W.skip (nrm (sr (va (Qo a 6) (vx (lN 249 o) (bn H fun i h8 H=>cl (lf b f O2 h8) ?_)))));rintro v14 j1 n1 ⟨P,rfl⟩;refine va (B i) (wln (W.seq (rD [] (Kp G0 []) P ?_)));intro i0 q1 R;have f2:Kp G0 [] i0:=Kp.nil0;refine ta 0 (.pointer (some ⟨a,6,none⟩)) (ta 1 (Qo a 6) (ta 2 (Qo a 6) (tx 3 (fun c' z=>lN 249 (mm o)) (ta 5 (Qo a 6) (tx 6 (fun c' z=>lN 249 (mm o)) (bn H fun d v0 H=>o1 4 (gc 4 (kx b f R v0) ?_)))))));rintro v25 j0 s1 ⟨S,rfl⟩;have y0:Kp G0 [] j0:=Kp.nil0;refine ⟨.inr y0,bn H fun e w0 H=>o1 7 (gc 7 (kf b f S w0) ?_)⟩;rintro v34 k0 t1 ⟨T,rfl⟩;have z0:Kp G0 [] k0:=Kp.nil0;refine ⟨.inr z0,ta 8 (.pointer (some ⟨a,6,none⟩)) (ta 9 (Qo a 8) (o1 10 (gD 10 (sC 3 8 (I d) [r0_0,r0_1,r0_2,r0_3,r0_4,r0_5,B b.some,I b.last,I d,I b.conj,B b.odd,r0_11] 0 T ⟨rfl,trivial⟩) ?_)))⟩;rintro l0 u1 U;have a1:Kp G0 [] l0:=Kp.nil0;refine ⟨.inr a1,ta 11 (.pointer (some ⟨a,6,none⟩)) (ta 12 (Qo a 9) (o1 13 (gD 13 (sC 3 9 (I e) [r0_0,r0_1,r0_2,r0_3,r0_4,r0_5,B b.some,I b.last,I d,I e,B b.odd,r0_11] 0 U ⟨rfl,trivial⟩) ?_)))⟩;rintro p v1 h;have c1:Kp G0 [] p:=Kp.nil0;refine ⟨.inr c1,dn (nrm (W.seq (bn H fun n s H=>W.join (Jn p fun c l=>Own c G ((Eb a 124 [r0_0,r0_1,r0_2,r0_3,r0_4,r0_5,B b.some,I b.last,I d,I e,B n,r0_11]) :: F)∧l= [(0,.pointer (some ⟨a,6,none⟩)),(3,Q A),(5,B i)]) ?_ ?_)))⟩
 ·clear H;refine W.region (va (Qo a 6) (va (Q A) (vx (l1 u_3 ((mm o) 0 _ rfl)) (va (B (f.Break==6)) ?_))));rcases bo (f.Break==6) with j | j
  ·have g:=anT j s;refine vb j (wa (Qo a 6) (wa (Qo a 6) (wa (Qo a 6) (wn (vx (le1 6 u_4 (h.on 0 rfl)) (wn (bn g fun h1 u g=>?_)))))));rcases bo (b.some) with k | k
   ·have M:=anT k u;refine vb k (wa (Qo a 6) (wa (Qo a 6) (wa (Qo a 7) (wn (vx (le1 7 u_3 (h.on 0 rfl)) (wa (B (b.last==6)) (wn ?_)))))));obtain rfl:=si M;refine va (B (b.last==6)) (wn (bn g fun D x g=>?_));rcases bo (b.last==6) with m | m
    ·have N:=anT m x;refine vb m (wa (Qo a 6) (wa (Qo a 6) (wa (Qo a 10) (wn (vx (le1 10 u_4 (h.on 0 rfl)) (wn ?_))))));obtain rfl:=si N;refine va (B b.odd) (wa (B (!b.odd)) ?_);obtain rfl:=si g;refine va (B (!b.odd)) (va (Qo a 6) (va (Qo a 10) (md (sC 4 10 (B (!b.odd)) [r0_0,r0_1,r0_2,r0_3,r0_4,r0_5,B b.some,I b.last,I d,I e,B (!b.odd),r0_11] 0 h ⟨rfl,trivial⟩) ?_)));rintro m0 w1 X;exact wln (jn m0 ⟨X,rfl⟩)
    obtain rfl:=anF m x;refine vb m (pz (pz (wa (B false) (wa (B (!false)) ?_))));obtain rfl:=si g;refine va (B (!false)) (va (Qo a 6) (va (Qo a 10) (md (sC 4 10 (B (!false)) [r0_0,r0_1,r0_2,r0_3,r0_4,r0_5,B b.some,I b.last,I d,I e,B (!false),r0_11] 0 h ⟨rfl,trivial⟩) ?_)));rintro o0 x1 Z;exact wln (jn o0 ⟨Z,rfl⟩)
   obtain rfl:=anF k u;refine vb k (pz (pz (ps (wa (B false) (wn (bn g fun D x0 g=>?_))))));have y:false=false:=rfl;obtain rfl:=anF y x0;refine vb y (pz (pz (wa (B false) (wa (B (!false)) ?_))));obtain rfl:=si g;refine va (B (!false)) (va (Qo a 6) (va (Qo a 10) (md (sC 4 10 (B (!false)) [r0_0,r0_1,r0_2,r0_3,r0_4,r0_5,B b.some,I b.last,I d,I e,B (!false),r0_11] 0 h ⟨rfl,trivial⟩) ?_)));rintro q0 y1 a0;exact wln (jn q0 ⟨a0,rfl⟩)
  obtain rfl:=anF j s;refine vb j (pz (pz (pz (pz (pz (pz (pz (pz (pz (va (B false) (va (Qo a 6) (va (Qo a 10) (md (sC 4 10 (B false) [r0_0,r0_1,r0_2,r0_3,r0_4,r0_5,B b.some,I b.last,I d,I e,B false,r0_11] 0 h ⟨rfl,trivial⟩) ?_)))))))))))));rintro s0 z1 b0;exact wln (jn s0 ⟨b0,rfl⟩)
 rintro e_ w_ ⟨k1,m1,_,rfl,b2,rfl,d0,rfl⟩;refine nrm (W.seq (rD [] (Kp G0 []) d0 ?_));intro t0 c2 e0;have g2:Kp G0 [] t0:=Kp.nil0;refine ta 0 (.pointer (some ⟨a,6,none⟩)) (ta 1 (Qo a 6) (ta 2 (Q A) (tx 3 (fun c' z=>l1 u_3 ((mm o) 0 _ rfl)) (ta 4 (Qo a 6) (ta 5 (Qo a 6) (o1 6 (gD 6 (sC 4 6 (B true) [r0_0,r0_1,r0_2,r0_3,r0_4,r0_5,B true,I b.last,I d,I e,B n,r0_11] 0 e0 ⟨rfl,trivial⟩) ?_)))))));rintro u0 d2 f0;have d1:Kp G0 [] u0:=Kp.nil0;refine ⟨.inr d1,ta 7 (.pointer (some ⟨a,6,none⟩)) (ta 8 (Qo a 7) (o1 9 (gD 9 (sC 3 7 (I f.Break) [r0_0,r0_1,r0_2,r0_3,r0_4,r0_5,B true,I f.Break,I d,I e,B n,r0_11] 0 f0 ⟨rfl,trivial⟩) ?_)))⟩;rintro q e2 g0;have e1:Kp G0 [] q:=Kp.nil0;refine ⟨.inr e1,dn (nrm (sr (vv (B i) (wln (W.ret ?_)))))⟩;obtain rfl:=si H;exact r1 (qq q ⟨g0,rfl⟩)
def fq (sg:Sto) (p0:Option Nat) (p1:Int):Option (Sto):=
 (iB p1).bind fun s=>
 if s=true then
 (cZ sg p0).bind fun k=>
 (p0).bind fun r=>
 (k.feed_Feeder[r]?).bind fun n=>
 (nY k n.pen p1).bind fun p=>
 some p.1
 else
 (pA p1).bind fun e=>
 (p0).bind fun h=>
 (sg.feed_Feeder[h]?).bind fun a=>
 (cX a.seg e).bind fun j=>
 (sg.set_feed_Feeder h (⟨a.pen,a.dec,j.1,a.open_⟩:bz)).bind fun b=>
 (bL j.2 (some (!a.open_.isNone))).bind fun l=>
 if l=true then
 (p0).bind fun m=>
 (b.feed_Feeder[m]?).bind fun i=>
 (du b i.open_ i.pen p1 e).bind fun q=>
 some q.1
 else
 (p0).bind fun c=>
 (b.feed_Feeder[c]?).bind fun o=>
 (jX b o.pen p1 e).bind fun f=>
 (f.1.feed_Feeder[c]?).bind fun d=>
 (f.1.set_feed_Feeder c (⟨d.pen,d.dec,d.seg,f.2⟩:bz)).bind fun g=>
 some g
theorem qv (O0:Own c0 G F) (R0:Rel c0 sg G) (hG:Gl [3,7] c0) (p0:Option Nat) (f:Int) {r:Sto} (U:Pt 4 c0 v1 p0) (H:fq sg p0 f=some r): Calls prog 136 #[v1,J f] c0.w (aQ c0 fun c v=>∃G_:Gm,Own c G_ (F)∧Rel c r G_∧v= .tuple #[]):=by
 unfold fq at H;refine en func136 rfl rfl (W.seq (sr (va (J f) (bn H fun f5 h3 H=>cl (pV O0 f h3) ?_))));rintro v9 c8 N ⟨O5,rfl⟩;refine wln (cn H (fun x2 H=>?_) (fun x2 H=>?_))
 ·refine sr (va (v1) (bn H fun g5 y2 H=>cl (gX O5 R0.m p0 U.m y2) ?_));rintro v17 u4 l16 ⟨s4,g0,j0,rfl⟩;refine wln (sr (va (v1) (bn H fun a5 a3 H=>?_)));obtain ⟨l0,rfl,z2⟩:=((U.mono (N.trans l16))).get a3;refine vv (Q l0) (bn H fun z1 b3 H=>?_);obtain ⟨v22,v24,d3,c3,z4⟩:=Rel.open_feed_Feeder j0 b3 z2;refine vx (le1 0 xO (g0.gon d3 0 rfl)) (va (J f) (bn H fun p4 e3 H=>cl (BO g0 j0 z1.pen f c3 e3) ?_));rintro v33 t2 b5 ⟨e2,i2,s2,rfl⟩;refine wln (W.ret (thr ?_));obtain rfl:=si H;exact r0 (qq t2 ⟨e2,i2,s2,rfl⟩)
 refine W.skip (nrm (sr (va (J f) (bn H fun a f3 H=>cl (Do O5 f f3) ?_))));rintro v40 v4 s ⟨j2,rfl⟩;refine me (al 249 [I 0,B false,I 0,I 0] j2) ?_;rintro v44 w4 t ⟨h,rfl,k2⟩;refine md (sA 249 [I a.Break,B a.Pict,I a.Conj,I a.East] 0 k2 ⟨rfl,rfl,rfl,rfl,trivial⟩) ?_;rintro u2 u l2;refine wln (W.seq (W.seq (bn H fun f4 g3 H=>bn H fun d i3 H=>bn H fun g j3 H=>bn H fun P k3 H=>bn H fun k1 s0 H=>W.join (Jn u2 fun c l=>∃G_,Own c G_ ((Eb h 249 [I a.Break,B a.Pict,I a.Conj,I a.East]) :: F)∧l= [(0,v1),(1,J f),(4,Q h),(28,B k1)]∧Rel c P G_) ?_ ?_)))
 ·clear H;refine rD [4,9] (Kp G0 [(Eb h 249 [I a.Break,B a.Pict,I a.Conj,I a.East])]) l2 ?_;intro v2 Z h0;have w3:Kp G0 [(Eb h 249 [I a.Break,B a.Pict,I a.Conj,I a.East])] v2:=(Kp.cons (h0.on 0 rfl) Kp.nil0);refine ta 0 (v1) ?_;obtain ⟨j,rfl,t0⟩:=((U.mono (N.trans (s.trans (t.trans (u.trans Z)))))).get g3;refine ta 1 (Q j) (ta 2 (Qo j 6) (tkx 3 w3 (fun p i k=>leN 249 0 [I a.Break,B a.Pict,I a.Conj,I a.East] (k.on 0 rfl)) ?_));obtain ⟨v57,v59,m3,l3,u0⟩:=Rel.open_feed_Feeder (R0.mono (N.trans (s.trans (t.trans (u.trans Z))))) i3 t0;have n2:=h0.borrow 0 m3 rfl;refine o1 4 (gc 4 (lx d.seg a n2 j3) ?_);rintro c5 m0 a0 ⟨o2,rfl⟩;have p2:=o2.giveB 0 rfl;obtain ⟨f0,R,k0,n3,t4⟩:=Rel.put_feed_Feeder p2 (R0.mono (N.trans (s.trans (t.trans (u.trans (Z.trans a0)))))) (E':=[(Eb j 124 [v57,I d.dec.held,I d.dec.needs,.int .u8 d.dec.lo,.int .u8 d.dec.hi,I d.dec.bits,B g.1.some,I g.1.last,I g.1.pict,I g.1.conj,B g.1.odd,v59])]) k3 ⟨j,v57,v59,(tm t0),rfl,(l3.mono a0),(u0.mono a0)⟩;refine ⟨.inl rfl,?_⟩;rcases bo (g.2) with q | q
  ·have g2:=anT q s0;refine AC.takeb 5 q rfl (by kernel_rfl) (by kernel_rfl) (fun p i=>(by kernel_rfl)) (ta 6 (Q j) (ta 7 (Q j) (ta 8 (Qo j 11) (o1 9 (gl 9 (le1 11 underlying122 (R.gon n3 0 rfl)) (AC.take 10 (B (!d.open_.isNone)) rfl (by kernel_rfl) (by kernel_rfl) (fun p i=>(by rcases u0.m.cs with ⟨o0,q0⟩ | ⟨b_,o0,q0⟩ <;> (subst o0; rw [q0]; kernel_rfl))) ?_))))));obtain rfl:=si g2;exact ta 11 (B (!d.open_.isNone)) (dn (nrm (jn m0 ⟨f0,R,rfl,k0⟩)))
  obtain rfl:=anF q s0;exact AC.takeb 5 q rfl (by kernel_rfl) (by kernel_rfl) (fun p i=>(by kernel_rfl)) (tp 6 (tp 7 (tp 8 (tp 9 (tp 10 (ta 11 (B false) (dn (nrm (jn m0 ⟨f0,R,rfl,k0⟩)))))))))
 rintro e_ w_ ⟨x4,y4,_,rfl,w0,rfl,E,i0,rfl,M⟩;refine nrm (cn H (fun o3 H=>?_) (fun o3 H=>?_))
 ·refine W.seq (rD [10] (Kp E [(Eb h 249 [I a.Break,B a.Pict,I a.Conj,I a.East])]) i0 ?_);intro w2 x0 S;have e0:Kp E [(Eb h 249 [I a.Break,B a.Pict,I a.Conj,I a.East])] w2:=(Kp.cons (S.on 0 rfl) (Kp.nil S));refine ta 0 (v1) (bn H fun g4 q3 H=>?_);obtain ⟨o,rfl,p3⟩:=((U.mono (N.trans (s.trans (t.trans (u.trans (w0.trans x0))))))).get q3;refine ta 1 (Q o) (ta 2 (Qo o 11) (bn H fun b0 s3 H=>?_));obtain ⟨d5,e5,v0,t3,u3⟩:=Rel.open_feed_Feeder (M.mono x0) s3 p3;refine tkx 3 e0 (fun p i k=>le1 11 underlying122 (k.gon v0 0 rfl)) (ta 4 (Q o) (ta 5 (Q o) (ta 6 (Q o) (tkx 7 e0 (fun p i k=>le1 0 xO (k.gon v0 0 rfl)) (ta 8 (J f) (tkx 9 e0 (fun p i k=>leN 249 0 [I a.Break,B a.Pict,I a.Conj,I a.East] (k.on 0 rfl)) (bn H fun q4 v3 H=>o1 10 (gc 10 (pI S M.m (hG.m.le (by decide)) b0.open_ b0.pen f a u3 t3 v3) ?_))))))));rintro k4 h1 i4 ⟨f2,q2,f1,rfl⟩;refine ⟨.inl rfl,dn (nrm (W.ret (thr ?_)))⟩;obtain rfl:=si H;have z0:=q2.sD 1 [];exact r0 (qq h1 ⟨f2,z0,f1,rfl⟩)
 refine W.skip (nrm (rD [7,10] (Kp E [(Eb h 249 [I a.Break,B a.Pict,I a.Conj,I a.East])]) i0 ?_));intro i1 X x;have d0:Kp E [(Eb h 249 [I a.Break,B a.Pict,I a.Conj,I a.East])] i1:=(Kp.cons (x.on 0 rfl) (Kp.nil x));refine ta 0 (v1) (ta 1 (v1) (bn H fun h4 m1 H=>?_));obtain ⟨e,rfl,y⟩:=((U.mono (N.trans (s.trans (t.trans (u.trans (w0.trans X))))))).get m1;refine ta 2 (Q e) (ta 3 (Q e) (bn H fun b2 n1 H=>?_));obtain ⟨l4,m4,s1,q1,b4⟩:=Rel.open_feed_Feeder (M.mono X) n1 y;refine tkx 4 d0 (fun p i k=>le1 0 xO (k.gon s1 0 rfl)) (ta 5 (J f) (tkx 6 d0 (fun p i k=>leN 249 0 [I a.Break,B a.Pict,I a.Conj,I a.East] (k.on 0 rfl)) (bn H fun r4 t1 H=>o1 7 (gc 7 (vO x M.m (hG.m.le (by decide)) b2.pen f a q1 t1) ?_))));rintro n4 a4 j4 ⟨_,x3,a1,T,rfl,z⟩;refine ⟨.inl rfl,ta 8 (Q e) (ta 9 (Qo e 11) ?_)⟩;obtain ⟨n,rfl⟩:=(z).form;refine bn H fun b u1 H=>?_;obtain ⟨D,o4,x1,w1,c4⟩:=Rel.open_feed_Feeder T u1 (tm y);refine o1 10 (gD 10 (gC 122 11 (.pointer n) [D,I b.dec.held,I b.dec.needs,.int .u8 b.dec.lo,.int .u8 b.dec.hi,I b.dec.bits,B b.seg.some,I b.seg.last,I b.seg.pict,I b.seg.conj,B b.seg.odd,.pointer n] 0 a1 x1 ⟨z.one,trivial⟩) ?_);rintro j1 A b1;refine bn H fun d2 y1 H=>?_;obtain ⟨y0,c1,g1,d4,z3⟩:=Rel.put_feed_Feeder b1 (T.mono A) (E':=[(Eb e 124 [D,I b.dec.held,I b.dec.needs,.int .u8 b.dec.lo,.int .u8 b.dec.hi,I b.dec.bits,B b.seg.some,I b.seg.last,I b.seg.pict,I b.seg.conj,B b.seg.odd,.pointer n])]) y1 ⟨e,D,(.pointer n),(tm y),rfl,(w1.mono A),(z.mono A)⟩;refine ⟨.inl rfl,dn ?_⟩;obtain rfl:=si H;have d1:=c1.sD 1 [];exact n0 (qq j1 ⟨y0,d1,g1,rfl⟩)
def fj (sg:Sto) (p0:Option Nat) (p1:List Int):Option (Sto):=
 (cO (σ:=Int×Sto) (τ:=Sto) (((p1.length:Int) - 0).toNat+1) (fun a=>
 if (decide (a.1 < (p1.length:Int)))=true then
 (idx p1 a.1).bind fun d=>
 (fq a.2 p0 d).bind fun b=>
 some (.inl ((w64 (a.1+1)),b))
 else
 some (.inr (a.2))) (0,sg)).bind fun c=>
 some c
theorem np (S:Own c0 G F) (T:Rel c0 sg G) (hG:Gl [3,7] c0) (j:Option Nat) (d:List Int) {r:Sto} (Z:Pt 4 c0 v1 j) (h:Sl (RI .i32) c0 v3 d) (H:fj sg j d=some r): Calls prog 105 #[v1,v3] c0.w (aQ c0 fun c v=>∃G_:Gm,Own c G_ (F)∧Rel c r G_∧v= .tuple #[]):=by
 unfold fj at H;refine en func105 rfl rfl (sr (va (v3) (vx (ln 3 fv h) (va (I 0) (wln (W.block (bn H fun i0 N p=>lp N (fun a=>Jn c0 fun c l=>∃G_,Own c G_ (F)∧l= [(0,v1),(6,v3),(7,I (d.length:Int)),(8,I a.1)]∧Rel c a.2 G_) (fun i ex e w=>ex= .exit 0∧(Jn c0 fun c l=>∃G_,Own c G_ (F)∧l= []∧Rel c i G_) e w) ?_ ?_ ?_)))))))
 ·clear p N;intro a j0 A R H;revert A R;rintro X w_ ⟨U,g8,_,rfl,l7,rfl,k,t,rfl,f⟩;refine sr (va (B (decide (a.1 < (d.length:Int)))) (wln (W.seq (cn H (fun D H=>?_) (fun D H=>?_)))))
  ·refine W.skip (nrm (W.seq (W.block (sr (bn H fun b g H=>?_)))));obtain ⟨b0,E,P⟩:=Sl.at (h.mono l7) (bi g);obtain rfl:=E;refine vx (ix fv h.m g) (vx (l1 oU (P 0 _ rfl)) (va (J b) (wln (W.region (va (v1) (va (J b) (bn H fun e0 M H=>cl (qv t f (hG.m.le (by decide)) j b Z.m M) ?_)))))));rintro v24 y g0 ⟨n,q,u,rfl⟩;refine WL.nil (bkn (nrm (W.region (vv (I (w64 (a.1+1))) (WL.nil ?_)))));obtain rfl:=si H;exact ⟨_,rfl,jn y ⟨n,q,rfl,u⟩⟩
  refine W.exit (thx ?_);obtain rfl:=si H;exact ⟨_,rfl,rfl,jn U ⟨k,t,rfl,f⟩⟩
 ·exact jn c0 ⟨G,S,rfl,T⟩
 rintro _ X w_ ⟨rfl,z,f0,_,rfl,h0,rfl,o,s,rfl,x⟩;refine bke ?_;obtain rfl:=si p;exact n0 (qq z ⟨o,s,x,rfl⟩)
def iI (p0:Int):Option (Int):=
 ((bL (decide (p0≥240)) (some (decide (p0≤244)))).bind fun a=>
 if a=true then
 some ((w64 ((w64 ((w64 ((w64 (0+1))+1))+1))+1)))
 else
 (bL (decide (p0≥224)) (some (decide (p0 < 240)))).bind fun b=>
 if b=true then
 some ((w64 ((w64 ((w64 (0+1))+1))+1)))
 else
 (bL (decide (p0≥194)) (some (decide (p0 < 224)))).bind fun c=>
 if c=true then
 some ((w64 ((w64 (0+1))+1)))
 else
 if (decide (p0 < 128))=true then
 some ((w64 (0+1)))
 else
 some (0)).bind fun d=>
 some d
theorem oH (A:Own c0 G F) (a:Int) {r:Int} (H:iI a=some r): Calls prog 171 #[.int .u8 a] c0.w (aQ c0 fun c v=>Own c G (F)∧v=I r):=by
 unfold iI at H;refine en func171 rfl rfl (sr (va (I 0) (wln (sr (va (I 0) (wln (bn H fun k b T=>W.seqJ (Jn c0 fun c l=>Own c G (F)∧l= [(3,I k)]) ?_ ?_)))))))
 ·refine W.block (W.seq (W.block (W.seq (W.block (W.seq (W.block (W.seq (W.block (W.seq (W.seq (W.seq (bn b fun q P b=>W.join (Jn c0 fun c l=>Own c G (F)∧l= [(0,.int .u8 a),(3,I 0),(4,B q)]) ?_ ?_))))))))))))
  ·clear b;refine W.region (va (.int .u8 a) (va (B (decide (a≥240))) ?_));rcases bo (decide (a≥240)) with j | j
   ·have U:=anT j P;refine vb j (wa (.int .u8 a) (wa (B (decide (a≤244))) ?_));obtain rfl:=si U;exact vv (B (decide (a≤244))) (wln (jn c0 ⟨A,rfl⟩))
   obtain rfl:=anF j P;exact vb j (pz (vv (B false) (wln (jn c0 ⟨A,rfl⟩))))
  rintro u x ⟨m,g7,_,rfl,l6,rfl,p,rfl⟩;refine nrm (cn b (fun M b=>?_) (fun M b=>?_))
  ·refine W.exit (thx (thx (bke (nrm (W.region (va (I 0) (vv (I (w64 (0+1))) (WL.nil (bkn (nrm (W.region (va (I (w64 (0+1))) (vv (I (w64 ((w64 (0+1))+1))) (WL.nil (bkn (nrm (W.region (va (I (w64 ((w64 (0+1))+1))) (vv (I (w64 ((w64 ((w64 (0+1))+1))+1))) (WL.nil (bkn (nrm (sr (va (I (w64 ((w64 ((w64 (0+1))+1))+1))) (vv (I (w64 ((w64 ((w64 ((w64 (0+1))+1))+1))+1))) (wln (W.exit (bke (nrm ?_)))))))))))))))))))))))))))));obtain rfl:=si b;exact jn m ⟨p,rfl⟩
  refine W.skip (nrm (W.seq (W.seq (bn b fun s n b=>W.join (Jn m fun c l=>Own c G (F)∧l= [(0,.int .u8 a),(3,I 0),(11,B s)]) ?_ ?_))))
  ·clear b;refine W.region (va (.int .u8 a) (va (B (decide (a≥224))) ?_));rcases bo (decide (a≥224)) with d | d
   ·have y:=anT d n;refine vb d (wa (.int .u8 a) (wa (B (decide (a < 240))) ?_));obtain rfl:=si y;exact vv (B (decide (a < 240))) (wln (jn m ⟨p,rfl⟩))
   obtain rfl:=anF d n;exact vb d (pz (vv (B false) (wln (jn m ⟨p,rfl⟩))))
  rintro u x ⟨f,X,_,rfl,l16,rfl,g,rfl⟩;refine nrm (cn b (fun N b=>?_) (fun N b=>?_))
  ·refine W.exit (thx (thx (bko rfl (thx (bke (nrm (W.region (va (I 0) (vv (I (w64 (0+1))) (WL.nil (bkn (nrm (W.region (va (I (w64 (0+1))) (vv (I (w64 ((w64 (0+1))+1))) (WL.nil (bkn (nrm (sr (va (I (w64 ((w64 (0+1))+1))) (vv (I (w64 ((w64 ((w64 (0+1))+1))+1))) (wln (W.exit (bke (nrm ?_)))))))))))))))))))))))));obtain rfl:=si b;exact jn f ⟨g,rfl⟩
  refine W.skip (nrm (W.seq (W.seq (bn b fun t o b=>W.join (Jn f fun c l=>Own c G (F)∧l= [(0,.int .u8 a),(3,I 0),(18,B t)]) ?_ ?_))))
  ·clear b;refine W.region (va (.int .u8 a) (va (B (decide (a≥194))) ?_));rcases bo (decide (a≥194)) with e | e
   ·have z:=anT e o;refine vb e (wa (.int .u8 a) (wa (B (decide (a < 224))) ?_));obtain rfl:=si z;exact vv (B (decide (a < 224))) (wln (jn f ⟨g,rfl⟩))
   obtain rfl:=anF e o;exact vb e (pz (vv (B false) (wln (jn f ⟨g,rfl⟩))))
  rintro u x ⟨i,Z,_,rfl,b0,rfl,h,rfl⟩;refine nrm (cn b (fun R b=>?_) (fun R b=>?_))
  ·refine W.exit (thx (thx (bko rfl (thx (bko rfl (thx (bke (nrm (W.region (va (I 0) (vv (I (w64 (0+1))) (WL.nil (bkn (nrm (sr (va (I (w64 (0+1))) (vv (I (w64 ((w64 (0+1))+1))) (wln (W.exit (bke (nrm ?_)))))))))))))))))))));obtain rfl:=si b;exact jn i ⟨h,rfl⟩
  refine W.skip (nrm (sr (va (.int .u8 a) (vv (B (decide (a < 128))) (wln (cn b (fun S b=>?_) (fun S b=>?_)))))))
  ·refine W.exit (thx (bko rfl (thx (bko rfl (thx (bko rfl (thx (bke (nrm (sr (va (I 0) (vv (I (w64 (0+1))) (wln (W.exit (bke (nrm ?_))))))))))))))));obtain rfl:=si b;exact jn i ⟨h,rfl⟩
  refine W.skip (nrm (W.exit (bko rfl (thx (bko rfl (thx (bko rfl (thx (bko rfl (thx (bke (nrm ?_))))))))))));obtain rfl:=si b;exact jn i ⟨h,rfl⟩
 rintro u x ⟨E,a0,_,rfl,d0,rfl,D,rfl⟩;refine sr (vv (I k) (wln (W.ret ?_)));obtain rfl:=si T;exact r1 (qq E ⟨D,rfl⟩)
def kQ (p0:Int):Option (Int):=
 (iI p0).bind fun a=>
 if (a==0)=true then
 some 0
 else
 if (a==1)=true then
 some (w64 p0)
 else
 (shn (w64 (7 - a))).bind fun b=>
 some (jW .i64 (w64 p0) (w64 ((w64 (1 * 2 ^ (min b 64))) - 1)))
theorem xr (j:Own c0 G F) (e:Int) {r:Int} (H:kQ e=some r): Calls prog 172 #[.int .u8 e] c0.w (aQ c0 fun c v=>Own c G (F)∧v=I r):=by
 unfold kQ at H;refine en func172 rfl rfl (sr (va (I 0) (wln (sr (va (.int .u8 e) (bn H fun d k H=>cl (oH j e k) ?_))))));rintro v7 h n ⟨g,rfl⟩;refine va (I d) (wln (sr (va (I d) (wln (W.block (sr (vv (B (d==0)) (wln (cn H (fun l H=>?_) (fun l H=>?_))))))))))
 ·refine sr (va (I 0) (wln (W.ret (bkr ?_))));obtain rfl:=si H;exact r1 (qq h ⟨g,rfl⟩)
 refine sr (vv (B (d==1)) (wln (cn H (fun m H=>?_) (fun m H=>?_))))
 ·refine sr (va (.int .u8 e) (vv (I (w64 e)) (wln (W.ret (bkr ?_)))));obtain rfl:=si H;exact r1 (qq h ⟨g,rfl⟩)
 refine sr (va (.int .u8 e) (va (I (w64 e)) (va (I d) (va (I (w64 (7 - d))) (bn H fun f i H=>vr (I (w64 (1 * 2 ^ (min f 64)))) (DX (k':= .i64) (a:=1) (b:=(w64 (7 - d))) i (by kernel_rfl) _) (va (I (w64 ((w64 (1 * 2 ^ (min f 64))) - 1))) (vv (I (jW .i64 (w64 e) (w64 ((w64 (1 * 2 ^ (min f 64))) - 1)))) (wln (W.ret (bkr ?_))))))))));obtain rfl:=si H;exact r1 (qq h ⟨g,rfl⟩)
def jy (p0:Int):Option (Int×Int):=
 (iI p0).bind fun b=>
 if (decide (b < 2))=true then
 some (0,0)
 else
 (if (p0==224)=true then
 some (160,191)
 else
 if (p0==240)=true then
 some (144,191)
 else
 if (p0==244)=true then
 some (128,(IntKind.u8.wrap ((IntKind.u8.wrap (191 - 16)) - 32)))
 else
 if (p0==237)=true then
 some (128,(IntKind.u8.wrap (191 - 32)))
 else
 some (128,191)).bind fun a=>
 some (a.1,a.2)
theorem vo (p:Own c0 G F) (b:Int) {r:Int×Int} (H:jy b=some r): Calls prog 173 #[.int .u8 b] c0.w (aQ c0 fun c v=>Own c G (F)∧v= .tuple #[.int .u8 r.1,.int .u8 r.2]):=by
 unfold jy at H;refine en func173 rfl rfl (sr (vv (.int .u8 0) (wln (W.seq (sr (va (.int .u8 b) (bn H fun o q H=>cl (oH p b q) ?_)))))));rintro v7 e y ⟨f,rfl⟩;refine va (B (decide (o < 2))) (wln (cn H (fun s H=>?_) (fun s H=>?_)))
 ·refine sr (vv (.int .u8 0) (wln (W.ret (thr ?_))));obtain rfl:=si H;exact r2 (qq e ⟨f,rfl⟩)
 refine W.skip (nrm (sr (va (.int .u8 128) (va (.int .u8 191) (wln (bn H fun d a g=>W.seqJ (Jn e fun c l=>Own c G (F)∧l= [(2,.int .u8 d.1),(3,.int .u8 d.2)]) ?_ ?_))))))
 ·refine sr (va (.int .u8 b) (wln (W.block (W.seq (W.block (W.seq (W.block (W.seq (W.block (W.seq (W.block (W.seq (W.seq (sr (vv (B (b==224)) (wln (cn a (fun j a=>?_) (fun j a=>?_))))))))))))))))))
  ·refine W.exit (thx (thx (bke (nrm (sr (va (.int .u8 160) (wln (W.exit (bko rfl (thx (bko rfl (thx (bko rfl (thx (bke (nrm ?_))))))))))))))));obtain rfl:=si a;exact jn e ⟨f,rfl⟩
  refine W.skip (nrm (W.seq (sr (vv (B (b==240)) (wln (cn a (fun k a=>?_) (fun k a=>?_)))))))
  ·refine W.exit (thx (thx (bko rfl (thx (bke (nrm (sr (va (.int .u8 144) (wln (W.exit (bko rfl (thx (bko rfl (thx (bke (nrm ?_))))))))))))))));obtain rfl:=si a;exact jn e ⟨f,rfl⟩
  refine W.skip (nrm (W.seq (sr (vv (B (b==244)) (wln (cn a (fun m a=>?_) (fun m a=>?_)))))))
  ·refine W.exit (thx (thx (bko rfl (thx (bko rfl (thx (bke (nrm (W.region (va (.int .u8 191) (vv (.int .u8 (IntKind.u8.wrap (191 - 16))) (WL.nil (bkn (nrm (sr (va (.int .u8 (IntKind.u8.wrap (191 - 16))) (vv (.int .u8 (IntKind.u8.wrap ((IntKind.u8.wrap (191 - 16)) - 32))) (wln (W.exit (bke (nrm ?_)))))))))))))))))))));obtain rfl:=si a;exact jn e ⟨f,rfl⟩
  refine W.skip (nrm (sr (vv (B (b==237)) (wln (cn a (fun n a=>?_) (fun n a=>?_))))))
  ·refine W.exit (thx (bko rfl (thx (bko rfl (thx (bko rfl (thx (bke (nrm (sr (va (.int .u8 191) (vv (.int .u8 (IntKind.u8.wrap (191 - 32))) (wln (W.exit (bke (nrm ?_))))))))))))))));obtain rfl:=si a;exact jn e ⟨f,rfl⟩
  refine W.skip (nrm (W.exit (bko rfl (thx (bko rfl (thx (bko rfl (thx (bko rfl (thx (bke (nrm ?_))))))))))));obtain rfl:=si a;exact jn e ⟨f,rfl⟩
 rintro x z ⟨i,t,_,rfl,u,rfl,h,rfl⟩;refine sr (va (.int .u8 d.1) (va (.int .u8 d.2) (va (.int .u8 d.1) (va (.int .u8 d.2) (wln (W.ret ?_))))));obtain rfl:=si g;exact r2 (qq i ⟨h,rfl⟩)
def co (p0:bw):Option (Int):=
 if false=true then
 some 0
 else
 some p0.held
theorem kY {b:Nat} {r0_0:Value} {r0_6:Value} {r0_7:Value} {r0_8:Value} {r0_9:Value} {r0_10:Value} {r0_11:Value} (a:bw) (e:Own c0 G ((Eb b 124 [r0_0,I a.held,I a.needs,.int .u8 a.lo,.int .u8 a.hi,I a.bits,r0_6,r0_7,r0_8,r0_9,r0_10,r0_11]) :: F)) {r:Int} (H:co a=some r): Calls prog 138 #[.pointer (some ⟨b,1,none⟩)] c0.w (aQ c0 fun c v=>Own c G ((Eb b 124 [r0_0,I a.held,I a.needs,.int .u8 a.lo,.int .u8 a.hi,I a.bits,r0_6,r0_7,r0_8,r0_9,r0_10,r0_11]) :: F)∧v=I r):=by
 unfold co at H;refine en func138 rfl rfl (sr (va (I 0) (wln (W.seq (sr (va (Qo b 1) (va (B false) (wln (W.cond (t:=false) (by kernel_rfl) (fun d=>?_) (fun d=>?_))))))))))
 ·cases d
 have H:=ie d H;refine W.skip (nrm (sr (vv (Qo b 1) (va (Qo b 1) (vx (le1 1 u_3 (e.on 0 rfl)) (va (I a.held) (wln (W.ret ?_))))))));obtain rfl:=si H;exact r1 (qq c0 ⟨e,rfl⟩)
def bE (p0:bw):Option (bw×(List Int)):=
 (co p0).bind fun a=>
 if (a==0)=true then
 some (p0,([]:List Int))
 else
 some ((⟨0,0,0,0,0⟩:bw),([65533]:List Int))
theorem gt {a:Nat} {r0_0:Value} {r0_6:Value} {r0_7:Value} {r0_8:Value} {r0_9:Value} {r0_10:Value} {r0_11:Value} (b:bw) (q:Own c0 G ((Eb a 124 [r0_0,I b.held,I b.needs,.int .u8 b.lo,.int .u8 b.hi,I b.bits,r0_6,r0_7,r0_8,r0_9,r0_10,r0_11]) :: F)) {r:bw×(List Int)} (H:bE b=some r): Calls prog 107 #[.pointer (some ⟨a,1,none⟩)] c0.w (aQ c0 fun c v=>∃d p,Own c G (es true (RI .i32) d 21 p r.2 :: (Eb a 124 [r0_0,I r.1.held,I r.1.needs,.int .u8 r.1.lo,.int .u8 r.1.hi,I r.1.bits,r0_6,r0_7,r0_8,r0_9,r0_10,r0_11]) :: F)∧v=d∧OA (RI .i32) c d p r.2):=by
 unfold bE at H;refine en func107 rfl rfl (sr (va (Y) (wln (W.seq (sr (va (Qo a 1) (bn H fun o s H=>cl (kY b q s) ?_)))))));rintro v8 k z ⟨i,rfl⟩;refine va (B (o==0)) (wln (cn H (fun t H=>?_) (fun t H=>?_)))
 ·refine sr (va (Y) (wln (W.ret (thr ?_))));obtain rfl:=si H;have l:OA (RI .i32) k (Y) [] []:=OA.nil (aK _);have f:=i.addHole (e:=es true (RI .i32) (Y) 21 [] ([]:List Int)) rfl;exact r1 (qq k ⟨(Y),[],f,rfl,l⟩)
 refine W.skip (nrm (sr (va (Qo a 1) (va (.agg #[I 0,I 0,.int .u8 0,.int .u8 0,I 0]) (va (Qo a 1) (md (sB 119 1 [I 0,I 0,.int .u8 0,.int .u8 0,I 0] [r0_0,I 0,I 0,.int .u8 0,.int .u8 0,I 0,r0_6,r0_7,r0_8,r0_9,r0_10,r0_11] 0 i ⟨rfl,rfl,rfl,rfl,rfl,trivial⟩) ?_))))));rintro u x g;refine wln (sr (me (sl (RI .i32) 21 [[J 65533]] ([65533]:List Int) g ⟨rfl,trivial⟩) ?_));rintro v18 j y ⟨n,h,m⟩;refine va (v18) (wln (W.ret ?_));obtain rfl:=si H;exact r1 (qq j ⟨v18,n,h,rfl,m⟩)
def cg (p0:bw) (p1:Int):Option (bw×(List Int)):=
 (iI p1).bind fun a=>
 if (a==0)=true then
 some (p0,([65533]:List Int))
 else
 if (a==1)=true then
 some (p0,([(w32 p1)]:List Int))
 else
 (kQ p1).bind fun c=>
 (jy p1).bind fun b=>
 some ((⟨1,(w64 (a - 1)),b.1,b.2,c⟩:bw),([]:List Int))
theorem gq {a:Nat} {r0_0:Value} {r0_6:Value} {r0_7:Value} {r0_8:Value} {r0_9:Value} {r0_10:Value} {r0_11:Value} (f:bw) (g:Int) (T:Own c0 G ((Eb a 124 [r0_0,I f.held,I f.needs,.int .u8 f.lo,.int .u8 f.hi,I f.bits,r0_6,r0_7,r0_8,r0_9,r0_10,r0_11]) :: F)) {r:bw×(List Int)} (H:cg f g=some r): Calls prog 137 #[.pointer (some ⟨a,1,none⟩),.int .u8 g] c0.w (aQ c0 fun c v=>∃k S,Own c G (es true (RI .i32) k 21 S r.2 :: (Eb a 124 [r0_0,I r.1.held,I r.1.needs,.int .u8 r.1.lo,.int .u8 r.1.hi,I r.1.bits,r0_6,r0_7,r0_8,r0_9,r0_10,r0_11]) :: F)∧v=k∧OA (RI .i32) c k S r.2):=by
 unfold cg at H;refine en func137 rfl rfl (sr (va (Y) (wln (W.seq (sr (va (.int .u8 g) (bn H fun b X H=>cl (oH T g X) ?_)))))));rintro v7 c6 l6 ⟨j,rfl⟩;refine va (I b) (wln (sr (va (I b) (wln (W.block (sr (vv (B (b==0)) (wln (cn H (fun Z H=>?_) (fun Z H=>?_))))))))))
 ·refine sr (me (sl (RI .i32) 21 [[J 65533]] ([65533]:List Int) j ⟨rfl,trivial⟩) ?_);rintro v13 x h0 ⟨P,U,z⟩;refine va (v13) (wln (W.ret (bkr (thr ?_))));obtain rfl:=si H;exact r1 (qq x ⟨v13,P,U,rfl,z⟩)
 refine sr (vv (B (b==1)) (wln (cn H (fun A H=>?_) (fun A H=>?_))))
 ·refine sr (va (.int .u8 g) (va (J (w32 g)) (me (sl (RI .i32) 21 [[J (w32 g)]] ([(w32 g)]:List Int) j ⟨rfl,trivial⟩) ?_)));rintro v19 y i0 ⟨R,l,D⟩;refine va (v19) (wln (W.ret (bkr (thr ?_))));obtain rfl:=si H;exact r1 (qq y ⟨v19,R,l,rfl,D⟩)
 refine sr (vv (Qo a 1) (va (Qo a 1) (va (I b) (va (I (w64 (b - 1))) (va (.int .u8 g) (bn H fun h E H=>cl (xr j g E) ?_))))));rintro v26 a0 j0 ⟨m,rfl⟩;refine va (.pointer (some ⟨a,1,none⟩)) (va (Qo a 1) (md (sC 3 1 (I 1) [r0_0,I 1,I f.needs,.int .u8 f.lo,.int .u8 f.hi,I f.bits,r0_6,r0_7,r0_8,r0_9,r0_10,r0_11] 0 m ⟨rfl,trivial⟩) ?_));rintro b0 k0 n;refine va (.pointer (some ⟨a,1,none⟩)) (va (Qo a 2) (md (sC 3 2 (I (w64 (b - 1))) [r0_0,I 1,I (w64 (b - 1)),.int .u8 f.lo,.int .u8 f.hi,I f.bits,r0_6,r0_7,r0_8,r0_9,r0_10,r0_11] 0 n ⟨rfl,trivial⟩) ?_));rintro d0 l0 o;refine va (.pointer (some ⟨a,1,none⟩)) (va (Qo a 5) (md (sC 3 5 (I h) [r0_0,I 1,I (w64 (b - 1)),.int .u8 f.lo,.int .u8 f.hi,I h,r0_6,r0_7,r0_8,r0_9,r0_10,r0_11] 0 o ⟨rfl,trivial⟩) ?_));rintro e0 m0 p;refine wln (W.region (vv (Qo a 1) (va (.int .u8 g) (bn H fun d M H=>cl (vo p g M) ?_))));rintro v39 f0 o0 ⟨q,rfl⟩;refine va (.tuple #[.int .u8 d.1,.int .u8 d.2]) (va (.int .u8 d.1) (va (.int .u8 d.2) (va (Qo a 1) (va (Qo a 3) (md (sC 5 3 (.int .u8 d.1) [r0_0,I 1,I (w64 (b - 1)),.int .u8 d.1,.int .u8 f.hi,I h,r0_6,r0_7,r0_8,r0_9,r0_10,r0_11] 0 q ⟨rfl,trivial⟩) ?_)))));rintro g0 q0 s;refine va (.pointer (some ⟨a,1,none⟩)) (va (Qo a 4) (md (sC 5 4 (.int .u8 d.2) [r0_0,I 1,I (w64 (b - 1)),.int .u8 d.1,.int .u8 d.2,I h,r0_6,r0_7,r0_8,r0_9,r0_10,r0_11] 0 s ⟨rfl,trivial⟩) ?_));rintro i s0 t;refine WL.nil (bkn (nrm (sr (va (Y) (wln (W.ret ?_))))));obtain rfl:=si H;have N:OA (RI .i32) i (Y) [] []:=OA.nil (aK _);have u:=t.addHole (e:=es true (RI .i32) (Y) 21 [] ([]:List Int)) rfl;exact r1 (qq i ⟨(Y),[],u,rfl,N⟩)
def cQ (p0:bw) (p1:Int):Option (bw×(List Int)):=
 if false=true then
 some (p0,([]:List Int))
 else
 if (p0.held==0)=true then
 (cg p0 p1).bind fun a=>
 some (a.1,a.2)
 else
 (orE (decide (p1 < p0.lo)) (some (decide (p1 > p0.hi)))).bind fun d=>
 if d=true then
 (bE p0).bind fun b=>
 (cg b.1 p1).bind fun c=>
 (app b.2 c.2).bind fun e=>
 some (c.1,e)
 else
 if (decide ((w64 (p0.needs - 1)) > 0))=true then
 some ((⟨(w64 (p0.held+1)),(w64 (p0.needs - 1)),128,191,(nb .i64 (w64 (p0.bits * 2 ^ 6)) (w64 (jW .u8 p1 63)))⟩:bw),([]:List Int))
 else
 some ((⟨0,0,0,0,0⟩:bw),([(w32 (nb .i64 (w64 (p0.bits * 2 ^ 6)) (w64 (jW .u8 p1 63))))]:List Int))
theorem kX {a:Nat} {r0_0:Value} {r0_6:Value} {r0_7:Value} {r0_8:Value} {r0_9:Value} {r0_10:Value} {r0_11:Value} (b:bw) (d:Int) (h:Own c0 G ((Eb a 124 [r0_0,I b.held,I b.needs,.int .u8 b.lo,.int .u8 b.hi,I b.bits,r0_6,r0_7,r0_8,r0_9,r0_10,r0_11]) :: F)) {r:bw×(List Int)} (H:cQ b d=some r): Calls prog 106 #[.pointer (some ⟨a,1,none⟩),.int .u8 d] c0.w (aQ c0 fun c v=>∃x y2,Own c G (es true (RI .i32) x 21 y2 r.2 :: (Eb a 124 [r0_0,I r.1.held,I r.1.needs,.int .u8 r.1.lo,.int .u8 r.1.hi,I r.1.bits,r0_6,r0_7,r0_8,r0_9,r0_10,r0_11]) :: F)∧v=x∧OA (RI .i32) c x y2 r.2):=by
 unfold cQ at H;refine en func106 rfl rfl (sr (va (Y) (wln (W.seq (W.block (sr (va (Qo a 1) (vv (B false) (wln (W.cond (t:=false) (by kernel_rfl) (fun s=>?_) (fun s=>?_)))))))))))
 ·cases s
 have H:=ie s H;refine sr (vv (Qo a 1) (va (Qo a 1) (vx (le1 1 u_3 (h.on 0 rfl)) (vv (B (b.held==0)) (wln (cn H (fun h2 H=>?_) (fun h2 H=>?_)))))))
 ·refine sr (va (Qo a 1) (va (.int .u8 d) (bn H fun z0 h4 H=>cl (gq b d h h4) ?_)));rintro v5 X q1 ⟨_,u6,O9,rfl,h7⟩;refine va (v5) (wln (W.ret (bkr (thr ?_))));obtain rfl:=si H;exact r1 (qq X ⟨v5,u6,O9,rfl,h7⟩)
 refine W.seq (bn H fun q o H=>W.join (Jn c0 fun c l=>Own c G ((Eb a 124 [r0_0,I b.held,I b.needs,.int .u8 b.lo,.int .u8 b.hi,I b.bits,r0_6,r0_7,r0_8,r0_9,r0_10,r0_11]) :: F)∧l= [(0,.pointer (some ⟨a,1,none⟩)),(1,.int .u8 d),(18,B q)]) ?_ ?_)
 ·clear H;refine W.region (va (.int .u8 d) (vv (Qo a 1) (va (Qo a 3) (vx (le1 3 underlying5 (h.on 0 rfl)) (va (B (decide (d < b.lo))) ?_)))));rcases bo (decide (d < b.lo)) with f | f
  ·obtain rfl:=orT f o;exact vb f (pz (pz (pz (vv (B true) (wln (jn c0 ⟨h,rfl⟩))))))
  have y:=orF f o;refine vb f (wa (.int .u8 d) (wa (Qo a 1) (wa (Qo a 1) (wa (Qo a 4) (wn (vx (le1 4 underlying5 (h.on 0 rfl)) (wa (B (decide (d > b.hi))) ?_)))))));obtain rfl:=si y;exact vv (B (decide (d > b.hi))) (wln (jn c0 ⟨h,rfl⟩))
 rintro e_ w_ ⟨c1,n1,_,rfl,s1,rfl,i,rfl⟩;refine nrm (cn H (fun b0 H=>?_) (fun b0 H=>?_))
 ·refine sr (va (Qo a 1) (bn H fun u d0 H=>cl (gt b i d0) ?_));rintro v26 d1 t1 ⟨_,g2,z,rfl,e0⟩;refine va (.pointer (some ⟨a,1,none⟩)) (va (.int .u8 d) ?_);have A:=z.sD 2 [1,0];refine bn H fun a1 f0 H=>cl (gq u.1 d A f0) ?_;rintro v37 e1 u1 ⟨_,i2,D,rfl,g0⟩;obtain ⟨f1,i0,v1,E,h0⟩:=D.frz 0 rfl g0;refine WL.gh i0 (bn H fun b1 j0 H=>me (ap (RI .i32) (J 0) 4 34 2 E e0.m h0 j0 fv) ?_);rintro v55 Z w1 ⟨q0,M,k0⟩;refine va (v55) (wln (W.ret (bkr (thr ?_))));obtain rfl:=si H;have N:=M.sD 3 [2,1];exact r1 (qq Z ⟨v55,q0,N,rfl,k0⟩)
 refine W.skip (bkn (nrm (sr (vv (Qo a 1) (va (Qo a 1) (va (Qo a 5) (vx (le1 5 u_3 (i.on 0 rfl)) (va (I (w64 (b.bits * 2 ^ 6))) (va (.int .u8 d) (va (.int .u8 (jW .u8 d 63)) (va (I (w64 (jW .u8 d 63))) (va (I (nb .i64 (w64 (b.bits * 2 ^ 6)) (w64 (jW .u8 d 63)))) (va (Qo a 1) (va (Qo a 5) (md (sC 3 5 (I (nb .i64 (w64 (b.bits * 2 ^ 6)) (w64 (jW .u8 d 63)))) [r0_0,I b.held,I b.needs,.int .u8 b.lo,.int .u8 b.hi,I (nb .i64 (w64 (b.bits * 2 ^ 6)) (w64 (jW .u8 d 63))),r0_6,r0_7,r0_8,r0_9,r0_10,r0_11] 0 i ⟨rfl,trivial⟩) ?_)))))))))))))));rintro g1 x1 P;refine wln (sr (vv (Qo a 1) (va (Qo a 1) (va (Qo a 3) (md (sC 5 3 (.int .u8 128) [r0_0,I b.held,I b.needs,.int .u8 128,.int .u8 b.hi,I (nb .i64 (w64 (b.bits * 2 ^ 6)) (w64 (jW .u8 d 63))),r0_6,r0_7,r0_8,r0_9,r0_10,r0_11] 0 P ⟨rfl,trivial⟩) ?_)))));rintro i1 z1 R;refine va (.pointer (some ⟨a,1,none⟩)) (va (Qo a 4) (md (sC 5 4 (.int .u8 191) [r0_0,I b.held,I b.needs,.int .u8 128,.int .u8 191,I (nb .i64 (w64 (b.bits * 2 ^ 6)) (w64 (jW .u8 d 63))),r0_6,r0_7,r0_8,r0_9,r0_10,r0_11] 0 R ⟨rfl,trivial⟩) ?_));rintro j1 b2 j;refine wln (sr (vv (Qo a 1) (va (Qo a 1) (vx (le1 1 u_3 (j.on 0 rfl)) (va (I (w64 (b.held+1))) (vv (Qo a 1) (md (sC 3 1 (I (w64 (b.held+1))) [r0_0,I (w64 (b.held+1)),I b.needs,.int .u8 128,.int .u8 191,I (nb .i64 (w64 (b.bits * 2 ^ 6)) (w64 (jW .u8 d 63))),r0_6,r0_7,r0_8,r0_9,r0_10,r0_11] 0 j ⟨rfl,trivial⟩) ?_)))))));rintro k1 c2 k;refine wln (sr (vv (Qo a 1) (va (Qo a 2) (vx (le1 2 u_3 (k.on 0 rfl)) (va (I (w64 (b.needs - 1))) (va (Qo a 1) (va (Qo a 2) (md (sC 3 2 (I (w64 (b.needs - 1))) [r0_0,I (w64 (b.held+1)),I (w64 (b.needs - 1)),.int .u8 128,.int .u8 191,I (nb .i64 (w64 (b.bits * 2 ^ 6)) (w64 (jW .u8 d 63))),r0_6,r0_7,r0_8,r0_9,r0_10,r0_11] 0 k ⟨rfl,trivial⟩) ?_))))))));rintro n d2 g;refine wln (W.seq (sr (vv (Qo a 1) (va (Qo a 2) (vx (le1 2 u_3 (g.on 0 rfl)) (va (B (decide ((w64 (b.needs - 1)) > 0))) (wln (cn H (fun l0 H=>?_) (fun l0 H=>?_)))))))))
 ·refine sr (va (Y) (wln (W.ret (thr ?_))));obtain rfl:=si H;have m0:OA (RI .i32) n (Y) [] []:=OA.nil (aK _);have S:=g.addHole (e:=es true (RI .i32) (Y) 21 [] ([]:List Int)) rfl;exact r1 (qq n ⟨(Y),[],S,rfl,m0⟩)
 refine W.skip (nrm (sr (vv (Qo a 1) (va (Qo a 5) (vx (le1 5 u_3 (g.on 0 rfl)) (vv (J (w32 (nb .i64 (w64 (b.bits * 2 ^ 6)) (w64 (jW .u8 d 63))))) (wln (sr (va (Qo a 1) (va (.agg #[I 0,I 0,.int .u8 0,.int .u8 0,I 0]) (va (Qo a 1) (md (sB 119 1 [I 0,I 0,.int .u8 0,.int .u8 0,I 0] [r0_0,I 0,I 0,.int .u8 0,.int .u8 0,I 0,r0_6,r0_7,r0_8,r0_9,r0_10,r0_11] 0 g ⟨rfl,rfl,rfl,rfl,rfl,trivial⟩) ?_))))))))))));rintro m1 e2 T;refine wln (sr (va (J (w32 (nb .i64 (w64 (b.bits * 2 ^ 6)) (w64 (jW .u8 d 63))))) (me (sl (RI .i32) 21 [[J (w32 (nb .i64 (w64 (b.bits * 2 ^ 6)) (w64 (jW .u8 d 63))))]] ([(w32 (nb .i64 (w64 (b.bits * 2 ^ 6)) (w64 (jW .u8 d 63))))]:List Int) T ⟨rfl,trivial⟩) ?_)));rintro p a0 f2 ⟨s0,U,o0⟩;refine va (p) (wln (W.ret ?_));obtain rfl:=si H;exact r1 (qq a0 ⟨p,s0,U,rfl,o0⟩)
def fu (sg:Sto) (p0:Option Nat) (p1:List Int):Option (Sto):=
 if p0.isNone=true then
 some sg
 else
 (cO (σ:=Int×Sto) (τ:=Sto) (((p1.length:Int) - 0).toNat+1) (fun b=>
 if (decide (b.1 < (p1.length:Int)))=true then
 (idx p1 b.1).bind fun f=>
 (p0).bind fun d=>
 (b.2.feed_Feeder[d]?).bind fun a=>
 (cQ a.dec f).bind fun e=>
 (b.2.set_feed_Feeder d (⟨a.pen,e.1,a.seg,a.open_⟩:bz)).bind fun c=>
 (fj c p0 e.2).bind fun g=>
 some (.inl ((w64 (b.1+1)),g))
 else
 some (.inr (b.2))) (0,sg)).bind fun h=>
 some h
theorem qx (M:Own c0 G F) (R0:Rel c0 sg G) (hG:Gl [3,7] c0) (j:Option Nat) (k:List Int) {r:Sto} (t:Pt 4 c0 v1 j) (u:Sl (RI .u8) c0 v3 k) (H:fu sg j k=some r): Calls prog 72 #[v1,v3] c0.w (aQ c0 fun c v=>∃G_:Gm,Own c G_ (F)∧Rel c r G_∧v= .tuple #[]):=by
 unfold fu at H;refine en func72 rfl rfl (W.seq (sr (va (v1) (vr (B j.isNone) (by rcases (t).cs with ⟨p,s⟩ | ⟨b_,p,s⟩ <;> (subst p; rw [s]; kernel_rfl)) (wln (cn H (fun h5 H=>?_) (fun h5 H=>?_)))))))
 ·refine W.ret (thr ?_);obtain rfl:=si H;exact r0 (qq c0 ⟨G,M,R0,rfl⟩)
 refine W.skip (nrm (sr (va (v3) (vx (ln 3 wH u) (va (I 0) (wln (W.block (bn H fun y1 h6 E=>lp h6 (fun d=>Jn c0 fun c l=>∃G_,Own c G_ (F)∧l= [(0,v1),(8,v3),(9,I (k.length:Int)),(10,I d.1)]∧Rel c d.2 G_) (fun x ex e w=>ex= .exit 0∧(Jn c0 fun c l=>∃G_,Own c G_ (F)∧l= []∧Rel c x G_) e w) ?_ ?_ ?_))))))))
 ·clear E h6;intro d b2 i0 c1 H;revert i0 c1;rintro e_ w_ ⟨c8,g9,_,rfl,l8,rfl,z,n,rfl,h⟩;refine sr (va (B (decide (d.1 < (k.length:Int)))) (wln (W.seq (cn H (fun j0 H=>?_) (fun j0 H=>?_)))))
  ·refine W.skip (nrm (W.seq (W.block (sr (bn H fun f o H=>?_)))));obtain ⟨h1,k0,b1⟩:=Sl.at (u.mono l8) (bi o);obtain rfl:=k0;refine vx (ix wH u.m o) (vx (l1 underlying5 (b1 0 _ rfl)) (va (.int .u8 f) (wln (W.region (vv (v1) (bn H fun g1 l0 H=>?_))))));obtain ⟨g,rfl,q⟩:=((t.mono l8)).get l0;refine va (Q g) (va (Qo g 1) (va (.int .u8 f) (bn H fun a m0 H=>?_)));obtain ⟨v23,v25,s0,o0,q0⟩:=Rel.open_feed_Feeder h m0 q;have N:=n.borrow 0 s0 rfl;refine bn H fun b t0 H=>cl (kX a.dec f N t0) ?_;rintro v31 n1 i ⟨_,z1,P,rfl,u0⟩;have S:=P.sD 2 [1,0];have R:=S.giveB 0 rfl;refine bn H fun y v0 H=>?_;obtain ⟨k1,T,d0,t1,m1⟩:=Rel.put_feed_Feeder R (h.mono i) (E':=[(Eb g 124 [v23,I b.1.held,I b.1.needs,.int .u8 b.1.lo,.int .u8 b.1.hi,I b.1.bits,B a.seg.some,I a.seg.last,I a.seg.pict,I a.seg.conj,B a.seg.odd,v25])]) v0 ⟨g,v23,v25,(tm q),rfl,(o0.mono i),(q0.mono i)⟩;obtain ⟨q1,x0,u1,U,w0⟩:=T.frz 0 rfl u0;refine WL.gh x0 (bn H fun j1 y0 H=>cl (np U d0.m (hG.m.le (by decide)) j b.2 t.m w0 y0) ?_);rintro v58 g0 w1 ⟨A,X,e0,rfl⟩;refine WL.nil (bkn (nrm (W.region (vv (I (w64 (d.1+1))) (WL.nil ?_)))));obtain rfl:=si H;refine ⟨_,rfl,?_⟩;have Z:=X.sD 1 [];exact jn g0 ⟨A,Z,rfl,e0⟩
  refine W.exit (thx ?_);obtain rfl:=si H;exact ⟨_,rfl,rfl,jn c8 ⟨z,n,rfl,h⟩⟩
 ·exact jn c0 ⟨G,M,rfl,R0⟩
 rintro _ e_ w_ ⟨rfl,h0,s1,_,rfl,x1,rfl,D,a0,rfl,f0⟩;refine bke ?_;obtain rfl:=si E;exact n0 (qq h0 ⟨D,a0,f0,rfl⟩)
def ft (sg:Sto) (p0:Option Nat):Option (Sto):=
 if p0.isNone=true then
 some sg
 else
 (p0).bind fun c=>
 (sg.feed_Feeder[c]?).bind fun a=>
 (bE a.dec).bind fun d=>
 (sg.set_feed_Feeder c (⟨a.pen,d.1,a.seg,a.open_⟩:bz)).bind fun b=>
 (fj b p0 d.2).bind fun f=>
 (cZ f p0).bind fun e=>
 some e
theorem qw (l:Own c0 G F) (j:Rel c0 sg G) (hG:Gl [3,7] c0) (f:Option Nat) {r:Sto} (g:Pt 4 c0 v1 f) (H:ft sg f=some r): Calls prog 73 #[v1] c0.w (aQ c0 fun c v=>∃G_:Gm,Own c G_ (F)∧Rel c r G_∧v= .tuple #[]):=by
 unfold ft at H;refine en func73 rfl rfl (W.seq (sr (va (v1) (vr (B f.isNone) (by rcases (g).cs with ⟨h,i⟩ | ⟨b_,h,i⟩ <;> (subst h; rw [i]; kernel_rfl)) (wln (cn H (fun h3 H=>?_) (fun h3 H=>?_)))))))
 ·refine W.ret (thr ?_);obtain rfl:=si H;exact r0 (qq c0 ⟨G,l,j,rfl⟩)
 refine W.skip (nrm (sr (vv (v1) (bn H fun s0 h6 H=>?_))));obtain ⟨d,rfl,h5⟩:=(g).get h6;refine va (Q d) (va (Qo d 1) (bn H fun a h7 H=>?_));obtain ⟨v8,v10,N,h9,M⟩:=Rel.open_feed_Feeder j h7 h5;have n:=l.borrow 0 N rfl;refine bn H fun b P H=>cl (gt a.dec n P) ?_;rintro v16 l0 e ⟨_,w0,o,rfl,R⟩;have q:=o.sD 2 [1,0];have p:=q.giveB 0 rfl;refine bn H fun b0 S H=>?_;obtain ⟨i0,s,z,q0,k0⟩:=Rel.put_feed_Feeder p (j.mono e) (E':=[(Eb d 124 [v8,I b.1.held,I b.1.needs,.int .u8 b.1.lo,.int .u8 b.1.hi,I b.1.bits,B a.seg.some,I a.seg.last,I a.seg.pict,I a.seg.conj,B a.seg.odd,v10])]) S ⟨d,v8,v10,(tm h5),rfl,(h9.mono e),(M.mono e)⟩;obtain ⟨m0,U,t0,t,T⟩:=s.frz 0 rfl R;refine WL.gh U (bn H fun x0 X H=>cl (np t z.m (hG.m.le (by decide)) f b.2 g.m T X) ?_);rintro v43 o0 u0 ⟨j0,u,A,rfl⟩;refine wln (W.region (va (Q d) (bn H fun h0 Z H=>cl (gX u A f g.m Z) ?_)));rintro v50 E v0 ⟨k,x,D,rfl⟩;refine WL.nil ?_;obtain rfl:=si H;have y:=x.sD 1 [];exact n0 (qq E ⟨k,y,D,rfl⟩)
def lZ (p0:Int):Option (Bool):=
 (bL (decide (p0≥2)) (some (decide (p0≤12)))).bind fun a=>
 some a
theorem yZ (d:Own c0 G F) (a:Int) {r:Bool} (H:lZ a=some r): Calls prog 112 #[I a] c0.w (aQ c0 fun c v=>Own c G (F)∧v=B r):=by
 unfold lZ at H;refine en func112 rfl rfl (sr (va (B false) (wln (W.seq (bn H fun e f H=>W.join (Jn c0 fun c l=>Own c G (F)∧l= [(2,B e)]) ?_ ?_)))))
 ·clear H;refine W.region (va (I a) (va (B (decide (a≥2))) ?_));rcases bo (decide (a≥2)) with b | b
  ·have g:=anT b f;refine vb b (wa (I a) (wa (B (decide (a≤12))) ?_));obtain rfl:=si g;exact vv (B (decide (a≤12))) (wln (jn c0 ⟨d,rfl⟩))
  obtain rfl:=anF b f;exact vb b (pz (vv (B false) (wln (jn c0 ⟨d,rfl⟩))))
 rintro j n ⟨i,k,_,rfl,m,rfl,h,rfl⟩;refine nrm (W.ret ?_);obtain rfl:=si H;exact r1 (qq i ⟨h,rfl⟩)
def jP (p0:bv):Option (Er):=
 (lZ p0.Kind).bind fun d=>
 if (!d)=true then
 some (Er.sent 3)
 else
 (bL (decide (p0.Kind≤4)) (some (p0.Kind != 2))).bind fun a=>
 (bL a ((orE (decide (p0.A < 0)) (some (decide (p0.A > 2)))).bind fun c=>
 some c)).bind fun b=>
 if b=true then
 some (Er.sent 7)
 else
 some Er.nil
theorem se (S:Own c0 G F) (hG:Gl [3,7] c0) (a:bv) {r:Er} (h2:Sl (RI .u8) c0 v1 a.Bytes) (H:jP a=some r): Calls prog 76 #[.agg #[I a.Kind,I a.A,I a.B,v1]] c0.w (aQ c0 fun c v=>∃R,Own c G (F)∧v=R∧RE 341 78 c R r):=by
 unfold jP at H;refine en func76 rfl rfl (sr ?_);obtain ⟨U,X,Z,rfl⟩:=(h2).form;refine me (bx 59 [I a.Kind,I a.A,I a.B,.slice U X Z] S) ?_;rintro v10 c9 P ⟨i,rfl,T,k⟩;refine va (.nilIface) (wln (W.seq (W.block (sr (va (Q i) (vx (l1 u_3 (k 0 _ rfl)) (bn H fun u D H=>cl (yZ T a.Kind D) ?_)))))));rintro v17 b l16 ⟨d,rfl⟩;refine vv (B (!u)) (wln (cn H (fun E H=>?_) (fun E H=>?_)))
 ·refine sr ?_;obtain ⟨v19,o⟩:=(hG.mono (P.trans l16)).get 3 (by decide);refine vx (l1 pg o.im) (va (v19) (wln (W.ret (bkr (thr ?_)))));obtain rfl:=si H;exact r1 (qq b ⟨v19,d,rfl,o⟩)
 refine W.seq (bn H fun a0 p H=>bn H fun x j H=>W.join (Jn b fun c l=>Own c G (F)∧l= [(9,B x)]) ?_ ?_)
 ·clear H;refine W.region (va (Q i) (vx (l1 u_3 ((mm k) 0 _ rfl)) (va (B (decide (a.Kind≤4))) ?_)));rcases bo (decide (a.Kind≤4)) with e | e
  ·have y:=anT e p;refine vb e (wa (Q i) (wn (vx (l1 u_3 ((mm k) 0 _ rfl)) (wa (B (a.Kind != 2)) ?_))));obtain rfl:=si y;refine va (B (a.Kind != 2)) ?_;rcases bo (a.Kind != 2) with f | f
   ·have h:=anT f j;refine vb f (wa (Qo i (0+1)) (wn (vx (l1 u_3 ((mm k) 1 _ rfl)) (wa (B (decide (a.A < 0))) (wn (bn h fun b0 q h=>?_))))));rcases bo (decide (a.A < 0)) with g | g
    ·obtain rfl:=orT g q;refine vb g (pz (ps (wa (B true) ?_)));obtain rfl:=si h;exact vv (B true) (wln (jn b ⟨d,rfl⟩))
    have z:=orF g q;refine vb g (wa (Qo i (0+1)) (wn (vx (l1 u_3 ((mm k) 1 _ rfl)) (wa (B (decide (a.A > 2))) (wn ?_)))));obtain rfl:=si z;refine va (B (decide (a.A > 2))) ?_;obtain rfl:=si h;exact vv (B (decide (a.A > 2))) (wln (jn b ⟨d,rfl⟩))
   obtain rfl:=anF f j;exact vb f (pz (pz (pz (pz (vv (B false) (wln (jn b ⟨d,rfl⟩)))))))
  obtain rfl:=anF e p;refine vb e (pz (ps (va (B false) ?_)));have s:false=false:=rfl;obtain rfl:=anF s j;exact vb s (pz (pz (pz (pz (vv (B false) (wln (jn b ⟨d,rfl⟩)))))))
 rintro e_ w_ ⟨n,e0,_,rfl,N,rfl,m,rfl⟩;refine nrm (cn H (fun M H=>?_) (fun M H=>?_))
 ·refine sr ?_;obtain ⟨v38,t⟩:=(hG.mono (P.trans (l16.trans N))).get 7 (by decide);refine vx (l1 pg t.im) (va (v38) (wln (W.ret (bkr (thr ?_)))));obtain rfl:=si H;exact r1 (qq n ⟨v38,m,rfl,t⟩)
 refine W.skip (bkn (nrm (sr (va (.nilIface) (wln (W.ret ?_))))));obtain rfl:=si H;exact r1 (qq n ⟨.nilIface,m,rfl,rfl⟩)
def gJ (sg:Sto) (p0:Option Nat) (p1:bv):Option (Sto):=
 (p0).bind fun e=>
 (sg.place_Pen[e]?).bind fun b=>
 (bJ sg b.G).bind fun f=>
 if (p1.Kind==10)=true then
 (jx sg b.G 0 f p1.A).bind fun i=>
 some i
 else
 if (p1.Kind==11)=true then
 (iZ sg b.G 0 f p1.A).bind fun j=>
 some j
 else
 if (p1.Kind==8)=true then
 (iZ sg b.G b.At.Row f p1.A).bind fun g=>
 (g.place_Pen[e]?).bind fun c=>
 (dj c.At).bind fun d=>
 (g.set_place_Pen e (⟨c.G,d,c.Auto⟩:bd)).bind fun a=>
 some a
 else
 if (p1.Kind==9)=true then
 (jx sg b.G b.At.Row f p1.A).bind fun h=>
 (h.place_Pen[e]?).bind fun c=>
 (dj c.At).bind fun d=>
 (h.set_place_Pen e (⟨c.G,d,c.Auto⟩:bd)).bind fun a=>
 some a
 else
 (dj b.At).bind fun d=>
 (sg.set_place_Pen e (⟨b.G,d,b.Auto⟩:bd)).bind fun a=>
 some a
theorem pS (O0:Own c0 G F) (s:Rel c0 sg G) (p0:Option Nat) (f:bv) {r:Sto} (h2:Pt 2 c0 v1 p0) (h4:Sl (RI .u8) c0 v3 f.Bytes) (H:gJ sg p0 f=some r): Calls prog 113 #[v1,.agg #[I f.Kind,I f.A,I f.B,v3]] c0.w (aQ c0 fun c v=>∃G_:Gm,Own c G_ (F)∧Rel c r G_∧v= .tuple #[]):=by
 unfold gJ at H;refine en func113 rfl rfl (sr ?_);obtain ⟨a5,a6,a7,rfl⟩:=(h4).form;refine me (bx 59 [I f.Kind,I f.A,I f.B,.slice a5 a6 a7] O0) ?_;rintro v12 q3 x ⟨t,rfl,O9,q⟩;refine wln (sr (va (v1) (bn H fun z3 y1 H=>?_)));obtain ⟨a,rfl,l⟩:=((h2.mono x)).get y1;refine vv (Q a) (bn H fun e z1 H=>?_);obtain ⟨v17,g,n⟩:=Rel.open_place_Pen (s.mono x) z1 l;refine vx (le1 0 iF (O9.gon g 0 rfl)) (bn H fun i b2 H=>cl (bD O9 s.m e.G n b2) ?_);rintro v26 s3 b0 ⟨k,rfl⟩;refine va (I i) (wln (W.seq (sr (va (Q t) (vx (l1 u_3 ((mm q) 0 _ rfl)) (wln (W.block (sr (vv (B (f.Kind==10)) (wln (cn H (fun c2 H=>?_) (fun c2 H=>?_))))))))))))
 ·refine W.seq (rD [7] (Kp G []) k ?_);intro n1 a4 M;have u2:Kp G [] n1:=(Kp.nil M);refine ta 0 (Q a) (ta 1 (Q a) (ta 2 (Q a) (tkx 3 u2 (fun p h j=>le1 0 iF (j.gon g 0 rfl)) (ta 4 (I i) (ta 5 (Qo t (0+1)) (tx 6 (fun p h=>l1 u_3 ((mm q) 1 _ rfl)) (bn H fun j3 d2 H=>o1 7 (gc 7 (pM M s.m e.G 0 i f.A n.m d2) ?_))))))));rintro v37 q1 b4 ⟨z0,c1,j1,rfl⟩;refine ⟨.inl rfl,dn (nrm (W.ret (bkr (thr ?_))))⟩;obtain rfl:=si H;exact r0 (qq q1 ⟨z0,c1,j1,rfl⟩)
 refine sr (vv (B (f.Kind==11)) (wln (cn H (fun e2 H=>?_) (fun e2 H=>?_))))
 ·refine W.seq (rD [7] (Kp G []) k ?_);intro s1 c4 N;have v2:Kp G [] s1:=(Kp.nil N);refine ta 0 (Q a) (ta 1 (Q a) (ta 2 (Q a) (tkx 3 v2 (fun p h j=>le1 0 iF (j.gon g 0 rfl)) (ta 4 (I i) (ta 5 (Qo t (0+1)) (tx 6 (fun p h=>l1 u_3 ((mm q) 1 _ rfl)) (bn H fun k3 f2 H=>o1 7 (gc 7 (qH N s.m e.G 0 i f.A n.m f2) ?_))))))));rintro v48 t1 d4 ⟨a1,d1,k1,rfl⟩;refine ⟨.inl rfl,dn (nrm (W.ret (bkr (thr ?_))))⟩;obtain rfl:=si H;exact r0 (qq t1 ⟨a1,d1,k1,rfl⟩)
 refine sr (vv (B (f.Kind==8)) (wln (cn H (fun g2 H=>?_) (fun g2 H=>?_))))
 ·refine rD [12] (Kp G []) k ?_;intro u1 e4 P;have g0:Kp G [] u1:=(Kp.nil P);refine ta 0 (Q a) (ta 1 (Q a) (ta 2 (Q a) (tkx 3 g0 (fun p h j=>le1 0 iF (j.gon g 0 rfl)) (ta 4 (Q a) (ta 5 (Q a) (ta 6 (Qo a 1) (ta 7 (Qo a 1) (tkx 8 g0 (fun p h j=>le1 1 u_3 (j.gon g 0 rfl)) (ta 9 (I i) (ta 10 (Qo t (0+1)) (tx 11 (fun p h=>l1 u_3 ((mm q) 1 _ rfl)) (bn H fun l3 i2 H=>o1 12 (gc 12 (qH P s.m e.G e.At.Row i f.A n.m i2) ?_)))))))))))));rintro v59 t3 f4 ⟨n3,R,U,rfl⟩;refine ⟨.inl rfl,dn (bkn (nrm (W.region (vv (Q a) (va (Q a) (va (Qo a 1) (bn H fun d j2 H=>?_)))))))⟩;obtain ⟨D,Z,k2⟩:=Rel.open_place_Pen U j2 (tm l);refine vx (leN 29 1 [I d.At.Row,I d.At.Col,B d.At.Pending] (R.gon Z 0 rfl)) (bn H fun b l2 H=>cl (iT R d.At l2) ?_);rintro j4 u3 d0 ⟨e1,rfl⟩;refine va (Q a) (va (Qo a 1) (md (gB 29 1 [I b.Row,I b.Col,B b.Pending] [D,I b.Row,I b.Col,B b.Pending,B d.Auto] 0 e1 Z ⟨rfl,rfl,rfl,trivial⟩) ?_));rintro w1 e0 f1;refine bn H fun o m2 H=>?_;obtain ⟨b1,g1,m1,y3,p3⟩:=Rel.put_place_Pen f1 (U.mono (d0.trans e0)) (E':=[(Eb a 98 [D,I b.Row,I b.Col,B b.Pending,B d.Auto])]) m2 ⟨a,D,(tm l),rfl,(k2.mono (d0.trans e0))⟩;refine WL.nil ?_;obtain rfl:=si H;exact n0 (qq w1 ⟨b1,g1,m1,rfl⟩)
 refine sr (vv (B (f.Kind==9)) (wln (cn H (fun n2 H=>?_) (fun n2 H=>?_))))
 ·refine rD [12] (Kp G []) k ?_;intro x1 g4 S;have h0:Kp G [] x1:=(Kp.nil S);refine ta 0 (Q a) (ta 1 (Q a) (ta 2 (Q a) (tkx 3 h0 (fun p h j=>le1 0 iF (j.gon g 0 rfl)) (ta 4 (Q a) (ta 5 (Q a) (ta 6 (Qo a 1) (ta 7 (Qo a 1) (tkx 8 h0 (fun p h j=>le1 1 u_3 (j.gon g 0 rfl)) (ta 9 (I i) (ta 10 (Qo t (0+1)) (tx 11 (fun p h=>l1 u_3 ((mm q) 1 _ rfl)) (bn H fun m3 o2 H=>o1 12 (gc 12 (pM S s.m e.G e.At.Row i f.A n.m o2) ?_)))))))))))));rintro k4 w3 i4 ⟨o3,T,X,rfl⟩;refine ⟨.inl rfl,dn (bkn (nrm (W.region (vv (Q a) (va (Q a) (va (Qo a 1) (bn H fun d p2 H=>?_)))))))⟩;obtain ⟨E,a0,q2⟩:=Rel.open_place_Pen X p2 (tm l);refine vx (leN 29 1 [I d.At.Row,I d.At.Col,B d.At.Pending] (T.gon a0 0 rfl)) (bn H fun b s2 H=>cl (iT T d.At s2) ?_);rintro h3 x3 f0 ⟨i1,rfl⟩;refine va (Q a) (va (Qo a 1) (md (gB 29 1 [I b.Row,I b.Col,B b.Pending] [E,I b.Row,I b.Col,B b.Pending,B d.Auto] 0 i1 a0 ⟨rfl,rfl,rfl,trivial⟩) ?_));rintro u0 u k0;refine bn H fun o w0 H=>?_;obtain ⟨i0,l0,s0,d3,x2⟩:=Rel.put_place_Pen k0 (X.mono (f0.trans u)) (E':=[(Eb a 98 [E,I b.Row,I b.Col,B b.Pending,B d.Auto])]) w0 ⟨a,E,(tm l),rfl,(q2.mono (f0.trans u))⟩;refine WL.nil ?_;obtain rfl:=si H;exact n0 (qq u0 ⟨i0,l0,s0,rfl⟩)
 refine W.skip (bkn (nrm (W.region (vv (Q a) (va (Q a) (va (Qo a 1) (vx (leN 29 1 [I e.At.Row,I e.At.Col,B e.At.Pending] (k.gon g 0 rfl)) (bn H fun b x0 H=>cl (iT k e.At x0) ?_))))))));rintro i3 c3 y ⟨m0,rfl⟩;refine va (Q a) (va (Qo a 1) (md (gB 29 1 [I b.Row,I b.Col,B b.Pending] [v17,I b.Row,I b.Col,B b.Pending,B e.Auto] 0 m0 g ⟨rfl,rfl,rfl,trivial⟩) ?_));rintro v0 z o0;refine bn H fun o y0 H=>?_;obtain ⟨j0,q0,t0,e3,y2⟩:=Rel.put_place_Pen o0 (s.mono (x.trans (b0.trans (y.trans z)))) (E':=[(Eb a 98 [v17,I b.Row,I b.Col,B b.Pending,B e.Auto])]) y0 ⟨a,v17,(tm l),rfl,(n.mono (b0.trans (y.trans z)))⟩;refine WL.nil ?_;obtain rfl:=si H;exact n0 (qq v0 ⟨j0,q0,t0,rfl⟩)
def kF (sg:Sto) (p0:Option Nat) (p1:Int):Option (Sto):=
 (p0).bind fun f=>
 (sg.place_Pen[f]?).bind fun b=>
 (bq sg b.G b.At.Row).bind fun a=>
 if (p1==0)=true then
 (ka sg a b.At.Col).bind fun c=>
 some c
 else
 if (p1==1)=true then
 (kR sg a b.At.Col).bind fun d=>
 some d
 else
 (jA sg a).bind fun e=>
 some e
theorem tP (O0:Own c0 G F) (h:Rel c0 sg G) (hG:Gl [3,7] c0) (Z:Option Nat) (d:Int) {r:Sto} (h2:Pt 2 c0 v1 Z) (H:kF sg Z d=some r): Calls prog 144 #[v1,I d] c0.w (aQ c0 fun c v=>∃G_:Gm,Own c G_ (F)∧Rel c r G_∧v= .tuple #[]):=by
 unfold kF at H;refine en func144 rfl rfl (W.seq (rD [] (Kp G []) O0 ?_));intro c3 X q;have p5:Kp G [] c3:=(Kp.nil q);refine ta 0 (v1) (bn H fun o0 h8 H=>?_);obtain ⟨a,rfl,h7⟩:=((h2.mono X)).get h8;refine ta 1 (Q a) (ta 2 (Q a) (bn H fun g h9 H=>?_));obtain ⟨v10,f,E⟩:=Rel.open_place_Pen (h.mono X) h9 h7;refine tkx 3 p5 (fun c' U j=>le1 0 iF (j.gon f 0 rfl)) (ta 4 (Q a) (ta 5 (Q a) (ta 6 (Qo a 1) (ta 7 (Qo a 1) (tkx 8 p5 (fun c' U j=>le1 1 u_3 (j.gon f 0 rfl)) (bn H fun e M H=>o1 9 (gc 9 (cP q h.m g.G g.At.Row E M) ?_)))))));rintro v14 y q0 ⟨_,b,rfl,i⟩;have a0:Kp G [] y:=(Kp.nil b);refine ⟨.inr a0,ta 10 (v14) (dn (nrm (sr (va (I d) (wln (W.block (sr (vv (B (d==0)) (wln (cn H (fun N H=>?_) (fun N H=>?_)))))))))))⟩
 ·refine W.region (va (v14) (vv (Q a) (va (Qo a 1) (va (Qo a 2) (vx (le1 2 u_3 (b.gon f 0 rfl)) (bn H fun k0 P H=>cl (vS b h.m (hG.m.le (by decide)) e g.At.Col i P) ?_))))));rintro v30 z s0 ⟨k,o,t,rfl⟩;refine WL.nil (bkn ?_);obtain rfl:=si H;exact n0 (qq z ⟨k,o,t,rfl⟩)
 refine sr (vv (B (d==1)) (wln (cn H (fun R H=>?_) (fun R H=>?_))))
 ·refine W.region (va (v14) (vv (Q a) (va (Qo a 1) (va (Qo a 2) (vx (le1 2 u_3 (b.gon f 0 rfl)) (bn H fun l0 S H=>cl (xw b h.m (hG.m.le (by decide)) e g.At.Col i S) ?_))))));rintro v38 A t0 ⟨l,p,u,rfl⟩;refine WL.nil (bkn ?_);obtain rfl:=si H;exact n0 (qq A ⟨l,p,u,rfl⟩)
 refine W.region (va (v14) (bn H fun m0 T H=>cl (tN b h.m (hG.m.le (by decide)) e i T) ?_));rintro v45 D u0 ⟨n,s,x,rfl⟩;refine WL.nil (bkn ?_);obtain rfl:=si H;exact n0 (qq D ⟨n,s,x,rfl⟩)
def lP (sg:Sto) (p0:Option Nat) (p1:Int):Option (Sto):=
 (kF sg p0 p1).bind fun c=>
 (p0).bind fun b=>
 (c.place_Pen[b]?).bind fun p=>
 (bJ c p.G).bind fun d=>
 (cO (σ:=Int×Sto) (τ:=Sto) ((d - 0).toNat+1) (fun a=>
 if (decide (a.1 < d))=true then
 ((orE (p1==2) ((bL (p1==0) ((a.2.place_Pen[b]?).bind fun j=>
 some (decide (a.1 > j.At.Row)))).bind fun f=>
 some f)).bind fun e=>
 (orE e ((bL (p1==1) ((a.2.place_Pen[b]?).bind fun k=>
 some (decide (a.1 < k.At.Row)))).bind fun h=>
 some h)).bind fun g=>
 if g=true then
 (a.2.place_Pen[b]?).bind fun l=>
 (bq a.2 l.G a.1).bind fun m=>
 (jA a.2 m).bind fun n=>
 some (n)
 else
 some (a.2)).bind fun o=>
 some (.inl ((w64 (a.1+1)),o))
 else
 some (.inr (a.2))) (0,c)).bind fun i=>
 some i
theorem vU (O0:Own c0 G F) (R0:Rel c0 sg G) (hG:Gl [3,7] c0) (p0:Option Nat) (f:Int) {r:Sto} (h2:Pt 2 c0 v1 p0) (H:lP sg p0 f=some r): Calls prog 145 #[v1,I f] c0.w (aQ c0 fun c v=>∃G_:Gm,Own c G_ (F)∧Rel c r G_∧v= .tuple #[]):=by
 unfold lP at H;refine en func145 rfl rfl (sr (va (v1) (va (I f) (bn H fun s3 h3 H=>cl (tP O0 R0 (hG.le (by decide)) p0 f h2 h3) ?_))));rintro v9 c8 l8 ⟨G4,O5,R6,rfl⟩;refine wln (sr (va (v1) (bn H fun f3 j1 H=>?_)));obtain ⟨b,rfl,n⟩:=((h2.mono l8)).get j1;refine vv (Q b) (bn H fun l2 k1 H=>?_);obtain ⟨v14,n1,m1⟩:=Rel.open_place_Pen R6 k1 n;refine vx (le1 0 iF (O5.gon n1 0 rfl)) (bn H fun A q1 H=>cl (bD O5 R6 l2.G m1 q1) ?_);rintro v23 R g3 ⟨x0,rfl⟩;refine va (I 0) (wln (W.block (bn H fun v2 U T=>lp U (fun a=>Jn R fun c l=>∃G_,Own c G_ (F)∧l= [(0,Q b),(1,I f),(12,I A),(13,I a.1)]∧Rel c a.2 G_) (fun S ex e w=>ex= .exit 0∧(Jn R fun c l=>∃G_,Own c G_ (F)∧l= []∧Rel c S G_) e w) ?_ ?_ ?_)))
 ·clear T U;intro a t3 i1 m2 H;revert i1 m2;rintro e_ w_ ⟨i,y2,_,rfl,i3,rfl,D,g,rfl,j⟩;refine sr (va (B (decide (a.1 < A))) (wln (W.seq (cn H (fun t1 H=>?_) (fun t1 H=>?_)))))
  ·refine W.skip (nrm (bn H fun t0 d w0=>W.seqJ (Jn i fun c l=>∃G_,Own c G_ (F)∧l= [(0,Q b),(1,I f),(12,I A),(13,I a.1)]∧Rel c t0 G_) ?_ ?_))
   ·refine W.block (sr (vv (I a.1) (wln (W.seq (bn d fun q2 X d=>bn d fun j0 z d=>W.join (Jn i fun c l=>Own c D (F)∧l= [(0,Q b),(1,I f),(4,I a.1),(12,I A),(13,I a.1),(43,B j0)]) ?_ ?_)))))
    ·clear d;refine W.region (va (I f) (va (B (f==2)) ?_));rcases bo (f==2) with o | o
     ·obtain rfl:=orT o X;refine vb o (pz (pz (pz (pz (pz (ps (va (B true) ?_)))))));have Z:true=true:=rfl;obtain rfl:=orT Z z;exact vb Z (pz (pz (pz (pz (pz (ps (va (B true) (wln (jn i ⟨g,rfl⟩)))))))))
     have u:=orF o X;refine vb o (wa (I f) (wa (B (f==0)) (wn (bn u fun s2 a0 u=>?_))));rcases bo (f==0) with p | p
     ·have E:=anT p a0;refine vb p (wa (I a.1) (wa (Q b) (wa (Q b) (wa (Qo b 1) (wa (Qo b 1) (wn (bn E fun k u1 E=>?_)))))));obtain ⟨v44,w1,c3⟩:=Rel.open_place_Pen j u1 (tm n);refine vx (le1 1 u_3 (g.gon w1 0 rfl)) (wa (B (decide (a.1 > k.At.Row))) (wn ?_));obtain rfl:=si E;refine va (B (decide (a.1 > k.At.Row))) ?_;obtain rfl:=si u;refine va (B (decide (a.1 > k.At.Row))) ?_;rcases bo (decide (a.1 > k.At.Row)) with q | q
      ·obtain rfl:=orT q z;exact vb q (pz (pz (pz (pz (pz (ps (va (B true) (wln (jn i ⟨g,rfl⟩)))))))))
      have x:=orF q z;refine vb q (wa (I f) (wa (B (f==1)) (wn (bn x fun k0 b0 x=>?_))));rcases bo (f==1) with s | s
      ·have M:=anT s b0;refine vb s (wa (I a.1) (wa (Q b) (wa (Q b) (wa (Qo b 1) (wa (Qo b 1) (wn (bn M fun h x1 M=>?_)))))));obtain ⟨v53,y1,d3⟩:=Rel.open_place_Pen j x1 (tm n);refine vx (le1 1 u_3 (g.gon y1 0 rfl)) (wa (B (decide (a.1 < h.At.Row))) (wn ?_));obtain rfl:=si M;refine va (B (decide (a.1 < h.At.Row))) ?_;obtain rfl:=si x;exact va (B (decide (a.1 < h.At.Row))) (wln (jn i ⟨g,rfl⟩))
      obtain rfl:=anF s b0;refine vb s (pz (pz (pz (ps (wa (B false) ?_)))));obtain rfl:=si x;exact va (B false) (wln (jn i ⟨g,rfl⟩))
     obtain rfl:=anF p a0;refine vb p (pz (pz (pz (ps (wa (B false) ?_)))));obtain rfl:=si u;refine va (B false) ?_;have d0:false=false:=rfl;have y:=orF d0 z;refine vb d0 (wa (I f) (wa (B (f==1)) (wn (bn y fun k0 e0 y=>?_))));rcases bo (f==1) with t | t
     ·have N:=anT t e0;refine vb t (wa (I a.1) (wa (Q b) (wa (Q b) (wa (Qo b 1) (wa (Qo b 1) (wn (bn N fun h z1 N=>?_)))))));obtain ⟨n3,b2,e3⟩:=Rel.open_place_Pen j z1 (tm n);refine vx (le1 1 u_3 (g.gon b2 0 rfl)) (wa (B (decide (a.1 < h.At.Row))) (wn ?_));obtain rfl:=si N;refine va (B (decide (a.1 < h.At.Row))) ?_;obtain rfl:=si y;exact va (B (decide (a.1 < h.At.Row))) (wln (jn i ⟨g,rfl⟩))
     obtain rfl:=anF t e0;refine vb t (pz (pz (pz (ps (wa (B false) ?_)))));obtain rfl:=si y;exact va (B false) (wln (jn i ⟨g,rfl⟩))
    rintro e_ w_ ⟨e1,z2,_,rfl,k2,rfl,P,rfl⟩;refine nrm (cn d (fun c2 d=>?_) (fun c2 d=>?_))
    ·refine W.region (vv (Q b) (va (Q b) (bn d fun m0 d2 d=>?_)));obtain ⟨o3,f2,e2⟩:=Rel.open_place_Pen (j.mono k2) d2 (tm n);refine vx (le1 0 iF (P.gon f2 0 rfl)) (va (I a.1) (bn d fun s0 g2 d=>cl (cP P j.m m0.G a.1 e2 g2) ?_));rintro p3 x2 j3 ⟨_,z0,rfl,i2⟩;refine bn d fun w2 j2 d=>cl (tN z0 j.m (hG.m.le (by decide)) s0 i2 j2) ?_;rintro q3 f1 k3 ⟨u0,a1,c1,rfl⟩;refine WL.nil (bkn (nrm ?_));obtain rfl:=si d;exact jn f1 ⟨u0,a1,rfl,c1⟩
    refine W.skip (bkn (nrm ?_));obtain rfl:=si d;exact jn e1 ⟨D,P,rfl,j.m⟩
   rintro e_ w_ ⟨g1,a3,_,rfl,l3,rfl,v0,b1,rfl,d1⟩;refine W.region (vv (I (w64 (a.1+1))) (WL.nil ?_));obtain rfl:=si w0;exact ⟨_,rfl,jn g1 ⟨v0,b1,rfl,d1⟩⟩
  refine W.exit (thx ?_);obtain rfl:=si H;exact ⟨_,rfl,rfl,jn i ⟨D,g,rfl,j⟩⟩
 ·exact jn R ⟨G4,x0,rfl,R6.m⟩
 rintro _ e_ w_ ⟨rfl,h1,b3,_,rfl,m3,rfl,f0,g0,rfl,h0⟩;refine bke ?_;obtain rfl:=si T;exact n0 (qq h1 ⟨f0,g0,h0,rfl⟩)
def eY (sg:Sto) (p0:Option Nat) (p1:bv):Option (Sto):=
 (p0).bind fun e=>
 (sg.place_Pen[e]?).bind fun a=>
 (bq sg a.G a.At.Row).bind fun c=>
 if (p1.Kind==2)=true then
 (bU sg a.G).bind fun f=>
 (bJ sg a.G).bind fun g=>
 (gN p1.A p1.B f g).bind fun h=>
 (sg.set_place_Pen e (⟨a.G,h,a.Auto⟩:bd)).bind fun d=>
 some d
 else
 if (p1.Kind==3)=true then
 (kF sg p0 p1.A).bind fun i=>
 some i
 else
 if (p1.Kind==4)=true then
 (lP sg p0 p1.A).bind fun j=>
 some j
 else
 if (p1.Kind==5)=true then
 (jd sg c a.At.Col p1.A).bind fun k=>
 some k
 else
 if (p1.Kind==6)=true then
 (ju sg c a.At.Col p1.A).bind fun l=>
 some l
 else
 if (p1.Kind==7)=true then
 (jv sg c a.At.Col p1.A).bind fun m=>
 some m
 else
 if (p1.Kind==12)=true then
 (sg.set_place_Pen e (⟨a.G,a.At,p1.A != 0⟩:bd)).bind fun b=>
 some b
 else
 some sg
theorem xx (O0:Own c0 G F) (k:Rel c0 sg G) (hG:Gl [3,7] c0) (D:Option Nat) (b:bv) {r:Sto} (h2:Pt 2 c0 v1 D) (h4:Sl (RI .u8) c0 v3 b.Bytes) (H:eY sg D b=some r): Calls prog 114 #[v1,.agg #[I b.Kind,I b.A,I b.B,v3]] c0.w (aQ c0 fun c v=>∃G_:Gm,Own c G_ (F)∧Rel c r G_∧v= .tuple #[]):=by
 unfold eY at H;refine en func114 rfl rfl (sr ?_);obtain ⟨a5,a6,a7,rfl⟩:=(h4).form;refine me (bx 59 [I b.Kind,I b.A,I b.B,.slice a5 a6 a7] O0) ?_;rintro v12 e4 q ⟨n,rfl,O9,i⟩;refine wln (W.seq (rD [] (Kp G []) O9 ?_));intro b2 s E;have e0:Kp G [] b2:=(Kp.nil E);refine ta 0 (v1) (bn H fun g4 n2 H=>?_);obtain ⟨a,rfl,x⟩:=((h2.mono (q.trans s))).get n2;refine ta 1 (Q a) (ta 2 (Q a) (bn H fun d o2 H=>?_));obtain ⟨v20,h,o⟩:=Rel.open_place_Pen (k.mono (q.trans s)) o2 x;refine tkx 3 e0 (fun l f j=>le1 0 iF (j.gon h 0 rfl)) (ta 4 (Q a) (ta 5 (Q a) (ta 6 (Qo a 1) (ta 7 (Qo a 1) (tkx 8 e0 (fun l f j=>le1 1 u_3 (j.gon h 0 rfl)) (bn H fun p p2 H=>o1 9 (gc 9 (cP E k.m d.G d.At.Row o p2) ?_)))))));rintro v24 U t ⟨_,g,rfl,y⟩;have d3:Kp G [] U:=(Kp.nil g);refine ⟨.inr d3,ta 10 (v24) (dn (nrm (sr (va (Q n) (vx (l1 u_3 ((mm i) 0 _ rfl)) (wln (W.block (sr (vv (B (b.Kind==2)) (wln (cn H (fun q2 H=>?_) (fun q2 H=>?_))))))))))))⟩
 ·refine rD [18] (Kp G []) g ?_;intro c2 X M;have f0:Kp G [] c2:=(Kp.nil M);refine ta 0 (Q a) (ta 1 (Qo n (0+1)) (tx 2 (fun l f=>l1 u_3 ((mm i) 1 _ rfl)) (ta 3 (Qo n (0+2)) (tx 4 (fun l f=>l1 u_3 ((mm i) 2 _ rfl)) (ta 5 (Q a) (ta 6 (Q a) (ta 7 (Q a) (tkx 8 f0 (fun l f j=>le1 0 iF (j.gon h 0 rfl)) (ta 10 (Q a) (ta 11 (Q a) (ta 12 (Q a) (tkx 13 f0 (fun l f j=>le1 0 iF (j.gon h 0 rfl)) (bn H fun f1 s2 H=>o1 9 (gc 9 (cF M k.m d.G o.m s2) ?_))))))))))))));rintro v43 d2 Z ⟨N,rfl⟩;have e3:Kp G [] d2:=(Kp.nil N);refine ⟨.inr e3,bn H fun g1 t2 H=>o1 14 (gc 14 (bD N k.m d.G o.m t2) ?_)⟩;rintro v51 e2 a0 ⟨P,rfl⟩;have f3:Kp G [] e2:=(Kp.nil P);refine ⟨.inr f3,bn H fun e u2 H=>o1 15 (gc 15 (qK P b.A b.B f1 g1 u2) ?_)⟩;rintro v59 f2 b0 ⟨R,rfl⟩;have g3:Kp G [] f2:=(Kp.nil R);refine ⟨.inr g3,ta 16 (Q a) (ta 17 (Qo a 1) (o1 18 (gD 18 (gB 29 1 [I e.Row,I e.Col,B e.Pending] [v20,I e.Row,I e.Col,B e.Pending,B d.Auto] 0 R h ⟨rfl,rfl,rfl,trivial⟩) ?_)))⟩;rintro g2 d0 n1;refine bn H fun h1 v2 H=>?_;obtain ⟨i1,q1,w1,f4,d4⟩:=Rel.put_place_Pen n1 (k.mono (q.trans (s.trans (t.trans (X.trans (Z.trans (a0.trans (b0.trans d0)))))))) (E':=[(Eb a 98 [v20,I e.Row,I e.Col,B e.Pending,B d.Auto])]) v2 ⟨a,v20,(tm x),rfl,(o.mono (t.trans (X.trans (Z.trans (a0.trans (b0.trans d0))))))⟩;refine ⟨.inl rfl,dn (bkn ?_)⟩;obtain rfl:=si H;exact n0 (qq g2 ⟨i1,q1,w1,rfl⟩)
 refine sr (vv (B (b.Kind==3)) (wln (cn H (fun w2 H=>?_) (fun w2 H=>?_))))
 ·refine W.region (va (Q a) (va (Qo n (0+1)) (vx (l1 u_3 ((mm i) 1 _ rfl)) (bn H fun y3 x2 H=>cl (tP g k.m (hG.m.le (by decide)) D b.A h2.m x2) ?_))));rintro n4 i2 i4 ⟨j1,s1,x1,rfl⟩;refine WL.nil (bkn ?_);obtain rfl:=si H;exact n0 (qq i2 ⟨j1,s1,x1,rfl⟩)
 refine sr (vv (B (b.Kind==4)) (wln (cn H (fun y2 H=>?_) (fun y2 H=>?_))))
 ·refine W.region (va (Q a) (va (Qo n (0+1)) (vx (l1 u_3 ((mm i) 1 _ rfl)) (bn H fun z3 z2 H=>cl (vU g k.m (hG.m.le (by decide)) D b.A h2.m z2) ?_))));rintro o4 j2 j4 ⟨k1,t1,y1,rfl⟩;refine WL.nil (bkn ?_);obtain rfl:=si H;exact n0 (qq j2 ⟨k1,t1,y1,rfl⟩)
 refine sr (vv (B (b.Kind==5)) (wln (cn H (fun a3 H=>?_) (fun a3 H=>?_))))
 ·refine rD [8] (Kp G []) g ?_;intro k2 k4 S;have h3:Kp G [] k2:=(Kp.nil S);refine ta 0 (v24) (ta 1 (Q a) (ta 2 (Q a) (ta 3 (Qo a 1) (ta 4 (Qo a 2) (tkx 5 h3 (fun l f j=>le1 2 u_3 (j.gon h 0 rfl)) (ta 6 (Qo n (0+1)) (tx 7 (fun l f=>l1 u_3 ((mm i) 1 _ rfl)) (bn H fun a4 b3 H=>o1 8 (gc 8 (vT S k.m (hG.m.le (by decide)) p d.At.Col b.A y.m b3) ?_)))))))));rintro p4 l2 l4 ⟨m1,u1,z1,rfl⟩;refine ⟨.inl rfl,dn (bkn ?_)⟩;obtain rfl:=si H;exact n0 (qq l2 ⟨m1,u1,z1,rfl⟩)
 refine sr (vv (B (b.Kind==6)) (wln (cn H (fun c3 H=>?_) (fun c3 H=>?_))))
 ·refine rD [8] (Kp G []) g ?_;intro m2 m4 T;have i3:Kp G [] m2:=(Kp.nil T);refine ta 0 (v24) (ta 1 (Q a) (ta 2 (Q a) (ta 3 (Qo a 1) (ta 4 (Qo a 2) (tkx 5 i3 (fun l f j=>le1 2 u_3 (j.gon h 0 rfl)) (ta 6 (Qo n (0+1)) (tx 7 (fun l f=>l1 u_3 ((mm i) 1 _ rfl)) (bn H fun b4 x0 H=>o1 8 (gc 8 (vi T k.m (hG.m.le (by decide)) p d.At.Col b.A y.m x0) ?_)))))))));rintro w3 t0 s3 ⟨g0,j0,o0,rfl⟩;refine ⟨.inl rfl,dn (bkn ?_)⟩;obtain rfl:=si H;exact n0 (qq t0 ⟨g0,j0,o0,rfl⟩)
 refine sr (vv (B (b.Kind==7)) (wln (cn H (fun y0 H=>?_) (fun y0 H=>?_))))
 ·refine rD [8] (Kp G []) g ?_;intro u0 t3 u;have d1:Kp G [] u0:=(Kp.nil u);refine ta 0 (v24) (ta 1 (Q a) (ta 2 (Q a) (ta 3 (Qo a 1) (ta 4 (Qo a 2) (tkx 5 d1 (fun l f j=>le1 2 u_3 (j.gon h 0 rfl)) (ta 6 (Qo n (0+1)) (tx 7 (fun l f=>l1 u_3 ((mm i) 1 _ rfl)) (bn H fun c4 z0 H=>o1 8 (gc 8 (vj u k.m (hG.m.le (by decide)) p d.At.Col b.A y.m z0) ?_)))))))));rintro x3 v0 u3 ⟨h0,k0,q0,rfl⟩;refine ⟨.inl rfl,dn (bkn ?_)⟩;obtain rfl:=si H;exact n0 (qq v0 ⟨h0,k0,q0,rfl⟩)
 refine sr (vv (B (b.Kind==12)) (wln (cn H (fun a1 H=>?_) (fun a1 H=>?_))))
 ·refine W.region (va (Q a) (va (Qo n (0+1)) (vx (l1 u_3 ((mm i) 1 _ rfl)) (va (B (b.A != 0)) (va (Q a) (va (Qo a 4) (md (gC 4 4 (B (b.A != 0)) [v20,I d.At.Row,I d.At.Col,B d.At.Pending,B (b.A != 0)] 0 g h ⟨rfl,trivial⟩) ?_)))))));rintro w0 z l0;refine bn H fun e1 b1 H=>?_;obtain ⟨i0,m0,s0,p3,l3⟩:=Rel.put_place_Pen l0 (k.mono (q.trans (s.trans (t.trans z)))) (E':=[(Eb a 98 [v20,I d.At.Row,I d.At.Col,B d.At.Pending,B (b.A != 0)])]) b1 ⟨a,v20,(tm x),rfl,(o.mono (t.trans z))⟩;refine WL.nil (bkn ?_);obtain rfl:=si H;exact n0 (qq w0 ⟨i0,m0,s0,rfl⟩)
 refine W.skip (bkn ?_);obtain rfl:=si H;exact n0 (qq U ⟨G,g,k.m,rfl⟩)
def nV (sg:Sto) (p0:Option Nat) (p1:bv):Option (Sto×Er):=
 (jP p1).bind fun g=>
 if (!g.isNil)=true then
 some (sg,g)
 else
 (orE p0.isNone ((p0).bind fun i=>
 (sg.place_Pen[i]?).bind fun j=>
 some j.G.isNone)).bind fun h=>
 if h=true then
 some (sg,Er.nil)
 else
 (p0).bind fun d=>
 (sg.place_Pen[d]?).bind fun b=>
 (bU sg b.G).bind fun k=>
 (bJ sg b.G).bind fun l=>
 (eo b.At k l).bind fun e=>
 (sg.set_place_Pen d (⟨b.G,e,b.Auto⟩:bd)).bind fun f=>
 (f.set_place_Pen d (⟨b.G,(⟨e.Row,e.Col,false⟩:ai),b.Auto⟩:bd)).bind fun a=>
 (if (p1.Kind==8)=true then
 (gJ a p0 p1).bind fun c=>
 some (c)
 else
 if (p1.Kind==9)=true then
 (gJ a p0 p1).bind fun c=>
 some (c)
 else
 (if (p1.Kind==10)=true then
 some (p1.Kind==10)
 else
 some (p1.Kind==11)).bind fun o=>
 if o=true then
 (gJ a p0 p1).bind fun c=>
 some (c)
 else
 (eY a p0 p1).bind fun m=>
 some (m)).bind fun n=>
 some (n,Er.nil)
theorem BM (O0:Own c0 G F) (t:Rel c0 sg G) (hG:Gl [3,7] c0) (s:Option Nat) (e:bv) {r:Sto×Er} (u:Pt 2 c0 v1 s) (P:Sl (RI .u8) c0 v3 e.Bytes) (H:nV sg s e=some r): Calls prog 77 #[v1,.agg #[I e.Kind,I e.A,I e.B,v3]] c0.w (aQ c0 fun c v=>∃y1,∃G_:Gm,Own c G_ (F)∧Rel c r.1 G_∧v=y1∧RE 341 78 c y1 r.2):=by
 unfold nV at H;refine en func77 rfl rfl (sr ?_);obtain ⟨a5,a6,a7,rfl⟩:=(P).form;refine me (bx 59 [I e.Kind,I e.A,I e.B,.slice a5 a6 a7] O0) ?_;rintro v12 w4 p ⟨b8,rfl,O9,k⟩;refine va (.nilIface) (wln (W.seq (sr (vx (lN 59 k) (bn H fun x3 z2 H=>cl (se O9 (hG.m.le (by decide)) e P.m z2) ?_)))));rintro v14 D q ⟨_,x,rfl,o0⟩;refine va (v14) (wln (sr (va (v14) (vr (B (!x3.isNil)) (by rcases (o0).cs with ⟨h,i⟩ | ⟨b_,h,i⟩ | ⟨b_,h,i⟩ <;> (subst h; rw [i]; kernel_rfl)) (wln (cn H (fun a3 H=>?_) (fun a3 H=>?_)))))))
 ·refine sr (vv (v14) (wln (W.ret (thr ?_))));obtain rfl:=si H;exact r1 (qq D ⟨v14,G,x,t.m,rfl,o0⟩)
 refine W.skip (nrm (W.seq (W.seq (bn H fun n1 q0 H=>W.join (Jn D fun c l=>Own c G (F)∧l= [(0,v1),(3,Q b8),(19,B n1)]) ?_ ?_))))
 ·clear H;refine W.region (va (v1) (vr (B s.isNone) (by rcases u.m.cs with ⟨h,i⟩ | ⟨b_,h,i⟩ <;> (subst h; rw [i]; kernel_rfl)) ?_));rcases bo (s.isNone) with o | o
  ·obtain rfl:=orT o q0;exact vb o (pz (pz (ps (va (B true) (wln (jn D ⟨x,rfl⟩))))))
  have n:=orF o q0;refine vb o (wa (v1) (wn (bn n fun i4 c3 n=>?_)));obtain ⟨m0,rfl,b3⟩:=((u.mono (p.trans q))).get c3;refine va (Q m0) (wa (Q m0) (wn (bn n fun e0 d3 n=>?_)));obtain ⟨v30,f3,e3⟩:=Rel.open_place_Pen (t.mono (p.trans q)) d3 b3;refine vx (le1 0 iF (x.gon f3 0 rfl)) (wn (vr (B e0.G.isNone) (by rcases (e3).cs with ⟨h,i⟩ | ⟨b_,h,i⟩ <;> (subst h; rw [i]; kernel_rfl)) ?_));obtain rfl:=si n;exact va (B e0.G.isNone) (wln (jn D ⟨x,rfl⟩))
 rintro e_ w_ ⟨s2,y4,_,rfl,U,rfl,h0,rfl⟩;refine nrm (cn H (fun g3 H=>?_) (fun g3 H=>?_))
 ·refine sr (va (.nilIface) (wln (W.ret (thr ?_))));obtain rfl:=si H;exact r1 (qq s2 ⟨.nilIface,G,h0,t.m,rfl,rfl⟩)
 refine W.skip (nrm (W.seq (rD [18] (Kp G []) h0 ?_)));intro t2 X i0;have f0:Kp G [] t2:=(Kp.nil i0);refine ta 0 (v1) (ta 1 (v1) (bn H fun j4 h3 H=>?_));obtain ⟨a,rfl,S⟩:=((u.mono (p.trans (q.trans (U.trans X))))).get h3;refine ta 2 (Q a) (ta 3 (Qo a 1) (bn H fun d i3 H=>?_));obtain ⟨v47,N,M⟩:=Rel.open_place_Pen (t.mono (p.trans (q.trans (U.trans X)))) i3 S;refine tkx 4 f0 (fun c' s0 T=>leN 29 1 [I d.At.Row,I d.At.Col,B d.At.Pending] (T.gon N 0 rfl)) (ta 5 (Q a) (ta 6 (Q a) (ta 7 (Q a) (tkx 8 f0 (fun c' s0 T=>le1 0 iF (T.gon N 0 rfl)) (ta 10 (Q a) (ta 11 (Q a) (ta 12 (Q a) (tkx 13 f0 (fun c' s0 T=>le1 0 iF (T.gon N 0 rfl)) (bn H fun z1 j3 H=>o1 9 (gc 9 (cF i0 t.m d.G M j3) ?_))))))))));rintro v56 u2 Z ⟨j0,rfl⟩;have s3:Kp G [] u2:=(Kp.nil j0);refine ⟨.inr s3,bn H fun b2 k3 H=>o1 14 (gc 14 (bD j0 t.m d.G M.m k3) ?_)⟩;rintro c5 v2 a0 ⟨k0,rfl⟩;have t3:Kp G [] v2:=(Kp.nil k0);refine ⟨.inr t3,bn H fun b l3 H=>o1 15 (gc 15 (dC k0 d.At z1 b2 l3) ?_)⟩;rintro d5 w2 b0 ⟨l0,rfl⟩;have u3:Kp G [] w2:=(Kp.nil l0);refine ⟨.inr u3,ta 16 (Q a) (ta 17 (Qo a 1) (o1 18 (gD 18 (gB 29 1 [I b.Row,I b.Col,B b.Pending] [v47,I b.Row,I b.Col,B b.Pending,B d.Auto] 0 l0 N ⟨rfl,rfl,rfl,trivial⟩) ?_)))⟩;rintro x4 d0 k2;refine bn H fun e2 n3 H=>?_;obtain ⟨t4,l2,o2,m3,u4⟩:=Rel.put_place_Pen k2 (t.mono (p.trans (q.trans (U.trans (X.trans (Z.trans (a0.trans (b0.trans d0)))))))) (E':=[(Eb a 98 [v47,I b.Row,I b.Col,B b.Pending,B d.Auto])]) n3 ⟨a,v47,(tm S),rfl,(M.mono (Z.trans (a0.trans (b0.trans d0))))⟩;refine ⟨.inl rfl,dn (nrm (sr (vv (Q a) (va (Qo a 1) (va (Qo a 3) (md (gC 4 3 (B false) [v47,I b.Row,I b.Col,B false,B d.Auto] 0 l2 m3 ⟨rfl,trivial⟩) ?_))))))⟩;rintro E t0 m2;refine bn H fun f2 o3 H=>?_;obtain ⟨g2,y,z,z4,v4⟩:=Rel.put_place_Pen m2 (o2.mono t0) (E':=[(Eb a 98 [v47,I b.Row,I b.Col,B false,B d.Auto])]) o3 ⟨a,v47,(tm S),rfl,(M.mono (Z.trans (a0.trans (b0.trans (d0.trans t0)))))⟩;refine wln (bn H fun c2 f j2=>W.seqJ (Jn E fun c l=>∃G_,Own c G_ (F)∧l= []∧Rel c c2 G_) ?_ ?_)
 ·refine sr (va (Q b8) (vx (l1 u_3 ((mm k) 0 _ rfl)) (wln (W.block (W.seq (W.block (W.seq (W.block (W.block (W.block (W.seq (W.seq (sr (vv (B (e.Kind==8)) (wln (cn f (fun p3 f=>?_) (fun p3 f=>?_)))))))))))))))))
  ·refine W.exit (thx (thx (bke (bkn (bkn (nrm (sr (va (Q a) (vx (lN 59 (mm k)) (bn f fun g0 q3 f=>cl (pS y z s e u.m P.m q3) ?_))))))))));rintro e5 x2 b5 ⟨i2,n2,p2,rfl⟩;refine wln (W.exit (bko rfl (thx (bke (nrm ?_)))));obtain rfl:=si f;exact jn x2 ⟨i2,n2,rfl,p2⟩
  refine W.skip (nrm (W.seq (sr (vv (B (e.Kind==9)) (wln (cn f (fun q1 f=>?_) (fun q1 f=>?_)))))))
  ·refine W.exit (thx (thx (bko rfl (bke (bkn (nrm (sr (va (Q a) (vx (lN 59 (mm k)) (bn f fun g0 s1 f=>cl (pS y z s e u.m P.m s1) ?_))))))))));rintro p4 i1 k4 ⟨u0,y0,c1,rfl⟩;refine wln (W.exit (bko rfl (thx (bke (nrm ?_)))));obtain rfl:=si f;exact jn i1 ⟨u0,y0,rfl,c1⟩
  refine W.skip (nrm (bn f fun d2 j g=>W.seqJ (Jn E fun c l=>Own c g2 (F)∧l= [(0,Q a),(3,Q b8),(48,B d2)]) ?_ ?_))
  ·refine sr (vv (B (e.Kind==10)) (wln (cn j (fun t1 j=>?_) (fun t1 j=>?_))))
   ·refine W.skip (nrm ?_);obtain rfl:=si j;exact jn E ⟨y,rfl⟩
   refine W.region (vv (B (e.Kind==11)) (wln ?_));obtain rfl:=si j;exact jn E ⟨y,rfl⟩
  rintro e_ w_ ⟨e4,f4,_,rfl,l4,rfl,R,rfl⟩;refine cn g (fun u1 g=>?_) (fun u1 g=>?_)
  ·refine W.exit (thx (bko rfl (bko rfl (bke (nrm (sr (va (Q a) (vx (lN 59 (mm k)) (bn g fun g0 w1 g=>cl (pS R z.m s e u.m P.m w1) ?_)))))))));rintro q4 j1 m4 ⟨v0,z0,d1,rfl⟩;refine wln (W.exit (bko rfl (thx (bke (nrm ?_)))));obtain rfl:=si g;exact jn j1 ⟨v0,z0,rfl,d1⟩
  refine W.skip (nrm (W.exit (bko rfl (bko rfl (bko rfl (thx (bke (nrm (sr (va (Q a) (vx (lN 59 (mm k)) (bn g fun s4 x1 g=>cl (xx R z.m (hG.m.le (by decide)) s e u.m P.m x1) ?_))))))))))));rintro r4 k1 n4 ⟨w0,a1,e1,rfl⟩;refine wln (W.exit (bke (nrm ?_)));obtain rfl:=si g;exact jn k1 ⟨w0,a1,rfl,e1⟩
 rintro e_ w_ ⟨m1,g4,_,rfl,o4,rfl,x0,b1,rfl,f1⟩;refine sr (va (.nilIface) (wln (W.ret ?_)));obtain rfl:=si j2;exact r1 (qq m1 ⟨.nilIface,x0,b1,f1,rfl,rfl⟩)
def kT (p0:ai) (p1:Int) (p2:Int):Option (Bool):=
 (eo p0 p1 p2).bind fun a=>
 some (p0.Row==a.Row && (p0.Col==a.Col && (p0.Pending==a.Pending && true)))
theorem pU (l:Own c0 G F) (a:ai) (d:Int) (e:Int) {r:Bool} (H:kT a d e=some r): Calls prog 59 #[.agg #[I a.Row,I a.Col,B a.Pending],I d,I e] c0.w (aQ c0 fun c v=>Own c G (F)∧v=B r):=by
 unfold kT at H;refine en func59 rfl rfl (sr (me (bx 29 [I a.Row,I a.Col,B a.Pending] l) ?_));rintro v5 t u ⟨s,rfl,m,j⟩;refine va (B false) (wln (W.seq (rD [] (Kp G0 []) m ?_)));intro o x n;have y:Kp G0 [] o:=Kp.nil0;refine tx 0 (fun i g=>lN 29 (mm j)) (tx 1 (fun i g=>lN 29 (mm j)) (ta 2 (I d) (ta 3 (I e) (bn H fun b p H=>o1 4 (gc 4 (dC n a d e p) ?_)))));rintro v15 f q ⟨h,rfl⟩;have k:Kp G0 [] f:=Kp.nil0;refine ⟨.inr k,AC.take 5 (B (a.Row==b.Row && (a.Col==b.Col && (a.Pending==b.Pending && true)))) rfl (by kernel_rfl) (by kernel_rfl) (fun i g=>(Cj (T:=29) (xs:= #[I a.Row,I a.Col,B a.Pending]) (ys:= #[I b.Row,I b.Col,B b.Pending]) (r:=(a.Row==b.Row && (a.Col==b.Col && (a.Pending==b.Pending && true)))) underlying29 (by kernel_rfl) (by kernel_rfl) (EqP.int (by kernel_rfl) u_3 rfl rfl (EqP.int (by kernel_rfl) u_3 rfl rfl (EqP.bool (by kernel_rfl) u_4 rfl rfl EqP.nil))) (by kernel_rfl) _)) (ta 6 (B (a.Row==b.Row && (a.Col==b.Col && (a.Pending==b.Pending && true)))) (dn (nrm (W.ret ?_))))⟩;obtain rfl:=si H;exact r1 (qq f ⟨h,rfl⟩)
def jN (sg:Sto) (p0:Int) (p1:Int):Option (Sto×(Option Nat)):=
 (lW sg p0 p1).bind fun b=>
 (mP b.1 b.2).bind fun c=>
 (some (c.1.add_screen_Screen (⟨c.2,b.2⟩:dU))).bind fun a=>
 some (a,(some c.1.screen_Screen.length))
theorem rY (O0:Own c0 G F) (R0:Rel c0 sg G) (g:Int) (h:Int) {r:Sto×(Option Nat)} (H:jN sg g h=some r): Calls prog 12 #[I g,I h] c0.w (aQ c0 fun c v=>∃y1,∃G_:Gm,Own c G_ (F)∧Rel c r.1 G_∧dt G G_∧v=y1∧Pt 5 c y1 r.2):=by
 unfold jN at H;refine en func12 rfl rfl (sr (va (.pointer none) (wln (sr (va (I g) (va (I h) (bn H fun n h1 H=>cl (yV O0 R0 g h h1) ?_)))))));rintro v2 c8 l8 ⟨_,G4,O5,R6,a7,rfl,p⟩;have D:=(dt.refl _).trans a7;refine va (v2) (wln (sr (va (v2) (bn H fun o R H=>cl (zX O5 R6 n.2 p R) ?_))));rintro v12 j0 m ⟨_,i0,t,A,M,rfl,l⟩;have j:=D.trans M;refine va (v2) ?_;obtain ⟨d,rfl⟩:=(l).form;obtain ⟨e,rfl⟩:=((p.mono m)).form;refine va (.agg #[.pointer d,.pointer e]) (me (al 73 [.pointer d,.pointer e] t) ?_);rintro v26 k0 f ⟨a,rfl,u⟩;have y:=u.sD 1 [0];refine bn H fun q S H=>?_;obtain ⟨k,s,T,o0,U,z,i,l0,X,N⟩:=Rel.new_screen_Screen (E:=[(Eb a 73 [.pointer d,.pointer e])]) (F:=F) (x:=(⟨o.2,n.2⟩:dU)) (b:=a) y (A.mono f) (fun c_ hle_=>⟨a,(.pointer d),(.pointer e),rfl,rfl,(l.mono (f.trans hle_)),(p.mono ((m.trans f).trans hle_))⟩);rw [aq S] at i;refine WL.gh T.1 ?_;have m0:=dt.nil j X;have P:=j.trans N;have Z:Pt 5 k (Q a) (some o.1.screen_Screen.length):=⟨a,rfl,U⟩;refine va (Q a) (wln (W.ret ?_));obtain rfl:=si H;exact r1 (qq k ⟨(Q a),s,z,i,P,rfl,Z⟩)
def fS (sg:Sto) (p0:Option Nat) (p1:bv):Option (Sto×Er):=
 if p0.isNone=true then
 some (sg,(Er.sent 5))
 else
 if (p1.Kind==0)=true then
 (p0).bind fun g=>
 (sg.screen_Screen[g]?).bind fun i=>
 (fu sg i.Feeder p1.Bytes).bind fun o=>
 some (o,Er.nil)
 else
 if (p1.Kind==1)=true then
 (p0).bind fun h=>
 (sg.screen_Screen[h]?).bind fun j=>
 (ft sg j.Feeder).bind fun p=>
 some (p,Er.nil)
 else
 if (p1.Kind==13)=true then
 (p0).bind fun a=>
 (sg.screen_Screen[a]?).bind fun k=>
 (cZ sg k.Feeder).bind fun c=>
 (c.screen_Screen[a]?).bind fun l=>
 (jY c l.pen p1.A p1.B).bind fun q=>
 some (q,Er.nil)
 else
 (jP p1).bind fun d=>
 if (!d.isNil)=true then
 some (sg,d)
 else
 (p0).bind fun b=>
 (sg.screen_Screen[b]?).bind fun m=>
 (cZ sg m.Feeder).bind fun e=>
 (e.screen_Screen[b]?).bind fun n=>
 (nV e n.pen p1).bind fun f=>
 some (f.1,f.2)
theorem ra (O0:Own c0 G F) (d:Rel c0 sg G) (hG:Gl [3,5,7] c0) (p0:Option Nat) (a:bv) {r:Sto×Er} (t:Pt 5 c0 v1 p0) (z:Sl (RI .u8) c0 v3 a.Bytes) (H:fS sg p0 a=some r): Calls prog 43 #[v1,.agg #[I a.Kind,I a.A,I a.B,v3]] c0.w (aQ c0 fun c v=>∃y1,∃G_:Gm,Own c G_ (F)∧Rel c r.1 G_∧v=y1∧RE 341 78 c y1 r.2):=by
 unfold fS at H;refine en func43 rfl rfl (sr ?_);obtain ⟨a5,a6,a7,rfl⟩:=(z).form;refine me (bx 59 [I a.Kind,I a.A,I a.B,.slice a5 a6 a7] O0) ?_;rintro v12 s1 b ⟨y,rfl,l,h⟩;refine va (.nilIface) (wln (W.seq (sr (va (v1) (vr (B p0.isNone) (by rcases t.m.cs with ⟨e,f⟩ | ⟨b_,e,f⟩ <;> (subst e; rw [f]; kernel_rfl)) (wln (cn H (fun c2 H=>?_) (fun c2 H=>?_))))))))
 ·refine sr ?_;obtain ⟨v14,S⟩:=(hG.mono b).get 5 (by decide);refine vx (l1 pg S.im) (va (v14) (wln (W.ret (thr ?_))));obtain rfl:=si H;exact r1 (qq s1 ⟨v14,G,l,d.m,rfl,S⟩)
 refine W.skip (nrm (W.seq (sr (va (Q y) (vx (l1 u_3 (h 0 _ rfl)) (wln (W.block (sr (vv (B (a.Kind==0)) (wln (cn H (fun d2 H=>?_) (fun d2 H=>?_))))))))))))
 ·refine rD [6] (Kp G []) l ?_;intro t1 Z E;have i3:Kp G [] t1:=(Kp.nil E);refine ta 0 (v1) (bn H fun t3 f2 H=>?_);obtain ⟨P,rfl,e2⟩:=((t.mono (b.trans Z))).get f2;refine ta 1 (Q P) (ta 2 (Q P) (bn H fun u0 g2 H=>?_));obtain ⟨v24,v26,j2,i2,n4⟩:=Rel.open_screen_Screen (d.mono (b.trans Z)) g2 e2;refine tkx 3 i3 (fun n g u=>le1 0 DQ (u.gon j2 0 rfl)) (ta 4 (Qo y (0+3)) (tx 5 (fun n g=>l1 wH ((mm h) 3 _ rfl)) (bn H fun f4 k2 H=>o1 6 (gc 6 (qx E d.m (hG.m.le (by decide)) u0.Feeder a.Bytes i2 z.m k2) ?_))));rintro v35 u1 r4 ⟨d1,g1,k1,rfl⟩;refine ⟨.inl rfl,dn (bkn (nrm (sr (va (.nilIface) (wln (W.ret ?_))))))⟩;obtain rfl:=si H;exact r1 (qq u1 ⟨.nilIface,d1,g1,k1,rfl,rfl⟩)
 refine sr (vv (B (a.Kind==1)) (wln (cn H (fun l2 H=>?_) (fun l2 H=>?_))))
 ·refine W.region (va (v1) (bn H fun u3 n2 H=>?_));obtain ⟨R,rfl,m2⟩:=((t.mono b)).get n2;refine vv (Q R) (bn H fun v0 o2 H=>?_);obtain ⟨v41,v43,q2,p2,o4⟩:=Rel.open_screen_Screen (d.mono b) o2 m2;refine vx (le1 0 DQ (l.gon q2 0 rfl)) (bn H fun g4 s2 H=>cl (qw l d.m (hG.m.le (by decide)) v0.Feeder p2 s2) ?_);rintro v52 w1 s4 ⟨e1,h1,m1,rfl⟩;refine WL.nil (bkn (nrm (sr (va (.nilIface) (wln (W.ret ?_))))));obtain rfl:=si H;exact r1 (qq w1 ⟨.nilIface,e1,h1,m1,rfl,rfl⟩)
 refine sr (vv (B (a.Kind==13)) (wln (cn H (fun t2 H=>?_) (fun t2 H=>?_))))
 ·refine sr (va (v1) (bn H fun w3 u2 H=>?_));obtain ⟨i,rfl,T⟩:=((t.mono b)).get u2;refine vv (Q i) (bn H fun w0 v2 H=>?_);obtain ⟨v58,v60,x2,w2,p4⟩:=Rel.open_screen_Screen (d.mono b) v2 T;refine vx (le1 0 DQ (l.gon x2 0 rfl)) (bn H fun i4 y2 H=>cl (gX l d.m w0.Feeder w2 y2) ?_);rintro v4 m4 t4 ⟨D,i1,N,rfl⟩;refine wln (rD [8] (Kp D []) i1 ?_);intro x1 h3 M;have j3:Kp D [] x1:=(Kp.nil M);refine ta 0 (Q i) (ta 1 (Q i) (ta 2 (Qo i 1) (bn H fun x0 z2 H=>?_)));obtain ⟨w4,x4,b3,q4,a3⟩:=Rel.open_screen_Screen (N.mono h3) z2 (tm T);refine tkx 3 j3 (fun n g u=>le1 1 xO (u.gon b3 0 rfl)) (ta 4 (Qo y (0+1)) (tx 5 (fun n g=>l1 u_3 ((mm h) 1 _ rfl)) (ta 6 (Qo y (0+2)) (tx 7 (fun n g=>l1 u_3 ((mm h) 2 _ rfl)) (bn H fun j4 c3 H=>o1 8 (gc 8 (vP M N.m (hG.m.le (by decide)) x0.pen a.A a.B a3 c3) ?_))))));rintro y4 z1 u4 ⟨f1,j1,n1,rfl⟩;refine ⟨.inl rfl,dn (bkn (nrm (sr (va (.nilIface) (wln (W.ret ?_))))))⟩;obtain rfl:=si H;exact r1 (qq z1 ⟨.nilIface,f1,j1,n1,rfl,rfl⟩)
 refine W.seq (sr (vx (lN 59 h) (bn H fun c1 d3 H=>cl (se l (hG.m.le (by decide)) a z.m d3) ?_)));rintro k b2 a0 ⟨_,q,rfl,U⟩;refine va (k) (wln (sr (va (k) (vr (B (!c1.isNil)) (by rcases (U).cs with ⟨e,f⟩ | ⟨b_,e,f⟩ | ⟨b_,e,f⟩ <;> (subst e; rw [f]; kernel_rfl)) (wln (cn H (fun e3 H=>?_) (fun e3 H=>?_)))))))
 ·refine sr (vv (k) (wln (W.ret (thr (bkr (thr ?_))))));obtain rfl:=si H;exact r1 (qq b2 ⟨k,G,q,d.m,rfl,U⟩)
 refine W.skip (nrm (sr (va (v1) (bn H fun x3 f3 H=>?_))));obtain ⟨j,rfl,X⟩:=((t.mono (b.trans a0))).get f3;refine vv (Q j) (bn H fun y0 g3 H=>?_);obtain ⟨a4,b4,j0,i0,q3⟩:=Rel.open_screen_Screen (d.mono (b.trans a0)) g3 X;refine vx (le1 0 DQ (q.gon j0 0 rfl)) (bn H fun k4 k0 H=>cl (gX q d.m y0.Feeder i0 k0) ?_);rintro c4 p3 y3 ⟨o,d0,s,rfl⟩;refine wln (W.seq (rD [5] (Kp o []) d0 ?_));intro g0 t0 p;have b1:Kp o [] g0:=(Kp.nil p);refine ta 0 (Q j) (ta 1 (Q j) (ta 2 (Qo j 1) (bn H fun z0 l0 H=>?_)));obtain ⟨d4,e4,o0,s3,m0⟩:=Rel.open_screen_Screen (s.mono t0) l0 (tm X);refine tkx 3 b1 (fun n g u=>le1 1 xO (u.gon o0 0 rfl)) (tx 4 (fun n g=>lN 59 (mm h)) (bn H fun l4 q0 H=>o1 5 (gc 5 (BM p s.m (hG.m.le (by decide)) z0.pen a m0 z.m q0) ?_)));rintro x h0 z3 ⟨_,b0,e0,f0,rfl,s0⟩;refine ⟨.inl rfl,ta 6 (x) (dn (nrm (W.ret (bkr (thr ?_)))))⟩;obtain rfl:=si H;exact r1 (qq h0 ⟨x,b0,e0,f0,rfl,s0⟩)
def eD (sg:Sto) (p0:Option Nat) (p1:List bv):Option (Sto×Er):=
 (cO (σ:=Er×Int×Sto) (τ:=(Er×Sto)) (((p1.length:Int) - 0).toNat+1) (fun a=>
 if (decide (a.2.1 < (p1.length:Int)))=true then
 ((idx p1 a.2.1).bind fun f=>
 (fS a.2.2 p0 f).bind fun b=>
 (bL (!b.2.isNil) (some a.1.isNil)).bind fun e=>
 if e=true then
 (jC a.2.1 b.2).bind fun g=>
 some (g,b.1)
 else
 some (a.1,b.1)).bind fun c=>
 some (.inl (c.1,(w64 (a.2.1+1)),c.2))
 else
 some (.inr (a.1,a.2.2))) (Er.nil,0,sg)).bind fun d=>
 some (d.2,d.1)
theorem qr (O0:Own c0 G F) (R0:Rel c0 sg G) (hG:Gl [3,5,7] c0) (p0:Option Nat) (j:List bv) {r:Sto×Er} (h2:Pt 5 c0 v1 p0) (Z:Sl om c0 v3 j) (H:eD sg p0 j=some r): Calls prog 17 #[v1,v3] c0.w (aQ c0 fun c v=>∃y1,∃G_:Gm,Own c G_ (F)∧Rel c r.1 G_∧v=y1∧RE 341 78 c y1 r.2):=by
 unfold eD at H;refine en func17 rfl rfl (sr (va (.nilIface) (wln (sr (va (.nilIface) (wln (W.seq (sr (va (v3) (vx (ln 3 xP Z) (va (I 0) (wln (W.block (bn H fun o2 h5 H6=>lp h5 (fun a=>Jn c0 fun c l=>∃v7 G_,Own c G_ (F)∧l= [(0,v1),(5,v7),(9,v3),(10,I (j.length:Int)),(11,I a.2.1)]∧Rel c a.2.2 G_∧RE 341 78 c v7 a.1) (fun u ex e w=>ex= .exit 0∧(Jn c0 fun c l=>∃v8 G_,Own c G_ (F)∧l= [(5,v8)]∧Rel c u.2 G_∧RE 341 78 c v8 u.1) e w) ?_ ?_ ?_))))))))))))))
 ·clear H6 h5;intro a p2 a1 n1 H;revert a1 n1;rintro X w_ ⟨c9,d2,_,rfl,l9,rfl,v7,d0,y,rfl,M,s⟩;refine sr (va (B (decide (a.2.1 < (j.length:Int)))) (wln (W.seq (cn H (fun b1 H=>?_) (fun b1 H=>?_)))))
  ·refine W.skip (nrm (bn H fun x b g0=>W.seqJ (Jn c9 fun c l=>∃v19 G_,Own c G_ (F)∧l= [(0,v1),(5,v19),(9,v3),(10,I (j.length:Int)),(11,I a.2.1)]∧Rel c x.2 G_∧RE 341 78 c v19 x.1) ?_ ?_))
   ·refine W.block (sr (va (I a.2.1) (bn b fun d P b=>?_)));obtain ⟨x1,c1,m1⟩:=Sl.at (Z.mono l9) (bi P);obtain ⟨v24,rfl,t⟩:=c1;refine vx (ix xP Z.m P) (vx (lN 59 m1) (me (al 59 [I 0,I 0,I 0,Y] y) ?_));rintro v29 b2 k1 ⟨u0,rfl,j0⟩;refine va (I a.2.1) ?_;obtain ⟨n,o,p,rfl⟩:=((t.mono k1)).form;refine md (sA 59 [I d.Kind,I d.A,I d.B,.slice n o p] 0 j0 ⟨rfl,rfl,rfl,t.m.one,trivial⟩) ?_;rintro c2 i2 z;refine wln (sr (va (v1) (vx (leN 59 0 [I d.Kind,I d.A,I d.B,.slice n o p] (z.on 0 rfl)) (bn b fun i d1 b=>cl (ra z M.m (hG.m.le (by decide)) p0 d h2.m t.m d1) ?_))));rintro v36 q j2 ⟨_,k,D,N,rfl,R⟩;refine va (v36) (wln (W.seq (bn b fun U S b=>W.join (Jn q fun c l=>Own c k ((Eb u0 59 [I d.Kind,I d.A,I d.B,.slice n o p]) :: F)∧l= [(0,v1),(5,v7),(6,I a.2.1),(8,v36),(9,v3),(10,I (j.length:Int)),(11,I a.2.1),(24,B U)]) ?_ ?_)))
    ·clear b;refine W.region (va (v36) (vr (B (!i.2.isNil)) (by rcases (R).cs with ⟨f,g⟩ | ⟨T,f,g⟩ | ⟨T,f,g⟩ <;> (subst f; rw [g]; kernel_rfl)) ?_));rcases bo (!i.2.isNil) with h | h
     ·have h0:=anT h S;refine vb h (wa (v7) (wn (vr (B a.1.isNil) (by rcases s.m.cs with ⟨f,g⟩ | ⟨T,f,g⟩ | ⟨T,f,g⟩ <;> (subst f; rw [g]; kernel_rfl)) ?_)));obtain rfl:=si h0;exact va (B a.1.isNil) (wln (jn q ⟨D,rfl⟩))
     obtain rfl:=anF h S;exact vb h (pz (va (B false) (wln (jn q ⟨D,rfl⟩))))
    rintro X w_ ⟨v0,e2,_,rfl,k2,rfl,E,rfl⟩;refine nrm (cn b (fun f1 b=>?_) (fun f1 b=>?_))
    ·refine W.region (va (I a.2.1) (va (v36) (bn b fun z1 g1 b=>cl (kH E a.2.1 i.2 R.m g1) ?_)));rintro v55 w0 l2 ⟨_,k0,rfl,h1⟩;refine va (v55) (WL.nil (bkn (nrm ?_)));obtain rfl:=si b;have l0:=k0.sD 1 [];exact jn w0 ⟨v55,k,l0,rfl,N.m,h1⟩
    refine W.skip (bkn (nrm ?_));obtain rfl:=si b;have m0:=E.sD 1 [];exact jn v0 ⟨v7,k,m0,rfl,N.m,s.m⟩
   rintro X w_ ⟨x0,f2,_,rfl,m2,rfl,v19,e0,o0,rfl,s0,i1⟩;refine W.region (vv (I (w64 (a.2.1+1))) (WL.nil ?_));obtain rfl:=si g0;exact ⟨_,rfl,jn x0 ⟨v19,e0,o0,rfl,s0,i1⟩⟩
  refine W.exit (thx ?_);obtain rfl:=si H;exact ⟨_,rfl,rfl,jn c9 ⟨v7,d0,y,rfl,M,s⟩⟩
 ·exact jn c0 ⟨.nilIface,G,O0,rfl,R0,rfl⟩
 rintro _ X w_ ⟨rfl,y0,g2,_,rfl,n2,rfl,v8,f0,q0,rfl,t0,j1⟩;refine bke (nrm (sr (vv (v8) (wln (W.ret ?_)))));obtain rfl:=si H6;exact r1 (qq y0 ⟨v8,f0,q0,t0,rfl,j1⟩)
def dw (sg:Sto) (p0:Option Nat):Option (bh):=
 if p0.isNone=true then
 some (⟨0,0,([]:List ah),(⟨0,0,false⟩:ai),false⟩:bh)
 else
 (p0).bind fun b=>
 (sg.screen_Screen[b]?).bind fun d=>
 (d.pen).bind fun c=>
 (sg.place_Pen[c]?).bind fun a=>
 (bU sg a.G).bind fun e=>
 (bJ sg a.G).bind fun f=>
 (gI sg a.G).bind fun g=>
 some (⟨e,f,g,a.At,a.Auto⟩:bh)
theorem jD (O0:Own c0 G F) (o:Rel c0 sg G) (U:Option Nat) {r:bh} (h2:Pt 5 c0 v1 U) (H:dw sg U=some r): Calls prog 15 #[v1] c0.w (aQ c0 fun c v=>∃X y2,Own c G (es true ay X 39 y2 r.Lines :: F)∧v= .agg #[I r.Wide,I r.High,X,I r.At.Row,I r.At.Col,B r.At.Pending,B r.Auto]∧OA ay c X y2 r.Lines):=by
 unfold dw at H;refine en func15 rfl rfl (sr (me (al 31 [I 0,I 0,Y,I 0,I 0,B false,B false] O0) ?_));rintro v6 c5 T ⟨b3,rfl,y⟩;refine wln (W.seq (sr (va (v1) (vr (B U.isNone) (by rcases h2.m.cs with ⟨N,P⟩ | ⟨b_,N,P⟩ <;> (subst N; rw [P]; kernel_rfl)) (wln (cn H (fun h7 H=>?_) (fun h7 H=>?_)))))))
 ·refine sr (va (.agg #[I 0,I 0,Y,I 0,I 0,B false,B false]) (md (sA 31 [I 0,I 0,Y,I 0,I 0,B false,B false] 0 y ⟨rfl,rfl,rfl,rfl,rfl,rfl,rfl,trivial⟩) ?_));rintro S l9 O8;refine wln (W.ret (thr ?_));obtain rfl:=si H;have g0:OA ay S (Y) [] []:=OA.nil (aK _);have z:=O8.addHole (e:=es true ay (Y) 39 [] ([]:List ah)) rfl;have Z:=z.sD 2 [0];exact sI (c:=S) (vs:=[I 0,I 0,Y,I 0,I 0,B false,B false]) rfl (by kernel_rfl) (by kernel_rfl) (by kernel_rfl) (z.on 1 rfl _ rfl).1 ⟨_,S,rfl,rfl,pt,(Y),[],Z,rfl,g0⟩
 refine W.skip (nrm (sr (va (v1) (bn H fun e1 i0 H=>?_))));obtain ⟨b,rfl,h0⟩:=((h2.mono T)).get i0;refine va (Q b) (va (Qo b 1) (bn H fun g1 j0 H=>?_));obtain ⟨v17,v19,q,i1,l0⟩:=Rel.open_screen_Screen (o.mono T) j0 h0;refine vx (le1 1 xO (y.gon q 0 rfl)) (bn H fun f1 o0 H=>?_);obtain ⟨d,rfl,m0⟩:=(l0).get o0;refine vv (Q d) (bn H fun a q0 H=>?_);obtain ⟨v26,t,s⟩:=Rel.open_place_Pen (o.mono T) q0 m0;refine vx (le1 0 iF (y.gon t 0 rfl)) (va (v26) (wln (W.seq (rD [] (Kp G []) y ?_))));intro b0 j1 A;have l:Kp G [] b0:=(Kp.nil A);refine ta 0 (v26) (ta 2 (v26) (ta 4 (v26) (ta 6 (Q b) (ta 7 (Q b) (ta 8 (Qo b 1) (tkx 9 l (fun R x f=>le1 1 xO (f.gon q 0 rfl)) (ta 10 (Q d) (ta 11 (Qo d 1) (tkx 12 l (fun R x f=>leN 29 1 [I a.At.Row,I a.At.Col,B a.At.Pending] (f.gon t 0 rfl)) (ta 13 (Q b) (ta 14 (Q b) (ta 15 (Qo b 1) (tkx 16 l (fun R x f=>le1 1 xO (f.gon q 0 rfl)) (ta 17 (Q d) (ta 18 (Qo d 4) (tkx 19 l (fun R x f=>le1 4 u_4 (f.gon t 0 rfl)) (bn H fun g s0 H=>o1 1 (gc 1 (cF A o.m a.G s.m s0) ?_))))))))))))))))));rintro v38 d0 k1 ⟨D,rfl⟩;have v0:Kp G [] d0:=(Kp.nil D);refine ⟨.inr v0,bn H fun h t0 H=>o1 3 (gc 3 (bD D o.m a.G s.m t0) ?_)⟩;rintro v46 e0 m1 ⟨E,rfl⟩;have w0:Kp G [] e0:=(Kp.nil E);refine ⟨.inr w0,bn H fun h1 u0 H=>o1 5 (gc 5 (sa E o.m a.G s.m u0) ?_)⟩;rintro v49 f0 n1 ⟨_,z0,M,rfl,u⟩;have x0:Kp G [] f0:=(Kp.nil M);refine ⟨.inr x0,?_⟩;obtain ⟨i,j,k,rfl⟩:=(u).form;refine ta 20 (.agg #[I g,I h,.slice i j k,I a.At.Row,I a.At.Col,B a.At.Pending,B a.Auto]) (o1 21 (gD 21 (sA 31 [I g,I h,.slice i j k,I a.At.Row,I a.At.Col,B a.At.Pending,B a.Auto] 1 M ⟨rfl,rfl,(u).one,rfl,rfl,rfl,rfl,trivial⟩) ?_));rintro p p1 n;have y0:Kp G [] p:=(Kp.nil n);refine ⟨.inr y0,dn (nrm (W.ret ?_))⟩;obtain rfl:=si H;have a0:=n.sD 2 [0];exact sI (c:=p) (vs:=[I g,I h,.slice i j k,I a.At.Row,I a.At.Col,B a.At.Pending,B a.Auto]) rfl (by kernel_rfl) (by kernel_rfl) (by kernel_rfl) (n.on 1 rfl _ rfl).1 ⟨_,p,rfl,rfl,pt,(.slice i j k),z0,a0,rfl,u.m⟩
def eJ (p0:List bv):Option (Bool):=
 (cO (σ:=Int×Int) (τ:=Bool ⊕ Unit) (((p0.length:Int) - 0).toNat+1) (fun a=>
 (bL (decide (a.2 < (p0.length:Int))) (some (decide (a.2 < 60)))).bind fun d=>
 if d=true then
 (idx p0 a.2).bind fun c=>
 (orE (decide ((w64 (a.1+(c.Bytes.length:Int))) > 600)) ((idx p0 a.2).bind fun h=>
 (bL (h.Kind==13) ((idx p0 a.2).bind fun i=>
 some (decide (i.A > 60)))).bind fun f=>
 (bL f ((idx p0 a.2).bind fun j=>
 some (decide (j.B > 60)))).bind fun g=>
 some g)).bind fun e=>
 if e=true then
 some (.inr (.inl true))
 else
 some (.inl ((w64 (a.1+(c.Bytes.length:Int))),(w64 (a.2+1))))
 else
 some (.inr (.inr ()))) (0,0)).bind fun b=>
 match b with
 | .inl b=>
 some b
 | .inr b=>
 some (decide ((p0.length:Int) > 50))
theorem oY (O0:Own c0 G F) (s:List bv) {r:Bool} (f:Sl om c0 v1 s) (H:eJ s=some r): Calls prog 5 #[v1] c0.w (aQ c0 fun c v=>Own c G (F)∧v=B r):=by
 unfold eJ at H;refine en func5 rfl rfl (sr (va (B false) (wln (sr (va (I 0) (wln (W.seq (sr (va (I 0) (wln (W.block (bn H fun y h3 H4=>lp h3 (fun a=>Jn c0 fun c l=>Own c G (F)∧l= [(0,v1),(3,I a.1),(4,I a.2)]) (fun t=>match t with | .inl x_=>(fun i1 ex e w=>ex= .ret∧(Jn c0 fun c l=>Own c G (F)∧l= [(2,B i1)]) e w) x_ | .inr x_=>(fun t1 ex e w=>ex= .exit 0∧(Jn c0 fun c l=>Own c G (F)∧l= [(0,v1)]) e w) x_) ?_ ?_ ?_))))))))))))
 ·clear H4 h3;intro a g2 t0 j1 H;revert t0 j1;rintro D M ⟨c5,g6,_,rfl,E,rfl,O7,rfl⟩;refine W.seq (W.seq (bn H fun g0 R H=>W.join (Jn c5 fun c l=>Own c G (F)∧l= [(0,v1),(3,I a.1),(4,I a.2),(12,B g0)]) ?_ ?_))
  ·clear H;refine W.region (va (I a.2) (va (v1) (vx (ln 3 xP f.m) (va (B (decide (a.2 < (s.length:Int)))) ?_))));rcases bo (decide (a.2 < (s.length:Int))) with i | i
   ·have k0:=anT i R;refine vb i (wa (I a.2) (wa (B (decide (a.2 < 60))) ?_));obtain rfl:=si k0;exact va (B (decide (a.2 < 60))) (wln (jn c5 ⟨O7,rfl⟩))
   obtain rfl:=anF i R;exact vb i (pz (va (B false) (wln (jn c5 ⟨O7,rfl⟩))))
  rintro D M ⟨g,u1,_,rfl,q,rfl,h,rfl⟩;refine nrm (cn H (fun v0 H=>?_) (fun v0 H=>?_))
  ·refine W.skip (nrm (W.seq (W.block (sr (va (I a.1) (va (v1) (va (I a.2) (bn H fun d S H=>?_))))))));obtain ⟨n1,w0,e1⟩:=Sl.at (f.mono (E.trans q)) (bi S);obtain ⟨v25,rfl,x0⟩:=w0;refine vx (ix xP f.m S) (va (Qo (sb v1) (so v1+a.2.toNat * 4+3)) (vx (l1 wH (e1 3 _ rfl)) (vx (ln 3 wH x0) (vv (I (w64 (a.1+(d.Bytes.length:Int)))) (wln (W.seq (bn H fun h0 T H=>W.join (Jn g fun c l=>Own c G (F)∧l= [(0,v1),(3,I (w64 (a.1+(d.Bytes.length:Int)))),(4,I a.2),(48,B h0)]) ?_ ?_)))))))
   ·clear H;refine W.region (va (I (w64 (a.1+(d.Bytes.length:Int)))) (va (B (decide ((w64 (a.1+(d.Bytes.length:Int))) > 600))) ?_));rcases bo (decide ((w64 (a.1+(d.Bytes.length:Int))) > 600)) with j | j
    ·obtain rfl:=orT j T;exact vb j (pz (pz (pz (pz (pz (pz (pz (pz (pz (pz (pz (va (B true) (wln (jn g ⟨h,rfl⟩))))))))))))))
    have b:=orF j T;refine vb j (wa (v1) (wa (I a.2) (wn (bn b fun z U b=>?_))));obtain ⟨p1,z0,f1⟩:=Sl.at (f.mono (E.trans q)) (bi U);obtain ⟨v34,rfl,z1⟩:=z0;refine vx (ix xP f.m U) (wa (Qo (sb v1) (so v1+a.2.toNat * 4)) (wn (vx (l1 u_3 (f1 0 _ rfl)) (wa (B (z.Kind==13)) (wn (bn b fun m1 X b=>?_))))));rcases bo (z.Kind==13) with k | k
    ·have u:=anT k X;refine vb k (wa (v1) (wa (I a.2) (wn (bn u fun o Z u=>?_))));obtain ⟨q1,a1,g1⟩:=Sl.at (f.mono (E.trans q)) (bi Z);obtain ⟨v43,rfl,b2⟩:=a1;refine vx (ix xP f.m Z) (wa (Qo (sb v1) (so v1+a.2.toNat * 4+1)) (wn (vx (l1 u_3 (g1 1 _ rfl)) (wa (B (decide (o.A > 60))) (wn ?_)))));obtain rfl:=si u;refine va (B (decide (o.A > 60))) (wn (bn b fun i0 a0 b=>?_));rcases bo (decide (o.A > 60)) with n | n
     ·have x:=anT n a0;refine vb n (wa (v1) (wa (I a.2) (wn (bn x fun p b0 x=>?_))));obtain ⟨s1,b1,h1⟩:=Sl.at (f.mono (E.trans q)) (bi b0);obtain ⟨v52,rfl,c2⟩:=b1;refine vx (ix xP f.m b0) (wa (Qo (sb v1) (so v1+a.2.toNat * 4+2)) (wn (vx (l1 u_3 (h1 2 _ rfl)) (wa (B (decide (p.B > 60))) (wn ?_)))));obtain rfl:=si x;refine va (B (decide (p.B > 60))) ?_;obtain rfl:=si b;exact va (B (decide (p.B > 60))) (wln (jn g ⟨h,rfl⟩))
     obtain rfl:=anF n a0;refine vb n (pz (pz (pz (wa (B false) ?_))));obtain rfl:=si b;exact va (B false) (wln (jn g ⟨h,rfl⟩))
    obtain rfl:=anF k X;refine vb k (pz (pz (pz (wa (B false) (wn (bn b fun i0 c1 b=>?_))))));have d0:false=false:=rfl;obtain rfl:=anF d0 c1;refine vb d0 (pz (pz (pz (wa (B false) ?_))));obtain rfl:=si b;exact va (B false) (wln (jn g ⟨h,rfl⟩))
   rintro D M ⟨P,w1,_,rfl,d2,rfl,N,rfl⟩;refine nrm (cn H (fun d1 H=>?_) (fun d1 H=>?_))
   ·refine sr (va (B true) (wln (W.ret (bkr (thr ?_)))));obtain rfl:=si H;exact ⟨_,rfl,⟨rfl,jn P ⟨N,rfl⟩⟩⟩
   refine W.skip (bkn (nrm (W.region (va (I a.2) (vv (I (w64 (a.2+1))) (WL.nil ?_))))));obtain rfl:=si H;exact ⟨_,rfl,jn P ⟨N,rfl⟩⟩
  refine W.exit (thx ?_);obtain rfl:=si H;exact ⟨_,rfl,rfl,jn g ⟨h,rfl⟩⟩
 ·exact jn c0 ⟨O0,rfl⟩
 rcases y with y | y
 ·intro u0; revert u0;rintro _ D M ⟨rfl,q0,x1,_,rfl,e2,rfl,l0,rfl⟩;refine bkr (thr ?_);obtain rfl:=si H4;exact r1 (qq q0 ⟨l0,rfl⟩)
 rintro _ D M ⟨rfl,s0,y1,_,rfl,f2,rfl,o0,rfl⟩;refine bke (nrm (sr (va (v1) (vx (ln 3 xP f.m) (vv (B (decide ((s.length:Int) > 50))) (wln (W.ret ?_)))))));obtain rfl:=si H4;exact r1 (qq s0 ⟨o0,rfl⟩)
end Go.Proofs.YtidapncdmjppeaaGreatDoor
namespace Go.Lt
open Go
def RER (S T:TypeId):Rp Er where
 size:=1
 cells:=fun c l x=>∃v,l= [v]∧RE S T c v x
 len:=fun h=>by obtain ⟨v,rfl,_⟩:=h; rfl
 one:=by
  rintro c l x ⟨v,rfl,h⟩ u hu
  rw [List.mem_singleton.1 hu]
  exact h.one
 mono:=fun k h=>by obtain ⟨v,rfl,h⟩:=h; exact ⟨v,rfl,h.lw k⟩
theorem Own.slE {P:Program} {c:Cx} {G:Gm} {F:List En} {ρ:Operand→Value} {o:Oper} {S T E:TypeId} {v:Value} {e:Er} (O:Own c G F) (h:RE S T c v e)
  (h0:v= .nilIface→(execOp ρ o).run P c.w= .ok (.value (.slice (some ⟨c.w.heap.size,0,none⟩) 1 1)) (c.w.alloc (.cells #[v] E)))
  (h1:∀t a,v= .iface t (.pointer a)→(execOp ρ o).run P c.w= .ok (.value (.slice (some ⟨c.w.heap.size,0,none⟩) 1 1)) (c.w.alloc (.cells #[v] E))):
  ∃v' c',(execOp ρ o).run P c.w= .ok (.value v') c'.w∧c.le c'∧∃vs,Own c' G (es true (RER S T) v' E vs [e] :: F)∧OA (RER S T) c' v' vs [e]:=by
 refine Own.sl (R:=RER S T) (ls:=[[v]]) (vs:=[v]) (xs:=[e]) true O (aK _) rfl ⟨⟨v,rfl,h⟩,trivial⟩ (by rfl) ?_;rcases h.cs3 with hv | ⟨t,a,hv⟩
 ·exact h0 hv
 ·exact h1 t a hv
end Go.Lt
namespace Go.Proofs.YtidapncdmjppeaaGreatDoor
open Go Go.Lt
set_option maxRecDepth 10000
set_option linter.unusedVariables false
attribute [local irreducible] W WL AC
open Tryz
variable {c0:Cx} {G:Gm} {F:List En} {sg:Sto} {v1 v2 v3 v4 v5 v6 v7 v8 v9 v10 v11 v12 v13 v14 v15 v16 v17 v18 v19 v20 v21 v22 v23 v24 v25 v26 v27 v28 v29 v30 v31 v32 v33 v34 v35 v36 v37 v38 v39 v40 v41 v42 v43 v44 v45 v46 v47 v48 v49 v50 v51 v52 v53 v54 v55 v56 v57 v58 v59 v60:Value}
def mB (p0:Int):Option (Bool):=
 (bL (decide (p0≥1)) (some (decide (p0≤1024)))).bind fun a=>
 some a
theorem sj (d:Own c0 G F) (a:Int) {r:Bool} (H:mB a=some r): Calls prog 132 #[I a] c0.w (aQ c0 fun c v=>Own c G (F)∧v=B r):=by
 unfold mB at H;refine en func132 rfl rfl (sr (va (B false) (wln (W.seq (bn H fun e f H=>W.join (Jn c0 fun c l=>Own c G (F)∧l= [(2,B e)]) ?_ ?_)))))
 ·clear H;refine W.region (va (I a) (va (B (decide (a≥1))) ?_));rcases bo (decide (a≥1)) with b | b
  ·have g:=anT b f;refine vb b (wa (I a) (wa (B (decide (a≤1024))) ?_));obtain rfl:=si g;exact vv (B (decide (a≤1024))) (wln (jn c0 ⟨d,rfl⟩))
  obtain rfl:=anF b f;exact vb b (pz (vv (B false) (wln (jn c0 ⟨d,rfl⟩))))
 rintro j n ⟨i,k,_,rfl,m,rfl,h,rfl⟩;refine nrm (W.ret ?_);obtain rfl:=si H;exact r1 (qq i ⟨h,rfl⟩)
def mC (p0:List aa) (p1:Int):Option (Int):=
 (orE (decide (p1 < 0)) (some (decide (p1≥(p0.length:Int))))).bind fun b=>
 if b=true then
 some 0
 else
 (idx p0 p1).bind fun a=>
 some a.Kind
theorem sk (h:Own c0 G F) (d:List aa) (a:Int) {r:Int} (f:Sl am c0 v1 d) (H:mC d a=some r): Calls prog 164 #[v1,I a] c0.w (aQ c0 fun c v=>Own c G (F)∧v=I r):=by
 unfold mC at H;refine en func164 rfl rfl (sr (va (I 0) (wln (W.seq (W.seq (bn H fun k p H=>W.join (Jn c0 fun c l=>Own c G (F)∧l= [(0,v1),(1,I a),(12,B k)]) ?_ ?_))))))
 ·clear H;refine W.region (va (I a) (va (B (decide (a < 0))) ?_));rcases bo (decide (a < 0)) with b | b
  ·obtain rfl:=orT b p;exact vb b (pz (pz (va (B true) (wln (jn c0 ⟨h,rfl⟩)))))
  have s:=orF b p;refine vb b (wa (I a) (wa (v1) (wn (vx (ln 3 cC f) (wa (B (decide (a≥(d.length:Int)))) ?_)))));obtain rfl:=si s;exact va (B (decide (a≥(d.length:Int)))) (wln (jn c0 ⟨h,rfl⟩))
 rintro y A ⟨j,z,_,rfl,t,rfl,i,rfl⟩;refine nrm (cn H (fun n H=>?_) (fun n H=>?_))
 ·refine sr (va (I 0) (wln (W.ret (thr ?_))));obtain rfl:=si H;exact r1 (qq j ⟨i,rfl⟩)
 refine W.skip (nrm (sr (va (v1) (va (I a) (bn H fun g e H=>?_)))));obtain ⟨u,o,q⟩:=Sl.at (f.mono t) (bi e);obtain ⟨v17,rfl,x⟩:=o;refine vx (ix cC f.m e) (va (Qo (sb v1) (so v1+a.toNat * 2)) (vx (l1 u_3 (q 0 _ rfl)) (va (I g.Kind) (wln (W.ret ?_)))));obtain rfl:=si H;exact r1 (qq j ⟨i,rfl⟩)
def nu (p0:List aa) (p1:Int):Option (Er):=
 (idx p0 p1).bind fun b=>
 (gK b).bind fun d=>
 if (!d)=true then
 some (Er.sent 3)
 else
 ((bL (b.Kind==2) ((mC p0 (w64 (p1+1))).bind fun e=>
 some (e != 3))).bind fun a=>
 if a=true then
 some (a)
 else
 (bL (b.Kind==3) ((mC p0 (w64 (p1 - 1))).bind fun f=>
 some (f != 2))).bind fun c=>
 some (c)).bind fun g=>
 if g=true then
 some (Er.sent 2)
 else
 some Er.nil
theorem vW (O0:Own c0 G F) (hG:Gl [2,3] c0) (D:List aa) (d:Int) {r:Er} (A:Sl am c0 v1 D) (H:nu D d=some r): Calls prog 133 #[v1,I d] c0.w (aQ c0 fun c v=>∃y1,Own c G (F)∧v=y1∧RE 341 78 c y1 r):=by
 unfold nu at H;refine en func133 rfl rfl (sr (va (.nilIface) (wln (sr (va (v1) (va (I d) (bn H fun b h3 H=>?_)))))));obtain ⟨t1,h5,m6⟩:=Sl.at A (bi h3);obtain ⟨v7,rfl,h8⟩:=h5;refine vx (ix cC A h3) (vx (lN 36 m6) (me (al 36 [I 0,Y] O0) ?_));rintro v12 g1 y ⟨s,rfl,f0⟩;obtain ⟨f,g,h,rfl⟩:=((h8.mono y)).form;refine md (sA 36 [I b.Kind,.slice f g h] 0 f0 ⟨rfl,h8.m.one,trivial⟩) ?_;rintro h1 U E;refine wln (W.seq (W.block (sr (vx (leN 36 0 [I b.Kind,.slice f g h] (E.on 0 rfl)) (bn H fun z t0 H=>cl (oI E b h8.m t0) ?_)))));rintro v24 q X ⟨o,rfl⟩;refine vv (B (!z)) (wln (cn H (fun u0 H=>?_) (fun u0 H=>?_)))
 ·refine sr ?_;obtain ⟨v26,P⟩:=(hG.mono (y.trans (U.trans X))).get 3 (by decide);refine vx (l1 pg P.im) (va (v26) (wln (W.ret (bkr (thr ?_)))));obtain rfl:=si H;have g0:=o.sD 1 [];exact r1 (qq q ⟨v26,g0,rfl,P⟩)
 refine bn H fun e0 a e=>W.seqJ (Jn q fun c l=>Own c G ((Eb s 36 [I b.Kind,.slice f g h]) :: F)∧l= [(15,B e0)]) ?_ ?_
 ·refine W.seq (bn a fun a0 R a=>W.join (Jn q fun c l=>Own c G ((Eb s 36 [I b.Kind,.slice f g h]) :: F)∧l= [(0,v1),(1,I d),(5,Q s),(15,B a0)]) ?_ ?_)
  ·clear a;refine W.region (va (Q s) (vx (le1 0 u_3 (o.on 0 rfl)) (va (B (b.Kind==2)) ?_)));rcases bo (b.Kind==2) with i | i
   ·have t:=anT i R;refine vb i (wa (v1) (wa (I d) (wa (I (w64 (d+1))) (wn (bn t fun k w0 t=>cl (sk o D (w64 (d+1)) A.m w0) ?_)))));rintro v40 m0 m1 ⟨h0,rfl⟩;refine wa (B (k != 3)) ?_;obtain rfl:=si t;exact vv (B (k != 3)) (wln (jn m0 ⟨h0,rfl⟩))
   obtain rfl:=anF i R;exact vb i (pz (pz (ps (vv (B false) (wln (jn q ⟨o,rfl⟩))))))
  rintro e_ w_ ⟨x,i1,_,rfl,n1,rfl,p,rfl⟩;refine nrm (cn a (fun x0 a=>?_) (fun x0 a=>?_))
  ·refine W.skip (nrm ?_);obtain rfl:=si a;exact jn x ⟨p,rfl⟩
  refine bn a fun b0 S a=>W.join (Jn x fun c l=>Own c G ((Eb s 36 [I b.Kind,.slice f g h]) :: F)∧l= [(15,B b0)]) ?_ ?_
  ·clear a;refine W.region (va (Q s) (vx (le1 0 u_3 (p.on 0 rfl)) (va (B (b.Kind==3)) ?_)));rcases bo (b.Kind==3) with j | j
   ·have u:=anT j S;refine vb j (wa (v1) (wa (I d) (wa (I (w64 (d - 1))) (wn (bn u fun n y0 u=>cl (sk p D (w64 (d - 1)) A.m y0) ?_)))));rintro v57 o0 q1 ⟨i0,rfl⟩;refine wa (B (n != 2)) ?_;obtain rfl:=si u;exact vv (B (n != 2)) (wln (jn o0 ⟨i0,rfl⟩))
   obtain rfl:=anF j S;exact vb j (pz (pz (ps (vv (B false) (wln (jn x ⟨p,rfl⟩))))))
  rintro e_ w_ ⟨q0,j1,_,rfl,s1,rfl,j0,rfl⟩;refine nrm ?_;obtain rfl:=si a;exact jn q0 ⟨j0,rfl⟩
 rintro e_ w_ ⟨N,k1,_,rfl,a1,rfl,M,rfl⟩;refine cn e (fun z0 e=>?_) (fun z0 e=>?_)
 ·refine sr ?_;obtain ⟨Z,T⟩:=(hG.mono (y.trans (U.trans (X.trans a1)))).get 2 (by decide);refine vx (l1 pg T.im) (va (Z) (wln (W.ret (bkr (thr ?_)))));obtain rfl:=si e;have k0:=M.sD 1 [];exact r1 (qq N ⟨Z,k0,rfl,T⟩)
 refine W.skip (bkn (nrm (sr (va (.nilIface) (wln (W.ret ?_))))));obtain rfl:=si e;have l0:=M.sD 1 [];exact r1 (qq N ⟨.nilIface,l0,rfl,rfl⟩)
def oC (p0:bh):Option (List Er):=
 ((mB p0.Wide).bind fun u=>
 (orE (!u) ((mB p0.High).bind fun l=>
 some (!l))).bind fun i=>
 (orE i (some (p0.High != (p0.Lines.length:Int)))).bind fun j=>
 if j=true then
 (app ([]:List Er) ([(Er.sent 7)]:List Er)).bind fun m=>
 some (m)
 else
 some (([]:List Er))).bind fun v=>
 (cO (σ:=(List Er)×Int) (τ:=(List Er)) (((p0.Lines.length:Int) - 0).toNat+1) (fun a=>
 if (decide (a.2 < (p0.Lines.length:Int)))=true then
 (idx p0.Lines a.2).bind fun c=>
 (if ((c.Cells.length:Int) != p0.Wide)=true then
 (jC a.2 (Er.sent 0)).bind fun n=>
 (app a.1 ([n]:List Er)).bind fun o=>
 some (o)
 else
 some (a.1)).bind fun s=>
 (cO (σ:=(List Er)×Int) (τ:=(List Er)) (((c.Cells.length:Int) - 0).toNat+1) (fun b=>
 if (decide (b.2 < (c.Cells.length:Int)))=true then
 ((nu c.Cells b.2).bind fun e=>
 if (!e.isNil)=true then
 (jC b.2 e).bind fun p=>
 (jC a.2 p).bind fun q=>
 (app b.1 ([q]:List Er)).bind fun r=>
 some (r)
 else
 some (b.1)).bind fun t=>
 some (.inl (t,(w64 (b.2+1))))
 else
 some (.inr (b.1))) (s,0)).bind fun k=>
 some (.inl (k,(w64 (a.2+1))))
 else
 some (.inr (a.1))) (v,0)).bind fun d=>
 ((kT p0.At p0.Wide p0.High).bind fun f=>
 if (!f)=true then
 (app d ([(Er.sent 5)]:List Er)).bind fun g=>
 some (g)
 else
 some (d)).bind fun h=>
 some h
theorem xB (O0:Own c0 G F) (hG:Gl [0,2,3,5,7] c0) (d:bh) {r:List Er} (h2:Sl ay c0 v1 d.Lines) (H:oC d=some r): Calls prog 102 #[.agg #[I d.Wide,I d.High,v1,I d.At.Row,I d.At.Col,B d.At.Pending,B d.Auto]] c0.w (aQ c0 fun c v=>∃y1 y2,Own c G (es true (RER 341 78) y1 42 y2 r :: F)∧v=y1∧OA (RER 341 78) c y1 y2 r):=by
 unfold oC at H;refine en func102 rfl rfl (sr ?_);obtain ⟨a3,a4,a5,rfl⟩:=(h2).form;refine me (bx 31 [I d.Wide,I d.High,.slice a3 a4 a5,I d.At.Row,I d.At.Col,B d.At.Pending,B d.Auto] O0) ?_;rintro v10 c9 l9 ⟨o,rfl,O7,P⟩;refine va (Y) (wln (sr (va (Y) (wln (bn H fun e3 h x=>W.seqJ (Jn c9 fun c l=>∃v13 u0,Own c G (es true (RER 341 78) v13 42 u0 e3 :: F)∧l= [(1,Q o),(3,v13)]∧OA (RER 341 78) c v13 u0 e3) ?_ ?_)))))
 ·refine W.seq (bn h fun d3 r6 h=>bn h fun w7 t2 h=>bn h fun n4 p1 h=>W.join (Jn c9 fun c l=>Own c G (F)∧l= [(1,Q o),(3,Y),(25,B n4)]) ?_ ?_)
  ·clear h;refine W.region (va (Q o) (vx (l1 u_3 (P 0 _ rfl)) (cl (sj O7 d.Wide r6) ?_)));rintro v23 m6 x9 ⟨m2,rfl⟩;refine va (B (!d3)) ?_;rcases bo (!d3) with f0 | f0
   ·obtain rfl:=orT f0 t2;refine vb f0 (pz (pz (va (B true) ?_)));have u2:true=true:=rfl;obtain rfl:=orT u2 p1;exact vb u2 (pz (pz (pz (va (B true) (wln (jn m6 ⟨m2,rfl⟩))))))
   have b1:=orF f0 t2;refine vb f0 (wa (Qo o (0+1)) (wn (vx (l1 u_3 ((mm P) 1 _ rfl)) (wn (bn b1 fun q0 s6 b1=>cl (sj m2 d.High s6) ?_)))));rintro v33 q2 y9 ⟨n2,rfl⟩;refine wa (B (!q0)) ?_;obtain rfl:=si b1;refine va (B (!q0)) ?_;rcases bo (!q0) with g0 | g0
   ·obtain rfl:=orT g0 p1;exact vb g0 (pz (pz (pz (va (B true) (wln (jn q2 ⟨n2,rfl⟩))))))
   have d6:=orF g0 p1;refine vb g0 (wa (Qo o (0+1)) (wn (vx (l1 u_3 ((mm P) 1 _ rfl)) (wa (Qo o (0+2)) (wn (vx (l1 jS ((mm P) 2 _ rfl)) (wn (vx (ln 3 jS h2.m) (wa (B (d.High != (d.Lines.length:Int))) ?_)))))))));obtain rfl:=si d6;exact va (B (d.High != (d.Lines.length:Int))) (wln (jn q2 ⟨n2,rfl⟩))
  rintro e_ w_ ⟨s2,u9,_,rfl,e7,rfl,o2,rfl⟩;refine nrm (cn h (fun t6 h=>?_) (fun t6 h=>?_))
  ·refine W.region (va (Y) ?_);obtain ⟨v43,v2⟩:=(hG.mono (l9.trans e7)).get 7 (by decide);refine vx (l1 pg v2.im) (me (Own.slE (S:=341) (T:=78) (E:=42) o2 (v2) (fun hv=>by subst hv; kernel_rfl) (fun t a hv=>by subst hv; kernel_rfl)) ?_);rintro v49 s9 z9 ⟨u46,e6,u6⟩;obtain ⟨n6,w6,l52,f6,v6⟩:=e6.frz 0 rfl u6;refine WL.gh w6 (bn h fun n9 x6 h=>?_);have y6:OA (RER 341 78) n6 (Y) [] []:=OA.nil (aK _);have g6:=f6.addHole (e:=es true (RER 341 78) (Y) 42 [] ([]:List Er)) rfl;refine me (ap (RER 341 78) .nilIface 16 185 0 g6 y6 v6 x6 we) ?_;rintro c3 o6 l60 ⟨g7,h6,z6⟩;refine va (c3) (wln ?_);obtain rfl:=si h;have i6:=h6.sD 2 [0];exact jn o6 ⟨c3,g7,i6,rfl,z6⟩
  refine W.skip (nrm ?_);obtain rfl:=si h;have a7:OA (RER 341 78) s2 (Y) [] []:=OA.nil (aK _);have j6:=o2.addHole (e:=es true (RER 341 78) (Y) 42 [] ([]:List Er)) rfl;exact jn s2 ⟨(Y),[],j6,rfl,a7⟩
 rintro e_ w_ ⟨i1,v9,_,rfl,z1,rfl,v13,u0,k6,rfl,b7⟩;refine W.seq (sr (va (Qo o (0+2)) (vx (l1 jS ((mm P) 2 _ rfl)) (vx (ln 3 jS h2.m) (va (I 0) (wln (W.block (bn x fun x8 w2 l2=>lp w2 (fun b=>Jn i1 fun c l=>∃M i0,Own c G (es true (RER 341 78) M 42 i0 b.1 :: F)∧l= [(1,Q o),(3,M),(31,.slice a3 a4 a5),(32,I (d.Lines.length:Int)),(33,I b.2)]∧OA (RER 341 78) c M i0 b.1) (fun s0 ex e w=>ex= .exit 0∧(Jn i1 fun c l=>∃N v0,Own c G (es true (RER 341 78) N 42 v0 s0 :: F)∧l= [(1,Q o),(3,N)]∧OA (RER 341 78) c N v0 s0) e w) ?_ ?_ ?_))))))))
 ·clear l2 w2;intro b h7 j1 e2 x;revert j1 e2;rintro e_ w_ ⟨p6,w9,_,rfl,z2,rfl,M,i0,p2,rfl,x1⟩;refine sr (va (B (decide (b.2 < (d.Lines.length:Int)))) (wln (W.seq (cn x (fun c7 x=>?_) (fun c7 x=>?_)))))
  ·refine W.skip (nrm (W.seq (W.block (sr (va (I b.2) (bn x fun i x2 x=>?_))))));obtain ⟨w8,d7,f7⟩:=Sl.at (h2.mono (l9.trans (z1.trans z2))) (bi x2);obtain ⟨v90,rfl,h0⟩:=d7;refine vx (ix jS h2.m x2) (vx (lN 39 f7) (me (al 39 [Y,B false] p2) ?_));rintro v95 t9 b3 ⟨p,rfl,l6⟩;refine va (I b.2) ?_;obtain ⟨a0,b0,d0,rfl⟩:=((h0.mono b3)).form;refine md (sA 39 [.slice a0 b0 d0,B i.Wrap] 0 l6 ⟨h0.m.one,rfl,trivial⟩) ?_;rintro g1 u5 f1;refine wln (bn x fun g2 j q=>W.seqJ (Jn g1 fun c l=>∃z R,Own c G (es true (RER 341 78) z 42 R g2 :: (Eb p 39 [.slice a0 b0 d0,B i.Wrap]) :: F)∧l= [(1,Q o),(3,z),(4,I b.2),(5,Q p),(31,.slice a3 a4 a5),(32,I (d.Lines.length:Int)),(33,I b.2)]∧OA (RER 341 78) c z R g2) ?_ ?_)
   ·refine sr (va (Q p) (vx (le1 0 cC (f1.on 0 rfl)) (vx (ln 3 cC h0.m) (va (Q o) (vx (l1 u_3 ((mm P) 0 _ rfl)) (va (B ((i.Cells.length:Int) != d.Wide)) (wln (cn j (fun o4 j=>?_) (fun o4 j=>?_)))))))))
    ·refine W.region (va (M) (va (I b.2) ?_));obtain ⟨d9,k1⟩:=(hG.mono (l9.trans (z1.trans (z2.trans (b3.trans u5))))).get 0 (by decide);refine vx (l1 pg k1.im) (bn j fun o9 p4 j=>cl (kH f1 b.2 (Er.sent 0) k1 p4) ?_);rintro e9 n7 d8 ⟨_,h3,rfl,q4⟩;refine me (Own.slE (S:=341) (T:=78) (E:=42) h3 (q4) (fun hv=>by subst hv; kernel_rfl) (fun t a hv=>by subst hv; kernel_rfl)) ?_;rintro f9 o7 e8 ⟨z8,i3,r4⟩;obtain ⟨p7,t4,f8,j3,s4⟩:=i3.frz 0 rfl r4;refine WL.gh t4 (bn j fun p9 u4 j=>me (ap (RER 341 78) .nilIface 16 185 2 j3 x1.m s4 u4 we) ?_);rintro b2 e4 g8 ⟨x5,k3,v4⟩;refine va (b2) (wln ?_);obtain rfl:=si j;have l3:=k3.sD 3 [2,1];exact jn e4 ⟨b2,x5,l3,rfl,v4⟩
    refine W.skip (nrm ?_);obtain rfl:=si j;have m3:=f1.sD 2 [1,0];exact jn g1 ⟨M,i0,m3,rfl,x1.m⟩
   rintro e_ w_ ⟨l0,x7,_,rfl,h8,rfl,z,R,c1,rfl,w4⟩;refine sr (va (Q p) (vx (le1 0 cC (c1.on 1 rfl)) (vx (ln 3 cC h0.m) (va (I 0) (wln (W.block (bn q fun y8 m1 a1=>lp m1 (fun f=>Jn l0 fun c l=>∃s y,Own c G (es true (RER 341 78) s 42 y f.1 :: (Eb p 39 [.slice a0 b0 d0,B i.Wrap]) :: F)∧l= [(1,Q o),(3,s),(4,I b.2),(5,Q p),(31,.slice a3 a4 a5),(32,I (d.Lines.length:Int)),(33,I b.2),(52,I (i.Cells.length:Int)),(53,I f.2)]∧OA (RER 341 78) c s y f.1) (fun t0 ex e w=>ex= .exit 2∧(Jn l0 fun c l=>∃A U,Own c G (es true (RER 341 78) A 42 U t0 :: (Eb p 39 [.slice a0 b0 d0,B i.Wrap]) :: F)∧l= [(1,Q o),(3,A),(31,.slice a3 a4 a5),(32,I (d.Lines.length:Int)),(33,I b.2)]∧OA (RER 341 78) c A U t0) e w) ?_ ?_ ?_)))))))
   ·clear a1 m1;intro f h7 j1 e2 q;revert j1 e2;rintro e_ w_ ⟨h1,y7,_,rfl,i8,rfl,s,y,k0,rfl,m0⟩;refine sr (va (B (decide (f.2 < (i.Cells.length:Int)))) (wln (W.seq (cn q (fun x4 q=>?_) (fun x4 q=>?_)))))
    ·refine W.skip (nrm (bn q fun i2 g f3=>W.seqJ (Jn h1 fun c l=>∃D X,Own c G (es true (RER 341 78) D 42 X i2 :: (Eb p 39 [.slice a0 b0 d0,B i.Wrap]) :: F)∧l= [(1,Q o),(3,D),(4,I b.2),(5,Q p),(31,.slice a3 a4 a5),(32,I (d.Lines.length:Int)),(33,I b.2),(52,I (i.Cells.length:Int)),(53,I f.2)]∧OA (RER 341 78) c D X i2) ?_ ?_))
     ·refine W.block (sr (vv (I f.2) (wln (sr (va (Q p) (vx (le1 0 cC (k0.on 1 rfl)) (va (I f.2) (bn g fun f2 y4 g=>cl (vW k0 (hG.m.le (by decide)) i.Cells f.2 h0.m y4) ?_))))))));rintro o0 f4 j8 ⟨_,d1,rfl,n1⟩;refine va (o0) (wln (sr (va (o0) (vr (B (!f2.isNil)) (by rcases (n1).cs with ⟨q1,w1⟩ | ⟨b_,q1,w1⟩ | ⟨b_,q1,w1⟩ <;> (subst q1; rw [w1]; kernel_rfl)) (wln (cn g (fun z4 g=>?_) (fun z4 g=>?_)))))))
      ·refine W.region (va (s) (va (I b.2) (va (I f.2) (va (o0) (bn g fun a6 b5 g=>cl (kH d1 f.2 f2 n1 b5) ?_)))));rintro g9 q7 k8 ⟨_,n3,rfl,c5⟩;refine bn g fun q9 d5 g=>cl (kH n3 b.2 a6 c5 d5) ?_;rintro h9 r7 l8 ⟨_,o3,rfl,e5⟩;refine me (Own.slE (S:=341) (T:=78) (E:=42) o3 (e5) (fun hv=>by subst hv; kernel_rfl) (fun t a hv=>by subst hv; kernel_rfl)) ?_;rintro i9 s7 n8 ⟨a9,p3,f5⟩;obtain ⟨t7,h5,o8,q3,g5⟩:=p3.frz 0 rfl f5;refine WL.gh h5 (bn g fun r9 i5 g=>me (ap (RER 341 78) .nilIface 16 185 1 q3 m0.m g5 i5 we) ?_);rintro c2 g4 p8 ⟨y5,s3,j5⟩;refine va (c2) (WL.nil (bkn (nrm ?_)));obtain rfl:=si g;have t3:=s3.sD 3 [1,2];exact jn g4 ⟨c2,y5,t3,rfl,j5⟩
      refine W.skip (bkn (nrm ?_));obtain rfl:=si g;exact jn f4 ⟨s,y,d1,rfl,m0.m⟩
     rintro e_ w_ ⟨h4,z7,_,rfl,q8,rfl,D,X,u3,rfl,k5⟩;refine W.region (vv (I (w64 (f.2+1))) (WL.nil ?_));obtain rfl:=si f3;exact ⟨_,rfl,jn h4 ⟨D,X,u3,rfl,k5⟩⟩
    refine W.exit (thx ?_);obtain rfl:=si q;exact ⟨_,rfl,rfl,jn h1 ⟨s,y,k0,rfl,m0⟩⟩
   ·exact jn l0 ⟨z,R,c1,rfl,w4⟩
   rintro _ e_ w_ ⟨rfl,i4,a8,_,rfl,r8,rfl,A,U,v3,rfl,l5⟩;refine bke (bkn (nrm (W.region (vv (I (w64 (b.2+1))) (WL.nil ?_)))));obtain rfl:=si a1;refine ⟨_,rfl,?_⟩;have w3:=v3.sD 2 [0];exact jn i4 ⟨A,U,w3,rfl,l5⟩
  refine W.exit (thx ?_);obtain rfl:=si x;exact ⟨_,rfl,rfl,jn p6 ⟨M,i0,p2,rfl,x1⟩⟩
 ·exact jn i1 ⟨v13,u0,k6,rfl,b7⟩
 rintro _ e_ w_ ⟨rfl,j4,b8,_,rfl,v5,rfl,N,v0,x3,rfl,t1⟩;refine bke (nrm (bn l2 fun w0 n g3=>W.seqJ (Jn j4 fun c l=>∃u Z,Own c G (es true (RER 341 78) u 42 Z w0 :: F)∧l= [(3,u)]∧OA (RER 341 78) c u Z w0) ?_ ?_))
 ·refine sr (va (Qo o (0+3)) (vx (lN 29 (E5 (k:=3) (l:=[I d.At.Row,I d.At.Col,B d.At.Pending]) (mm P) rfl)) (va (Q o) (vx (l1 u_3 ((mm P) 0 _ rfl)) (va (Qo o (0+1)) (vx (l1 u_3 ((mm P) 1 _ rfl)) (bn n fun k2 m5 n=>cl (pU x3 d.At d.Wide d.High m5) ?_)))))));rintro j9 k4 w5 ⟨e1,rfl⟩;refine va (B (!k2)) (wln (cn n (fun n5 n=>?_) (fun n5 n=>?_)))
  ·refine W.region (va (N) ?_);obtain ⟨k9,u1⟩:=(hG.mono (l9.trans (z1.trans (v5.trans w5)))).get 5 (by decide);refine vx (l1 pg u1.im) (me (Own.slE (S:=341) (T:=78) (E:=42) e1 (u1) (fun hv=>by subst hv; kernel_rfl) (fun t a hv=>by subst hv; kernel_rfl)) ?_);rintro m9 u7 s8 ⟨b9,y3,o5⟩;obtain ⟨v7,q5,t8,z3,p5⟩:=y3.frz 0 rfl o5;refine WL.gh q5 (bn n fun j7 r5 n=>me (ap (RER 341 78) .nilIface 16 185 1 z3 t1.m p5 r5 we) ?_);rintro d2 l4 u8 ⟨z5,b4,s5⟩;refine va (d2) (wln ?_);obtain rfl:=si n;have c4:=b4.sD 2 [1];exact jn l4 ⟨d2,z5,c4,rfl,s5⟩
  refine W.skip (nrm ?_);obtain rfl:=si n;exact jn k4 ⟨N,v0,e1,rfl,t1.m⟩
 rintro e_ w_ ⟨m4,c8,_,rfl,v8,rfl,u,Z,d4,rfl,t5⟩;refine sr (vv (u) (wln (W.ret ?_)));obtain rfl:=si g3;exact r1 (qq m4 ⟨u,Z,d4,rfl,t5⟩)
def nx (p0:bh):Option (Er):=
 (oC p0).bind fun a=>
 if (decide ((a.length:Int) > 0))=true then
 (idx a 0).bind fun b=>
 some b
 else
 some Er.nil
theorem vY (t:Own c0 G F) (hG:Gl [0,2,3,5,7] c0) (a:bh) {r:Er} (k:Sl ay c0 v1 a.Lines) (H:nx a=some r): Calls prog 69 #[.agg #[I a.Wide,I a.High,v1,I a.At.Row,I a.At.Col,B a.At.Pending,B a.Auto]] c0.w (aQ c0 fun c v=>∃s,Own c G (F)∧v=s∧RE 341 78 c s r):=by
 unfold nx at H;refine en func69 rfl rfl (sr ?_);obtain ⟨x,y,z,rfl⟩:=(k).form;refine me (bx 31 [I a.Wide,I a.High,.slice x y z,I a.At.Row,I a.At.Col,B a.At.Pending,B a.Auto] t) ?_;rintro v10 R S ⟨P,rfl,u,D⟩;refine va (.nilIface) (wln (W.seq (sr (vx (lN 31 D) (bn H fun q i H=>cl (xB u (hG.m.le (by decide)) a k.m i) ?_)))));rintro v12 f M ⟨_,N,d,rfl,b⟩;refine va (v12) (wln (sr (va (v12) (vx (lnO 3 we b) (va (B (decide ((q.length:Int) > 0))) (wln (cn H (fun l H=>?_) (fun l H=>?_))))))))
 ·refine sr (va (v12) (bn H fun E e H=>vx (ixO we b e) ?_));obtain ⟨A,n,p⟩:=OA.at b e;obtain ⟨v26,rfl,o⟩:=n;refine vr v26 (rx (by kernel_rfl) (my pg rfl (d.on 0 rfl) (b.blk e) (at1 (j:=0) p rfl))) (va (v26) (wln (W.ret (thr ?_))));obtain rfl:=si H;have g:=d.sD 1 [];exact r1 (qq f ⟨v26,g,rfl,o⟩)
 refine W.skip (nrm (sr (va (.nilIface) (wln (W.ret ?_)))));obtain rfl:=si H;have h:=d.sD 1 [];exact r1 (qq f ⟨.nilIface,h,rfl,rfl⟩)
def nv (p0:bh):Option (Bool):=
 (nx p0).bind fun a=>
 some a.isNil
theorem vX (k:Own c0 G F) (hG:Gl [0,2,3,5,7] c0) (a:bh) {r:Bool} (j:Sl ay c0 v1 a.Lines) (H:nv a=some r): Calls prog 39 #[.agg #[I a.Wide,I a.High,v1,I a.At.Row,I a.At.Col,B a.At.Pending,B a.Auto]] c0.w (aQ c0 fun c v=>Own c G (F)∧v=B r):=by
 unfold nv at H;refine en func39 rfl rfl (sr ?_);obtain ⟨n,o,p,rfl⟩:=(j).form;refine me (bx 31 [I a.Wide,I a.High,.slice n o p,I a.At.Row,I a.At.Col,B a.At.Pending,B a.Auto] k) ?_;rintro v10 x y ⟨u,rfl,l,s⟩;refine va (B false) (wln (sr (vx (lN 31 s) (bn H fun e h H=>cl (vY l (hG.m.le (by decide)) a j.m h) ?_))));rintro v12 g t ⟨_,f,rfl,i⟩;refine vr (B e.isNil) (by rcases (i).cs with ⟨b,d⟩ | ⟨q,b,d⟩ | ⟨q,b,d⟩ <;> (subst b; rw [d]; kernel_rfl)) (va (B e.isNil) (wln (W.ret ?_)));obtain rfl:=si H;exact r1 (qq g ⟨f,rfl⟩)
end Go.Proofs.YtidapncdmjppeaaGreatDoor
namespace Go.Proofs.YtidapncdmjppeaaGreatDoor
open Go Go.Lt
set_option maxRecDepth 10000
set_option linter.unusedVariables false
attribute [local irreducible] W WL AC
open Tryz Go.RowKit
def uL:Go.Shelf.Ren:=⟨fun | 0=>0 | 1=>1 | 2=>2 | 99=>120 | 119=>275 | 120=>261 | 129=>160 | 137=>84 | 138=>152 | 143=>153 | 146=>85 | 151=>229 | 152=>260 | 156=>62 | 160=>155 | 165=>99 | 166=>30 | 169=>35 | 171=>32 | 172=>157 | 173=>64 | 174=>156 | 195=>191 | 197=>192 | 205=>265 | 206=>154 | 217=>118 | 218=>193 | 219=>194 | 221=>119 | 224=>226 | 225=>225 | 227=>197 | 228=>228 | 231=>195 | 232=>196 | 233=>198 | 234=>199 | 235=>200 | 236=>201 | 240=>61 | 241=>127 | 243=>63 | 244=>204 | 245=>203 | 246=>100 | 247=>202 | 260=>224 | 266=>150 | 267=>227 | 268=>151 | 271=>230 | 276=>98 | 277=>158 | 279=>232 | 280=>233 | 281=>234 | 282=>235 | 283=>128 | 284=>129 | 285=>130 | 286=>131 | 287=>231 | 314=>259 | 316=>264 | 317=>159 | 318=>161 | 319=>162 | 320=>163 | 321=>262 | 322=>263 | 337=>205 | 338=>206 | 347=>278 | 348=>279 | 349=>280 | 350=>281 | 351=>282 | 352=>283 | 353=>284 | 354=>285 | 355=>286 | 356=>287 | 357=>288 | 358=>289 | 359=>290 | 360=>293 | 361=>294 | 362=>297 | 363=>317 | 364=>313 | 365=>314 | 366=>301 | 367=>337 | n=>n,fun | 0=>0 | 1=>1 | 2=>2 | 3=>3 | 4=>4 | 5=>5 | 6=>6 | 7=>7 | 8=>8 | 9=>9 | 10=>10 | 11=>11 | 12=>12 | 13=>13 | 14=>14 | 15=>15 | 16=>16 | 17=>17 | 18=>18 | 19=>19 | 20=>20 | 21=>21 | 22=>210 | 23=>237 | 27=>236 | 28=>101 | 31=>92 | 37=>55 | 39=>223 | 40=>197 | 41=>298 | 43=>216 | 46=>157 | 47=>245 | 48=>254 | 49=>362 | 51=>243 | 52=>284 | 53=>40 | 54=>218 | 55=>166 | 61=>167 | 63=>299 | 64=>329 | 67=>147 | 69=>331 | 70=>85 | 71=>86 | 72=>87 | 73=>192 | 74=>41 | 75=>42 | 76=>88 | 77=>89 | 80=>95 | 81=>99 | 83=>91 | 84=>148 | 85=>238 | 86=>239 | 103=>273 | 104=>169 | 105=>274 | 106=>275 | 108=>334 | 111=>205 | 112=>336 | 113=>209 | 114=>215 | 115=>277 | 116=>278 | 117=>279 | 118=>280 | 119=>323 | 122=>276 | 123=>281 | 124=>282 | 127=>149 | 128=>283 | 131=>213 | 137=>324 | 138=>325 | 139=>326 | 143=>341 | 144=>342 | 145=>343 | 146=>327 | 150=>235 | 151=>328 | 164=>131 | 165=>191 | 166=>240 | 167=>300 | 168=>303 | 169=>304 | 170=>305 | 171=>217 | 172=>219 | 173=>220 | 174=>221 | 175=>301 | 176=>302 | 179=>102 | 209=>332 | 210=>333 | 211=>241 | 212=>242 | 213=>244 | 214=>330 | 222=>174 | 232=>306 | 233=>307 | 238=>344 | 239=>345 | 240=>346 | 241=>347 | 242=>348 | 243=>350 | 244=>139 | 245=>351 | 246=>352 | 247=>353 | 248=>354 | 249=>355 | n=>n,fun | 1=>10 | 3=>13 | 4=>14 | 15=>15 | 16=>16 | 17=>9 | 18=>11 | 19=>12 | n=>n⟩
theorem FQ:Lays.n166 Tryz.prog uL:=by
 constructor <;> first | kernel_rfl | (intro w; kernel_rfl) | (constructor <;> first | kernel_rfl | (intro w; kernel_rfl))
def uN:Go.Shelf.Ren:=⟨fun | 0=>0 | 1=>1 | 2=>2 | 99=>120 | 119=>275 | 120=>261 | 129=>160 | 137=>84 | 138=>152 | 143=>153 | 146=>85 | 151=>229 | 152=>260 | 156=>62 | 160=>155 | 165=>99 | 166=>30 | 169=>35 | 171=>32 | 172=>157 | 173=>64 | 174=>156 | 195=>191 | 197=>192 | 205=>265 | 206=>154 | 217=>118 | 218=>193 | 219=>194 | 221=>119 | 224=>226 | 225=>225 | 227=>197 | 228=>228 | 231=>195 | 232=>196 | 233=>198 | 234=>199 | 235=>200 | 236=>201 | 240=>61 | 241=>127 | 243=>63 | 244=>204 | 245=>203 | 246=>100 | 247=>202 | 260=>224 | 266=>150 | 267=>227 | 268=>151 | 271=>230 | 276=>98 | 277=>158 | 279=>232 | 280=>233 | 281=>234 | 282=>235 | 283=>128 | 284=>129 | 285=>130 | 286=>131 | 287=>231 | 314=>259 | 316=>264 | 317=>159 | 318=>161 | 319=>162 | 320=>163 | 321=>262 | 322=>263 | 337=>205 | 338=>206 | 347=>278 | 348=>279 | 349=>280 | 350=>281 | 351=>282 | 352=>283 | 353=>284 | 354=>285 | 355=>286 | 356=>287 | 357=>288 | 358=>289 | 359=>290 | 360=>293 | 361=>294 | 362=>297 | 363=>317 | 364=>313 | 365=>314 | 366=>301 | 367=>337 | n=>n,fun | 0=>0 | 1=>1 | 2=>2 | 3=>3 | 4=>4 | 5=>5 | 6=>6 | 7=>7 | 8=>8 | 9=>9 | 10=>10 | 11=>11 | 12=>12 | 13=>13 | 14=>14 | 15=>15 | 16=>16 | 17=>17 | 18=>18 | 19=>19 | 20=>20 | 21=>21 | 22=>210 | 23=>237 | 27=>236 | 28=>101 | 31=>92 | 37=>55 | 39=>223 | 40=>197 | 41=>298 | 43=>216 | 46=>157 | 47=>245 | 48=>254 | 49=>362 | 51=>243 | 52=>284 | 53=>40 | 54=>218 | 55=>166 | 61=>167 | 63=>299 | 64=>329 | 67=>147 | 69=>331 | 70=>85 | 71=>86 | 72=>87 | 73=>192 | 74=>41 | 75=>42 | 76=>88 | 77=>89 | 80=>95 | 81=>99 | 83=>91 | 84=>148 | 85=>238 | 86=>239 | 103=>273 | 104=>169 | 105=>274 | 106=>275 | 108=>334 | 111=>205 | 112=>336 | 113=>209 | 114=>215 | 115=>277 | 116=>278 | 117=>279 | 118=>280 | 119=>323 | 122=>276 | 123=>281 | 124=>282 | 127=>149 | 128=>283 | 131=>213 | 137=>324 | 138=>325 | 139=>326 | 143=>341 | 144=>342 | 145=>343 | 146=>327 | 150=>235 | 151=>328 | 164=>131 | 165=>191 | 166=>240 | 167=>300 | 168=>303 | 169=>304 | 170=>305 | 171=>217 | 172=>219 | 173=>220 | 174=>221 | 175=>301 | 176=>302 | 179=>102 | 209=>332 | 210=>333 | 211=>241 | 212=>242 | 213=>244 | 214=>330 | 222=>174 | 232=>306 | 233=>307 | 238=>344 | 239=>345 | 240=>346 | 241=>347 | 242=>348 | 243=>350 | 244=>139 | 245=>351 | 246=>352 | 247=>353 | 248=>354 | 249=>355 | n=>n,fun | 1=>10 | 3=>13 | 4=>14 | 15=>15 | 16=>16 | 17=>9 | 18=>11 | 19=>12 | n=>n⟩
theorem FR:Lays.n169 Tryz.prog uN:=by
 constructor <;> first | kernel_rfl | (intro w; kernel_rfl) | (constructor <;> first | kernel_rfl | (intro w; kernel_rfl))
theorem CO:Go.Proofs.Builder.Extra Tryz.prog uL:=by
 constructor <;> first | kernel_rfl | (intro w; kernel_rfl) | decide | (constructor <;> kernel_rfl)
theorem CR:Go.Proofs.Builder.Extra Tryz.prog uN:=by
 constructor <;> first | kernel_rfl | (intro w; kernel_rfl) | decide | (constructor <;> kernel_rfl)
abbrev isB (B:Nat) (bs:List UInt8) (w:World):Prop:=Lib.IsBuilder 87 5 B B (Lib.byteCells bs) w
structure Br (up:Bool) (c1 c:Cx) (G:Gm) (F:List En) (bs:List UInt8):Prop where
 le:c1.le c
 own1:Own c1 G F
 own:Own c G F
 is:isB c1.w.heap.size bs c.w
 A:∀k o,c1.w.heap.size≤k→(c.A k o↔up=true)
 sz:c1.w.heap.size≤c.w.heap.size
theorem uT {B:Nat} {bs:List UInt8} {w w':World} (h:isB B bs w) (hk:∀k,B≤k→k < w.heap.size→w'.heap[k]? = w.heap[k]?):isB B bs w':=by
 have one:∀p,Lib.BuilderAt 87 5 B B p (Lib.byteCells bs) w→Lib.BuilderAt 87 5 B B p (Lib.byteCells bs) w':=fun p ⟨h1,v,h2,h3,h4⟩=>by
  refine ⟨h1,v,(hk B (ao _) (Array.getElem?_eq_some_iff.1 h2).1).trans h2,⟨h3.1,h3.2.imp id fun ⟨g,cap,cur,e,hg,hh,r⟩=>⟨g,cap,cur,e,hg,(hk g hg (Array.getElem?_eq_some_iff.1 hh).1).trans hh,r⟩⟩,h4⟩
 exact h.imp (one _) (one _)
theorem qQ {c1 c c':Cx} {G:Gm} {F:List En} (O1:Own c1 G F) (O:Own c G F) (hw:∀k,k < c1.w.heap.size→c'.w.heap[k]? = c.w.heap[k]?∧∀o,c'.A k o↔c.A k o) (ht:c'.t=c.t):Own c' G F:=
 ⟨⟨fun i e he=>(O.m.1 i e he).keep fun b hb=>hw b ((O1.m.1 i e he).lt hb),O.m.2⟩,fun g k hk=>by rw [ht]; exact O.t0 g k hk⟩
section
variable {c1 c c':Cx} {G:Gm} {F:List En} {bs:List UInt8}
theorem Br.drew (h:Br true c1 c G F bs):Br true c1 ⟨c.w.drew,c.A,c.t⟩ G F bs:=
 ⟨h.le.trans (Cx.drew_le c).le,h.own1,h.own.keep (Cx.drew_le c),uT h.is fun _ _ _=>rfl,h.A,h.sz⟩
theorem Br.low (h:Br true c1 c G F bs):∃cl:Cx,cl.w=c.w∧Br false c1 cl G F bs:=by
 refine ⟨⟨c.w,fun k o=>k < c1.w.heap.size∧c.A k o,c.t⟩,rfl,?_,h.own1,qQ h.own1 h.own (fun k hk=>⟨rfl,fun o=>⟨fun q=>q.2,fun q=>⟨hk,q⟩⟩⟩) rfl,h.is,fun k o hk=>⟨fun q=>by simp only at q; omega,fun q=>by cases q⟩,h.sz⟩;exact h.le.trans ⟨rfl,rfl,ao _,fun _ _ _ q=>⟨rfl,fun r=>q r.2⟩,fun _ _ _=>rfl,fun _ _ _=>rfl,fun _ _ _ q=>q⟩
theorem Br.upx (h:Br false c1 c G F bs) (k:c.le c') (O:Own c' G F):∃cr:Cx,cr.w=c'.w∧(∀k o,cr.A k o↔(k < c1.w.heap.size∧c'.A k o)∨c1.w.heap.size≤k)∧cr.t=c'.t∧Br true c1 cr G F bs:=by
 have hle:=h.le.trans k;refine ⟨⟨c'.w,fun k o=>(k < c1.w.heap.size∧c'.A k o)∨c1.w.heap.size≤k,c'.t⟩,rfl,fun _ _=>tA,rfl,⟨hle.os,hle.output,hle.size,fun i o hi hA=>⟨(hle.cell i o hi hA).1,fun q=>?_⟩,hle.block,hle.frz,hle.t⟩,h.own1,
  qQ h.own1 O (fun i hi=>⟨rfl,fun o=>⟨fun q=>q.elim (fun q=>q.2) (fun q=>by omega),fun q=> .inl ⟨hi,q⟩⟩⟩) rfl,uT h.is fun i h1 h2=>k.block i h2 fun o q=>(by have:=(h.A i o h1).1 q; cases this),fun i o hi=>⟨fun _=>rfl,fun _=> .inr hi⟩,dI h.sz k.size⟩
 rcases q with q | q
 ·exact (hle.cell i o hi hA).2 q.2
 ·omega
theorem Br.up (h:Br false c1 c G F bs) (k:c.le c') (O:Own c' G F):∃cr:Cx,cr.w=c'.w∧Br true c1 cr G F bs:=by
 obtain ⟨cr,e,_,_,B⟩:=h.upx k O;exact ⟨cr,e,B⟩
theorem Br.below {w':World} (h:Br true c1 c G F bs) (hb:RowKit.Below c.w.heap.size c.w w'):∃c':Cx,c'.w=w'∧c.le c'∧Br true c1 c' G F bs:=by
 have hle:c.le ⟨w',c.A,c.t⟩:=⟨hb.os,hb.output,hb.size,fun k o hk hA=>⟨dO (w:=c.w) (a:=⟨k,o,none⟩) (hb.block k hk),hA⟩,fun k hk _=>hb.block k hk,fun a ha _=>by simp only [World.frozen?,hb.block _ ha],fun _ _ _ q=>q⟩;exact ⟨⟨w',c.A,c.t⟩,rfl,hle,h.le.trans hle,h.own1,qQ h.own1 h.own (fun k hk=>⟨hb.block k (fF hk h.sz),fun _=>tA⟩) rfl,uT h.is fun k _ h2=>hb.block k h2,h.A,dI h.sz hb.size⟩
theorem Br.turn {w':World} {bs':List UInt8} (h:Br true c1 c G F bs) (hb:RowKit.Below c1.w.heap.size c.w w') (his:isB c1.w.heap.size bs' w'):∃c':Cx,c'.w=w'∧c.le c'∧Br true c1 c' G F bs':=by
 have hlt:∀k o,¬c.A k o→k < c1.w.heap.size:=fun k o hA=>by
  rcases aL k c1.w.heap.size with q | q
  ·exact q
  ·exact absurd ((h.A k o q).2 rfl) hA
 have hle:c.le ⟨w',c.A,c.t⟩:=⟨hb.os,hb.output,hb.size,fun k o _ hA=>⟨dO (w:=c.w) (a:=⟨k,o,none⟩) (hb.block k (hlt k o hA)),hA⟩,fun k _ hA=>hb.block k (hlt k 0 (hA 0)),fun a _ hA=>by simp only [World.frozen?,hb.block _ (hlt _ _ hA)],fun _ _ _ q=>q⟩;exact ⟨⟨w',c.A,c.t⟩,rfl,hle,h.le.trans hle,h.own1,qQ h.own1 h.own (fun k hk=>⟨hb.block k hk,fun _=>tA⟩) rfl,his,h.A,dI h.sz hb.size⟩
def BR (bs:List UInt8) (s:ByteArray):Option (List UInt8):=if bs.length+s.size≤140737488355328 then some (bs++blS s) else none
theorem sn (h:Br true c1 c G F bs) (s:ByteArray) {r:List UInt8} (H:BR bs s=some r):
  Calls Tryz.prog 30 #[.pointer (some ⟨c1.w.heap.size,0,none⟩),.string s] c.w (aQ c fun c' v=>Br true c1 c' G F r∧v= .tuple #[.int .i64 (s.size:Int),.nilIface]):=by
 unfold BR at H;split at H
 ·rename_i hh
  cases H;refine (Go.Proofs.Any.Builder_WriteString FQ CO c1.w.heap.size c1.w.heap.size (Lib.byteCells bs) s c.w h.is (by rw [Lib.byteCells_length]; exact hh) h.sz).mono ?_;rintro e w' ⟨rfl,hB,hb⟩;obtain ⟨c',rfl,h2,h3⟩:=h.turn (bs':=bs++blS s) hb (.inr (by
   have:Lib.byteCells (bs++blS s)=Lib.byteCells bs++Lib.strCells s:=by
    unfold Lib.byteCells;rw [bA];rfl
   rw [this];exact hB))
  exact ⟨_,c',rfl,rfl,h2,h3,rfl⟩
 ·cases H
theorem BQ (h:Br true c1 c G F bs):Calls Tryz.prog 35 #[.pointer (some ⟨c1.w.heap.size,0,none⟩)] c.w (aQ c fun c' v=>Own c' G F∧v= .string (mkS bs)):=by
 refine (Go.Proofs.Any.Builder_String_any FR CR c1.w.heap.size c1.w.heap.size bs c.w h.is h.sz).mono ?_;rintro e w' ⟨rfl,hb⟩;have hlt:∀k o,¬c.A k o→k < c1.w.heap.size:=fun k o hA=>by
  rcases aL k c1.w.heap.size with q | q
  ·exact q
  ·exact absurd ((h.A k o q).2 rfl) hA
 have hle:c.le ⟨w',c.A,c.t⟩:=⟨hb.os,hb.output,hb.size,fun k o _ hA=>⟨dO (w:=c.w) (a:=⟨k,o,none⟩) (hb.block k (hlt k o hA)),hA⟩,fun k _ hA=>hb.block k (hlt k 0 (hA 0)),fun a _ hA=>by simp only [World.frozen?,hb.block _ (hlt _ _ hA)],fun _ _ _ q=>q⟩;exact ⟨_,⟨w',c.A,c.t⟩,rfl,rfl,hle,qQ h.own1 h.own (fun k hk=>⟨hb.block k hk,fun _=>tA⟩) rfl,rfl⟩
theorem Gf {ρ:Operand→Value} {o:Oper} (O:Own c G F) (hr:(execOp ρ o).run Tryz.prog c.w= .ok (.value (.pointer (some ⟨c.w.heap.size,0,none⟩))) (c.w.alloc (.cells #[.pointer none,.slice none 0 0] 87))):
  ∃v c',(execOp ρ o).run Tryz.prog c.w= .ok (.value v) c'.w∧c.le c'∧(v= .pointer (some ⟨c.w.heap.size,0,none⟩)∧Br true c c' G F []):=by
 have hb:=(kI _ c.w).alloc (ao _) (.cells #[.pointer none,.slice none 0 0] 87);have hle:c.le ⟨c.w.alloc (.cells #[.pointer none,.slice none 0 0] 87),fun k o=>(k < c.w.heap.size∧c.A k o)∨c.w.heap.size≤k,c.t⟩:=
  ⟨hb.os,hb.output,hb.size,fun k o hk hA=>⟨dO (w:=c.w) (a:=⟨k,o,none⟩) (hb.block k hk),fun q=>q.elim (fun q=>hA q.2) (fun q=>by omega)⟩,fun k hk _=>hb.block k hk,fun a ha _=>by simp only [World.frozen?,hb.block _ ha],fun _ _ _ q=>q⟩
 exact ⟨_,_,hr,hle,rfl,hle,O,qQ O O (fun k hk=>⟨hb.block k hk,fun o=>⟨fun q=>q.elim (fun q=>q.2) (fun q=>by omega),fun q=> .inl ⟨hk,q⟩⟩⟩) rfl,Lib.fresh_isBuilder _ _ c.w,fun k o hk=>⟨fun _=>rfl,fun _=> .inr hk⟩,hb.size⟩
theorem Br.nA (h:Br false c1 c G F bs):∀k o,c1.w.heap.size≤k→¬c.A k o:=fun k o hk q=>by
 have:=(h.A k o hk).1 q;cases this
theorem Br.call (h:Br true c1 c G F bs) {f:FuncId} {args:Array Value} {v0:Value} (hc:∀cl:Cx,cl.w=c.w→Br false c1 cl G F bs→Calls Tryz.prog f args cl.w (aQ cl fun c' v=>Own c' G F∧v=v0)):
  Calls Tryz.prog f args c.w (aQ c fun c' v=>Br true c1 c' G F bs∧v=v0):=by
 have hlow:Br false c1 ⟨c.w,fun k o=>k < c1.w.heap.size∧c.A k o,c.t⟩ G F bs:=
  ⟨h.le.trans ⟨rfl,rfl,ao _,fun _ _ _ q=>⟨rfl,fun r=>q r.2⟩,fun _ _ _=>rfl,fun _ _ _=>rfl,fun _ _ _ q=>q⟩,h.own1,qQ h.own1 h.own (fun k hk=>⟨rfl,fun o=>⟨fun q=>q.2,fun q=>⟨hk,q⟩⟩⟩) rfl,h.is,fun k o hk=>⟨fun q=>by simp only at q; omega,fun q=>by cases q⟩,h.sz⟩
 refine (hc ⟨c.w,fun k o=>k < c1.w.heap.size∧c.A k o,c.t⟩ rfl hlow).mono ?_;rintro e w' ⟨v,c',he,rfl,hle,O,hv⟩;obtain ⟨cr,e1,e2,e3,B⟩:=hlow.upx hle O;have hA:∀k o,¬c.A k o→k < c1.w.heap.size:=fun k o q=>by
  rcases aL k c1.w.heap.size with r | r
  ·exact r
  ·exact absurd ((h.A k o r).2 rfl) q
 have hle2:c.le cr:=by
  refine ⟨by rw [e1]; exact hle.os,by rw [e1]; exact hle.output,by rw [e1]; exact hle.size,fun k o hk q=>?_,fun k hk q=>by rw [e1]; exact hle.block k hk (fun o r=>q o r.2),fun a ha q=>by simp only [World.frozen?,e1]; exact hle.frz a ha (fun r=>q r.2),fun g k b q=>by rw [e3]; exact hle.t g k b q⟩;have h1:=hle.cell k o hk (fun r=>q r.2);refine ⟨by rw [e1]; exact h1.1,fun r=>?_⟩;rcases (e2 k o).1 r with r | r
  ·exact h1.2 r.2
  ·have:=hA k o q;omega
 exact ⟨v,cr,he,e1.symm,hle2,B,hv⟩
theorem Hc {ρ:Operand→Value} {o:Oper} (h:Br true c1 c G F bs) (xs:List ByteArray) (hm:Nat.ble xs.length 4294967296=true) (hr:(execOp ρ o).run Tryz.prog c.w= .ok (.value (.slice (some ⟨c.w.heap.size,0,none⟩) xs.length xs.length)) (c.w.alloc (.cells (xs.map Value.string).toArray 9))):
  ∃v c',(execOp ρ o).run Tryz.prog c.w= .ok (.value v) c'.w∧c.le c'∧(Br true c1 c' G F bs∧∀cl:Cx,cl.w=c'.w→(∀k o,c1.w.heap.size≤k→¬cl.A k o)→Sl RS cl v xs):=by
 have hm:=bH hm;obtain ⟨c',e1,h2,h3⟩:=h.below ((kI c.w.heap.size c.w).alloc (ao _) (.cells (xs.map Value.string).toArray 9));refine ⟨_,c',by rw [e1]; exact hr,h2,h3,fun cl ew hA=>⟨_,xs.length,rfl,ao _,by unfold maxLen; omega,fun i x hx=>⟨_,_,[.string x],rfl,rfl,fun j u hu=>?_⟩⟩⟩
 cases j with
 | succ j=>simp at hu
 | zero=>
  simp only [jH,aM] at hu;subst hu;refine ⟨?_,hA _ _ h.sz,?_⟩
  ·rw [ew,e1];simp
  ·rw [ew,e1,fV _ _ _ _ _ _ (uY c.w _),bI,bm,show 0+i * RS.size+0=i by show 0+i * 1+0=i; omega,hx];rfl
end
end Go.Proofs.YtidapncdmjppeaaGreatDoor
namespace Go.Proofs.YtidapncdmjppeaaGreatDoor
open Go Go.Lt
set_option maxRecDepth 10000
set_option linter.unusedVariables false
attribute [local irreducible] W WL AC
open Tryz
variable {c0:Cx} {G:Gm} {F:List En} {sg:Sto} {v1 v2 v3 v4 v5 v6 v7 v8 v9 v10 v11 v12 v13 v14 v15 v16 v17 v18 v19 v20 v21 v22 v23 v24 v25 v26 v27 v28 v29 v30 v31 v32 v33 v34 v35 v36 v37 v38 v39 v40 v41 v42 v43 v44 v45 v46 v47 v48 v49 v50 v51 v52 v53 v54 v55 v56 v57 v58 v59 v60:Value}
def oA (p0:bh):Option (Bool):=
 (orE (p0.High != (p0.Lines.length:Int)) (some (decide (p0.High < 1)))).bind fun c=>
 (orE c (some (decide (p0.High > 1024)))).bind fun d=>
 (orE d (some (decide (p0.Wide < 1)))).bind fun e=>
 (orE e (some (decide (p0.Wide > 1024)))).bind fun f=>
 (orE f ((kT p0.At p0.Wide p0.High).bind fun i=>
 some (!i))).bind fun g=>
 if g=true then
 none
 else
 (cO (σ:=Int) (τ:=Unit) (((p0.Lines.length:Int) - 0).toNat+1) (fun a=>
 if (decide (a < (p0.Lines.length:Int)))=true then
 (idx p0.Lines a).bind fun b=>
 (orE ((b.Cells.length:Int) != p0.Wide) ((fC b.Cells).bind fun j=>
 some (!j))).bind fun h=>
 if h=true then
 none
 else
 some (.inl ((w64 (a+1))))
 else
 some (.inr ())) (0)).bind fun k=>
 some true
theorem xo (O0:Own c0 G F) (a:bh) {r:Bool} (P:Sl ay c0 v1 a.Lines) (H:oA a=some r): Calls prog 29 #[.agg #[I a.Wide,I a.High,v1,I a.At.Row,I a.At.Col,B a.At.Pending,B a.Auto]] c0.w (aQ c0 fun c v=>Own c G (F)∧v=B r):=by
 unfold oA at H;refine en func29 rfl rfl (sr ?_);obtain ⟨a3,a4,a5,rfl⟩:=(P).form;refine me (bx 31 [I a.Wide,I a.High,.slice a3 a4 a5,I a.At.Row,I a.At.Col,B a.At.Pending,B a.Auto] O0) ?_;rintro v10 z l9 ⟨b,rfl,y,f⟩;refine va (B false) (wln (W.seq (W.seq (bn H fun l2 d0 H=>bn H fun m2 N H=>bn H fun n2 u H=>bn H fun o2 i H=>bn H fun x0 h H=>W.join (Jn z fun c l=>Own c G (F)∧l= [(1,Q b),(40,B x0)]) ?_ ?_))))
 ·clear H;refine W.region (va (Qo b (0+1)) (vx (l1 u_3 (f 1 _ rfl)) (va (Qo b (0+2)) (vx (l1 jS (f 2 _ rfl)) (vx (ln 3 jS P.m) (va (B (a.High != (a.Lines.length:Int))) ?_))))));rcases bo (a.High != (a.Lines.length:Int)) with j | j
  ·obtain rfl:=orT j d0;refine vb j (pz (ps (va (B true) ?_)));have e0:true=true:=rfl;obtain rfl:=orT e0 N;refine vb e0 (pz (ps (va (B true) ?_)));have f0:true=true:=rfl;obtain rfl:=orT f0 u;refine vb f0 (pz (ps (va (B true) ?_)));have g0:true=true:=rfl;obtain rfl:=orT g0 i;refine vb g0 (pz (ps (va (B true) ?_)));have h0:true=true:=rfl;obtain rfl:=orT h0 h;exact vb h0 (pz (pz (pz (pz (va (B true) (wln (jn z ⟨y,rfl⟩)))))))
  have b1:=orF j d0;refine vb j (wa (Qo b (0+1)) (wn (vx (l1 u_3 (f 1 _ rfl)) (wa (B (decide (a.High < 1))) ?_))));obtain rfl:=si b1;refine va (B (decide (a.High < 1))) ?_;rcases bo (decide (a.High < 1)) with n | n
  ·obtain rfl:=orT n N;refine vb n (pz (ps (va (B true) ?_)));have i0:true=true:=rfl;obtain rfl:=orT i0 u;refine vb i0 (pz (ps (va (B true) ?_)));have j0:true=true:=rfl;obtain rfl:=orT j0 i;refine vb j0 (pz (ps (va (B true) ?_)));have k0:true=true:=rfl;obtain rfl:=orT k0 h;exact vb k0 (pz (pz (pz (pz (va (B true) (wln (jn z ⟨y,rfl⟩)))))))
  have c1:=orF n N;refine vb n (wa (Qo b (0+1)) (wn (vx (l1 u_3 (f 1 _ rfl)) (wa (B (decide (a.High > 1024))) ?_))));obtain rfl:=si c1;refine va (B (decide (a.High > 1024))) ?_;rcases bo (decide (a.High > 1024)) with o | o
  ·obtain rfl:=orT o u;refine vb o (pz (ps (va (B true) ?_)));have l0:true=true:=rfl;obtain rfl:=orT l0 i;refine vb l0 (pz (ps (va (B true) ?_)));have m0:true=true:=rfl;obtain rfl:=orT m0 h;exact vb m0 (pz (pz (pz (pz (va (B true) (wln (jn z ⟨y,rfl⟩)))))))
  have d1:=orF o u;refine vb o (wa (Q b) (wn (vx (l1 u_3 (f 0 _ rfl)) (wa (B (decide (a.Wide < 1))) ?_))));obtain rfl:=si d1;refine va (B (decide (a.Wide < 1))) ?_;rcases bo (decide (a.Wide < 1)) with p | p
  ·obtain rfl:=orT p i;refine vb p (pz (ps (va (B true) ?_)));have o0:true=true:=rfl;obtain rfl:=orT o0 h;exact vb o0 (pz (pz (pz (pz (va (B true) (wln (jn z ⟨y,rfl⟩)))))))
  have e1:=orF p i;refine vb p (wa (Q b) (wn (vx (l1 u_3 (f 0 _ rfl)) (wa (B (decide (a.Wide > 1024))) ?_))));obtain rfl:=si e1;refine va (B (decide (a.Wide > 1024))) ?_;rcases bo (decide (a.Wide > 1024)) with q | q
  ·obtain rfl:=orT q h;exact vb q (pz (pz (pz (pz (va (B true) (wln (jn z ⟨y,rfl⟩)))))))
  have A:=orF q h;refine vb q (wa (Qo b (0+3)) (wn (vx (lN 29 (E5 (k:=3) (l:=[I a.At.Row,I a.At.Col,B a.At.Pending]) f rfl)) (wa (Q b) (wn (vx (l1 u_3 (f 0 _ rfl)) (wa (Qo b (0+1)) (wn (vx (l1 u_3 (f 1 _ rfl)) (wn (bn A fun R w1 A=>cl (pU y a.At a.Wide a.High w1) ?_)))))))))));rintro v42 n1 y2 ⟨f1,rfl⟩;refine wa (B (!R)) ?_;obtain rfl:=si A;exact va (B (!R)) (wln (jn n1 ⟨f1,rfl⟩))
 rintro e_ w_ ⟨M,u2,_,rfl,d2,rfl,g1,rfl⟩;refine nrm (cn H (fun x1 H=>?_) (fun x1 H=>?_))
 ·cases H
 refine W.skip (nrm (W.seq (sr (va (Qo b (0+2)) (vx (l1 jS ((mm f) 2 _ rfl)) (vx (ln 3 jS P.m) (va (I 0) (wln (W.block (bn H fun s2 q0 T=>lp q0 (fun d=>Jn M fun c l=>Own c G (F)∧l= [(1,Q b),(42,.slice a3 a4 a5),(43,I (a.Lines.length:Int)),(44,I d)]) (fun j2 ex e w=>ex= .exit 0∧(Jn M fun c l=>Own c G (F)∧l= []) e w) ?_ ?_ ?_))))))))))
 ·clear T q0;intro d h3 u1 i2 H;revert u1 i2;rintro e_ w_ ⟨p1,v2,_,rfl,e2,rfl,U,rfl⟩;refine sr (va (B (decide (d < (a.Lines.length:Int)))) (wln (W.seq (cn H (fun y1 H=>?_) (fun y1 H=>?_)))))
  ·refine W.skip (nrm (W.seq (W.block (sr (bn H fun g s0 H=>?_)))));obtain ⟨q2,z1,g2⟩:=Sl.at (P.mono (l9.trans (d2.trans e2))) (bi s0);obtain ⟨e3,rfl,x⟩:=z1;refine vx (ix jS P.m s0) (vx (lN 39 g2) (me (al 39 [Y,B false] U) ?_));rintro f3 t2 f2 ⟨E,rfl,h1⟩;obtain ⟨X,Z,a0,rfl⟩:=((x.mono f2)).form;refine md (sA 39 [.slice X Z a0,B g.Wrap] 0 h1 ⟨x.m.one,rfl,trivial⟩) ?_;rintro b0 z2 t;refine wln (W.seq (bn H fun y0 t0 H=>W.join (Jn b0 fun c l=>Own c G ((Eb E 39 [.slice X Z a0,B g.Wrap]) :: F)∧l= [(1,Q b),(42,.slice a3 a4 a5),(43,I (a.Lines.length:Int)),(44,I d),(59,B y0)]) ?_ ?_))
   ·clear H;refine W.region (va (Q E) (vx (le1 0 cC (t.on 0 rfl)) (vx (ln 3 cC x.m) (va (Q b) (vx (l1 u_3 ((mm f) 0 _ rfl)) (va (B ((g.Cells.length:Int) != a.Wide)) ?_))))));rcases bo ((g.Cells.length:Int) != a.Wide) with s | s
    ·obtain rfl:=orT s t0;exact vb s (pz (pz (va (B true) (wln (jn b0 ⟨t,rfl⟩)))))
    have D:=orF s t0;refine vb s (wa (Q E) (wn (vx (le1 0 cC (t.on 0 rfl)) (wn (bn D fun S b2 D=>cl (ll t g.Cells x.m b2) ?_)))));rintro g3 q1 b3 ⟨i1,rfl⟩;refine wa (B (!S)) ?_;obtain rfl:=si D;exact va (B (!S)) (wln (jn q1 ⟨i1,rfl⟩))
   rintro e_ w_ ⟨s1,w2,_,rfl,c3,rfl,j1,rfl⟩;refine nrm (cn H (fun c2 H=>?_) (fun c2 H=>?_))
   ·cases H
   refine W.skip (bkn (nrm (W.region (vv (I (w64 (d+1))) (WL.nil ?_)))));obtain rfl:=si H;refine ⟨_,rfl,?_⟩;have k1:=j1.sD 1 [];exact jn s1 ⟨k1,rfl⟩
  refine W.exit (thx ?_);obtain rfl:=si H;exact ⟨_,rfl,rfl,jn p1 ⟨U,rfl⟩⟩
 ·exact jn M ⟨g1,rfl⟩
 rintro _ e_ w_ ⟨rfl,t1,x2,_,rfl,d3,rfl,m1,rfl⟩;refine bke (nrm (sr (va (B true) (wln (W.ret ?_)))));obtain rfl:=si T;exact r1 (qq t1 ⟨m1,rfl⟩)
def kC (p0:List ByteArray):Option (ByteArray):=
 (mL p0 (⟨#[32]⟩:ByteArray)).bind fun a=>
 (Fw a (⟨#[10]⟩:ByteArray)).bind fun b=>
 some b
theorem nk (e:Own c0 G F) (hT:Et c0) (b:List ByteArray) {r:ByteArray} (h:Sl RS c0 v1 b) (H:kC b=some r): Calls prog 31 #[v1] c0.w (aQ c0 fun c v=>Own c G (F)∧v= .string r):=by
 unfold kC at H;refine en func31 rfl rfl (sr (va (.string (⟨#[]⟩:ByteArray)) (wln (sr (va (v1) (bn H fun j i H=>cl (vg e hT b (⟨#[32]⟩:ByteArray) h i) ?_))))));rintro v9 g k ⟨f,rfl⟩;refine bn H fun a d H=>vr (.string a) (rx (by kernel_rfl) (Cm d _)) (va (.string a) (wln (W.ret ?_)));obtain rfl:=si H;exact r1 (qq g ⟨f,rfl⟩)
def ni (p0:Bool) (p1:ByteArray) (p2:ByteArray):Option (ByteArray):=
 if p0=true then
 some p1
 else
 some p2
theorem tL (e:Own c0 G F) (d:Bool) (a:ByteArray) (b:ByteArray) {r:ByteArray} (H:ni d a b=some r): Calls prog 33 #[B d,.string a,.string b] c0.w (aQ c0 fun c v=>Own c G (F)∧v= .string r):=by
 unfold ni at H;refine en func33 rfl rfl (sr (va (.string (⟨#[]⟩:ByteArray)) (wln (W.seq (sr (va (B d) (wln (cn H (fun f H=>?_) (fun f H=>?_)))))))))
 ·refine sr (vv (.string a) (wln (W.ret (thr ?_))));obtain rfl:=si H;exact r1 (qq c0 ⟨e,rfl⟩)
 refine W.skip (nrm (sr (vv (.string b) (wln (W.ret ?_)))));obtain rfl:=si H;exact r1 (qq c0 ⟨e,rfl⟩)
def pB (p0:aa):Option (ByteArray):=
 if (p0.Kind==0)=true then
 some (⟨#[46]⟩:ByteArray)
 else
 none
theorem yR (d:Own c0 G F) (a:aa) {r:ByteArray} (k:Sl (RI .i32) c0 v1 a.Text) (H:pB a=some r):
    Calls prog 34 #[.agg #[I a.Kind,v1]] c0.w (aQ c0 fun c v=>Own c G (F)∧v= .string r):=by
 unfold pB at H
 refine en func34 rfl rfl (sr ?_)
 obtain ⟨f,g,h,rfl⟩:=(k).form
 refine me (bx 36 [I a.Kind,.slice f g h] d) ?_
 rintro v10 j m ⟨i,rfl,e,l⟩
 refine va (.string (⟨#[]⟩:ByteArray)) (wln (W.seq (sr (va (Q i) (vx (l1 u_3 (l 0 _ rfl)) (wln (W.block (sr (vv (B (a.Kind==0)) (wln (cn H (fun b H=>?_) (fun b H=>?_))))))))))))
 ·refine sr (va (.string (⟨#[46]⟩:ByteArray)) (wln (W.ret (bkr (thr ?_)))))
  obtain rfl:=si H
  exact r1 (qq j ⟨e,rfl⟩)
 cases H
def pD (p0:bh):Option (ByteArray):=
 (oA p0).bind fun w=>
 if (!w)=true then
 none
 else
 (ij p0.Wide).bind fun f=>
 (ij p0.High).bind fun g=>
 (kC ([(⟨#[115,99,114,101,101,110]⟩:ByteArray),f,g]:List ByteArray)).bind fun h=>
 (BR ([]:List UInt8) h).bind fun i=>
 (ij p0.At.Row).bind fun j=>
 (ij p0.At.Col).bind fun k=>
 if p0.At.Pending=true then
 none
 else
 (kC ([(⟨#[97,116]⟩:ByteArray),j,k]:List ByteArray)).bind fun l=>
 (BR i l).bind fun m=>
 (ni p0.Auto (⟨#[111,110]⟩:ByteArray) (⟨#[111,102,102]⟩:ByteArray)).bind fun n=>
 (kC ([(⟨#[97,117,116,111]⟩:ByteArray),n]:List ByteArray)).bind fun o=>
 (BR m o).bind fun p=>
 (cO (σ:=Int×(List UInt8)) (τ:=(List UInt8)) (((p0.Lines.length:Int) - 0).toNat+1) (fun a=>
 if (decide (a.1 < (p0.Lines.length:Int)))=true then
 (idx p0.Lines a.1).bind fun c=>
 (ni c.Wrap (⟨#[43]⟩:ByteArray) (⟨#[45]⟩:ByteArray)).bind fun q=>
 (cO (σ:=(List ByteArray)×Int) (τ:=(List ByteArray)) (((c.Cells.length:Int) - 0).toNat+1) (fun b=>
 if (decide (b.2 < (c.Cells.length:Int)))=true then
 (idx c.Cells b.2).bind fun r=>
 (pB r).bind fun s=>
 (app b.1 ([s]:List ByteArray)).bind fun t=>
 some (.inl (t,(w64 (b.2+1))))
 else
 some (.inr (b.1))) (([q]:List ByteArray),0)).bind fun e=>
 (kC e).bind fun u=>
 (BR a.2 u).bind fun v=>
 some (.inl ((w64 (a.1+1)),v))
 else
 some (.inr (a.2))) (0,p)).bind fun d=>
 some (mkS d)
theorem yT (O0:Own c0 G F) (hT:Et c0) (a:bh) {r:ByteArray} (h2:Sl ay c0 v1 a.Lines) (H:pD a=some r): Calls prog 14 #[.agg #[I a.Wide,I a.High,v1,I a.At.Row,I a.At.Col,B a.At.Pending,B a.Auto]] c0.w (aQ c0 fun c v=>Own c G (F)∧v= .string r):=by
 unfold pD at H;refine en func14 rfl rfl (sr ?_);obtain ⟨a3,a4,a5,rfl⟩:=(h2).form;refine me (bx 31 [I a.Wide,I a.High,.slice a3 a4 a5,I a.At.Row,I a.At.Col,B a.At.Pending,B a.Auto] O0) ?_;rintro v10 c9 l9 ⟨n,rfl,O7,x⟩;refine va (.string (⟨#[]⟩:ByteArray)) (wln (W.seq (sr (vx (lN 31 x) (bn H fun j7 h6 H=>cl (xo O7 a h2.m h6) ?_)))));rintro v17 i l16 ⟨r5,rfl⟩;refine va (B (!j7)) (wln (cn H (fun i6 H=>?_) (fun i6 H=>?_)))
 ·cases H
 refine W.skip (nrm (sr (me (Gf r5 (by kernel_rfl)) ?_)));rintro v21 c19 l19 ⟨rfl,o5⟩;obtain ⟨c22,j6,b0⟩:=o5.low;refine WL.gh j6 ?_;have l22:=b0.le;have s5:=b0.own;refine wln (W.seq ?_);obtain ⟨s0,k6,p5⟩:=b0.up (Cx.le.refl _) s5;rw [←k6];refine W.regionE [] (Kp G0 []) (by kernel_rfl) ?_;have e0:=p5.drew;generalize (⟨s0.w.drew,s0.A,s0.t⟩:Cx)=c30 at e0⊢;have l30:=e0.le;refine ta 0 (Q n) (tx 1 (fun c' a1=>l1 u_3 ((mm x) 0 _ rfl)) (ta 3 (Qo n (0+1)) (tx 4 (fun c' a1=>l1 u_3 ((mm x) 1 _ rfl)) (bn H fun h1 l6 H=>o1 2 (gc 2 (e0.call fun c35 M B_=>have l35:=B_.le; kZ B_.own hT.m a.Wide l6) ?_)))));rintro v33 c31 g9 ⟨t1,rfl⟩;refine ⟨.inr Kp.nil0,?_⟩;have l31:=t1.le;refine bn H fun i1 m6 H=>o1 5 (gc 5 (t1.call fun c40 M B_=>have l40:=B_.le; kZ B_.own hT.m a.High m6) ?_);rintro v38 c36 h9 ⟨u1,rfl⟩;refine ⟨.inr Kp.nil0,?_⟩;have l36:=u1.le;refine o1 6 (gm 6 (Hc u1 ([(⟨#[115,99,114,101,101,110]⟩:ByteArray),h1,i1]:List ByteArray) (by kernel_rfl) (by kernel_rfl)) ?_);rintro v43 c41 i9 ⟨w1,n6⟩;refine ⟨.inr Kp.nil0,?_⟩;have l41:=w1.le;refine bn H fun k5 o6 H=>o1 7 (gc 7 (w1.call fun c6 M B_=>have l49:=B_.le; nk B_.own hT.m ([(⟨#[115,99,114,101,101,110]⟩:ByteArray),h1,i1]:List ByteArray) (n6 c6 M B_.nA) o6) ?_);rintro v47 c45 j9 ⟨x1,rfl⟩;refine ⟨.inr Kp.nil0,?_⟩;have l45:=x1.le;refine bn H fun x_18 p6 H=>o1 8 (gc 8 (sn x1 k5 p6) ?_);rintro v52 c50 k9 ⟨y1,rfl⟩;refine ⟨.inr Kp.nil0,?_⟩;have l50:=y1.le;refine dn ?_;obtain ⟨c54,q6,f0⟩:=y1.low;rw [←q6];have l54:=f0.le;have t5:=f0.own;refine nrm (W.seq (rD [] (Kp G0 []) t5 ?_));intro d6 a7 u5;have p60:Kp G0 [] d6:=Kp.nil0;refine ta 0 (.pointer (some ⟨n,0+3,none⟩)) (ta 1 (Qo n (0+3)) (tx 2 (fun c' a1=>l1 u_3 ((mm x) 3 _ rfl)) (ta 4 (Qo n (0+3)) (ta 5 (Qo n (0+4)) (tx 6 (fun c' a1=>l1 u_3 ((mm x) 4 _ rfl)) (bn H fun S r6 H=>o1 3 (gc 3 (kZ u5 hT.m a.At.Row r6) ?_)))))));rintro v67 e6 b7 ⟨v5,rfl⟩;have g7:Kp G0 [] e6:=Kp.nil0;refine ⟨.inr g7,bn H fun T s6 H=>o1 7 (gc 7 (kZ v5 hT.m a.At.Col s6) ?_)⟩;rintro v75 f6 c7 ⟨w5,rfl⟩;have h7:Kp G0 [] f6:=Kp.nil0;refine ⟨.inr h7,o1 8 (gm 8 (sl RS 9 [[.string (⟨#[97,116]⟩:ByteArray)],[.string S],[.string T]] ([(⟨#[97,116]⟩:ByteArray),S,T]:List ByteArray) w5 ⟨rfl,rfl,rfl,trivial⟩) ?_)⟩;rintro z1 g6 d7 ⟨u78,x5,t6⟩;have i7:Kp G0 [] g6:=Kp.nil0;refine ⟨.inr i7,ta 9 (z1) (dn (nrm (W.seq (sr (va (Qo n (0+3)) (va (Qo n (0+5)) (vx (l1 u_4 ((mm x) 5 _ rfl)) (wln (cn H (fun u6 H=>?_) (fun u6 H=>?_))))))))))⟩
 ·cases H
 refine W.skip (nrm (sr (va (z1) ?_)));obtain ⟨c86,w6,e7,y5,v6⟩:=x5.frz 0 rfl t6;refine WL.gh w6 (bn H fun l5 x6 H=>cl (nk y5 hT.m ([(⟨#[97,116]⟩:ByteArray),S,T]:List ByteArray) v6 x6) ?_);rintro v94 c93 f7 ⟨z5,rfl⟩;refine bn H fun x_37 y6 H=>?_;have a6:=z5.sD 1 [];obtain ⟨c97,z6,q5⟩:=f0.up (a7.trans (b7.trans (c7.trans (d7.trans (e7.trans f7))))) a6;refine WL.gh z6 (cl (sn q5 l5 y6) ?_);rintro p9 q7 s8 ⟨b2,rfl⟩;obtain ⟨r7,n3,y⟩:=b2.low;refine WL.gh n3 ?_;have t8:=y.le;have i2:=y.own;refine wln (sr (va (Qo n (0+6)) (vx (l1 u_4 ((mm x) 6 _ rfl)) (bn H fun U o3 H=>cl (tL i2 a.Auto (⟨#[111,110]⟩:ByteArray) (⟨#[111,102,102]⟩:ByteArray) o3) ?_))));rintro q9 s7 s4 ⟨j2,rfl⟩;refine me (sl RS 9 [[.string (⟨#[97,117,116,111]⟩:ByteArray)],[.string U]] ([(⟨#[97,117,116,111]⟩:ByteArray),U]:List ByteArray) j2 ⟨rfl,rfl,trivial⟩) ?_;rintro r9 t7 t4 ⟨n9,k2,p3⟩;obtain ⟨u7,s3,u4,l2,q3⟩:=k2.frz 0 rfl p3;refine WL.gh s3 (bn H fun m5 t3 H=>cl (nk l2 hT.m ([(⟨#[97,117,116,111]⟩:ByteArray),U]:List ByteArray) q3 t3) ?_);rintro s9 v7 v4 ⟨m2,rfl⟩;refine bn H fun x_44 u3 H=>?_;have n2:=m2.sD 1 [];obtain ⟨w7,v3,c2⟩:=y.up (s4.trans (t4.trans (u4.trans v4))) n2;refine WL.gh v3 (cl (sn c2 m5 u3) ?_);rintro t9 x7 u8 ⟨d2,rfl⟩;obtain ⟨h3,w3,z⟩:=d2.low;refine WL.gh w3 ?_;have v8:=z.le;have o2:=z.own;refine wln (W.seq (sr (va (Qo n (0+2)) (vx (l1 jS ((mm x) 2 _ rfl)) (vx (ln 3 jS h2.m) (va (I 0) (wln (W.block (bn H fun f5 u0 g0=>lp u0 (fun b=>Jn i fun c l=>Own c G (F)∧l= [(3,.pointer (some ⟨i.w.heap.size,0,none⟩)),(47,.slice a3 a4 a5),(48,I (a.Lines.length:Int)),(49,I b.1)]∧Br false i c G (F) b.2) (fun s1 ex e w=>ex= .exit 0∧(Jn i fun c l=>Own c G (F)∧l= [(3,.pointer (some ⟨i.w.heap.size,0,none⟩))]∧Br false i c G (F) s1) e w) ?_ ?_ ?_)))))))))
 ·clear g0 u0;intro b k7 t0 g1 H;revert t0 g1;rintro M w_ ⟨i3,o8,_,rfl,w4,rfl,h0,rfl,a0⟩;refine sr (va (B (decide (b.1 < (a.Lines.length:Int)))) (wln (W.seq (cn H (fun x3 H=>?_) (fun x3 H=>?_)))))
  ·refine W.skip (nrm (W.seq (W.block (sr (bn H fun h v0 H=>?_)))));obtain ⟨l7,y3,d5⟩:=Sl.at (h2.mono (l9.trans (l16.trans w4))) (bi v0);obtain ⟨u9,rfl,j⟩:=y3;refine vx (ix jS h2.m v0) (vx (lN 39 d5) (me (al 39 [Y,B false] h0) ?_));rintro v9 y7 P ⟨s,rfl,p2⟩;obtain ⟨o,p,q,rfl⟩:=((j.mono P)).form;refine md (sA 39 [.slice o p q,B h.Wrap] 0 p2 ⟨j.m.one,rfl,trivial⟩) ?_;rintro z7 b1 i0;refine wln (sr (va (Qo s 1) (vx (le1 1 u_4 (i0.on 0 rfl)) (bn H fun j1 z3 H=>cl (tL i0 h.Wrap (⟨#[43]⟩:ByteArray) (⟨#[45]⟩:ByteArray) z3) ?_))));rintro w9 a8 c1 ⟨q2,rfl⟩;refine me (sl RS 9 [[.string j1]] ([j1]:List ByteArray) q2 ⟨rfl,trivial⟩) ?_;rintro e1 E d1 ⟨h5,j0,b4⟩;refine va (e1) (wln (W.seq (sr (va (Q s) (vx (le1 0 cC (j0.on 1 rfl)) (vx (ln 3 cC j.m) (va (I 0) (wln (W.block (bn H fun g5 w0 f=>lp w0 (fun d=>Jn E fun c l=>∃g u,Own c G (es true RS g 9 u d.1 :: (Eb s 39 [.slice o p q,B h.Wrap]) :: F)∧l= [(3,.pointer (some ⟨i.w.heap.size,0,none⟩)),(7,g),(47,.slice a3 a4 a5),(48,I (a.Lines.length:Int)),(49,I b.1),(58,.slice o p q),(59,I (h.Cells.length:Int)),(60,I d.2)]∧OA RS c g u d.1) (fun Z ex e w=>ex= .exit 2∧(Jn E fun c l=>∃k R,Own c G (es true RS k 9 R Z :: (Eb s 39 [.slice o p q,B h.Wrap]) :: F)∧l= [(3,.pointer (some ⟨i.w.heap.size,0,none⟩)),(7,k),(47,.slice a3 a4 a5),(48,I (a.Lines.length:Int)),(49,I b.1)]∧OA RS c k R Z) e w) ?_ ?_ ?_))))))))))
   ·clear f w0;intro d k7 t0 g1 H;revert t0 g1;rintro M w_ ⟨j3,p8,_,rfl,x4,rfl,g,u,k0,rfl,x0⟩;refine sr (va (B (decide (d.2 < (h.Cells.length:Int)))) (wln (W.seq (cn H (fun c4 H=>?_) (fun c4 H=>?_)))))
    ·refine W.skip (nrm (W.seq (W.block (sr (bn H fun X y0 H=>?_)))));obtain ⟨m7,d4,e5⟩:=Sl.at (j.mono (P.trans (b1.trans (c1.trans (d1.trans x4))))) (bi y0);obtain ⟨x9,rfl,N⟩:=d4;refine vx (ix cC j.m y0) (vx (lN 36 e5) (me (al 36 [I 0,Y] k0) ?_));rintro y9 b8 y4 ⟨p7,rfl,s2⟩;obtain ⟨m0,o0,q0,rfl⟩:=((N.mono y4)).form;refine md (sA 36 [I X.Kind,.slice m0 o0 q0] 0 s2 ⟨rfl,N.m.one,trivial⟩) ?_;rintro c8 w8 l0;refine wln (W.region (va (g) (vx (leN 36 0 [I X.Kind,.slice m0 o0 q0] (l0.on 0 rfl)) (bn H fun k1 e4 H=>cl (yR l0 X N.m e4) ?_))));rintro z9 d8 x8 ⟨t2,rfl⟩;refine me (sl RS 9 [[.string k1]] ([k1]:List ByteArray) t2 ⟨rfl,trivial⟩) ?_;rintro v219 e8 y8 ⟨o9,u2,f4⟩;obtain ⟨f8,h4,z8,v2,g4⟩:=u2.frz 0 rfl f4;refine WL.gh h4 (bn H fun x_82 i4 H=>me (ap RS (.string ByteArray.empty) 16 92 2 v2 x0.m g4 i4 jg) ?_);rintro f1 k3 a9 ⟨i5,w2,j4⟩;refine va (f1) (WL.nil (bkn (nrm (W.region (vv (I (w64 (d.2+1))) (WL.nil ?_))))));obtain rfl:=si H;refine ⟨_,rfl,?_⟩;have x2:=w2.sD 4 [2,3];exact jn k3 ⟨f1,i5,x2,rfl,j4⟩
    refine W.exit (thx ?_);obtain rfl:=si H;exact ⟨_,rfl,rfl,jn j3 ⟨g,u,k0,rfl,x0⟩⟩
   ·exact jn E ⟨e1,h5,j0,rfl,b4⟩
   rintro _ M w_ ⟨rfl,g8,q8,_,rfl,z4,rfl,k,R,y2,rfl,k4⟩;refine bke (nrm (W.region (va (k) ?_)));obtain ⟨h8,m4,b5,z2,l4⟩:=y2.frz 0 rfl k4;refine WL.gh m4 (bn f fun n5 n4 f=>cl (nk z2 hT.m g5 l4 n4) ?_);rintro v248 i8 c5 ⟨b3,rfl⟩;refine bn f fun x_90 o4 f=>?_;have c3:=b3.sD 2 [];obtain ⟨j8,p4,e2⟩:=a0.up (P.trans (b1.trans (c1.trans (d1.trans (z4.trans (b5.trans c5)))))) c3;refine WL.gh p4 (cl (sn e2 n5 o4) ?_);rintro v256 k8 b9 ⟨f2,rfl⟩;obtain ⟨l3,q4,D⟩:=f2.low;refine WL.gh q4 ?_;have d9:=D.le;have d3:=D.own;refine WL.nil (bkn (nrm (W.region (vv (I (w64 (b.1+1))) (WL.nil ?_)))));obtain rfl:=si f;exact ⟨_,rfl,jn l3 ⟨d3,rfl,D⟩⟩
  refine W.exit (thx ?_);obtain rfl:=si H;exact ⟨_,rfl,rfl,jn i3 ⟨h0,rfl,a0⟩⟩
 ·exact jn h3 ⟨o2,rfl,z⟩
 rintro _ M w_ ⟨rfl,l8,r8,_,rfl,e9,rfl,e3,rfl,g2⟩;refine bke (nrm (sr ?_));obtain ⟨n8,r4,d0⟩:=g2.up (Cx.le.refl _) e3;refine WL.gh r4 (cl (BQ d0) ?_);rintro v273 m3 q1 ⟨f3,rfl⟩;have f9:=d0.le.trans q1;refine va (.string (mkS f5)) (wln (W.ret ?_));obtain rfl:=si g0;exact r1 (qq m3 ⟨f3,rfl⟩)
def lO (p0:List Int) (p1:Int):Option (List Int):=
 (cO (σ:=Unit) (τ:=Unit) ((p1 - 127).toNat+1) (fun c=>
 if (decide (p1 > 127))=true then
 none
 else
 some (.inr ())) ()).bind fun b=>
 (app p0 ([(IntKind.u8.wrap p1)]:List Int)).bind fun a=>
 some a
theorem qF {a:Value} {d:List Value} (f:List Int) (b:Int) (P:Own c0 G (es true (RI .u8) a 5 d f :: F)) {r:List Int} (U:OA (RI .u8) c0 a d f) (H:lO f b=some r): Calls prog 40 #[a,I b] c0.w (aQ c0 fun c v=>∃h N,Own c G (es true (RI .u8) h 5 N r :: F)∧v=h∧OA (RI .u8) c h N r):=by
 unfold lO at H;refine en func40 rfl rfl (sr (va (Y) (wln (W.seq (W.block (bn H fun k0 u g=>lp u (fun D=>Jn c0 fun c l=>Own c G (es true (RI .u8) a 5 d f :: F)∧l= [(0,a),(1,I b)]) (fun X ex e w=>ex= .exit 0∧(Jn c0 fun c l=>Own c G (es true (RI .u8) a 5 d f :: F)∧l= [(0,a),(1,I b)]) e w) ?_ ?_ ?_))))))
 ·clear g u;intro D m0 q M H;revert q M;rintro T Z ⟨S,g5,_,rfl,l4,rfl,R,rfl⟩;refine W.seq (sr (va (I b) (va (B (decide (b > 127))) (wln (cn H (fun s H=>?_) (fun s H=>?_))))))
  ·cases H
  refine W.exit (thx ?_);obtain rfl:=si H;exact ⟨_,rfl,rfl,jn S ⟨R,rfl⟩⟩
 ·exact jn c0 ⟨P,rfl⟩
 rintro _ T Z ⟨rfl,b0,f0,_,rfl,g0,rfl,i,rfl⟩;refine bke (nrm (sr (va (a) (va (I b) (va (.int .u8 (IntKind.u8.wrap b)) (me (sl (RI .u8) 5 [[.int .u8 (IntKind.u8.wrap b)]] ([(IntKind.u8.wrap b)]:List Int) i ⟨rfl,trivial⟩) ?_))))));rintro v21 d0 h0 ⟨l0,j,t⟩;obtain ⟨e0,y,i0,k,x⟩:=j.frz 0 rfl t;refine WL.gh y (bn g fun a0 z g=>me (ap (RI .u8) (.int .u8 0) 1 55 1 k U.m x z wH) ?_);rintro v31 p j0 ⟨E,n,A⟩;refine va (v31) (wln (W.ret ?_));obtain rfl:=si g;have o:=n.sD 2 [1];exact r1 (qq p ⟨v31,E,o,rfl,A⟩)
def kB (p0:Bool) (p1:Int):Option (Int):=
 if p0=true then
 some p1
 else
 some 0
theorem nj (d:Own c0 G F) (b:Bool) (a:Int) {r:Int} (H:kB b a=some r): Calls prog 41 #[B b,.int .u8 a] c0.w (aQ c0 fun c v=>Own c G (F)∧v= .int .u8 r):=by
 unfold kB at H;refine en func41 rfl rfl (sr (va (.int .u8 0) (wln (W.seq (sr (va (B b) (wln (cn H (fun e H=>?_) (fun e H=>?_)))))))))
 ·refine sr (vv (.int .u8 a) (wln (W.ret (thr ?_))));obtain rfl:=si H;exact r1 (qq c0 ⟨d,rfl⟩)
 refine W.skip (nrm (sr (va (.int .u8 0) (wln (W.ret ?_)))));obtain rfl:=si H;exact r1 (qq c0 ⟨d,rfl⟩)
def qS (p0:List aa):Option (Int):=
 (cO (σ:=Int) (τ:=Int) (((p0.length:Int) - 0).toNat+1) (fun a=>
 (bL (decide (a < (p0.length:Int))) ((idx p0 a).bind fun c=>
 (idx p0 0).bind fun d=>
 some ((c.Kind==0)==(d.Kind==0)))).bind fun b=>
 if b=true then
 some (.inl ((w64 (a+1))))
 else
 some (.inr (a))) (0)).bind fun e=>
 some e
theorem zS (O0:Own c0 G F) (n:List aa) {r:Int} (k:Sl am c0 v1 n) (H:qS n=some r): Calls prog 70 #[v1] c0.w (aQ c0 fun c v=>Own c G (F)∧v=I r):=by
 unfold qS at H;refine en func70 rfl rfl (sr (va (I 0) (wln (sr (va (I 0) (wln (W.seq (W.block (bn H fun y T D=>lp T (fun a=>Jn c0 fun c l=>Own c G (F)∧l= [(0,v1),(3,I a)]) (fun A ex e w=>ex= .exit 0∧(Jn c0 fun c l=>Own c G (F)∧l= [(3,I A)]) e w) ?_ ?_ ?_)))))))))
 ·clear D T;intro a t0 P d0 H;revert P d0;rintro N w_ ⟨c5,g6,_,rfl,X,rfl,O7,rfl⟩;refine W.seq (W.seq (bn H fun z s H=>W.join (Jn c5 fun c l=>Own c G (F)∧l= [(0,v1),(3,I a),(21,B z)]) ?_ ?_))
  ·clear H;refine rD [] (Kp G0 []) O7 ?_;intro j x o;have s0:Kp G0 [] j:=Kp.nil0;refine ta 0 (I a) (ta 1 (v1) (tx 2 (fun i b=>ln 3 cC k.m) (ta 3 (B (decide (a < (n.length:Int)))) ?_)));rcases bo (decide (a < (n.length:Int))) with f | f
   ·have d:=anT f s;refine bn d fun g t d=>bn d fun h u d=>AC.takeb 4 f rfl (by kernel_rfl) (by kernel_rfl) (fun i b=>(by kernel_rfl)) (ta 5 (v1) (ta 6 (I a) ?_));obtain ⟨h0,R,Z⟩:=Sl.at (k.mono (X.trans x)) (bi t);obtain ⟨v22,rfl,l0⟩:=R;refine tx 7 (fun i b=>ix cC k.m t) (ta 8 (Qo (sb v1) (so v1+a.toNat * 2)) (tx 9 (fun i b=>l1 u_3 ((mm Z) 0 _ rfl)) (ta 10 (B (g.Kind==0)) (ta 11 (v1) ?_))));obtain ⟨i0,S,a0⟩:=Sl.at (k.mono (X.trans x)) (bi u);obtain ⟨v27,rfl,m0⟩:=S;refine tx 12 (fun i b=>ix cC k.m u) (ta 13 (Qo (sb v1) (so v1+(0:Int).toNat * 2)) (tx 14 (fun i b=>l1 u_3 ((mm a0) 0 _ rfl)) (ta 15 (B (h.Kind==0)) (ta 16 (B ((g.Kind==0)==(h.Kind==0))) ?_))));obtain rfl:=si d;exact ta 17 (B ((g.Kind==0)==(h.Kind==0))) (dn (nrm (jn j ⟨o,rfl⟩)))
   obtain rfl:=anF f s;exact AC.takeb 4 f rfl (by kernel_rfl) (by kernel_rfl) (fun i b=>(by kernel_rfl)) (tp 5 (tp 6 (tp 7 (tp 8 (tp 9 (tp 10 (tp 11 (tp 12 (tp 13 (tp 14 (tp 15 (tp 16 (ta 17 (B false) (dn (nrm (jn j ⟨o,rfl⟩))))))))))))))))
  rintro N w_ ⟨q,j0,_,rfl,o0,rfl,p,rfl⟩;refine nrm (cn H (fun U H=>?_) (fun U H=>?_))
  ·refine W.skip (nrm (W.block (W.region (va (I a) (vv (I (w64 (a+1))) (WL.nil (bkn ?_)))))));obtain rfl:=si H;exact ⟨_,rfl,jn q ⟨p,rfl⟩⟩
  refine W.exit (thx ?_);obtain rfl:=si H;exact ⟨_,rfl,rfl,jn q ⟨p,rfl⟩⟩
 ·exact jn c0 ⟨O0,rfl⟩
 rintro _ N w_ ⟨rfl,M,k0,_,rfl,q0,rfl,E,rfl⟩;refine bke (nrm (sr (vv (I y) (wln (W.ret ?_)))));obtain rfl:=si D;exact r1 (qq M ⟨E,rfl⟩)
def py (p0:List Int) (p1:ah):Option (List Int):=
 (kB p1.Wrap 1).bind fun k=>
 (app p0 ([k]:List Int)).bind fun l=>
 (cO (σ:=(List Int)×(List aa)) (τ:=(List Int)) (((p1.Cells.length:Int) - 0).toNat+1) (fun a=>
 if (decide ((a.2.length:Int) > 0))=true then
 (qS a.2).bind fun c=>
 (idx a.2 0).bind fun f=>
 (kB (f.Kind != 0) 1).bind fun g=>
 (lO a.1 (w64 ((w64 (2 * c))+(w64 g)))).bind fun h=>
 (slc a.2 0 c).bind fun d=>
 (cO (σ:=Int) (τ:=Unit) (((d.length:Int) - 0).toNat+1) (fun b=>
 if (decide (b < (d.length:Int)))=true then
 (idx d b).bind fun i=>
 if ((i.Text.length:Int)==0)=true then
 some (.inl ((w64 (b+1))))
 else
 none
 else
 some (.inr ())) (0)).bind fun m=>
 (slc a.2 c a.2.length).bind fun j=>
 some (.inl (h,j))
 else
 some (.inr (a.1))) (l,p1.Cells)).bind fun e=>
 some e
theorem yQ {u:Value} {j0:List Value} (p0:List Int) (N:ah) (O0:Own c0 G (es true (RI .u8) u 5 j0 p0 :: F)) {r:List Int} (h1:OA (RI .u8) c0 u j0 p0) (h3:Sl am c0 v2 N.Cells) (H:py p0 N=some r):
    Calls prog 42 #[u,.agg #[v2,B N.Wrap]] c0.w (aQ c0 fun c v=>∃y1 y2,Own c G (es true (RI .u8) y1 5 y2 r :: F)∧v=y1∧OA (RI .u8) c y1 y2 r):=by
 unfold py at H
 refine en func42 rfl rfl (sr ?_)
 obtain ⟨a4,a5,a6,rfl⟩:=(h3).form
 refine me (bx 39 [.slice a4 a5 a6,B N.Wrap] O0) ?_
 rintro v11 y3 i4 ⟨b7,rfl,O8,m9⟩
 refine va (Y) (wln (sr (va (u) (va (Qo b7 (0+1)) (vx (l1 u_4 (m9 1 _ rfl)) (bn H fun h g2 H=>cl (nj O8 N.Wrap 1 g2) ?_))))))
 rintro v18 z3 j4 ⟨u1,rfl⟩
 refine me (sl (RI .u8) 5 [[.int .u8 h]] ([h]:List Int) u1 ⟨rfl,trivial⟩) ?_
 rintro v23 b4 k4 ⟨q,v1,h2⟩
 obtain ⟨c4,j2,l4,w1,i2⟩:=v1.frz 0 rfl h2
 refine WL.gh j2 (bn H fun r4 k2 H=>me (ap (RI .u8) (.int .u8 0) 1 55 1 w1 h1.m i2 k2 wH) ?_)
 rintro v33 y m4 ⟨e3,x1,m2⟩
 refine va (v33) (wln (W.seq (sr (va (Q b7) (vx (l1 cC ((mm m9) 0 _ rfl)) (va (.slice a4 a5 a6) (wln (W.block (bn H fun u3 b0 X=>lp b0 (fun b=>Jn y fun c l=>∃v36 s v38,Own c G (es true (RI .u8) v36 5 s b.1 :: es false (RI .u8) v23 5 q ([h]:List Int) :: F)∧l= [(0,v36),(5,v38)]∧OA (RI .u8) c v36 s b.1∧Sl am c v38 b.2) (fun p ex e w=>ex= .exit 0∧(Jn y fun c l=>∃v39 t,Own c G (es true (RI .u8) v39 5 t p :: es false (RI .u8) v23 5 q ([h]:List Int) :: F)∧l= [(0,v39)]∧OA (RI .u8) c v39 t p) e w) ?_ ?_ ?_)))))))))
 ·clear X b0
  intro b f3 A R H
  revert A R
  rintro e_ w_ ⟨e2,f4,_,rfl,n4,rfl,v36,s,v38,Z,rfl,d0,f⟩
  refine W.seq (sr (va (v38) (vx (ln 3 cC f) (va (B (decide ((b.2.length:Int) > 0))) (wln (cn H (fun n2 H=>?_) (fun n2 H=>?_)))))))
  ·refine W.skip (nrm (W.block (sr (va (v38) (bn H fun a o2 H=>cl (zS Z b.2 f o2) ?_)))))
   rintro v56 d4 M ⟨z1,rfl⟩
   refine va (I a) (wln (sr (va (v38) (bn H fun i e0 H=>?_))))
   obtain ⟨s3,p2,b3⟩:=Sl.at (f.mono M) (bi e0)
   obtain ⟨o4,rfl,h4⟩:=p2
   refine vx (ix cC f.m e0) (va (Qo (sb v38) (so v38+(0:Int).toNat * 2)) (vx (l1 u_3 (b3 0 _ rfl)) (vv (B (i.Kind != 0)) (wln (sr (va (v36) (va (I a) (va (I (w64 (2 * a))) (va (B (i.Kind != 0)) (bn H fun n q2 H=>cl (nj z1 (i.Kind != 0) 1 q2) ?_))))))))))
   rintro p4 e4 h0 ⟨b2,rfl⟩
   refine va (I (w64 n)) (va (I (w64 ((w64 (2 * a))+(w64 n)))) (bn H fun S s2 H=>cl (qF b.1 (w64 ((w64 (2 * a))+(w64 n))) b2 d0.m s2) ?_))
   rintro g z i0 ⟨_,P,c2,rfl,t2⟩
   refine va (g) (wln (W.seq (sr (va (v38) (va (I a) (bn H fun T u2 H=>?_))))))
   obtain ⟨k0,w2,D⟩:=nK (k':= .i64) cC (by kernel_rfl) (f.mono (M.trans (h0.trans i0))) u2
   refine vr k0 (rx (by kernel_rfl) (w2 _)) (vx (ln 3 cC D) (va (I 0) (wln (W.block (bn H fun v3 f0 o=>lp f0 (fun d=>Jn z fun c l=>Own c G (es true (RI .u8) g 5 P S :: es false (RI .u8) v23 5 q ([h]:List Int) :: F)∧l= [(0,g),(5,v38),(6,I a),(40,k0),(41,I (T.length:Int)),(42,I d)]) (fun i3 ex e w=>ex= .exit 2∧(Jn z fun c l=>Own c G (es true (RI .u8) g 5 P S :: es false (RI .u8) v23 5 q ([h]:List Int) :: F)∧l= [(0,g),(5,v38),(6,I a)]) e w) ?_ ?_ ?_)))))
   ·clear o f0
    intro d f3 A R H
    revert A R
    rintro e_ w_ ⟨f2,g4,_,rfl,a3,rfl,a0,rfl⟩
    refine sr (va (B (decide (d < (T.length:Int)))) (wln (W.seq (cn H (fun x2 H=>?_) (fun x2 H=>?_)))))
    ·refine W.skip (nrm (W.seq (W.block (sr (bn H fun U g0 H=>?_)))))
     obtain ⟨t3,z2,d3⟩:=Sl.at (D.mono a3) (bi g0)
     obtain ⟨q4,rfl,E⟩:=z2
     refine vx (ix cC D.m g0) (vx (lN 36 d3) (me (al 36 [I 0,Y] a0) ?_))
     rintro w3 l3 m1 ⟨a1,rfl,l0⟩
     obtain ⟨u0,v0,w0,rfl⟩:=((E.mono m1)).form
     refine md (sA 36 [I U.Kind,.slice u0 v0 w0] 0 l0 ⟨rfl,E.m.one,trivial⟩) ?_
     rintro b1 p3 x
     refine wln (W.seq (sr (va (Qo a1 1) (vx (le1 1 fv (x.on 0 rfl)) (vx (ln 3 fv E.m) (va (B ((U.Text.length:Int)==0)) (wln (cn H (fun f1 H=>?_) (fun f1 H=>?_)))))))))
     ·refine W.exit (thx (bke ?_))
      have m0:=x.sD 3 [1,2]
      refine nrm (W.region (vv (I (w64 (d+1))) (WL.nil ?_)))
      obtain rfl:=si H
      exact ⟨_,rfl,jn b1 ⟨m0,rfl⟩⟩
     cases H
    refine W.exit (thx ?_)
    obtain rfl:=si H
    exact ⟨_,rfl,rfl,jn f2 ⟨a0,rfl⟩⟩
   ·exact jn z ⟨c2,rfl⟩
   rintro _ e_ w_ ⟨rfl,c1,m3,_,rfl,n1,rfl,o0,rfl⟩
   refine bke (nrm (W.region (va (v38) (va (I a) (bn o fun x3 g1 o=>?_)))))
   obtain ⟨j,i1,j1⟩:=Ck (k:= .i64) cC (by kernel_rfl) (f.mono (M.trans (h0.trans (i0.trans n1)))) g1
   refine vr j (rx (by kernel_rfl) (i1 _)) (va (j) (WL.nil (bkn ?_)))
   obtain rfl:=si o
   exact ⟨_,rfl,jn c1 ⟨g,P,j,o0,rfl,t2.m,j1⟩⟩
  refine W.exit (thx ?_)
  obtain rfl:=si H
  exact ⟨_,rfl,rfl,jn e2 ⟨v36,s,Z,rfl,d0⟩⟩
 ·have q0:=x1.sD 2 [1,0]
  exact jn y ⟨v33,e3,(.slice a4 a5 a6),q0,rfl,m2,h3.m⟩
 rintro _ e_ w_ ⟨rfl,d1,n3,_,rfl,q3,rfl,v39,t,s0,rfl,k1⟩
 refine bke (nrm (sr (vv (v39) (wln (W.ret ?_)))))
 obtain rfl:=si X
 have t0:=s0.sD 2 [0]
 exact r1 (qq d1 ⟨v39,t,t0,rfl,k1⟩)
def qT (p0:bh):Option ((List Int)×Er):=
 (nv p0).bind fun l=>
 if (!l)=true then
 none
 else
 (cO (σ:=(List Int)×Int) (τ:=(List Int)) (((([p0.Wide,p0.High,p0.At.Row,p0.At.Col]:List Int).length:Int) - 0).toNat+1) (fun a=>
 if (decide (a.2 < (([p0.Wide,p0.High,p0.At.Row,p0.At.Col]:List Int).length:Int)))=true then
 (idx ([p0.Wide,p0.High,p0.At.Row,p0.At.Col]:List Int) a.2).bind fun e=>
 (lO a.1 e).bind fun f=>
 some (.inl (f,(w64 (a.2+1))))
 else
 some (.inr (a.1))) (([76]:List Int),0)).bind fun c=>
 (kB p0.At.Pending 1).bind fun g=>
 (kB p0.Auto 2).bind fun h=>
 (app c ([(nb .u8 g h)]:List Int)).bind fun i=>
 (cO (σ:=(List Int)×Int) (τ:=(List Int)) (((p0.Lines.length:Int) - 0).toNat+1) (fun b=>
 if (decide (b.2 < (p0.Lines.length:Int)))=true then
 (idx p0.Lines b.2).bind fun j=>
 (py b.1 j).bind fun k=>
 some (.inl (k,(w64 (b.2+1))))
 else
 some (.inr (b.1))) (i,0)).bind fun d=>
 some (d,Er.nil)
theorem zT (O0:Own c0 G F) (hG:Gl [0,2,3,5,7] c0) (a:bh) {r:(List Int)×Er} (h2:Sl ay c0 v1 a.Lines) (H:qT a=some r): Calls prog 16 #[.agg #[I a.Wide,I a.High,v1,I a.At.Row,I a.At.Col,B a.At.Pending,B a.Auto]] c0.w (aQ c0 fun c v=>∃y1 y2 y3,Own c G (es true (RI .u8) y1 5 y2 r.1 :: F)∧v= .tuple #[y1,y3]∧OA (RI .u8) c y1 y2 r.1∧RE 341 78 c y3 r.2):=by
 unfold qT at H;refine en func16 rfl rfl (sr ?_);obtain ⟨a3,a4,a5,rfl⟩:=(h2).form;refine me (bx 31 [I a.Wide,I a.High,.slice a3 a4 a5,I a.At.Row,I a.At.Col,B a.At.Pending,B a.Auto] O0) ?_;rintro v10 c9 l9 ⟨i,rfl,O7,t⟩;refine va (Y) (va (.nilIface) (wln (W.seq (sr (vx (lN 31 t) (bn H fun f4 u2 H=>cl (vX O7 (hG.m.le (by decide)) a h2.m u2) ?_))))));rintro v17 f5 l16 ⟨t1,rfl⟩;refine va (B (!f4)) (wln (cn H (fun v2 H=>?_) (fun v2 H=>?_)))
 ·cases H
 refine W.skip (nrm (sr (me (sl (RI .u8) 5 [[.int .u8 76]] ([76]:List Int) t1 ⟨rfl,trivial⟩) ?_)));rintro v23 g5 m3 ⟨c4,u1,w2⟩;refine va (v23) (wln (W.seq (sr (va (Q i) (vx (l1 u_3 ((mm t) 0 _ rfl)) (va (Qo i (0+1)) (vx (l1 u_3 ((mm t) 1 _ rfl)) (vv (Qo i (0+3)) (vx (l1 u_3 ((mm t) 3 _ rfl)) (va (Qo i (0+3)) (va (Qo i (0+4)) (vx (l1 u_3 ((mm t) 4 _ rfl)) (me (sl (RI .i64) 3 [[I a.Wide],[I a.High],[I a.At.Row],[I a.At.Col]] ([a.Wide,a.High,a.At.Row,a.At.Col]:List Int) u1 ⟨rfl,rfl,rfl,rfl,trivial⟩) ?_)))))))))))));rintro v28 X n3 ⟨D,w1,y⟩;refine vx (lnO 3 underlying101 y) (va (I 0) (wln (W.block (bn H fun x4 k0 b=>lp k0 (fun d=>Jn X fun c l=>∃v31 E,Own c G (es true (RI .u8) v31 5 E d.1 :: es true (RI .i64) v28 3 D ([a.Wide,a.High,a.At.Row,a.At.Col]:List Int) :: F)∧l= [(1,Q i),(4,v31),(24,v28),(25,I (([a.Wide,a.High,a.At.Row,a.At.Col]:List Int).length:Int)),(26,I d.2)]∧OA (RI .u8) c v31 E d.1) (fun z ex e w=>ex= .exit 0∧(Jn X fun c l=>∃v33 g0,Own c G (es true (RI .u8) v33 5 g0 z :: es true (RI .i64) v28 3 D ([a.Wide,a.High,a.At.Row,a.At.Col]:List Int) :: F)∧l= [(1,Q i),(4,v33)]∧OA (RI .u8) c v33 g0 z) e w) ?_ ?_ ?_))))
 ·clear b k0;intro d g4 Z j0 H;revert Z j0;rintro e_ w_ ⟨m2,i5,_,rfl,o3,rfl,v31,E,R,rfl,l0⟩;refine sr (va (B (decide (d.2 < (([a.Wide,a.High,a.At.Row,a.At.Col]:List Int).length:Int)))) (wln (W.seq (cn H (fun x2 H=>?_) (fun x2 H=>?_)))))
  ·refine W.skip (nrm (W.seq (W.block (sr (bn H fun s f0 H=>vx (ixO underlying101 y.m f0) ?_)))));obtain ⟨w4,z2,v3⟩:=OA.at (y.mono o3) f0;obtain rfl:=z2;refine vr (I s) (rx (by kernel_rfl) (my u_3 rfl (R.on 1 rfl) (y.m.blk f0) (at1 (j:=0) v3 rfl))) (va (I s) (wln (W.region (va (v31) (va (I s) (bn H fun c5 b3 H=>cl (qF d.1 s R l0 b3) ?_))))));rintro v49 n2 k5 ⟨_,d4,x1,rfl,c3⟩;refine va (v49) (WL.nil (bkn (nrm (W.region (vv (I (w64 (d.2+1))) (WL.nil ?_))))));obtain rfl:=si H;exact ⟨_,rfl,jn n2 ⟨v49,d4,x1,rfl,c3⟩⟩
  refine W.exit (thx ?_);obtain rfl:=si H;exact ⟨_,rfl,rfl,jn m2 ⟨v31,E,R,rfl,l0⟩⟩
 ·have z1:=w1.sD 2 [1,0];exact jn X ⟨v23,c4,z1,rfl,w2.m⟩
 rintro _ e_ w_ ⟨rfl,h5,j5,_,rfl,p3,rfl,v33,g0,b2,rfl,d3⟩;refine bke (nrm (W.seq (rD [] (Kp G0 []) b2 ?_)));intro o2 q3 c2;have l5:Kp G0 [] o2:=Kp.nil0;refine ta 0 (v33) (ta 1 (Qo i (0+3)) (ta 2 (Qo i (0+5)) (tx 3 (fun c' l3=>l1 u_4 ((mm t) 5 _ rfl)) (ta 5 (Qo i (0+6)) (tx 6 (fun c' l3=>l1 u_4 ((mm t) 6 _ rfl)) (bn b fun k e3 b=>o1 4 (gc 4 (nj c2 a.At.Pending 1 e3) ?_)))))));rintro m5 p2 s3 ⟨d2,rfl⟩;have w3:Kp G0 [] p2:=Kp.nil0;refine ⟨.inr w3,bn b fun n f3 b=>o1 7 (gc 7 (nj d2 a.Auto 2 f3) ?_)⟩;rintro n5 q2 t3 ⟨e2,rfl⟩;have x3:Kp G0 [] q2:=Kp.nil0;refine ⟨.inr x3,ta 8 (.int .u8 (nb .u8 k n)) (o1 9 (gm 9 (sl (RI .u8) 5 [[.int .u8 (nb .u8 k n)]] ([(nb .u8 k n)]:List Int) e2 ⟨rfl,trivial⟩) ?_))⟩;rintro q0 s2 u3 ⟨o0,f2,g3⟩;have z3:Kp G0 [] s2:=Kp.nil0;refine ⟨.inr z3,?_⟩;obtain ⟨t2,i3,m0,g2,h3⟩:=f2.frz 0 rfl g3;have b4:Kp G0 [] t2:=Kp.nil0;refine AC.gh i3 m0 (fun _=>b4) (bn b fun d5 j3 b=>o1 10 (gm 10 (ap (RI .u8) (.int .u8 0) 1 55 1 g2 d3.m h3 j3 wH) ?_));rintro h0 o i1 ⟨e4,i2,k3⟩;have n1:Kp G0 [] o:=Kp.nil0;refine ⟨.inr n1,ta 11 (h0) (dn (nrm (W.seq (sr (va (Qo i (0+2)) (vx (l1 jS ((mm t) 2 _ rfl)) (vx (ln 3 jS h2.m) (va (I 0) (wln (W.block (bn b fun y4 a0 M=>lp a0 (fun f=>Jn o fun c l=>∃h p,Own c G (es true (RI .u8) h 5 p f.1 :: es false (RI .u8) q0 5 o0 ([(nb .u8 k n)]:List Int) :: es true (RI .i64) v28 3 D ([a.Wide,a.High,a.At.Row,a.At.Col]:List Int) :: F)∧l= [(4,h),(46,.slice a3 a4 a5),(47,I (a.Lines.length:Int)),(48,I f.2)]∧OA (RI .u8) c h p f.1) (fun A ex e w=>ex= .exit 2∧(Jn o fun c l=>∃g q,Own c G (es true (RI .u8) g 5 q A :: es false (RI .u8) q0 5 o0 ([(nb .u8 k n)]:List Int) :: es true (RI .i64) v28 3 D ([a.Wide,a.High,a.At.Row,a.At.Col]:List Int) :: F)∧l= [(4,g)]∧OA (RI .u8) c g q A) e w) ?_ ?_ ?_)))))))))))⟩
 ·clear M a0;intro f g4 Z j0 b;revert Z j0;rintro e_ w_ ⟨z0,q4,_,rfl,j1,rfl,h,p,N,rfl,b0⟩;refine sr (va (B (decide (f.2 < (a.Lines.length:Int)))) (wln (W.seq (cn b (fun d1 b=>?_) (fun d1 b=>?_)))))
  ·refine W.skip (nrm (W.seq (W.block (sr (bn b fun x d0 b=>?_)))));obtain ⟨j4,e1,m1⟩:=Sl.at (h2.mono (l9.trans (l16.trans (m3.trans (n3.trans (p3.trans (q3.trans (s3.trans (t3.trans (u3.trans (m0.trans (i1.trans j1)))))))))))) (bi d0);obtain ⟨z4,rfl,u⟩:=e1;refine vx (ix jS h2.m d0) (vx (lN 39 m1) (me (al 39 [Y,B false] N) ?_));rintro b5 o4 k1 ⟨m4,rfl,s0⟩;obtain ⟨S,T,U,rfl⟩:=((u.mono k1)).form;refine md (sA 39 [.slice S T U,B x.Wrap] 0 s0 ⟨u.m.one,rfl,trivial⟩) ?_;rintro p4 s4 P;refine wln (W.region (va (h) (vx (leN 39 0 [.slice S T U,B x.Wrap] (P.on 0 rfl)) ?_)));have t0:=P.sD 4 [1,0,2,3];refine bn b fun e5 f1 b=>cl (yQ f.1 x t0 b0.m u.m f1) ?_;rintro i0 a1 t4 ⟨_,p1,u0,rfl,g1⟩;refine va (i0) (WL.nil (bkn (nrm (W.region (vv (I (w64 (f.2+1))) (WL.nil ?_))))));obtain rfl:=si b;refine ⟨_,rfl,?_⟩;have v0:=u0.sD 4 [0,2,3];exact jn a1 ⟨i0,p1,v0,rfl,g1⟩
  refine W.exit (thx ?_);obtain rfl:=si b;exact ⟨_,rfl,rfl,jn z0 ⟨h,p,N,rfl,b0⟩⟩
 ·have w0:=i2.sD 3 [1,0,2];exact jn o ⟨h0,e4,w0,rfl,k3⟩
 rintro _ e_ w_ ⟨rfl,b1,r4,_,rfl,u4,rfl,g,q,x0,rfl,h1⟩;refine bke (nrm (sr (vv (g) (va (.nilIface) (wln (W.ret ?_))))));obtain rfl:=si M;have y0:=x0.sD 3 [0];exact r2 (qq b1 ⟨g,q,.nilIface,y0,rfl,h1,rfl⟩)
end Go.Proofs.YtidapncdmjppeaaGreatDoor
