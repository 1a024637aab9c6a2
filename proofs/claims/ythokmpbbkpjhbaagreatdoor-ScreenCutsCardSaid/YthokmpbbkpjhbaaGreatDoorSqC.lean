/- Parts of the proofs of ScreenCuts: the walk through the code, and plain Lean. No condition. -/
import Derived.Test.YthokmpbbkpjhbaaGreatDoorSqA
import Derived.Test.YthokmpbbkpjhbaaGreatDoorProg
import Derived.Test.YthokmpbbkpjhbaaGreatDoorSqB
import Derived.WalkKit
import Derived.LaidEql
import Derived.Stop.Asserts
import Derived.RowKitTokens
import Derived.Elder7
import Derived.OpenShut
import Derived.LaidLaws
import Derived.Handed
import Derived.Lay
import Derived.JoinedOf
import Derived.KernelRfl
set_option linter.unusedVariables false
set_option linter.unusedSimpArgs false
namespace Go.Proofs.YthokmpbbkpjhbaaGreatDoor
open Go Go.Lt
set_option maxRecDepth 10000
set_option linter.unusedVariables false
attribute [local irreducible] W WL AC
open Tryz
variable {c0 : Cx} {G : Gm} {F : List En} {sg : Sto} {v1 v2 v3 v4 v5 v6 v7 v8 v9 v10 v11 v12 v13 v14 v15 v16 v17 v18 v19 v20 v21 v22 v23 v24 v25 v26 v27 v28 v29 v30 v31 v32 v33 v34 v35 v36 v37 v38 v39 v40 v41 v42 v43 v44 v45 v46 v47 v48 v49 v50 v51 v52 v53 v54 v55 v56 v57 v58 v59 v60 : Value}
def t_gcb_table_134 : List (Int × Int × Int) := [(0, 9, 3), (10, 10, 2), (11, 12, 3), (13, 13, 1), (14, 31, 3), (127, 159, 3), (173, 173, 3), (768, 879, 4), (1155, 1161, 4), (1425, 1469, 4), (1471, 1471, 4), (1473, 1474, 4), (1476, 1477, 4), (1479, 1479, 4), (1536, 1541, 7), (1552, 1562, 4), (1564, 1564, 3), (1611, 1631, 4), (1648, 1648, 4), (1750, 1756, 4), (1757, 1757, 7), (1759, 1764, 4), (1767, 1768, 4), (1770, 1773, 4), (1807, 1807, 7), (1809, 1809, 4), (1840, 1866, 4), (1958, 1968, 4), (2027, 2035, 4), (2070, 2073, 4), (2075, 2083, 4), (2192, 2193, 7), (2259, 2273, 4), (2274, 2274, 7), (2275, 2306, 4), (2307, 2307, 8), (2362, 2362, 4), (2363, 2363, 8), (2364, 2364, 4), (2366, 2368, 8), (2369, 2376, 4), (2377, 2380, 8), (2381, 2381, 4), (2382, 2383, 8), (2385, 2391, 4), (2402, 2403, 4), (2433, 2433, 4), (2434, 2435, 8), (2492, 2492, 4), (2494, 2494, 4), (2495, 2496, 8), (2497, 2500, 4), (2503, 2504, 8), (2507, 2508, 8), (2509, 2509, 4), (2519, 2519, 4), (2530, 2531, 4), (2561, 2562, 4), (2563, 2563, 8), (2620, 2620, 4), (2622, 2624, 8), (2625, 2626, 4), (2631, 2632, 4), (2635, 2637, 4), (2691, 2691, 8), (2748, 2748, 4), (2750, 2752, 8), (2753, 2757, 4), (2761, 2761, 8), (2765, 2765, 4), (2818, 2819, 8), (2876, 2876, 4), (2878, 2879, 4), (2880, 2880, 8), (2881, 2884, 4), (2887, 2888, 8), (2893, 2893, 4), (2902, 2903, 4), (3073, 3075, 8), (3132, 3132, 4), (3134, 3136, 4), (3137, 3140, 8), (3142, 3144, 4), (3146, 3149, 4), (3276, 3277, 4), (3330, 3331, 8), (3390, 3390, 4), (3391, 3392, 8), (3393, 3396, 4), (3398, 3400, 8), (3405, 3405, 4), (3406, 3406, 7), (3633, 3633, 4), (3635, 3635, 8), (3636, 3642, 4), (3655, 3662, 4), (3761, 3761, 4), (3763, 3763, 8), (3764, 3772, 4), (3864, 3865, 4), (3902, 3903, 8), (3953, 3966, 4), (4155, 4156, 8), (4957, 4959, 4), (6158, 6158, 3), (6832, 6862, 4), (7616, 7679, 4), (8203, 8203, 3), (8204, 8204, 4), (8205, 8205, 5), (8206, 8207, 3), (8232, 8238, 3), (8288, 8303, 3), (8400, 8432, 4), (12330, 12335, 4), (12441, 12442, 4), (42607, 42610, 4), (64286, 64286, 4), (65024, 65039, 4), (65056, 65071, 4), (65279, 65279, 3), (65520, 65531, 3), (69821, 69821, 7), (69837, 69837, 7), (127462, 127487, 6), (127995, 127999, 4), (917504, 917535, 3), (917536, 917631, 4), (917632, 917759, 3), (917760, 917999, 4), (918000, 921599, 3)]
def f_gcb_table  : Option (List (Int × Int × Int)) :=
 some t_gcb_table_134
theorem c_gcb_table (d : Own c0 G F) {r : List (Int × Int × Int)} (H : f_gcb_table  = some r) :
    Calls prog 252 #[] c0.w (Post c0 fun c v => ∃ a b, Own c G (es true RA3_i64 a 295 b r :: F) ∧ v = a ∧ OA RA3_i64 c a b r) := by
 unfold f_gcb_table at H
 refine en func252 rfl rfl (sr (va (Y) (wln (sr (va (.agg #[I 0, I 9, I 3]) (va (.agg #[I 10, I 10, I 2]) (va (.agg #[I 11, I 12, I 3]) (va (.agg #[I 13, I 13, I 1]) (va (.agg #[I 14, I 31, I 3]) (va (.agg #[I 127, I 159, I 3]) (va (.agg #[I 173, I 173, I 3]) (va (.agg #[I 768, I 879, I 4]) (va (.agg #[I 1155, I 1161, I 4]) (va (.agg #[I 1425, I 1469, I 4]) (va (.agg #[I 1471, I 1471, I 4]) (va (.agg #[I 1473, I 1474, I 4]) (va (.agg #[I 1476, I 1477, I 4]) (va (.agg #[I 1479, I 1479, I 4]) (va (.agg #[I 1536, I 1541, I 7]) (va (.agg #[I 1552, I 1562, I 4]) (va (.agg #[I 1564, I 1564, I 3]) (va (.agg #[I 1611, I 1631, I 4]) (va (.agg #[I 1648, I 1648, I 4]) (va (.agg #[I 1750, I 1756, I 4]) (va (.agg #[I 1757, I 1757, I 7]) (va (.agg #[I 1759, I 1764, I 4]) (va (.agg #[I 1767, I 1768, I 4]) (va (.agg #[I 1770, I 1773, I 4]) (va (.agg #[I 1807, I 1807, I 7]) (va (.agg #[I 1809, I 1809, I 4]) (va (.agg #[I 1840, I 1866, I 4]) (va (.agg #[I 1958, I 1968, I 4]) (va (.agg #[I 2027, I 2035, I 4]) (va (.agg #[I 2070, I 2073, I 4]) (va (.agg #[I 2075, I 2083, I 4]) (va (.agg #[I 2192, I 2193, I 7]) (va (.agg #[I 2259, I 2273, I 4]) (va (.agg #[I 2274, I 2274, I 7]) (va (.agg #[I 2275, I 2306, I 4]) (va (.agg #[I 2307, I 2307, I 8]) (va (.agg #[I 2362, I 2362, I 4]) (va (.agg #[I 2363, I 2363, I 8]) (va (.agg #[I 2364, I 2364, I 4]) (va (.agg #[I 2366, I 2368, I 8]) (va (.agg #[I 2369, I 2376, I 4]) (va (.agg #[I 2377, I 2380, I 8]) (va (.agg #[I 2381, I 2381, I 4]) (va (.agg #[I 2382, I 2383, I 8]) (va (.agg #[I 2385, I 2391, I 4]) (va (.agg #[I 2402, I 2403, I 4]) (va (.agg #[I 2433, I 2433, I 4]) (va (.agg #[I 2434, I 2435, I 8]) (va (.agg #[I 2492, I 2492, I 4]) (va (.agg #[I 2494, I 2494, I 4]) (va (.agg #[I 2495, I 2496, I 8]) (va (.agg #[I 2497, I 2500, I 4]) (va (.agg #[I 2503, I 2504, I 8]) (va (.agg #[I 2507, I 2508, I 8]) (va (.agg #[I 2509, I 2509, I 4]) (va (.agg #[I 2519, I 2519, I 4]) (va (.agg #[I 2530, I 2531, I 4]) (va (.agg #[I 2561, I 2562, I 4]) (va (.agg #[I 2563, I 2563, I 8]) (va (.agg #[I 2620, I 2620, I 4]) (va (.agg #[I 2622, I 2624, I 8]) (va (.agg #[I 2625, I 2626, I 4]) (va (.agg #[I 2631, I 2632, I 4]) (va (.agg #[I 2635, I 2637, I 4]) (va (.agg #[I 2691, I 2691, I 8]) (va (.agg #[I 2748, I 2748, I 4]) (va (.agg #[I 2750, I 2752, I 8]) (va (.agg #[I 2753, I 2757, I 4]) (va (.agg #[I 2761, I 2761, I 8]) (va (.agg #[I 2765, I 2765, I 4]) (va (.agg #[I 2818, I 2819, I 8]) (va (.agg #[I 2876, I 2876, I 4]) (va (.agg #[I 2878, I 2879, I 4]) (va (.agg #[I 2880, I 2880, I 8]) (va (.agg #[I 2881, I 2884, I 4]) (va (.agg #[I 2887, I 2888, I 8]) (va (.agg #[I 2893, I 2893, I 4]) (va (.agg #[I 2902, I 2903, I 4]) (va (.agg #[I 3073, I 3075, I 8]) (va (.agg #[I 3132, I 3132, I 4]) (va (.agg #[I 3134, I 3136, I 4]) (va (.agg #[I 3137, I 3140, I 8]) (va (.agg #[I 3142, I 3144, I 4]) (va (.agg #[I 3146, I 3149, I 4]) (va (.agg #[I 3276, I 3277, I 4]) (va (.agg #[I 3330, I 3331, I 8]) (va (.agg #[I 3390, I 3390, I 4]) (va (.agg #[I 3391, I 3392, I 8]) (va (.agg #[I 3393, I 3396, I 4]) (va (.agg #[I 3398, I 3400, I 8]) (va (.agg #[I 3405, I 3405, I 4]) (va (.agg #[I 3406, I 3406, I 7]) (va (.agg #[I 3633, I 3633, I 4]) (va (.agg #[I 3635, I 3635, I 8]) (va (.agg #[I 3636, I 3642, I 4]) (va (.agg #[I 3655, I 3662, I 4]) (va (.agg #[I 3761, I 3761, I 4]) (va (.agg #[I 3763, I 3763, I 8]) (va (.agg #[I 3764, I 3772, I 4]) (va (.agg #[I 3864, I 3865, I 4]) (va (.agg #[I 3902, I 3903, I 8]) (va (.agg #[I 3953, I 3966, I 4]) (va (.agg #[I 4155, I 4156, I 8]) (va (.agg #[I 4957, I 4959, I 4]) (va (.agg #[I 6158, I 6158, I 3]) (va (.agg #[I 6832, I 6862, I 4]) (va (.agg #[I 7616, I 7679, I 4]) (va (.agg #[I 8203, I 8203, I 3]) (va (.agg #[I 8204, I 8204, I 4]) (va (.agg #[I 8205, I 8205, I 5]) (va (.agg #[I 8206, I 8207, I 3]) (va (.agg #[I 8232, I 8238, I 3]) (va (.agg #[I 8288, I 8303, I 3]) (va (.agg #[I 8400, I 8432, I 4]) (va (.agg #[I 12330, I 12335, I 4]) (va (.agg #[I 12441, I 12442, I 4]) (va (.agg #[I 42607, I 42610, I 4]) (va (.agg #[I 64286, I 64286, I 4]) (va (.agg #[I 65024, I 65039, I 4]) (va (.agg #[I 65056, I 65071, I 4]) (va (.agg #[I 65279, I 65279, I 3]) (va (.agg #[I 65520, I 65531, I 3]) (va (.agg #[I 69821, I 69821, I 7]) (va (.agg #[I 69837, I 69837, I 7]) (va (.agg #[I 127462, I 127487, I 6]) (va (.agg #[I 127995, I 127999, I 4]) (va (.agg #[I 917504, I 917535, I 3]) (va (.agg #[I 917536, I 917631, I 4]) (va (.agg #[I 917632, I 917759, I 3]) (va (.agg #[I 917760, I 917999, I 4]) (va (.agg #[I 918000, I 921599, I 3]) (me (Own.sl (R := RA3_i64) (E := 295) (ls := t_gcb_table_134.map (fun x => [I x.1, I x.2.1, I x.2.2])) (vs := (t_gcb_table_134.map (fun x => [I x.1, I x.2.1, I x.2.2])).flatten) (xs := t_gcb_table_134) true d (Nat.succ_pos _) rfl (AllR.map _ (fun _ => rfl) _) (by kernel_rfl) (by kernel_rfl)) ?_))))))))))))))))))))))))))))))))))))))))))))))))))))))))))))))))))))))))))))))))))))))))))))))))))))))))))))))))))))))))))))))))))))))))
 rintro v5 f i ⟨h, e, g⟩
 refine va (v5) (wln (W.ret ?_))
 obtain rfl := si H
 exact r1 ⟨_, f, rfl, rfl, pt, v5, h, e, rfl, g⟩
def f_gcb_Of_1 (p0 : Int) (q0_0 : List (Int × Int × Int)) (q1_0 : Int) : Option (Bool) :=
 (idx q0_0 p0).bind fun a =>
 some (decide (a.2.1 ≥ (w64 q1_0)))
theorem c_gcb_Of_1 {d : Nat} {e : Nat} (o : Own c0 G F) (b : Int) (q0_0 : List (Int × Int × Int)) (q1_0 : Int) {r : Bool} (s : ∀ j u, ([v2] : List Value)[j]? = some u → Im c0 d (0 + j) u) (k : Sl RA3_i64 c0 v2 q0_0) (t : ∀ j u, ([J q1_0] : List Value)[j]? = some u → Im c0 e (0 + j) u) (H : f_gcb_Of_1 b q0_0 q1_0 = some r) :
    Calls prog 254 #[I b, Q d, Q e] c0.w (Post c0 fun c v => Own c G (F) ∧ v = B r) := by
 unfold f_gcb_Of_1 at H
 refine en func254 rfl rfl (sr (va (B false) (wln (W.seq (rD [] (Kp G0 []) o ?_)))))
 intro h q p
 have y : Kp G0 [] h := Kp.nil0
 refine tx 0 (fun g a => l1 underlying292 ((mm s) 0 _ rfl)) (ta 1 (I b) (bn H fun f l H => ?_))
 obtain ⟨x, i, n⟩ := Sl.at (k.mono q) (idx_get l)
 obtain rfl := i
 refine tx 2 (fun g a => ix underlying292 k.m l) (ta 3 (.pointer (some ⟨sb v2, so v2 + b.toNat * 3 + 1, none⟩)) (tx 4 (fun g a => l1 underlying3 ((mm n) 1 _ rfl)) (tx 5 (fun g a => l1 underlying21 ((mm t) 0 _ rfl)) (ta 6 (I (w64 q1_0)) (ta 7 (B (decide (f.2.1 ≥ (w64 q1_0)))) (ta 8 (B (decide (f.2.1 ≥ (w64 q1_0)))) (dn (nrm (W.ret ?_)))))))))
 obtain rfl := si H
 exact r1 ⟨_, h, rfl, rfl, pt, p, rfl⟩
def f_sort_Search__gcb_Of_1 (p0 : Int) (p1_0_0 : List (Int × Int × Int)) (p1_1_0 : Int) : Option (Int) :=
 (iter (σ := Int × Int) (τ := Int) ((p0 - 0).toNat + 1) (fun a =>
 if (decide (a.1 < a.2)) = true then
 (f_gcb_Of_1 (w64 ((IntKind.u64.wrap (w64 (a.1 + a.2))).fdiv (2 ^ 1))) p1_0_0 p1_1_0).bind fun b =>
 if (!b) = true then
 some (.inl ((w64 ((w64 ((IntKind.u64.wrap (w64 (a.1 + a.2))).fdiv (2 ^ 1))) + 1)), a.2))
 else
 some (.inl (a.1, (w64 ((IntKind.u64.wrap (w64 (a.1 + a.2))).fdiv (2 ^ 1)))))
 else
 some (.inr (a.1))) (0, p0)).bind fun c =>
 some c
theorem c_sort_Search__gcb_Of_1 {b1_0 : Nat} {b1_1 : Nat} (A : Own c0 G F) (b : Int) (p1_0_0 : List (Int × Int × Int)) (p1_1_0 : Int) {r : Int} (N : ∀ j u, ([v2] : List Value)[j]? = some u → Im c0 b1_0 (0 + j) u) (M : Sl RA3_i64 c0 v2 p1_0_0) (P : ∀ j u, ([J p1_1_0] : List Value)[j]? = some u → Im c0 b1_1 (0 + j) u) (H : f_sort_Search__gcb_Of_1 b p1_0_0 p1_1_0 = some r) :
    Calls prog 253 #[I b, .func (.func 254) #[] #[Q b1_0, Q b1_1]] c0.w (Post c0 fun c v => Own c G (F) ∧ v = I r) := by
 unfold f_sort_Search__gcb_Of_1 at H
 refine en func253 rfl rfl (sr (va (I 0) (wln (sr (va (I b) (va (I 0) (va (I b) (wln (W.seq (W.block (bn H fun g y k => lp y (fun a => Jn c0 fun c l => Own c G (F) ∧ l = [(1, .func (.func 254) #[] #[Q b1_0, Q b1_1]), (5, I a.1), (6, I a.2)]) (fun h ex e w => ex = .exit 0 ∧ (Jn c0 fun c l => Own c G (F) ∧ l = [(5, I h)]) e w) ?_ ?_ ?_)))))))))))
 ·clear k y
  intro a X q z H
  revert q z
  rintro E R ⟨D, Z, _, rfl, l7, rfl, o, rfl⟩
  refine W.seq (sr (va (I a.1) (va (I a.2) (va (B (decide (a.1 < a.2))) (wln (cn H (fun s H => ?_) (fun s H => ?_)))))))
  ·refine W.skip (nrm (W.block (sr (va (I a.1) (va (I a.2) (va (I (w64 (a.1 + a.2))) (va (.int .u64 (IntKind.u64.wrap (w64 (a.1 + a.2)))) (va (.int .u64 ((IntKind.u64.wrap (w64 (a.1 + a.2))).fdiv (2 ^ 1))) (va (I (w64 ((IntKind.u64.wrap (w64 (a.1 + a.2))).fdiv (2 ^ 1)))) (va (I (w64 ((IntKind.u64.wrap (w64 (a.1 + a.2))).fdiv (2 ^ 1)))) (wln (sr (va (.func (.func 254) #[] #[Q b1_0, Q b1_1]) (va (I (w64 ((IntKind.u64.wrap (w64 (a.1 + a.2))).fdiv (2 ^ 1)))) (bn H fun i t H => cl (c_gcb_Of_1 o (w64 ((IntKind.u64.wrap (w64 (a.1 + a.2))).fdiv (2 ^ 1))) p1_0_0 p1_1_0 (mm N) M.m (mm P) t) ?_)))))))))))))))
   rintro v20 f T ⟨d, rfl⟩
   refine va (B (!i)) (wln (cn H (fun x H => ?_) (fun x H => ?_)))
   ·refine W.region (va (I (w64 ((IntKind.u64.wrap (w64 (a.1 + a.2))).fdiv (2 ^ 1)))) (va (I (w64 ((w64 ((IntKind.u64.wrap (w64 (a.1 + a.2))).fdiv (2 ^ 1))) + 1))) (va (I (w64 ((w64 ((IntKind.u64.wrap (w64 (a.1 + a.2))).fdiv (2 ^ 1))) + 1))) (WL.nil (bkn ?_)))))
    obtain rfl := si H
    exact ⟨_, rfl, ⟨f, _, _, rfl, pt, us, d, rfl⟩⟩
   refine W.region (va (I (w64 ((IntKind.u64.wrap (w64 (a.1 + a.2))).fdiv (2 ^ 1)))) (va (I (w64 ((IntKind.u64.wrap (w64 (a.1 + a.2))).fdiv (2 ^ 1)))) (WL.nil (bkn ?_))))
   obtain rfl := si H
   exact ⟨_, rfl, ⟨f, _, _, rfl, pt, us, d, rfl⟩⟩
  refine W.exit (thx ?_)
  obtain rfl := si H
  exact ⟨_, rfl, rfl, ⟨D, _, _, rfl, pt, us, o, rfl⟩⟩
 ·exact ⟨c0, _, _, rfl, pt, us, A, rfl⟩
 rintro _ E R ⟨rfl, p, S, _, rfl, U, rfl, n, rfl⟩
 refine bke (nrm (sr (va (I g) (va (I g) (wln (W.ret ?_))))))
 obtain rfl := si k
 exact r1 ⟨_, p, rfl, rfl, pt, n, rfl⟩
def f_hangul_in (p0 : Int) (p1 : Int) (p2 : Int) : Option (Bool) :=
 (andE (decide (p0 ≥ p1)) (some (decide (p0 ≤ p2)))).bind fun a =>
 some a
theorem c_hangul_in (f : Own c0 G F) (a : Int) (e : Int) (b : Int) {r : Bool} (H : f_hangul_in a e b = some r) :
    Calls prog 269 #[J a, J e, J b] c0.w (Post c0 fun c v => Own c G (F) ∧ v = B r) := by
 unfold f_hangul_in at H
 refine en func269 rfl rfl (sr (va (B false) (wln (W.seq (bn H fun g h H => W.join (Jn c0 fun c l => Own c G (F) ∧ l = [(6, B g)]) ?_ ?_)))))
 ·clear H
  refine W.region (va (J a) (va (J e) (va (B (decide (a ≥ e))) ?_)))
  rcases bo (decide (a ≥ e)) with d | d
  ·have i := anT d h
   refine vb d (wn (va (J a) (wn (va (J b) (wn (va (B (decide (a ≤ b))) ?_))))))
   obtain rfl := si i
   exact va (B (decide (a ≤ b))) (va (B (decide (a ≤ b))) (wln ⟨c0, _, _, rfl, pt, us, f, rfl⟩))
  obtain rfl := anF d h
  exact vb d (ps (ps (ps (va (B false) (va (B false) (wln ⟨c0, _, _, rfl, pt, us, f, rfl⟩))))))
 rintro m p ⟨k, n, _, rfl, o, rfl, j, rfl⟩
 refine nrm (W.ret ?_)
 obtain rfl := si H
 exact r1 ⟨_, k, rfl, rfl, pt, j, rfl⟩
def f_hangul_Syllable (p0 : Int) : Option (Bool) :=
 (f_hangul_in p0 44032 55203).bind fun a =>
 some a
theorem c_hangul_Syllable (d : Own c0 G F) (a : Int) {r : Bool} (H : f_hangul_Syllable a = some r) :
    Calls prog 270 #[J a] c0.w (Post c0 fun c v => Own c G (F) ∧ v = B r) := by
 unfold f_hangul_Syllable at H
 refine en func270 rfl rfl (sr (va (B false) (wln (sr (va (J a) (bn H fun b g H => cl (c_hangul_in d a 44032 55203 g) ?_))))))
 rintro v7 f h ⟨e, rfl⟩
 refine va (B b) (wln (W.ret ?_))
 obtain rfl := si H
 exact r1 ⟨_, f, rfl, rfl, pt, e, rfl⟩
def f_hangul_Class (p0 : Int) : Option (Int) :=
 (f_hangul_in p0 4352 4447).bind fun i =>
 (orE i ((f_hangul_in p0 43360 43388).bind fun j =>
 some j)).bind fun h =>
 if h = true then
 some 9
 else
 (f_hangul_in p0 4448 4519).bind fun c =>
 (orE c ((f_hangul_in p0 55216 55238).bind fun d =>
 some d)).bind fun a =>
 if a = true then
 some 10
 else
 (f_hangul_in p0 4520 4607).bind fun e =>
 (orE e ((f_hangul_in p0 55243 55291).bind fun f =>
 some f)).bind fun b =>
 if b = true then
 some 11
 else
 (f_hangul_Syllable p0).bind fun g =>
 if (!g) = true then
 some 0
 else
 if (((w32 (p0 - 44032)).tmod 28) == 0) = true then
 some 12
 else
 some 13
theorem c_hangul_Class (O0 : Own c0 G F) (a : Int) {r : Int} (H : f_hangul_Class a = some r) :
    Calls prog 255 #[J a] c0.w (Post c0 fun c v => Own c G (F) ∧ v = I r) := by
 unfold f_hangul_Class at H
 refine en func255 rfl rfl (sr (va (I 0) (wln (W.seq (W.block (W.seq (bn H fun w0 h1 H => bn H fun e0 h2 H => W.join (Jn c0 fun c l => Own c G (F) ∧ l = [(0, J a), (3, B e0)]) ?_ ?_)))))))
 ·clear H
  refine W.region (va (J a) (cl (c_hangul_in O0 a 4352 4447 h1) ?_))
  rintro v8 c7 l7 ⟨S, rfl⟩
  rcases bo (w0) with j | j
  ·obtain rfl := orT j h2
   exact vb j (ps (ps (va (B true) (va (B true) (wln ⟨c7, _, _, rfl, pt, us, S, rfl⟩)))))
  have e := orF j h2
  refine vb j (wn (va (J a) (wn (bn e fun A g0 e => cl (c_hangul_in S a 43360 43388 g0) ?_))))
  rintro v17 U l16 ⟨P, rfl⟩
  obtain rfl := si e
  exact va (B A) (va (B A) (wln ⟨U, _, _, rfl, pt, us, P, rfl⟩))
 rintro e_ w_ ⟨u, a1, _, rfl, d1, rfl, o, rfl⟩
 refine nrm (cn H (fun i0 H => ?_) (fun i0 H => ?_))
 ·refine sr (va (I 9) (wln (W.ret (bkr (thr ?_)))))
  obtain rfl := si H
  exact r1 ⟨_, u, rfl, rfl, pt, o, rfl⟩
 refine W.seq (bn H fun M j0 H => bn H fun D y H => W.join (Jn u fun c l => Own c G (F) ∧ l = [(0, J a), (10, B D)]) ?_ ?_)
 ·clear H
  refine W.region (va (J a) (cl (c_hangul_in o a 4448 4519 j0) ?_))
  rintro v32 X e1 ⟨p, rfl⟩
  rcases bo (M) with b | b
  ·obtain rfl := orT b y
   exact vb b (ps (ps (va (B true) (va (B true) (wln ⟨X, _, _, rfl, pt, us, p, rfl⟩)))))
  have f := orF b y
  refine vb b (wn (va (J a) (wn (bn f fun k k0 f => cl (c_hangul_in p a 55216 55238 k0) ?_))))
  rintro v41 Z f1 ⟨R, rfl⟩
  obtain rfl := si f
  exact va (B k) (va (B k) (wln ⟨Z, _, _, rfl, pt, us, R, rfl⟩))
 rintro e_ w_ ⟨x, b1, _, rfl, g1, rfl, q, rfl⟩
 refine nrm (cn H (fun l0 H => ?_) (fun l0 H => ?_))
 ·refine sr (va (I 10) (wln (W.ret (bkr (thr ?_)))))
  obtain rfl := si H
  exact r1 ⟨_, x, rfl, rfl, pt, q, rfl⟩
 refine W.seq (bn H fun N m0 H => bn H fun E z H => W.join (Jn x fun c l => Own c G (F) ∧ l = [(0, J a), (17, B E)]) ?_ ?_)
 ·clear H
  refine W.region (va (J a) (cl (c_hangul_in q a 4520 4607 m0) ?_))
  rintro v56 a0 i1 ⟨s, rfl⟩
  rcases bo (N) with d | d
  ·obtain rfl := orT d z
   exact vb d (ps (ps (va (B true) (va (B true) (wln ⟨a0, _, _, rfl, pt, us, s, rfl⟩)))))
  have g := orF d z
  refine vb d (wn (va (J a) (wn (bn g fun m o0 g => cl (c_hangul_in s a 55243 55291 o0) ?_))))
  rintro n1 b0 j1 ⟨T, rfl⟩
  obtain rfl := si g
  exact va (B m) (va (B m) (wln ⟨b0, _, _, rfl, pt, us, T, rfl⟩))
 rintro e_ w_ ⟨d0, c1, _, rfl, k1, rfl, t, rfl⟩
 refine nrm (cn H (fun q0 H => ?_) (fun q0 H => ?_))
 ·refine sr (va (I 11) (wln (W.ret (bkr (thr ?_)))))
  obtain rfl := si H
  exact r1 ⟨_, d0, rfl, rfl, pt, t, rfl⟩
 refine sr (va (J a) (bn H fun n s0 H => cl (c_hangul_Syllable t a s0) ?_))
 rintro p1 i m1 ⟨h, rfl⟩
 refine va (B (!n)) (va (B (!n)) (wln (cn H (fun t0 H => ?_) (fun t0 H => ?_))))
 ·refine sr (va (I 0) (wln (W.ret (bkr (thr ?_)))))
  obtain rfl := si H
  exact r1 ⟨_, i, rfl, rfl, pt, h, rfl⟩
 refine sr (va (J a) (va (J (w32 (a - 44032))) (va (J ((w32 (a - 44032)).tmod 28)) (va (B (((w32 (a - 44032)).tmod 28) == 0)) (va (B (((w32 (a - 44032)).tmod 28) == 0)) (wln (cn H (fun u0 H => ?_) (fun u0 H => ?_))))))))
 ·refine sr (va (I 12) (wln (W.ret (bkr (thr ?_)))))
  obtain rfl := si H
  exact r1 ⟨_, i, rfl, rfl, pt, h, rfl⟩
 refine W.skip (bkn (nrm (sr (va (I 13) (wln (W.ret ?_))))))
 obtain rfl := si H
 exact r1 ⟨_, i, rfl, rfl, pt, h, rfl⟩
def f_gcb_Of (p0 : Int) : Option (Int) :=
 (f_gcb_table).bind fun a =>
 (f_sort_Search__gcb_Of_1 (a.length : Int) a p0).bind fun b =>
 (andE (decide (b < (a.length : Int))) ((idx a b).bind fun d =>
 some (decide (d.1 ≤ (w64 p0))))).bind fun c =>
 if c = true then
 (idx a b).bind fun e =>
 some e.2.2
 else
 (f_hangul_Class p0).bind fun f =>
 some f
theorem c_gcb_Of (O0 : Own c0 G F) (i : Int) {r : Int} (H : f_gcb_Of i = some r) :
    Calls prog 227 #[J i] c0.w (Post c0 fun c v => Own c G (F) ∧ v = I r) := by
 unfold f_gcb_Of at H
 refine en func227 rfl rfl (sr (me (bx 21 [J i] O0) ?_))
 rintro v5 c4 l4 ⟨b1, rfl, O2, R⟩
 refine va (I 0) (wln (sr (bn H fun j h6 H => cl (c_gcb_table O2 h6) ?_)))
 rintro v7 h1 p1 ⟨_, u8, U, rfl, s⟩
 refine me (al 292 [Y] U) ?_
 rintro v19 i1 E ⟨y, rfl, X⟩
 obtain ⟨b, d, e, rfl⟩ := ((s.mono E)).form
 refine md (sC 292 0 (.slice b d e) [.slice b d e] 0 X ⟨s.m.one, trivial⟩) ?_
 rintro j1 v0 t
 refine wln (sr (vx (le1 0 underlying292 (t.on 0 rfl)) (vx (lnO 3 underlying292 s.m) ?_)))
 obtain ⟨k1, l0, q1, Z, g⟩ := t.frz 1 rfl (s.mono (E.trans v0))
 refine WL.gh l0 ?_
 obtain ⟨m1, m0, M, a0, n⟩ := Own.frzB 0 Z rfl
 refine WL.gh m0 ?_
 have b0 := a0.sD 2 [1]
 refine va (.func (.func 254) #[] #[Q y, Q b1]) (bn H fun a o0 H => cl (c_sort_Search__gcb_Of_1 b0 (j.length : Int) j i n g.m (mm R) o0) ?_)
 rintro v40 i0 N ⟨d0, rfl⟩
 refine va (I a) (wln (W.seq (W.seq (bn H fun P z H => W.join (Jn i0 fun c l => Own c G (es false RA3_i64 (.slice b d e) 295 u8 j :: F) ∧ l = [(1, Q b1), (3, Q y), (4, I a), (23, B P)]) ?_ ?_))))
 ·clear H
  refine rD [] (Kp G0 []) d0 ?_
  intro p w0 u
  have t1 : Kp G0 [] p := Kp.nil0
  refine ta 0 (I a) (tx 1 (fun k f => l1 underlying292 ((mm n) 0 _ rfl)) (tx 2 (fun k f => ln 3 underlying292 g.m) (ta 3 (B (decide (a < (j.length : Int)))) ?_)))
  rcases bo (decide (a < (j.length : Int))) with h | h
  ·have o := anT h z
   refine bn o fun q A o => AC.takeb 4 h rfl (by kernel_rfl) (by kernel_rfl) (fun k f => (by kernel_rfl)) (tx 5 (fun k f => l1 underlying292 ((mm n) 0 _ rfl)) (ta 6 (I a) ?_))
   obtain ⟨e1, q0, y0⟩ := Sl.at (g.mono (M.trans (N.trans w0))) (idx_get A)
   obtain rfl := q0
   refine tx 7 (fun k f => ix underlying292 g.m A) (ta 8 (.pointer (some ⟨sb (.slice b d e), so (.slice b d e) + a.toNat * 3, none⟩)) (tx 9 (fun k f => l1 underlying3 ((mm y0) 0 _ rfl)) (tx 10 (fun k f => l1 underlying21 ((mm R) 0 _ rfl)) (ta 11 (I (w64 i)) (ta 12 (B (decide (q.1 ≤ (w64 i)))) ?_)))))
   obtain rfl := si o
   exact ta 13 (B (decide (q.1 ≤ (w64 i)))) (dn (nrm ⟨p, _, _, rfl, pt, us, u, rfl⟩))
  obtain rfl := anF h z
  exact AC.takeb 4 h rfl (by kernel_rfl) (by kernel_rfl) (fun k f => (by kernel_rfl)) (tp 5 (tp 6 (tp 7 (tp 8 (tp 9 (tp 10 (tp 11 (tp 12 (ta 13 (B false) (dn (nrm ⟨p, _, _, rfl, pt, us, u, rfl⟩)))))))))))
 rintro e_ w_ ⟨j0, n1, _, rfl, x0, rfl, x, rfl⟩
 refine nrm (cn H (fun s0 H => ?_) (fun s0 H => ?_))
 ·refine sr (vx (l1 underlying292 ((mm n) 0 _ rfl)) (va (I a) (bn H fun S D H => ?_)))
  obtain ⟨f1, t0, z0⟩ := Sl.at (g.mono (M.trans (N.trans x0))) (idx_get D)
  obtain rfl := t0
  refine vx (ix underlying292 g.m D) (va (.pointer (some ⟨sb (.slice b d e), so (.slice b d e) + a.toNat * 3 + 2, none⟩)) (vx (l1 underlying3 (z0 2 _ rfl)) (va (I S.2.2) (wln (W.ret (thr ?_))))))
  obtain rfl := si H
  have e0 := x.sD 1 []
  exact r1 ⟨_, j0, rfl, rfl, pt, e0, rfl⟩
 refine W.skip (nrm (sr (vx (l1 underlying21 ((mm R) 0 _ rfl)) (bn H fun T u0 H => cl (c_hangul_Class x i u0) ?_))))
 rintro u1 k0 s1 ⟨f0, rfl⟩
 refine va (I T) (wln (W.ret ?_))
 obtain rfl := si H
 have g0 := f0.sD 1 []
 exact r1 ⟨_, k0, rfl, rfl, pt, g0, rfl⟩
def f_pict_Is_1 (p0 : Int) (q0_0 : List (Int × Int)) (q1_0 : Int) : Option (Bool) :=
 (idx q0_0 p0).bind fun a =>
 some (decide (a.2 ≥ q1_0))
theorem c_pict_Is_1 {d : Nat} {e : Nat} (o : Own c0 G F) (b : Int) (q0_0 : List (Int × Int)) (q1_0 : Int) {r : Bool} (s : ∀ j u, ([v2] : List Value)[j]? = some u → Im c0 d (0 + j) u) (k : Sl RA2_i32 c0 v2 q0_0) (t : ∀ j u, ([J q1_0] : List Value)[j]? = some u → Im c0 e (0 + j) u) (H : f_pict_Is_1 b q0_0 q1_0 = some r) :
    Calls prog 257 #[I b, Q d, Q e] c0.w (Post c0 fun c v => Own c G (F) ∧ v = B r) := by
 unfold f_pict_Is_1 at H
 refine en func257 rfl rfl (sr (va (B false) (wln (W.seq (rD [] (Kp G0 []) o ?_)))))
 intro h q p
 have y : Kp G0 [] h := Kp.nil0
 refine tx 0 (fun g a => l1 underlying296 ((mm s) 0 _ rfl)) (ta 1 (I b) (bn H fun f l H => ?_))
 obtain ⟨x, i, n⟩ := Sl.at (k.mono q) (idx_get l)
 obtain rfl := i
 refine tx 2 (fun g a => ix underlying296 k.m l) (ta 3 (.pointer (some ⟨sb v2, so v2 + b.toNat * 2 + 1, none⟩)) (tx 4 (fun g a => l1 underlying21 ((mm n) 1 _ rfl)) (tx 5 (fun g a => l1 underlying21 ((mm t) 0 _ rfl)) (ta 6 (B (decide (f.2 ≥ q1_0))) (ta 7 (B (decide (f.2 ≥ q1_0))) (dn (nrm (W.ret ?_))))))))
 obtain rfl := si H
 exact r1 ⟨_, h, rfl, rfl, pt, p, rfl⟩
def f_sort_Search__pict_Is_1 (p0 : Int) (p1_0_0 : List (Int × Int)) (p1_1_0 : Int) : Option (Int) :=
 (iter (σ := Int × Int) (τ := Int) ((p0 - 0).toNat + 1) (fun a =>
 if (decide (a.1 < a.2)) = true then
 (f_pict_Is_1 (w64 ((IntKind.u64.wrap (w64 (a.1 + a.2))).fdiv (2 ^ 1))) p1_0_0 p1_1_0).bind fun b =>
 if (!b) = true then
 some (.inl ((w64 ((w64 ((IntKind.u64.wrap (w64 (a.1 + a.2))).fdiv (2 ^ 1))) + 1)), a.2))
 else
 some (.inl (a.1, (w64 ((IntKind.u64.wrap (w64 (a.1 + a.2))).fdiv (2 ^ 1)))))
 else
 some (.inr (a.1))) (0, p0)).bind fun c =>
 some c
theorem c_sort_Search__pict_Is_1 {b1_0 : Nat} {b1_1 : Nat} (A : Own c0 G F) (b : Int) (p1_0_0 : List (Int × Int)) (p1_1_0 : Int) {r : Int} (N : ∀ j u, ([v2] : List Value)[j]? = some u → Im c0 b1_0 (0 + j) u) (M : Sl RA2_i32 c0 v2 p1_0_0) (P : ∀ j u, ([J p1_1_0] : List Value)[j]? = some u → Im c0 b1_1 (0 + j) u) (H : f_sort_Search__pict_Is_1 b p1_0_0 p1_1_0 = some r) :
    Calls prog 253 #[I b, .func (.func 257) #[] #[Q b1_0, Q b1_1]] c0.w (Post c0 fun c v => Own c G (F) ∧ v = I r) := by
 unfold f_sort_Search__pict_Is_1 at H
 refine en func253 rfl rfl (sr (va (I 0) (wln (sr (va (I b) (va (I 0) (va (I b) (wln (W.seq (W.block (bn H fun g y k => lp y (fun a => Jn c0 fun c l => Own c G (F) ∧ l = [(1, .func (.func 257) #[] #[Q b1_0, Q b1_1]), (5, I a.1), (6, I a.2)]) (fun h ex e w => ex = .exit 0 ∧ (Jn c0 fun c l => Own c G (F) ∧ l = [(5, I h)]) e w) ?_ ?_ ?_)))))))))))
 ·clear k y
  intro a X q z H
  revert q z
  rintro E R ⟨D, Z, _, rfl, l7, rfl, o, rfl⟩
  refine W.seq (sr (va (I a.1) (va (I a.2) (va (B (decide (a.1 < a.2))) (wln (cn H (fun s H => ?_) (fun s H => ?_)))))))
  ·refine W.skip (nrm (W.block (sr (va (I a.1) (va (I a.2) (va (I (w64 (a.1 + a.2))) (va (.int .u64 (IntKind.u64.wrap (w64 (a.1 + a.2)))) (va (.int .u64 ((IntKind.u64.wrap (w64 (a.1 + a.2))).fdiv (2 ^ 1))) (va (I (w64 ((IntKind.u64.wrap (w64 (a.1 + a.2))).fdiv (2 ^ 1)))) (va (I (w64 ((IntKind.u64.wrap (w64 (a.1 + a.2))).fdiv (2 ^ 1)))) (wln (sr (va (.func (.func 257) #[] #[Q b1_0, Q b1_1]) (va (I (w64 ((IntKind.u64.wrap (w64 (a.1 + a.2))).fdiv (2 ^ 1)))) (bn H fun i t H => cl (c_pict_Is_1 o (w64 ((IntKind.u64.wrap (w64 (a.1 + a.2))).fdiv (2 ^ 1))) p1_0_0 p1_1_0 (mm N) M.m (mm P) t) ?_)))))))))))))))
   rintro v20 f T ⟨d, rfl⟩
   refine va (B (!i)) (wln (cn H (fun x H => ?_) (fun x H => ?_)))
   ·refine W.region (va (I (w64 ((IntKind.u64.wrap (w64 (a.1 + a.2))).fdiv (2 ^ 1)))) (va (I (w64 ((w64 ((IntKind.u64.wrap (w64 (a.1 + a.2))).fdiv (2 ^ 1))) + 1))) (va (I (w64 ((w64 ((IntKind.u64.wrap (w64 (a.1 + a.2))).fdiv (2 ^ 1))) + 1))) (WL.nil (bkn ?_)))))
    obtain rfl := si H
    exact ⟨_, rfl, ⟨f, _, _, rfl, pt, us, d, rfl⟩⟩
   refine W.region (va (I (w64 ((IntKind.u64.wrap (w64 (a.1 + a.2))).fdiv (2 ^ 1)))) (va (I (w64 ((IntKind.u64.wrap (w64 (a.1 + a.2))).fdiv (2 ^ 1)))) (WL.nil (bkn ?_))))
   obtain rfl := si H
   exact ⟨_, rfl, ⟨f, _, _, rfl, pt, us, d, rfl⟩⟩
  refine W.exit (thx ?_)
  obtain rfl := si H
  exact ⟨_, rfl, rfl, ⟨D, _, _, rfl, pt, us, o, rfl⟩⟩
 ·exact ⟨c0, _, _, rfl, pt, us, A, rfl⟩
 rintro _ E R ⟨rfl, p, S, _, rfl, U, rfl, n, rfl⟩
 refine bke (nrm (sr (va (I g) (va (I g) (wln (W.ret ?_))))))
 obtain rfl := si k
 exact r1 ⟨_, p, rfl, rfl, pt, n, rfl⟩
def t_pict_table_81 : List (Int × Int) := [(169, 169), (174, 174), (8252, 8252), (8265, 8265), (8482, 8482), (8505, 8505), (8596, 8601), (8617, 8618), (8986, 8987), (9000, 9000), (9096, 9096), (9167, 9167), (9193, 9203), (9208, 9210), (9410, 9410), (9642, 9643), (9654, 9654), (9664, 9664), (9723, 9726), (9728, 9733), (9735, 9746), (9748, 9861), (9872, 9989), (9992, 10002), (10004, 10004), (10006, 10006), (10013, 10013), (10017, 10017), (10024, 10024), (10035, 10036), (10052, 10052), (10055, 10055), (10060, 10060), (10062, 10062), (10067, 10069), (10071, 10071), (10083, 10087), (10133, 10135), (10145, 10145), (10160, 10160), (10175, 10175), (10548, 10549), (11013, 11015), (11035, 11036), (11088, 11088), (11093, 11093), (12336, 12336), (12349, 12349), (12951, 12951), (12953, 12953), (126976, 127231), (127245, 127247), (127279, 127279), (127340, 127345), (127358, 127359), (127374, 127374), (127377, 127386), (127405, 127461), (127489, 127503), (127514, 127514), (127535, 127535), (127538, 127546), (127548, 127551), (127561, 127994), (128000, 128317), (128326, 128591), (128640, 128767), (128884, 128895), (128981, 129023), (129036, 129039), (129096, 129103), (129114, 129119), (129160, 129167), (129198, 129279), (129292, 129338), (129340, 129349), (129351, 129791), (130048, 131069)]
def f_pict_table  : Option (List (Int × Int)) :=
 some t_pict_table_81
theorem c_pict_table (d : Own c0 G F) {r : List (Int × Int)} (H : f_pict_table  = some r) :
    Calls prog 256 #[] c0.w (Post c0 fun c v => ∃ a b, Own c G (es true RA2_i32 a 298 b r :: F) ∧ v = a ∧ OA RA2_i32 c a b r) := by
 unfold f_pict_table at H
 refine en func256 rfl rfl (sr (va (Y) (wln (sr (va (.agg #[J 169, J 169]) (va (.agg #[J 174, J 174]) (va (.agg #[J 8252, J 8252]) (va (.agg #[J 8265, J 8265]) (va (.agg #[J 8482, J 8482]) (va (.agg #[J 8505, J 8505]) (va (.agg #[J 8596, J 8601]) (va (.agg #[J 8617, J 8618]) (va (.agg #[J 8986, J 8987]) (va (.agg #[J 9000, J 9000]) (va (.agg #[J 9096, J 9096]) (va (.agg #[J 9167, J 9167]) (va (.agg #[J 9193, J 9203]) (va (.agg #[J 9208, J 9210]) (va (.agg #[J 9410, J 9410]) (va (.agg #[J 9642, J 9643]) (va (.agg #[J 9654, J 9654]) (va (.agg #[J 9664, J 9664]) (va (.agg #[J 9723, J 9726]) (va (.agg #[J 9728, J 9733]) (va (.agg #[J 9735, J 9746]) (va (.agg #[J 9748, J 9861]) (va (.agg #[J 9872, J 9989]) (va (.agg #[J 9992, J 10002]) (va (.agg #[J 10004, J 10004]) (va (.agg #[J 10006, J 10006]) (va (.agg #[J 10013, J 10013]) (va (.agg #[J 10017, J 10017]) (va (.agg #[J 10024, J 10024]) (va (.agg #[J 10035, J 10036]) (va (.agg #[J 10052, J 10052]) (va (.agg #[J 10055, J 10055]) (va (.agg #[J 10060, J 10060]) (va (.agg #[J 10062, J 10062]) (va (.agg #[J 10067, J 10069]) (va (.agg #[J 10071, J 10071]) (va (.agg #[J 10083, J 10087]) (va (.agg #[J 10133, J 10135]) (va (.agg #[J 10145, J 10145]) (va (.agg #[J 10160, J 10160]) (va (.agg #[J 10175, J 10175]) (va (.agg #[J 10548, J 10549]) (va (.agg #[J 11013, J 11015]) (va (.agg #[J 11035, J 11036]) (va (.agg #[J 11088, J 11088]) (va (.agg #[J 11093, J 11093]) (va (.agg #[J 12336, J 12336]) (va (.agg #[J 12349, J 12349]) (va (.agg #[J 12951, J 12951]) (va (.agg #[J 12953, J 12953]) (va (.agg #[J 126976, J 127231]) (va (.agg #[J 127245, J 127247]) (va (.agg #[J 127279, J 127279]) (va (.agg #[J 127340, J 127345]) (va (.agg #[J 127358, J 127359]) (va (.agg #[J 127374, J 127374]) (va (.agg #[J 127377, J 127386]) (va (.agg #[J 127405, J 127461]) (va (.agg #[J 127489, J 127503]) (va (.agg #[J 127514, J 127514]) (va (.agg #[J 127535, J 127535]) (va (.agg #[J 127538, J 127546]) (va (.agg #[J 127548, J 127551]) (va (.agg #[J 127561, J 127994]) (va (.agg #[J 128000, J 128317]) (va (.agg #[J 128326, J 128591]) (va (.agg #[J 128640, J 128767]) (va (.agg #[J 128884, J 128895]) (va (.agg #[J 128981, J 129023]) (va (.agg #[J 129036, J 129039]) (va (.agg #[J 129096, J 129103]) (va (.agg #[J 129114, J 129119]) (va (.agg #[J 129160, J 129167]) (va (.agg #[J 129198, J 129279]) (va (.agg #[J 129292, J 129338]) (va (.agg #[J 129340, J 129349]) (va (.agg #[J 129351, J 129791]) (va (.agg #[J 130048, J 131069]) (me (Own.sl (R := RA2_i32) (E := 298) (ls := t_pict_table_81.map (fun x => [J x.1, J x.2])) (vs := (t_pict_table_81.map (fun x => [J x.1, J x.2])).flatten) (xs := t_pict_table_81) true d (Nat.succ_pos _) rfl (AllR.map _ (fun _ => rfl) _) (by kernel_rfl) (by kernel_rfl)) ?_)))))))))))))))))))))))))))))))))))))))))))))))))))))))))))))))))))))))))))))))))))
 rintro v5 f i ⟨h, e, g⟩
 refine va (v5) (wln (W.ret ?_))
 obtain rfl := si H
 exact r1 ⟨_, f, rfl, rfl, pt, v5, h, e, rfl, g⟩
def f_pict_Is (p0 : Int) : Option (Bool) :=
 (f_pict_table).bind fun a =>
 (f_sort_Search__pict_Is_1 (a.length : Int) a p0).bind fun b =>
 (andE (decide (b < (a.length : Int))) ((idx a b).bind fun d =>
 some (decide (d.1 ≤ p0)))).bind fun c =>
 some c
theorem c_pict_Is (O0 : Own c0 G F) (j : Int) {r : Bool} (H : f_pict_Is j = some r) :
    Calls prog 228 #[J j] c0.w (Post c0 fun c v => Own c G (F) ∧ v = B r) := by
 unfold f_pict_Is at H
 refine en func228 rfl rfl (sr (me (bx 21 [J j] O0) ?_))
 rintro v5 c4 l4 ⟨b1, rfl, O2, m3⟩
 refine va (B false) (wln (sr (bn H fun h h6 H => cl (c_pict_table O2 h6) ?_)))
 rintro v7 u0 a1 ⟨_, u8, D, rfl, s⟩
 refine me (al 296 [Y] D) ?_
 rintro v19 v0 z ⟨U, rfl, E⟩
 obtain ⟨d, e, f, rfl⟩ := ((s.mono z)).form
 refine md (sC 296 0 (.slice d e f) [.slice d e f] 0 E ⟨s.m.one, trivial⟩) ?_
 rintro w0 f0 t
 refine wln (sr (vx (le1 0 underlying296 (t.on 0 rfl)) (vx (lnO 3 underlying296 s.m) ?_)))
 obtain ⟨x0, a0, c1, M, n⟩ := t.frz 1 rfl (s.mono (z.trans f0))
 refine WL.gh a0 ?_
 obtain ⟨y0, b0, g0, N, q⟩ := Own.frzB 0 M rfl
 refine WL.gh b0 ?_
 have P := N.sD 2 [1]
 refine va (.func (.func 257) #[] #[Q U, Q b1]) (bn H fun a d0 H => cl (c_sort_Search__pict_Is_1 P (h.length : Int) h j q n.m (mm m3) d0) ?_)
 rintro v40 X h0 ⟨R, rfl⟩
 refine va (I a) (wln (W.seq (bn H fun A x H => W.join (Jn X fun c l => Own c G (es false RA2_i32 (.slice d e f) 298 u8 h :: F) ∧ l = [(2, B A)]) ?_ ?_)))
 ·clear H
  refine rD [] (Kp G0 []) R ?_
  intro p i0 u
  have e1 : Kp G0 [] p := Kp.nil0
  refine ta 0 (I a) (tx 1 (fun i b => l1 underlying296 ((mm q) 0 _ rfl)) (tx 2 (fun i b => ln 3 underlying296 n.m) (ta 3 (B (decide (a < (h.length : Int)))) ?_)))
  rcases bo (decide (a < (h.length : Int))) with g | g
  ·have o := anT g x
   refine bn o fun k y o => AC.takeb 4 g rfl (by kernel_rfl) (by kernel_rfl) (fun i b => (by kernel_rfl)) (tx 5 (fun i b => l1 underlying296 ((mm q) 0 _ rfl)) (ta 6 (I a) ?_))
   obtain ⟨s0, e0, k0⟩ := Sl.at (n.mono (g0.trans (h0.trans i0))) (idx_get y)
   obtain rfl := e0
   refine tx 7 (fun i b => ix underlying296 n.m y) (ta 8 (.pointer (some ⟨sb (.slice d e f), so (.slice d e f) + a.toNat * 2, none⟩)) (tx 9 (fun i b => l1 underlying21 ((mm k0) 0 _ rfl)) (tx 10 (fun i b => l1 underlying21 ((mm m3) 0 _ rfl)) (ta 11 (B (decide (k.1 ≤ j))) ?_))))
   obtain rfl := si o
   exact ta 12 (B (decide (k.1 ≤ j))) (ta 13 (B (decide (k.1 ≤ j))) (dn (nrm ⟨p, _, _, rfl, pt, us, u, rfl⟩)))
  obtain rfl := anF g x
  exact AC.takeb 4 g rfl (by kernel_rfl) (by kernel_rfl) (fun i b => (by kernel_rfl)) (tp 5 (tp 6 (tp 7 (tp 8 (tp 9 (tp 10 (tp 11 (ta 12 (B false) (ta 13 (B false) (dn (nrm ⟨p, _, _, rfl, pt, us, u, rfl⟩)))))))))))
 rintro e_ w_ ⟨Z, z0, _, rfl, d1, rfl, S, rfl⟩
 refine nrm (W.ret ?_)
 obtain rfl := si H
 have T := S.sD 1 []
 exact r1 ⟨_, Z, rfl, rfl, pt, T, rfl⟩
def f_conj_Of_1 (p0 : Int) (q0_0 : List (Int × Int × Int)) (q1_0 : Int) : Option (Bool) :=
 (idx q0_0 p0).bind fun a =>
 some (decide (a.2.1 ≥ (w64 q1_0)))
theorem c_conj_Of_1 {d : Nat} {e : Nat} (o : Own c0 G F) (b : Int) (q0_0 : List (Int × Int × Int)) (q1_0 : Int) {r : Bool} (s : ∀ j u, ([v2] : List Value)[j]? = some u → Im c0 d (0 + j) u) (k : Sl RA3_i64 c0 v2 q0_0) (t : ∀ j u, ([J q1_0] : List Value)[j]? = some u → Im c0 e (0 + j) u) (H : f_conj_Of_1 b q0_0 q1_0 = some r) :
    Calls prog 259 #[I b, Q d, Q e] c0.w (Post c0 fun c v => Own c G (F) ∧ v = B r) := by
 unfold f_conj_Of_1 at H
 refine en func259 rfl rfl (sr (va (B false) (wln (W.seq (rD [] (Kp G0 []) o ?_)))))
 intro h q p
 have y : Kp G0 [] h := Kp.nil0
 refine tx 0 (fun g a => l1 underlying292 ((mm s) 0 _ rfl)) (ta 1 (I b) (bn H fun f l H => ?_))
 obtain ⟨x, i, n⟩ := Sl.at (k.mono q) (idx_get l)
 obtain rfl := i
 refine tx 2 (fun g a => ix underlying292 k.m l) (ta 3 (.pointer (some ⟨sb v2, so v2 + b.toNat * 3 + 1, none⟩)) (tx 4 (fun g a => l1 underlying3 ((mm n) 1 _ rfl)) (tx 5 (fun g a => l1 underlying21 ((mm t) 0 _ rfl)) (ta 6 (I (w64 q1_0)) (ta 7 (B (decide (f.2.1 ≥ (w64 q1_0)))) (ta 8 (B (decide (f.2.1 ≥ (w64 q1_0)))) (dn (nrm (W.ret ?_)))))))))
 obtain rfl := si H
 exact r1 ⟨_, h, rfl, rfl, pt, p, rfl⟩
def f_sort_Search__conj_Of_1 (p0 : Int) (p1_0_0 : List (Int × Int × Int)) (p1_1_0 : Int) : Option (Int) :=
 (iter (σ := Int × Int) (τ := Int) ((p0 - 0).toNat + 1) (fun a =>
 if (decide (a.1 < a.2)) = true then
 (f_conj_Of_1 (w64 ((IntKind.u64.wrap (w64 (a.1 + a.2))).fdiv (2 ^ 1))) p1_0_0 p1_1_0).bind fun b =>
 if (!b) = true then
 some (.inl ((w64 ((w64 ((IntKind.u64.wrap (w64 (a.1 + a.2))).fdiv (2 ^ 1))) + 1)), a.2))
 else
 some (.inl (a.1, (w64 ((IntKind.u64.wrap (w64 (a.1 + a.2))).fdiv (2 ^ 1)))))
 else
 some (.inr (a.1))) (0, p0)).bind fun c =>
 some c
theorem c_sort_Search__conj_Of_1 {b1_0 : Nat} {b1_1 : Nat} (A : Own c0 G F) (b : Int) (p1_0_0 : List (Int × Int × Int)) (p1_1_0 : Int) {r : Int} (N : ∀ j u, ([v2] : List Value)[j]? = some u → Im c0 b1_0 (0 + j) u) (M : Sl RA3_i64 c0 v2 p1_0_0) (P : ∀ j u, ([J p1_1_0] : List Value)[j]? = some u → Im c0 b1_1 (0 + j) u) (H : f_sort_Search__conj_Of_1 b p1_0_0 p1_1_0 = some r) :
    Calls prog 253 #[I b, .func (.func 259) #[] #[Q b1_0, Q b1_1]] c0.w (Post c0 fun c v => Own c G (F) ∧ v = I r) := by
 unfold f_sort_Search__conj_Of_1 at H
 refine en func253 rfl rfl (sr (va (I 0) (wln (sr (va (I b) (va (I 0) (va (I b) (wln (W.seq (W.block (bn H fun g y k => lp y (fun a => Jn c0 fun c l => Own c G (F) ∧ l = [(1, .func (.func 259) #[] #[Q b1_0, Q b1_1]), (5, I a.1), (6, I a.2)]) (fun h ex e w => ex = .exit 0 ∧ (Jn c0 fun c l => Own c G (F) ∧ l = [(5, I h)]) e w) ?_ ?_ ?_)))))))))))
 ·clear k y
  intro a X q z H
  revert q z
  rintro E R ⟨D, Z, _, rfl, l7, rfl, o, rfl⟩
  refine W.seq (sr (va (I a.1) (va (I a.2) (va (B (decide (a.1 < a.2))) (wln (cn H (fun s H => ?_) (fun s H => ?_)))))))
  ·refine W.skip (nrm (W.block (sr (va (I a.1) (va (I a.2) (va (I (w64 (a.1 + a.2))) (va (.int .u64 (IntKind.u64.wrap (w64 (a.1 + a.2)))) (va (.int .u64 ((IntKind.u64.wrap (w64 (a.1 + a.2))).fdiv (2 ^ 1))) (va (I (w64 ((IntKind.u64.wrap (w64 (a.1 + a.2))).fdiv (2 ^ 1)))) (va (I (w64 ((IntKind.u64.wrap (w64 (a.1 + a.2))).fdiv (2 ^ 1)))) (wln (sr (va (.func (.func 259) #[] #[Q b1_0, Q b1_1]) (va (I (w64 ((IntKind.u64.wrap (w64 (a.1 + a.2))).fdiv (2 ^ 1)))) (bn H fun i t H => cl (c_conj_Of_1 o (w64 ((IntKind.u64.wrap (w64 (a.1 + a.2))).fdiv (2 ^ 1))) p1_0_0 p1_1_0 (mm N) M.m (mm P) t) ?_)))))))))))))))
   rintro v20 f T ⟨d, rfl⟩
   refine va (B (!i)) (wln (cn H (fun x H => ?_) (fun x H => ?_)))
   ·refine W.region (va (I (w64 ((IntKind.u64.wrap (w64 (a.1 + a.2))).fdiv (2 ^ 1)))) (va (I (w64 ((w64 ((IntKind.u64.wrap (w64 (a.1 + a.2))).fdiv (2 ^ 1))) + 1))) (va (I (w64 ((w64 ((IntKind.u64.wrap (w64 (a.1 + a.2))).fdiv (2 ^ 1))) + 1))) (WL.nil (bkn ?_)))))
    obtain rfl := si H
    exact ⟨_, rfl, ⟨f, _, _, rfl, pt, us, d, rfl⟩⟩
   refine W.region (va (I (w64 ((IntKind.u64.wrap (w64 (a.1 + a.2))).fdiv (2 ^ 1)))) (va (I (w64 ((IntKind.u64.wrap (w64 (a.1 + a.2))).fdiv (2 ^ 1)))) (WL.nil (bkn ?_))))
   obtain rfl := si H
   exact ⟨_, rfl, ⟨f, _, _, rfl, pt, us, d, rfl⟩⟩
  refine W.exit (thx ?_)
  obtain rfl := si H
  exact ⟨_, rfl, rfl, ⟨D, _, _, rfl, pt, us, o, rfl⟩⟩
 ·exact ⟨c0, _, _, rfl, pt, us, A, rfl⟩
 rintro _ E R ⟨rfl, p, S, _, rfl, U, rfl, n, rfl⟩
 refine bke (nrm (sr (va (I g) (va (I g) (wln (W.ret ?_))))))
 obtain rfl := si k
 exact r1 ⟨_, p, rfl, rfl, pt, n, rfl⟩
def t_conj_table_53 : List (Int × Int × Int) := [(768, 879, 3), (1155, 1159, 3), (1425, 1469, 3), (1552, 1562, 3), (1611, 1631, 3), (2325, 2361, 1), (2364, 2364, 3), (2381, 2381, 2), (2385, 2388, 3), (2392, 2399, 1), (2424, 2431, 1), (2453, 2472, 1), (2474, 2480, 1), (2482, 2482, 1), (2486, 2489, 1), (2492, 2492, 3), (2509, 2509, 2), (2524, 2525, 1), (2527, 2527, 1), (2544, 2545, 1), (2709, 2728, 1), (2730, 2736, 1), (2738, 2739, 1), (2741, 2745, 1), (2748, 2748, 3), (2765, 2765, 2), (2809, 2809, 1), (2837, 2856, 1), (2858, 2864, 1), (2866, 2867, 1), (2869, 2873, 1), (2876, 2876, 3), (2893, 2893, 2), (2908, 2909, 1), (2911, 2911, 1), (2929, 2929, 1), (3093, 3112, 1), (3114, 3129, 1), (3132, 3132, 3), (3149, 3149, 2), (3160, 3162, 1), (3349, 3386, 1), (3405, 3405, 2), (6832, 6845, 3), (7616, 7679, 3), (8205, 8205, 3), (8400, 8412, 3), (12330, 12335, 3), (12441, 12442, 3), (65056, 65071, 3)]
def f_conj_table  : Option (List (Int × Int × Int)) :=
 some t_conj_table_53
theorem c_conj_table (d : Own c0 G F) {r : List (Int × Int × Int)} (H : f_conj_table  = some r) :
    Calls prog 258 #[] c0.w (Post c0 fun c v => ∃ a b, Own c G (es true RA3_i64 a 295 b r :: F) ∧ v = a ∧ OA RA3_i64 c a b r) := by
 unfold f_conj_table at H
 refine en func258 rfl rfl (sr (va (Y) (wln (sr (va (.agg #[I 768, I 879, I 3]) (va (.agg #[I 1155, I 1159, I 3]) (va (.agg #[I 1425, I 1469, I 3]) (va (.agg #[I 1552, I 1562, I 3]) (va (.agg #[I 1611, I 1631, I 3]) (va (.agg #[I 2325, I 2361, I 1]) (va (.agg #[I 2364, I 2364, I 3]) (va (.agg #[I 2381, I 2381, I 2]) (va (.agg #[I 2385, I 2388, I 3]) (va (.agg #[I 2392, I 2399, I 1]) (va (.agg #[I 2424, I 2431, I 1]) (va (.agg #[I 2453, I 2472, I 1]) (va (.agg #[I 2474, I 2480, I 1]) (va (.agg #[I 2482, I 2482, I 1]) (va (.agg #[I 2486, I 2489, I 1]) (va (.agg #[I 2492, I 2492, I 3]) (va (.agg #[I 2509, I 2509, I 2]) (va (.agg #[I 2524, I 2525, I 1]) (va (.agg #[I 2527, I 2527, I 1]) (va (.agg #[I 2544, I 2545, I 1]) (va (.agg #[I 2709, I 2728, I 1]) (va (.agg #[I 2730, I 2736, I 1]) (va (.agg #[I 2738, I 2739, I 1]) (va (.agg #[I 2741, I 2745, I 1]) (va (.agg #[I 2748, I 2748, I 3]) (va (.agg #[I 2765, I 2765, I 2]) (va (.agg #[I 2809, I 2809, I 1]) (va (.agg #[I 2837, I 2856, I 1]) (va (.agg #[I 2858, I 2864, I 1]) (va (.agg #[I 2866, I 2867, I 1]) (va (.agg #[I 2869, I 2873, I 1]) (va (.agg #[I 2876, I 2876, I 3]) (va (.agg #[I 2893, I 2893, I 2]) (va (.agg #[I 2908, I 2909, I 1]) (va (.agg #[I 2911, I 2911, I 1]) (va (.agg #[I 2929, I 2929, I 1]) (va (.agg #[I 3093, I 3112, I 1]) (va (.agg #[I 3114, I 3129, I 1]) (va (.agg #[I 3132, I 3132, I 3]) (va (.agg #[I 3149, I 3149, I 2]) (va (.agg #[I 3160, I 3162, I 1]) (va (.agg #[I 3349, I 3386, I 1]) (va (.agg #[I 3405, I 3405, I 2]) (va (.agg #[I 6832, I 6845, I 3]) (va (.agg #[I 7616, I 7679, I 3]) (va (.agg #[I 8205, I 8205, I 3]) (va (.agg #[I 8400, I 8412, I 3]) (va (.agg #[I 12330, I 12335, I 3]) (va (.agg #[I 12441, I 12442, I 3]) (va (.agg #[I 65056, I 65071, I 3]) (me (Own.sl (R := RA3_i64) (E := 295) (ls := t_conj_table_53.map (fun x => [I x.1, I x.2.1, I x.2.2])) (vs := (t_conj_table_53.map (fun x => [I x.1, I x.2.1, I x.2.2])).flatten) (xs := t_conj_table_53) true d (Nat.succ_pos _) rfl (AllR.map _ (fun _ => rfl) _) (by kernel_rfl) (by kernel_rfl)) ?_)))))))))))))))))))))))))))))))))))))))))))))))))))))))
 rintro v5 f i ⟨h, e, g⟩
 refine va (v5) (wln (W.ret ?_))
 obtain rfl := si H
 exact r1 ⟨_, f, rfl, rfl, pt, v5, h, e, rfl, g⟩
def f_conj_Of (p0 : Int) : Option (Int) :=
 (f_conj_table).bind fun a =>
 (f_sort_Search__conj_Of_1 (a.length : Int) a p0).bind fun b =>
 (orE (b == (a.length : Int)) ((idx a b).bind fun d =>
 some (decide (d.1 > (w64 p0))))).bind fun c =>
 if c = true then
 some 0
 else
 (idx a b).bind fun e =>
 some e.2.2
theorem c_conj_Of (O0 : Own c0 G F) (k : Int) {r : Int} (H : f_conj_Of k = some r) :
    Calls prog 229 #[J k] c0.w (Post c0 fun c v => Own c G (F) ∧ v = I r) := by
 unfold f_conj_Of at H
 refine en func229 rfl rfl (sr (me (bx 21 [J k] O0) ?_))
 rintro v5 c4 l4 ⟨b1, rfl, O2, m3⟩
 refine va (I 0) (wln (sr (bn H fun i h6 H => cl (c_conj_table O2 h6) ?_)))
 rintro v7 d1 j1 ⟨_, u8, T, rfl, s⟩
 refine me (al 292 [Y] T) ?_
 rintro v19 e1 M ⟨y, rfl, U⟩
 obtain ⟨b, d, e, rfl⟩ := ((s.mono M)).form
 refine md (sC 292 0 (.slice b d e) [.slice b d e] 0 U ⟨s.m.one, trivial⟩) ?_
 rintro f1 m0 t
 refine wln (sr (vx (le1 0 underlying292 (t.on 0 rfl)) (vx (lnO 3 underlying292 s.m) ?_)))
 obtain ⟨g1, g0, k1, X, g⟩ := t.frz 1 rfl (s.mono (M.trans m0))
 refine WL.gh g0 ?_
 obtain ⟨h1, h0, N, Z, n⟩ := Own.frzB 0 X rfl
 refine WL.gh h0 ?_
 have a0 := Z.sD 2 [1]
 refine va (.func (.func 259) #[] #[Q y, Q b1]) (bn H fun a i0 H => cl (c_sort_Search__conj_Of_1 a0 (i.length : Int) i k n g.m (mm m3) i0) ?_)
 rintro v40 f0 P ⟨b0, rfl⟩
 refine va (I a) (wln (W.seq (W.seq (bn H fun R A H => W.join (Jn f0 fun c l => Own c G (es false RA3_i64 (.slice b d e) 295 u8 i :: F) ∧ l = [(3, Q y), (4, I a), (23, B R)]) ?_ ?_))))
 ·clear H
  refine rD [] (Kp G0 []) b0 ?_
  intro p o0 u
  have m1 : Kp G0 [] p := Kp.nil0
  refine ta 0 (I a) (tx 1 (fun j f => l1 underlying292 ((mm n) 0 _ rfl)) (tx 2 (fun j f => ln 3 underlying292 g.m) (ta 3 (B (a == (i.length : Int))) ?_)))
  rcases bo (a == (i.length : Int)) with h | h
  ·obtain rfl := orT h A
   exact AC.takeb 4 h rfl (by kernel_rfl) (by kernel_rfl) (fun j f => (by kernel_rfl)) (tp 5 (tp 6 (tp 7 (tp 8 (tp 9 (tp 10 (tp 11 (tp 12 (ta 13 (B true) (dn (nrm ⟨p, _, _, rfl, pt, us, u, rfl⟩)))))))))))
  have o := orF h A
  refine bn o fun q D o => AC.takeb 4 h rfl (by kernel_rfl) (by kernel_rfl) (fun j f => (by kernel_rfl)) (tx 5 (fun j f => l1 underlying292 ((mm n) 0 _ rfl)) (ta 6 (I a) ?_))
  obtain ⟨z0, j0, t0⟩ := Sl.at (g.mono (N.trans (P.trans o0))) (idx_get D)
  obtain rfl := j0
  refine tx 7 (fun j f => ix underlying292 g.m D) (ta 8 (.pointer (some ⟨sb (.slice b d e), so (.slice b d e) + a.toNat * 3, none⟩)) (tx 9 (fun j f => l1 underlying3 ((mm t0) 0 _ rfl)) (tx 10 (fun j f => l1 underlying21 ((mm m3) 0 _ rfl)) (ta 11 (I (w64 k)) (ta 12 (B (decide (q.1 > (w64 k)))) ?_)))))
  obtain rfl := si o
  exact ta 13 (B (decide (q.1 > (w64 k)))) (dn (nrm ⟨p, _, _, rfl, pt, us, u, rfl⟩))
 rintro e_ w_ ⟨z, i1, _, rfl, q0, rfl, x, rfl⟩
 refine nrm (cn H (fun k0 H => ?_) (fun k0 H => ?_))
 ·refine sr (va (I 0) (wln (W.ret (thr ?_))))
  obtain rfl := si H
  have d0 := x.sD 1 []
  exact r1 ⟨_, z, rfl, rfl, pt, d0, rfl⟩
 refine W.skip (nrm (sr (vx (l1 underlying292 ((mm n) 0 _ rfl)) (va (I a) (bn H fun S E H => ?_)))))
 obtain ⟨a1, l0, u0⟩ := Sl.at (g.mono (N.trans (P.trans q0))) (idx_get E)
 obtain rfl := l0
 refine vx (ix underlying292 g.m E) (va (.pointer (some ⟨sb (.slice b d e), so (.slice b d e) + a.toNat * 3 + 2, none⟩)) (vx (l1 underlying3 (u0 2 _ rfl)) (va (I S.2.2) (wln (W.ret ?_)))))
 obtain rfl := si H
 have e0 := x.sD 1 []
 exact r1 ⟨_, z, rfl, rfl, pt, e0, rfl⟩
def f_east_Of_1 (p0 : Int) (q0_0 : List (Int × Int × Int)) (q1_0 : Int) : Option (Bool) :=
 (idx q0_0 p0).bind fun a =>
 some (decide (a.2.1 ≥ (w64 q1_0)))
theorem c_east_Of_1 {d : Nat} {e : Nat} (o : Own c0 G F) (b : Int) (q0_0 : List (Int × Int × Int)) (q1_0 : Int) {r : Bool} (s : ∀ j u, ([v2] : List Value)[j]? = some u → Im c0 d (0 + j) u) (k : Sl RA3_i64 c0 v2 q0_0) (t : ∀ j u, ([J q1_0] : List Value)[j]? = some u → Im c0 e (0 + j) u) (H : f_east_Of_1 b q0_0 q1_0 = some r) :
    Calls prog 261 #[I b, Q d, Q e] c0.w (Post c0 fun c v => Own c G (F) ∧ v = B r) := by
 unfold f_east_Of_1 at H
 refine en func261 rfl rfl (sr (va (B false) (wln (W.seq (rD [] (Kp G0 []) o ?_)))))
 intro h q p
 have y : Kp G0 [] h := Kp.nil0
 refine tx 0 (fun g a => l1 underlying292 ((mm s) 0 _ rfl)) (ta 1 (I b) (bn H fun f l H => ?_))
 obtain ⟨x, i, n⟩ := Sl.at (k.mono q) (idx_get l)
 obtain rfl := i
 refine tx 2 (fun g a => ix underlying292 k.m l) (ta 3 (.pointer (some ⟨sb v2, so v2 + b.toNat * 3 + 1, none⟩)) (tx 4 (fun g a => l1 underlying3 ((mm n) 1 _ rfl)) (tx 5 (fun g a => l1 underlying21 ((mm t) 0 _ rfl)) (ta 6 (I (w64 q1_0)) (ta 7 (B (decide (f.2.1 ≥ (w64 q1_0)))) (ta 8 (B (decide (f.2.1 ≥ (w64 q1_0)))) (dn (nrm (W.ret ?_)))))))))
 obtain rfl := si H
 exact r1 ⟨_, h, rfl, rfl, pt, p, rfl⟩
def f_sort_Search__east_Of_1 (p0 : Int) (p1_0_0 : List (Int × Int × Int)) (p1_1_0 : Int) : Option (Int) :=
 (iter (σ := Int × Int) (τ := Int) ((p0 - 0).toNat + 1) (fun a =>
 if (decide (a.1 < a.2)) = true then
 (f_east_Of_1 (w64 ((IntKind.u64.wrap (w64 (a.1 + a.2))).fdiv (2 ^ 1))) p1_0_0 p1_1_0).bind fun b =>
 if (!b) = true then
 some (.inl ((w64 ((w64 ((IntKind.u64.wrap (w64 (a.1 + a.2))).fdiv (2 ^ 1))) + 1)), a.2))
 else
 some (.inl (a.1, (w64 ((IntKind.u64.wrap (w64 (a.1 + a.2))).fdiv (2 ^ 1)))))
 else
 some (.inr (a.1))) (0, p0)).bind fun c =>
 some c
theorem c_sort_Search__east_Of_1 {b1_0 : Nat} {b1_1 : Nat} (A : Own c0 G F) (b : Int) (p1_0_0 : List (Int × Int × Int)) (p1_1_0 : Int) {r : Int} (N : ∀ j u, ([v2] : List Value)[j]? = some u → Im c0 b1_0 (0 + j) u) (M : Sl RA3_i64 c0 v2 p1_0_0) (P : ∀ j u, ([J p1_1_0] : List Value)[j]? = some u → Im c0 b1_1 (0 + j) u) (H : f_sort_Search__east_Of_1 b p1_0_0 p1_1_0 = some r) :
    Calls prog 253 #[I b, .func (.func 261) #[] #[Q b1_0, Q b1_1]] c0.w (Post c0 fun c v => Own c G (F) ∧ v = I r) := by
 unfold f_sort_Search__east_Of_1 at H
 refine en func253 rfl rfl (sr (va (I 0) (wln (sr (va (I b) (va (I 0) (va (I b) (wln (W.seq (W.block (bn H fun g y k => lp y (fun a => Jn c0 fun c l => Own c G (F) ∧ l = [(1, .func (.func 261) #[] #[Q b1_0, Q b1_1]), (5, I a.1), (6, I a.2)]) (fun h ex e w => ex = .exit 0 ∧ (Jn c0 fun c l => Own c G (F) ∧ l = [(5, I h)]) e w) ?_ ?_ ?_)))))))))))
 ·clear k y
  intro a X q z H
  revert q z
  rintro E R ⟨D, Z, _, rfl, l7, rfl, o, rfl⟩
  refine W.seq (sr (va (I a.1) (va (I a.2) (va (B (decide (a.1 < a.2))) (wln (cn H (fun s H => ?_) (fun s H => ?_)))))))
  ·refine W.skip (nrm (W.block (sr (va (I a.1) (va (I a.2) (va (I (w64 (a.1 + a.2))) (va (.int .u64 (IntKind.u64.wrap (w64 (a.1 + a.2)))) (va (.int .u64 ((IntKind.u64.wrap (w64 (a.1 + a.2))).fdiv (2 ^ 1))) (va (I (w64 ((IntKind.u64.wrap (w64 (a.1 + a.2))).fdiv (2 ^ 1)))) (va (I (w64 ((IntKind.u64.wrap (w64 (a.1 + a.2))).fdiv (2 ^ 1)))) (wln (sr (va (.func (.func 261) #[] #[Q b1_0, Q b1_1]) (va (I (w64 ((IntKind.u64.wrap (w64 (a.1 + a.2))).fdiv (2 ^ 1)))) (bn H fun i t H => cl (c_east_Of_1 o (w64 ((IntKind.u64.wrap (w64 (a.1 + a.2))).fdiv (2 ^ 1))) p1_0_0 p1_1_0 (mm N) M.m (mm P) t) ?_)))))))))))))))
   rintro v20 f T ⟨d, rfl⟩
   refine va (B (!i)) (wln (cn H (fun x H => ?_) (fun x H => ?_)))
   ·refine W.region (va (I (w64 ((IntKind.u64.wrap (w64 (a.1 + a.2))).fdiv (2 ^ 1)))) (va (I (w64 ((w64 ((IntKind.u64.wrap (w64 (a.1 + a.2))).fdiv (2 ^ 1))) + 1))) (va (I (w64 ((w64 ((IntKind.u64.wrap (w64 (a.1 + a.2))).fdiv (2 ^ 1))) + 1))) (WL.nil (bkn ?_)))))
    obtain rfl := si H
    exact ⟨_, rfl, ⟨f, _, _, rfl, pt, us, d, rfl⟩⟩
   refine W.region (va (I (w64 ((IntKind.u64.wrap (w64 (a.1 + a.2))).fdiv (2 ^ 1)))) (va (I (w64 ((IntKind.u64.wrap (w64 (a.1 + a.2))).fdiv (2 ^ 1)))) (WL.nil (bkn ?_))))
   obtain rfl := si H
   exact ⟨_, rfl, ⟨f, _, _, rfl, pt, us, d, rfl⟩⟩
  refine W.exit (thx ?_)
  obtain rfl := si H
  exact ⟨_, rfl, rfl, ⟨D, _, _, rfl, pt, us, o, rfl⟩⟩
 ·exact ⟨c0, _, _, rfl, pt, us, A, rfl⟩
 rintro _ E R ⟨rfl, p, S, _, rfl, U, rfl, n, rfl⟩
 refine bke (nrm (sr (va (I g) (va (I g) (wln (W.ret ?_))))))
 obtain rfl := si k
 exact r1 ⟨_, p, rfl, rfl, pt, n, rfl⟩
def t_east_table_122 : List (Int × Int × Int) := [(4352, 4447, 1), (8361, 8361, 3), (8986, 8987, 1), (9001, 9002, 1), (9193, 9196, 1), (9200, 9200, 1), (9203, 9203, 1), (9725, 9726, 1), (9748, 9749, 1), (9800, 9811, 1), (9855, 9855, 1), (9875, 9875, 1), (9889, 9889, 1), (9898, 9899, 1), (9917, 9918, 1), (9924, 9925, 1), (9934, 9934, 1), (9940, 9940, 1), (9962, 9962, 1), (9970, 9971, 1), (9973, 9973, 1), (9978, 9978, 1), (9981, 9981, 1), (9989, 9989, 1), (9994, 9995, 1), (10024, 10024, 1), (10060, 10060, 1), (10062, 10062, 1), (10067, 10069, 1), (10071, 10071, 1), (10133, 10135, 1), (10160, 10160, 1), (10175, 10175, 1), (11035, 11036, 1), (11088, 11088, 1), (11093, 11093, 1), (11904, 11929, 1), (11931, 12019, 1), (12032, 12245, 1), (12272, 12287, 1), (12288, 12288, 2), (12289, 12350, 1), (12353, 12438, 1), (12441, 12543, 1), (12549, 12591, 1), (12593, 12686, 1), (12688, 12771, 1), (12784, 12830, 1), (12832, 12871, 1), (12880, 19903, 1), (19968, 42124, 1), (42128, 42182, 1), (43360, 43388, 1), (44032, 55203, 1), (63744, 64255, 1), (65040, 65049, 1), (65072, 65106, 1), (65108, 65126, 1), (65128, 65131, 1), (65281, 65376, 2), (65377, 65470, 3), (65474, 65479, 3), (65482, 65487, 3), (65490, 65495, 3), (65498, 65500, 3), (65504, 65510, 2), (65512, 65518, 3), (94176, 94180, 1), (94208, 100343, 1), (100352, 101589, 1), (110592, 110882, 1), (126980, 126980, 1), (127183, 127183, 1), (127374, 127374, 1), (127377, 127386, 1), (127488, 127490, 1), (127504, 127547, 1), (127552, 127560, 1), (127568, 127569, 1), (127584, 127589, 1), (127744, 127776, 1), (127789, 127797, 1), (127799, 127868, 1), (127870, 127891, 1), (127904, 127946, 1), (127951, 127955, 1), (127968, 127984, 1), (127988, 127988, 1), (127992, 128062, 1), (128064, 128064, 1), (128066, 128252, 1), (128255, 128317, 1), (128331, 128334, 1), (128336, 128359, 1), (128378, 128378, 1), (128405, 128406, 1), (128420, 128420, 1), (128507, 128591, 1), (128640, 128709, 1), (128716, 128716, 1), (128720, 128722, 1), (128725, 128727, 1), (128732, 128735, 1), (128747, 128748, 1), (128756, 128764, 1), (128992, 129003, 1), (129008, 129008, 1), (129292, 129338, 1), (129340, 129349, 1), (129351, 129535, 1), (129648, 129660, 1), (129664, 129672, 1), (129680, 129725, 1), (129727, 129733, 1), (129742, 129755, 1), (129760, 129768, 1), (129776, 129784, 1), (131072, 196605, 1), (196608, 262141, 1)]
def f_east_table  : Option (List (Int × Int × Int)) :=
 some t_east_table_122
theorem c_east_table (d : Own c0 G F) {r : List (Int × Int × Int)} (H : f_east_table  = some r) :
    Calls prog 260 #[] c0.w (Post c0 fun c v => ∃ a b, Own c G (es true RA3_i64 a 295 b r :: F) ∧ v = a ∧ OA RA3_i64 c a b r) := by
 unfold f_east_table at H
 refine en func260 rfl rfl (sr (va (Y) (wln (sr (va (.agg #[I 4352, I 4447, I 1]) (va (.agg #[I 8361, I 8361, I 3]) (va (.agg #[I 8986, I 8987, I 1]) (va (.agg #[I 9001, I 9002, I 1]) (va (.agg #[I 9193, I 9196, I 1]) (va (.agg #[I 9200, I 9200, I 1]) (va (.agg #[I 9203, I 9203, I 1]) (va (.agg #[I 9725, I 9726, I 1]) (va (.agg #[I 9748, I 9749, I 1]) (va (.agg #[I 9800, I 9811, I 1]) (va (.agg #[I 9855, I 9855, I 1]) (va (.agg #[I 9875, I 9875, I 1]) (va (.agg #[I 9889, I 9889, I 1]) (va (.agg #[I 9898, I 9899, I 1]) (va (.agg #[I 9917, I 9918, I 1]) (va (.agg #[I 9924, I 9925, I 1]) (va (.agg #[I 9934, I 9934, I 1]) (va (.agg #[I 9940, I 9940, I 1]) (va (.agg #[I 9962, I 9962, I 1]) (va (.agg #[I 9970, I 9971, I 1]) (va (.agg #[I 9973, I 9973, I 1]) (va (.agg #[I 9978, I 9978, I 1]) (va (.agg #[I 9981, I 9981, I 1]) (va (.agg #[I 9989, I 9989, I 1]) (va (.agg #[I 9994, I 9995, I 1]) (va (.agg #[I 10024, I 10024, I 1]) (va (.agg #[I 10060, I 10060, I 1]) (va (.agg #[I 10062, I 10062, I 1]) (va (.agg #[I 10067, I 10069, I 1]) (va (.agg #[I 10071, I 10071, I 1]) (va (.agg #[I 10133, I 10135, I 1]) (va (.agg #[I 10160, I 10160, I 1]) (va (.agg #[I 10175, I 10175, I 1]) (va (.agg #[I 11035, I 11036, I 1]) (va (.agg #[I 11088, I 11088, I 1]) (va (.agg #[I 11093, I 11093, I 1]) (va (.agg #[I 11904, I 11929, I 1]) (va (.agg #[I 11931, I 12019, I 1]) (va (.agg #[I 12032, I 12245, I 1]) (va (.agg #[I 12272, I 12287, I 1]) (va (.agg #[I 12288, I 12288, I 2]) (va (.agg #[I 12289, I 12350, I 1]) (va (.agg #[I 12353, I 12438, I 1]) (va (.agg #[I 12441, I 12543, I 1]) (va (.agg #[I 12549, I 12591, I 1]) (va (.agg #[I 12593, I 12686, I 1]) (va (.agg #[I 12688, I 12771, I 1]) (va (.agg #[I 12784, I 12830, I 1]) (va (.agg #[I 12832, I 12871, I 1]) (va (.agg #[I 12880, I 19903, I 1]) (va (.agg #[I 19968, I 42124, I 1]) (va (.agg #[I 42128, I 42182, I 1]) (va (.agg #[I 43360, I 43388, I 1]) (va (.agg #[I 44032, I 55203, I 1]) (va (.agg #[I 63744, I 64255, I 1]) (va (.agg #[I 65040, I 65049, I 1]) (va (.agg #[I 65072, I 65106, I 1]) (va (.agg #[I 65108, I 65126, I 1]) (va (.agg #[I 65128, I 65131, I 1]) (va (.agg #[I 65281, I 65376, I 2]) (va (.agg #[I 65377, I 65470, I 3]) (va (.agg #[I 65474, I 65479, I 3]) (va (.agg #[I 65482, I 65487, I 3]) (va (.agg #[I 65490, I 65495, I 3]) (va (.agg #[I 65498, I 65500, I 3]) (va (.agg #[I 65504, I 65510, I 2]) (va (.agg #[I 65512, I 65518, I 3]) (va (.agg #[I 94176, I 94180, I 1]) (va (.agg #[I 94208, I 100343, I 1]) (va (.agg #[I 100352, I 101589, I 1]) (va (.agg #[I 110592, I 110882, I 1]) (va (.agg #[I 126980, I 126980, I 1]) (va (.agg #[I 127183, I 127183, I 1]) (va (.agg #[I 127374, I 127374, I 1]) (va (.agg #[I 127377, I 127386, I 1]) (va (.agg #[I 127488, I 127490, I 1]) (va (.agg #[I 127504, I 127547, I 1]) (va (.agg #[I 127552, I 127560, I 1]) (va (.agg #[I 127568, I 127569, I 1]) (va (.agg #[I 127584, I 127589, I 1]) (va (.agg #[I 127744, I 127776, I 1]) (va (.agg #[I 127789, I 127797, I 1]) (va (.agg #[I 127799, I 127868, I 1]) (va (.agg #[I 127870, I 127891, I 1]) (va (.agg #[I 127904, I 127946, I 1]) (va (.agg #[I 127951, I 127955, I 1]) (va (.agg #[I 127968, I 127984, I 1]) (va (.agg #[I 127988, I 127988, I 1]) (va (.agg #[I 127992, I 128062, I 1]) (va (.agg #[I 128064, I 128064, I 1]) (va (.agg #[I 128066, I 128252, I 1]) (va (.agg #[I 128255, I 128317, I 1]) (va (.agg #[I 128331, I 128334, I 1]) (va (.agg #[I 128336, I 128359, I 1]) (va (.agg #[I 128378, I 128378, I 1]) (va (.agg #[I 128405, I 128406, I 1]) (va (.agg #[I 128420, I 128420, I 1]) (va (.agg #[I 128507, I 128591, I 1]) (va (.agg #[I 128640, I 128709, I 1]) (va (.agg #[I 128716, I 128716, I 1]) (va (.agg #[I 128720, I 128722, I 1]) (va (.agg #[I 128725, I 128727, I 1]) (va (.agg #[I 128732, I 128735, I 1]) (va (.agg #[I 128747, I 128748, I 1]) (va (.agg #[I 128756, I 128764, I 1]) (va (.agg #[I 128992, I 129003, I 1]) (va (.agg #[I 129008, I 129008, I 1]) (va (.agg #[I 129292, I 129338, I 1]) (va (.agg #[I 129340, I 129349, I 1]) (va (.agg #[I 129351, I 129535, I 1]) (va (.agg #[I 129648, I 129660, I 1]) (va (.agg #[I 129664, I 129672, I 1]) (va (.agg #[I 129680, I 129725, I 1]) (va (.agg #[I 129727, I 129733, I 1]) (va (.agg #[I 129742, I 129755, I 1]) (va (.agg #[I 129760, I 129768, I 1]) (va (.agg #[I 129776, I 129784, I 1]) (va (.agg #[I 131072, I 196605, I 1]) (va (.agg #[I 196608, I 262141, I 1]) (me (Own.sl (R := RA3_i64) (E := 295) (ls := t_east_table_122.map (fun x => [I x.1, I x.2.1, I x.2.2])) (vs := (t_east_table_122.map (fun x => [I x.1, I x.2.1, I x.2.2])).flatten) (xs := t_east_table_122) true d (Nat.succ_pos _) rfl (AllR.map _ (fun _ => rfl) _) (by kernel_rfl) (by kernel_rfl)) ?_))))))))))))))))))))))))))))))))))))))))))))))))))))))))))))))))))))))))))))))))))))))))))))))))))))))))))))))))))))))))))))
 rintro v5 f i ⟨h, e, g⟩
 refine va (v5) (wln (W.ret ?_))
 obtain rfl := si H
 exact r1 ⟨_, f, rfl, rfl, pt, v5, h, e, rfl, g⟩
def f_east_Of (p0 : Int) : Option (Int) :=
 (f_east_table).bind fun a =>
 (f_sort_Search__east_Of_1 (a.length : Int) a p0).bind fun b =>
 (orE (b == (a.length : Int)) ((idx a b).bind fun d =>
 some (decide (d.1 > (w64 p0))))).bind fun c =>
 if c = true then
 some 0
 else
 (idx a b).bind fun e =>
 some e.2.2
theorem c_east_Of (O0 : Own c0 G F) (k : Int) {r : Int} (H : f_east_Of k = some r) :
    Calls prog 230 #[J k] c0.w (Post c0 fun c v => Own c G (F) ∧ v = I r) := by
 unfold f_east_Of at H
 refine en func230 rfl rfl (sr (me (bx 21 [J k] O0) ?_))
 rintro v5 c4 l4 ⟨b1, rfl, O2, m3⟩
 refine va (I 0) (wln (sr (bn H fun i h6 H => cl (c_east_table O2 h6) ?_)))
 rintro v7 d1 j1 ⟨_, u8, T, rfl, s⟩
 refine me (al 292 [Y] T) ?_
 rintro v19 e1 M ⟨y, rfl, U⟩
 obtain ⟨b, d, e, rfl⟩ := ((s.mono M)).form
 refine md (sC 292 0 (.slice b d e) [.slice b d e] 0 U ⟨s.m.one, trivial⟩) ?_
 rintro f1 m0 t
 refine wln (sr (vx (le1 0 underlying292 (t.on 0 rfl)) (vx (lnO 3 underlying292 s.m) ?_)))
 obtain ⟨g1, g0, k1, X, g⟩ := t.frz 1 rfl (s.mono (M.trans m0))
 refine WL.gh g0 ?_
 obtain ⟨h1, h0, N, Z, n⟩ := Own.frzB 0 X rfl
 refine WL.gh h0 ?_
 have a0 := Z.sD 2 [1]
 refine va (.func (.func 261) #[] #[Q y, Q b1]) (bn H fun a i0 H => cl (c_sort_Search__east_Of_1 a0 (i.length : Int) i k n g.m (mm m3) i0) ?_)
 rintro v40 f0 P ⟨b0, rfl⟩
 refine va (I a) (wln (W.seq (W.seq (bn H fun R A H => W.join (Jn f0 fun c l => Own c G (es false RA3_i64 (.slice b d e) 295 u8 i :: F) ∧ l = [(3, Q y), (4, I a), (23, B R)]) ?_ ?_))))
 ·clear H
  refine rD [] (Kp G0 []) b0 ?_
  intro p o0 u
  have m1 : Kp G0 [] p := Kp.nil0
  refine ta 0 (I a) (tx 1 (fun j f => l1 underlying292 ((mm n) 0 _ rfl)) (tx 2 (fun j f => ln 3 underlying292 g.m) (ta 3 (B (a == (i.length : Int))) ?_)))
  rcases bo (a == (i.length : Int)) with h | h
  ·obtain rfl := orT h A
   exact AC.takeb 4 h rfl (by kernel_rfl) (by kernel_rfl) (fun j f => (by kernel_rfl)) (tp 5 (tp 6 (tp 7 (tp 8 (tp 9 (tp 10 (tp 11 (tp 12 (ta 13 (B true) (dn (nrm ⟨p, _, _, rfl, pt, us, u, rfl⟩)))))))))))
  have o := orF h A
  refine bn o fun q D o => AC.takeb 4 h rfl (by kernel_rfl) (by kernel_rfl) (fun j f => (by kernel_rfl)) (tx 5 (fun j f => l1 underlying292 ((mm n) 0 _ rfl)) (ta 6 (I a) ?_))
  obtain ⟨z0, j0, t0⟩ := Sl.at (g.mono (N.trans (P.trans o0))) (idx_get D)
  obtain rfl := j0
  refine tx 7 (fun j f => ix underlying292 g.m D) (ta 8 (.pointer (some ⟨sb (.slice b d e), so (.slice b d e) + a.toNat * 3, none⟩)) (tx 9 (fun j f => l1 underlying3 ((mm t0) 0 _ rfl)) (tx 10 (fun j f => l1 underlying21 ((mm m3) 0 _ rfl)) (ta 11 (I (w64 k)) (ta 12 (B (decide (q.1 > (w64 k)))) ?_)))))
  obtain rfl := si o
  exact ta 13 (B (decide (q.1 > (w64 k)))) (dn (nrm ⟨p, _, _, rfl, pt, us, u, rfl⟩))
 rintro e_ w_ ⟨z, i1, _, rfl, q0, rfl, x, rfl⟩
 refine nrm (cn H (fun k0 H => ?_) (fun k0 H => ?_))
 ·refine sr (va (I 0) (wln (W.ret (thr ?_))))
  obtain rfl := si H
  have d0 := x.sD 1 []
  exact r1 ⟨_, z, rfl, rfl, pt, d0, rfl⟩
 refine W.skip (nrm (sr (vx (l1 underlying292 ((mm n) 0 _ rfl)) (va (I a) (bn H fun S E H => ?_)))))
 obtain ⟨a1, l0, u0⟩ := Sl.at (g.mono (N.trans (P.trans q0))) (idx_get E)
 obtain rfl := l0
 refine vx (ix underlying292 g.m E) (va (.pointer (some ⟨sb (.slice b d e), so (.slice b d e) + a.toNat * 3 + 2, none⟩)) (vx (l1 underlying3 (u0 2 _ rfl)) (va (I S.2.2) (wln (W.ret ?_)))))
 obtain rfl := si H
 have e0 := x.sD 1 []
 exact r1 ⟨_, z, rfl, rfl, pt, e0, rfl⟩
def f_ucd_Of (p0 : Int) : Option (G_api_Prop) :=
 (f_gcb_Of p0).bind fun b =>
 (f_pict_Is p0).bind fun c =>
 (f_conj_Of p0).bind fun d =>
 (f_east_Of p0).bind fun a =>
 some (⟨b, c, d, a⟩ : G_api_Prop)
theorem c_ucd_Of (p : Own c0 G F) (a : Int) {r : G_api_Prop} (H : f_ucd_Of a = some r) :
    Calls prog 182 #[J a] c0.w (Post c0 fun c v => Own c G (F) ∧ v = .agg #[I r.Break, B r.Pict, I r.Conj, I r.East]) := by
 unfold f_ucd_Of at H
 refine en func182 rfl rfl (sr (me (al 33 [I 0, B false, I 0, I 0] p) ?_))
 rintro v4 R S ⟨P, rfl, q⟩
 refine wln (sr (va (J a) (bn H fun d t H => cl (c_gcb_Of q a t) ?_)))
 rintro v11 u A ⟨s, rfl⟩
 refine va (J a) (bn H fun e m H => cl (c_pict_Is s a m) ?_)
 rintro v18 x D ⟨i, rfl⟩
 refine va (J a) (bn H fun f n H => cl (c_conj_Of i a n) ?_)
 rintro v25 y E ⟨j, rfl⟩
 refine va (J a) (bn H fun b o H => cl (c_east_Of j a o) ?_)
 rintro v32 z M ⟨k, rfl⟩
 refine va (.agg #[I d, B e, I f, I b]) (md (sA 33 [I d, B e, I f, I b] 0 k ⟨rfl, rfl, rfl, rfl, trivial⟩) ?_)
 rintro h N g
 refine wln (W.ret ?_)
 obtain rfl := si H
 have l := g.sD 1 []
 exact retC (c := h) (vs := [I d, B e, I f, I b]) rfl (by kernel_rfl) (by kernel_rfl) (by kernel_rfl) (g.on 0 rfl _ rfl).1 ⟨_, h, rfl, rfl, pt, l, rfl⟩
def f_feed_New (sg : Sto) (p0 : Option Nat) : Option (Sto × (Option Nat)) :=
 (orE p0.isNone ((p0).bind fun d =>
 (sg.place_Pen[d]?).bind fun b =>
 some b.G.isNone)).bind fun c =>
 if c = true then
 some (sg, (none : Option Nat))
 else
 (some (sg.add_feed_Feeder (⟨p0, (⟨0, 0, 0, 0, 0⟩ : G_utfdec_Dec), (⟨false, 0, 0, 0, false⟩ : G_seg_State), (none : Option Nat)⟩ : G_feed_Feeder))).bind fun a =>
 some (a, (some sg.feed_Feeder.length))
theorem c_feed_New (t : Own c0 G F) (u : Rel c0 sg G) (k : Option Nat) {r : Sto × (Option Nat)} (n : Pt 2 c0 v1 k) (H : f_feed_New sg k = some r) :
    Calls prog 43 #[v1] c0.w (Post c0 fun c v => ∃ y1, ∃ G_ : Gm, Own c G_ (F) ∧ Rel c r.1 G_ ∧ Adds G G_ ∧ v = y1 ∧ Pt 4 c y1 r.2) := by
 unfold f_feed_New at H
 refine en func43 rfl rfl (sr (va (.pointer none) (wln (W.seq (W.seq (bn H fun T h3 H => W.join (Jn c0 fun c l => Own c G (F) ∧ l = [(0, v1), (11, B T)]) ?_ ?_))))))
 ·clear H
  refine W.region (va (v1) (vr (B k.isNone) (by rcases (n).cs with ⟨d, e⟩ | ⟨b_, d, e⟩ <;> (subst d; rw [e]; kernel_rfl)) ?_))
  rcases bo (k.isNone) with h | h
  ·obtain rfl := orT h h3
   exact vb h (ps (ps (ps (ps (ps (va (B true) (wln ⟨c0, _, _, rfl, pt, us, t, rfl⟩)))))))
  have g := orF h h3
  refine vb h (wn (va (v1) (wn (bn g fun t0 h8 g => ?_))))
  obtain ⟨R, rfl, h7⟩ := (n).get h8
  refine va (Q R) (wn (va (Q R) (wn (bn g fun j h9 g => ?_))))
  obtain ⟨v10, X, U⟩ := Rel.open_place_Pen u h9 h7
  refine vx (le1 0 underlying35 (t.gon X 0 rfl)) (wn (vr (B j.G.isNone) (by rcases (U).cs with ⟨d, e⟩ | ⟨b_, d, e⟩ <;> (subst d; rw [e]; kernel_rfl)) ?_))
  obtain rfl := si g
  exact va (B j.G.isNone) (wln ⟨c0, _, _, rfl, pt, us, t, rfl⟩)
 rintro e_ w_ ⟨S, o0, _, rfl, i, rfl, o, rfl⟩
 refine nrm (cn H (fun Z H => ?_) (fun Z H => ?_))
 ·refine sr (va (.pointer none) (wln (W.ret (thr ?_))))
  obtain rfl := si H
  exact r1 ⟨_, S, rfl, rfl, pt, (.pointer none), G, o, u.m, (Adds.refl _), rfl, rfl⟩
 refine W.skip (nrm (sr (va (v1) ?_)))
 obtain ⟨f, rfl⟩ := ((n.mono i)).form
 refine va (.agg #[.pointer f, I 0, I 0, .int .u8 0, .int .u8 0, I 0, B false, I 0, I 0, I 0, B false, .pointer none]) (me (al 158 [.pointer f, I 0, I 0, .int .u8 0, .int .u8 0, I 0, B false, I 0, I 0, I 0, B false, .pointer none] o) ?_)
 rintro v24 m0 s ⟨a, rfl, A⟩
 have D := A.sD 1 [0]
 refine bn H fun y a0 H => ?_
 obtain ⟨q, z, b0, u0, d0, M, p, q0, f0, N⟩ := Rel.new_feed_Feeder (E := [(Eb a 158 [.pointer f, I 0, I 0, .int .u8 0, .int .u8 0, I 0, B false, I 0, I 0, I 0, B false, .pointer none])]) (F := F) (x := (⟨k, (⟨0, 0, 0, 0, 0⟩ : G_utfdec_Dec), (⟨false, 0, 0, 0, false⟩ : G_seg_State), (none : Option Nat)⟩ : G_feed_Feeder)) (b := a) D (u.mono (i.trans s)) (fun c_ hle_ => ⟨a, (.pointer f), (.pointer none), rfl, rfl, (n.mono ((i.trans s).trans hle_)), rfl⟩)
 rw [Option.some.inj a0] at p
 refine WL.gh b0.1 ?_
 have s0 := Adds.nil (Adds.refl _) f0
 have P := (Adds.refl _).trans N
 have g0 : Pt 4 q (Q a) (some sg.feed_Feeder.length) := ⟨a, rfl, d0⟩
 refine va (Q a) (wln (W.ret ?_))
 obtain rfl := si H
 exact r1 ⟨_, q, rfl, rfl, pt, (Q a), z, M, p, P, rfl, g0⟩
def f_pairs_class (p0 : Int) : Option (Int) :=
 (orE (decide (p0 < 0)) (some (decide (p0 > 13)))).bind fun a =>
 if a = true then
 some 0
 else
 some p0
theorem c_pairs_class (d : Own c0 G F) (a : Int) {r : Int} (H : f_pairs_class a = some r) :
    Calls prog 271 #[I a] c0.w (Post c0 fun c v => Own c G (F) ∧ v = I r) := by
 unfold f_pairs_class at H
 refine en func271 rfl rfl (sr (va (I 0) (wln (W.seq (W.seq (bn H fun g h H => W.join (Jn c0 fun c l => Own c G (F) ∧ l = [(0, I a), (8, B g)]) ?_ ?_))))))
 ·clear H
  refine W.region (va (I a) (va (B (decide (a < 0))) ?_))
  rcases bo (decide (a < 0)) with b | b
  ·obtain rfl := orT b h
   exact vb b (ps (ps (va (B true) (wln ⟨c0, _, _, rfl, pt, us, d, rfl⟩))))
  have j := orF b h
  refine vb b (wn (va (I a) (wn (va (B (decide (a > 13))) ?_))))
  obtain rfl := si j
  exact va (B (decide (a > 13))) (wln ⟨c0, _, _, rfl, pt, us, d, rfl⟩)
 rintro k o ⟨f, m, _, rfl, n, rfl, e, rfl⟩
 refine nrm (cn H (fun i H => ?_) (fun i H => ?_))
 ·refine sr (va (I 0) (wln (W.ret (thr ?_))))
  obtain rfl := si H
  exact r1 ⟨_, f, rfl, rfl, pt, e, rfl⟩
 refine W.skip (nrm (sr (va (I a) (va (I a) (wln (W.ret ?_))))))
 obtain rfl := si H
 exact r1 ⟨_, f, rfl, rfl, pt, e, rfl⟩
def f_pairs_breaks (p0 : Int) : Option (Bool) :=
 if (p0 == 1) = true then
 some true
 else
 if (p0 == 2) = true then
 some true
 else
 if (p0 == 3) = true then
 some true
 else
 some false
theorem c_pairs_breaks (b : Own c0 G F) (a : Int) {r : Bool} (H : f_pairs_breaks a = some r) :
    Calls prog 272 #[I a] c0.w (Post c0 fun c v => Own c G (F) ∧ v = B r) := by
 unfold f_pairs_breaks at H
 refine en func272 rfl rfl (sr (va (B false) (wln (W.seq (sr (va (I a) (wln (W.block (W.seq (W.block (W.block (W.block (W.seq (W.seq (sr (va (B (a == 1)) (va (B (a == 1)) (wln (cn H (fun d H => ?_) (fun d H => ?_))))))))))))))))))))
 ·refine W.exit (thx (thx (bke (bkn (bkn (nrm (W.seq (sr (va (B true) (wln (W.ret (thr (bkr (thr ?_))))))))))))))
  obtain rfl := si H
  exact r1 ⟨_, c0, rfl, rfl, pt, b, rfl⟩
 refine W.skip (nrm (W.seq (sr (va (B (a == 2)) (va (B (a == 2)) (wln (cn H (fun e H => ?_) (fun e H => ?_))))))))
 ·refine W.exit (thx (thx (bko rfl (bke (bkn (nrm (W.seq (sr (va (B true) (wln (W.ret (thr (bkr (thr ?_))))))))))))))
  obtain rfl := si H
  exact r1 ⟨_, c0, rfl, rfl, pt, b, rfl⟩
 refine W.skip (nrm (sr (va (B (a == 3)) (va (B (a == 3)) (wln (cn H (fun f H => ?_) (fun f H => ?_)))))))
 ·refine W.exit (thx (bko rfl (bko rfl (bke (nrm (W.seq (sr (va (B true) (wln (W.ret (thr (bkr (thr ?_)))))))))))))
  obtain rfl := si H
  exact r1 ⟨_, c0, rfl, rfl, pt, b, rfl⟩
 refine W.skip (nrm (W.exit (bko rfl (bko rfl (bko rfl (thx (bke (nrm (sr (va (B false) (wln (W.ret ?_))))))))))))
 obtain rfl := si H
 exact r1 ⟨_, c0, rfl, rfl, pt, b, rfl⟩
def f_pairs_syllable (p0 : Int) (p1 : Int) : Option (Bool) :=
 if (p0 == 9) = true then
 (orE (p1 == 9) (some (p1 == 10))).bind fun a =>
 (orE a (some (p1 == 12))).bind fun b =>
 (orE b (some (p1 == 13))).bind fun c =>
 some c
 else
 (if (p0 == 12) = true then
 some (p0 == 12)
 else
 some (p0 == 10)).bind fun e =>
 if e = true then
 (orE (p1 == 10) (some (p1 == 11))).bind fun d =>
 some d
 else
 (if (p0 == 13) = true then
 some (p0 == 13)
 else
 some (p0 == 11)).bind fun f =>
 if f = true then
 some (p1 == 11)
 else
 some false
theorem c_pairs_syllable (m : Own c0 G F) (b : Int) (a : Int) {r : Bool} (H : f_pairs_syllable b a = some r) :
    Calls prog 273 #[I b, I a] c0.w (Post c0 fun c v => Own c G (F) ∧ v = B r) := by
 unfold f_pairs_syllable at H
 refine en func273 rfl rfl (sr (va (B false) (wln (W.seq (sr (va (I b) (wln (W.block (sr (va (B (b == 9)) (va (B (b == 9)) (wln (cn H (fun h1 H => ?_) (fun h1 H => ?_))))))))))))))
 ·refine W.seq (bn H fun i0 Z H => bn H fun j0 A H => bn H fun x p H => W.join (Jn c0 fun c l => Own c G (F) ∧ l = [(4, B x)]) ?_ ?_)
  ·clear H
   refine W.region (va (I a) (va (B (a == 9)) ?_))
   rcases bo (a == 9) with n | n
   ·obtain rfl := orT n Z
    refine vb n (ps (ps (va (B true) ?_)))
    have h6 : true = true := rfl
    obtain rfl := orT h6 A
    refine vb h6 (ps (ps (va (B true) ?_)))
    have h7 : true = true := rfl
    obtain rfl := orT h7 p
    exact vb h7 (ps (ps (va (B true) (va (B true) (wln ⟨c0, _, _, rfl, pt, us, m, rfl⟩)))))
   have H8 := orF n Z
   refine vb n (wn (va (I a) (wn (va (B (a == 10)) ?_))))
   obtain rfl := si H8
   refine va (B (a == 10)) ?_
   rcases bo (a == 10) with o | o
   ·obtain rfl := orT o A
    refine vb o (ps (ps (va (B true) ?_)))
    have t : true = true := rfl
    obtain rfl := orT t p
    exact vb t (ps (ps (va (B true) (va (B true) (wln ⟨c0, _, _, rfl, pt, us, m, rfl⟩)))))
   have N := orF o A
   refine vb o (wn (va (I a) (wn (va (B (a == 12)) ?_))))
   obtain rfl := si N
   refine va (B (a == 12)) ?_
   rcases bo (a == 12) with i | i
   ·obtain rfl := orT i p
    exact vb i (ps (ps (va (B true) (va (B true) (wln ⟨c0, _, _, rfl, pt, us, m, rfl⟩)))))
   have P := orF i p
   refine vb i (wn (va (I a) (wn (va (B (a == 13)) ?_))))
   obtain rfl := si P
   exact va (B (a == 13)) (va (B (a == 13)) (wln ⟨c0, _, _, rfl, pt, us, m, rfl⟩))
  rintro z D ⟨U, l0, _, rfl, s0, rfl, S, rfl⟩
  refine nrm (W.ret (bkr (thr ?_)))
  obtain rfl := si H
  exact r1 ⟨_, U, rfl, rfl, pt, S, rfl⟩
 refine bn H fun E f d => W.seqJ (Jn c0 fun c l => Own c G (F) ∧ l = [(1, I a), (5, I b), (22, B E)]) ?_ ?_
 ·refine sr (va (B (b == 12)) (va (B (b == 12)) (wln (cn f (fun a0 f => ?_) (fun a0 f => ?_)))))
  ·refine W.skip (nrm ?_)
   obtain rfl := si f
   exact ⟨c0, _, _, rfl, pt, us, m, rfl⟩
  refine W.region (va (B (b == 10)) (va (B (b == 10)) (wln ?_)))
  obtain rfl := si f
  exact ⟨c0, _, _, rfl, pt, us, m, rfl⟩
 rintro z D ⟨e, m0, _, rfl, t0, rfl, k, rfl⟩
 refine cn d (fun b0 d => ?_) (fun b0 d => ?_)
 ·refine W.seq (bn d fun y u d => W.join (Jn e fun c l => Own c G (F) ∧ l = [(4, B y)]) ?_ ?_)
  ·clear d
   refine W.region (va (I a) (va (B (a == 10)) ?_))
   rcases bo (a == 10) with j | j
   ·obtain rfl := orT j u
    exact vb j (ps (ps (va (B true) (va (B true) (wln ⟨e, _, _, rfl, pt, us, k, rfl⟩)))))
   have R := orF j u
   refine vb j (wn (va (I a) (wn (va (B (a == 11)) ?_))))
   obtain rfl := si R
   exact va (B (a == 11)) (va (B (a == 11)) (wln ⟨e, _, _, rfl, pt, us, k, rfl⟩))
  rintro z D ⟨X, o0, _, rfl, u0, rfl, T, rfl⟩
  refine nrm (W.ret (bkr (thr ?_)))
  obtain rfl := si d
  exact r1 ⟨_, X, rfl, rfl, pt, T, rfl⟩
 refine bn d fun M g h => W.seqJ (Jn e fun c l => Own c G (F) ∧ l = [(1, I a), (31, B M)]) ?_ ?_
 ·refine sr (va (B (b == 13)) (va (B (b == 13)) (wln (cn g (fun d0 g => ?_) (fun d0 g => ?_)))))
  ·refine W.skip (nrm ?_)
   obtain rfl := si g
   exact ⟨e, _, _, rfl, pt, us, k, rfl⟩
  refine W.region (va (B (b == 11)) (va (B (b == 11)) (wln ?_)))
  obtain rfl := si g
  exact ⟨e, _, _, rfl, pt, us, k, rfl⟩
 rintro z D ⟨s, q0, _, rfl, v0, rfl, q, rfl⟩
 refine cn h (fun e0 h => ?_) (fun e0 h => ?_)
 ·refine sr (va (I a) (va (B (a == 11)) (va (B (a == 11)) (wln (W.ret (bkr (thr ?_)))))))
  obtain rfl := si h
  exact r1 ⟨_, s, rfl, rfl, pt, q, rfl⟩
 refine W.skip (bkn (nrm (sr (va (B false) (wln (W.ret ?_))))))
 obtain rfl := si h
 exact r1 ⟨_, s, rfl, rfl, pt, q, rfl⟩
def f_pairs_Join (p0 : Int) (p1 : Int) : Option (Int) :=
 (f_pairs_class p0).bind fun b =>
 (f_pairs_class p1).bind fun a =>
 (andE (b == 1) (some (a == 2))).bind fun e =>
 if e = true then
 some 1
 else
 (f_pairs_breaks b).bind fun i =>
 (orE i ((f_pairs_breaks a).bind fun j =>
 some j)).bind fun f =>
 if f = true then
 some 0
 else
 ((f_pairs_syllable b a).bind fun d =>
 if d = true then
 some (d)
 else
 if (a == 4) = true then
 some (a == 4)
 else
 if (a == 5) = true then
 some (a == 5)
 else
 if (a == 8) = true then
 some (a == 8)
 else
 some (b == 7)).bind fun k =>
 if k = true then
 some 1
 else
 ((andE (a == 0) ((orE (b == 5) (some (b == 4))).bind fun g =>
 some g)).bind fun c =>
 if c = true then
 some (c)
 else
 (andE (b == 6) (some (a == 6))).bind fun h =>
 some (h)).bind fun l =>
 if l = true then
 some 2
 else
 some 0
theorem c_pairs_Join (O0 : Own c0 G F) (E : Int) (M : Int) {r : Int} (H : f_pairs_Join E M = some r) :
    Calls prog 262 #[I E, I M] c0.w (Post c0 fun c v => Own c G (F) ∧ v = I r) := by
 unfold f_pairs_Join at H
 refine en func262 rfl rfl (sr (va (I 0) (wln (sr (va (I E) (bn H fun b h1 H => cl (c_pairs_class O0 E h1) ?_))))))
 rintro v7 c6 l6 ⟨O3, rfl⟩
 refine va (I M) (bn H fun a h8 H => cl (c_pairs_class O3 M h8) ?_)
 rintro v14 y b2 ⟨N, rfl⟩
 refine va (I b) (va (I a) (wln (W.seq (W.block (W.seq (bn H fun g0 a0 H => W.join (Jn y fun c l => Own c G (F) ∧ l = [(0, I b), (1, I a), (9, B g0)]) ?_ ?_))))))
 ·clear H
  refine W.region (va (I b) (va (B (b == 1)) ?_))
  rcases bo (b == 1) with k | k
  ·have q0 := anT k a0
   refine vb k (wn (va (I a) (wn (va (B (a == 2)) ?_))))
   obtain rfl := si q0
   exact va (B (a == 2)) (va (B (a == 2)) (wln ⟨y, _, _, rfl, pt, us, N, rfl⟩))
  obtain rfl := anF k a0
  exact vb k (ps (ps (va (B false) (va (B false) (wln ⟨y, _, _, rfl, pt, us, N, rfl⟩)))))
 rintro z A ⟨U, v1, _, rfl, c2, rfl, P, rfl⟩
 refine nrm (cn H (fun z0 H => ?_) (fun z0 H => ?_))
 ·refine sr (va (I 1) (wln (W.ret (bkr (thr ?_)))))
  obtain rfl := si H
  exact r1 ⟨_, U, rfl, rfl, pt, P, rfl⟩
 refine W.seq (bn H fun k0 a1 H => bn H fun h0 b0 H => W.join (Jn U fun c l => Own c G (F) ∧ l = [(0, I b), (1, I a), (16, B h0)]) ?_ ?_)
 ·clear H
  refine W.region (va (I b) (cl (c_pairs_breaks P b a1) ?_))
  rintro v32 w0 d2 ⟨R, rfl⟩
  rcases bo (k0) with m | m
  ·obtain rfl := orT m b0
   exact vb m (ps (ps (va (B true) (va (B true) (wln ⟨w0, _, _, rfl, pt, us, R, rfl⟩)))))
  have u := orF m b0
  refine vb m (wn (va (I a) (wn (bn u fun D b1 u => cl (c_pairs_breaks R a b1) ?_))))
  rintro v41 x0 e2 ⟨u0, rfl⟩
  obtain rfl := si u
  exact va (B D) (va (B D) (wln ⟨x0, _, _, rfl, pt, us, u0, rfl⟩))
 rintro z A ⟨X, w1, _, rfl, f2, rfl, S, rfl⟩
 refine nrm (cn H (fun c1 H => ?_) (fun c1 H => ?_))
 ·refine sr (va (I 0) (wln (W.ret (bkr (thr ?_)))))
  obtain rfl := si H
  exact r1 ⟨_, X, rfl, rfl, pt, S, rfl⟩
 refine bn H fun m0 d g => W.seqJ (Jn X fun c l => Own c G (F) ∧ l = [(0, I b), (1, I a), (23, B m0)]) ?_ ?_
 ·refine sr (va (I b) (va (I a) (bn d fun l0 d1 d => cl (c_pairs_syllable S b a d1) ?_)))
  rintro v57 j g2 ⟨i, rfl⟩
  refine va (B l0) (wln (cn d (fun e1 d => ?_) (fun e1 d => ?_)))
  ·refine W.skip (nrm ?_)
   obtain rfl := si d
   exact ⟨j, _, _, rfl, pt, us, i, rfl⟩
  refine sr (va (I a) (va (B (a == 4)) (va (B (a == 4)) (wln (cn d (fun f1 d => ?_) (fun f1 d => ?_))))))
  ·refine W.skip (nrm ?_)
   obtain rfl := si d
   exact ⟨j, _, _, rfl, pt, us, i, rfl⟩
  refine sr (va (I a) (va (B (a == 5)) (va (B (a == 5)) (wln (cn d (fun g1 d => ?_) (fun g1 d => ?_))))))
  ·refine W.skip (nrm ?_)
   obtain rfl := si d
   exact ⟨j, _, _, rfl, pt, us, i, rfl⟩
  refine sr (va (I a) (va (B (a == 8)) (va (B (a == 8)) (wln (cn d (fun i1 d => ?_) (fun i1 d => ?_))))))
  ·refine W.skip (nrm ?_)
   obtain rfl := si d
   exact ⟨j, _, _, rfl, pt, us, i, rfl⟩
  refine W.region (va (I b) (va (B (b == 7)) (va (B (b == 7)) (wln ?_))))
  obtain rfl := si d
  exact ⟨j, _, _, rfl, pt, us, i, rfl⟩
 rintro z A ⟨f, x1, _, rfl, h2, rfl, s, rfl⟩
 refine cn g (fun j1 g => ?_) (fun j1 g => ?_)
 ·refine sr (va (I 1) (wln (W.ret (bkr (thr ?_)))))
  obtain rfl := si g
  exact r1 ⟨_, f, rfl, rfl, pt, s, rfl⟩
 refine bn g fun o0 e h => W.seqJ (Jn f fun c l => Own c G (F) ∧ l = [(35, B o0)]) ?_ ?_
 ·refine W.seq (bn e fun i0 d0 e => W.join (Jn f fun c l => Own c G (F) ∧ l = [(0, I b), (1, I a), (35, B i0)]) ?_ ?_)
  ·clear e
   refine W.region (va (I a) (va (B (a == 0)) ?_))
   rcases bo (a == 0) with n | n
   ·have q := anT n d0
    refine vb n (wn (va (I b) (wn (va (B (b == 5)) (wn (bn q fun s1 e0 q => ?_))))))
    rcases bo (b == 5) with o | o
    ·obtain rfl := orT o e0
     refine vb o (ps (ps (wn (va (B true) ?_))))
     obtain rfl := si q
     exact va (B true) (va (B true) (wln ⟨f, _, _, rfl, pt, us, s, rfl⟩))
    have s0 := orF o e0
    refine vb o (wn (va (I b) (wn (va (B (b == 4)) (wn ?_)))))
    obtain rfl := si s0
    refine va (B (b == 4)) ?_
    obtain rfl := si q
    exact va (B (b == 4)) (va (B (b == 4)) (wln ⟨f, _, _, rfl, pt, us, s, rfl⟩))
   obtain rfl := anF n d0
   exact vb n (ps (ps (ps (ps (ps (ps (va (B false) (va (B false) (wln ⟨f, _, _, rfl, pt, us, s, rfl⟩)))))))))
  rintro z A ⟨t, y1, _, rfl, i2, rfl, x, rfl⟩
  refine nrm (cn e (fun k1 e => ?_) (fun k1 e => ?_))
  ·refine W.skip (nrm ?_)
   obtain rfl := si e
   exact ⟨t, _, _, rfl, pt, us, x, rfl⟩
  refine bn e fun j0 f0 e => W.join (Jn t fun c l => Own c G (F) ∧ l = [(35, B j0)]) ?_ ?_
  ·clear e
   refine W.region (va (I b) (va (B (b == 6)) ?_))
   rcases bo (b == 6) with p | p
   ·have t0 := anT p f0
    refine vb p (wn (va (I a) (wn (va (B (a == 6)) ?_))))
    obtain rfl := si t0
    exact va (B (a == 6)) (va (B (a == 6)) (wln ⟨t, _, _, rfl, pt, us, x, rfl⟩))
   obtain rfl := anF p f0
   exact vb p (ps (ps (va (B false) (va (B false) (wln ⟨t, _, _, rfl, pt, us, x, rfl⟩)))))
  rintro z A ⟨y0, z1, _, rfl, j2, rfl, v0, rfl⟩
  refine nrm ?_
  obtain rfl := si e
  exact ⟨y0, _, _, rfl, pt, us, v0, rfl⟩
 rintro z A ⟨Z, a2, _, rfl, k2, rfl, T, rfl⟩
 refine cn h (fun m1 h => ?_) (fun m1 h => ?_)
 ·refine sr (va (I 2) (wln (W.ret (bkr (thr ?_)))))
  obtain rfl := si h
  exact r1 ⟨_, Z, rfl, rfl, pt, T, rfl⟩
 refine W.skip (bkn (nrm (sr (va (I 0) (wln (W.ret ?_))))))
 obtain rfl := si h
 exact r1 ⟨_, Z, rfl, rfl, pt, T, rfl⟩
def f_seg_State_joins__feed_Feeder_6 (p0 : G_seg_State) (p1 : G_api_Prop) : Option (Bool) :=
 if (!p0.some) = true then
 some false
 else
 ((andE (p1.Conj == 1) (some (p0.conj == 2))).bind fun a =>
 if a = true then
 some (a)
 else
 (andE p1.Pict (some (p0.pict == 2))).bind fun c =>
 some (c)).bind fun e =>
 if e = true then
 some true
 else
 (f_pairs_Join p0.last p1.Break).bind fun b =>
 if (b == 1) = true then
 some true
 else
 if (b == 2) = true then
 (andE (p0.last == 6) (some p0.odd)).bind fun d =>
 some d
 else
 some false
theorem c_seg_State_joins__feed_Feeder_6 {b : Nat} {r0_0 : Value} {r0_1 : Value} {r0_2 : Value} {r0_3 : Value} {r0_4 : Value} {r0_5 : Value} {r0_11 : Value} (a : G_seg_State) (e : G_api_Prop) (O0 : Own c0 G ((Eb b 158 [r0_0, r0_1, r0_2, r0_3, r0_4, r0_5, B a.some, I a.last, I a.pict, I a.conj, B a.odd, r0_11]) :: F)) {r : Bool} (H : f_seg_State_joins__feed_Feeder_6 a e = some r) :
    Calls prog 231 #[.pointer (some ⟨b, 6, none⟩), .agg #[I e.Break, B e.Pict, I e.Conj, I e.East]] c0.w (Post c0 fun c v => Own c G ((Eb b 158 [r0_0, r0_1, r0_2, r0_3, r0_4, r0_5, B a.some, I a.last, I a.pict, I a.conj, B a.odd, r0_11]) :: F) ∧ v = B r) := by
 unfold f_seg_State_joins__feed_Feeder_6 at H
 refine en func231 rfl rfl (sr (me (bx 33 [I e.Break, B e.Pict, I e.Conj, I e.East] O0) ?_))
 rintro v5 s l4 ⟨p, rfl, q, M⟩
 refine va (B false) (wln (W.seq (sr (va (.pointer (some ⟨b, 6, none⟩)) (va (.pointer (some ⟨b, 6, none⟩)) (va (.pointer (some ⟨b, 6, none⟩)) (vx (le1 6 underlying4 (q.on 0 rfl)) (va (B (!a.some)) (wln (cn H (fun h6 H => ?_) (fun h6 H => ?_)))))))))))
 ·refine sr (va (B false) (wln (W.ret (thr ?_))))
  obtain rfl := si H
  exact r1 ⟨_, s, rfl, rfl, pt, q, rfl⟩
 refine W.skip (nrm (W.seq (W.block (bn H fun P f d => W.seqJ (Jn s fun c l => Own c G ((Eb b 158 [r0_0, r0_1, r0_2, r0_3, r0_4, r0_5, B a.some, I a.last, I a.pict, I a.conj, B a.odd, r0_11]) :: F) ∧ l = [(0, .pointer (some ⟨b, 6, none⟩)), (3, Q p), (10, B P)]) ?_ ?_))))
 ·refine W.seq (bn f fun z h9 f => W.join (Jn s fun c l => Own c G ((Eb b 158 [r0_0, r0_1, r0_2, r0_3, r0_4, r0_5, B a.some, I a.last, I a.pict, I a.conj, B a.odd, r0_11]) :: F) ∧ l = [(0, .pointer (some ⟨b, 6, none⟩)), (3, Q p), (10, B z)]) ?_ ?_)
  ·clear f
   refine W.region (va (.pointer (some ⟨p, 0 + 2, none⟩)) (vx (l1 underlying3 (M 2 _ rfl)) (va (B (e.Conj == 1)) ?_)))
   rcases bo (e.Conj == 1) with j | j
   ·have R := anT j h9
    refine vb j (wn (va (.pointer (some ⟨b, 6, none⟩)) (wn (va (.pointer (some ⟨b, 6, none⟩)) (wn (va (.pointer (some ⟨b, 9, none⟩)) (wn (vx (le1 9 underlying3 (q.on 0 rfl)) (wn (va (B (a.conj == 2)) ?_))))))))))
    obtain rfl := si R
    exact va (B (a.conj == 2)) (va (B (a.conj == 2)) (wln ⟨s, _, _, rfl, pt, us, q, rfl⟩))
   obtain rfl := anF j h9
   exact vb j (ps (ps (ps (ps (ps (va (B false) (va (B false) (wln ⟨s, _, _, rfl, pt, us, q, rfl⟩))))))))
  rintro E N ⟨o, u0, _, rfl, y0, rfl, n, rfl⟩
  refine nrm (cn f (fun e0 f => ?_) (fun e0 f => ?_))
  ·refine W.skip (nrm ?_)
   obtain rfl := si f
   exact ⟨o, _, _, rfl, pt, us, n, rfl⟩
  refine bn f fun A x f => W.join (Jn o fun c l => Own c G ((Eb b 158 [r0_0, r0_1, r0_2, r0_3, r0_4, r0_5, B a.some, I a.last, I a.pict, I a.conj, B a.odd, r0_11]) :: F) ∧ l = [(0, .pointer (some ⟨b, 6, none⟩)), (3, Q p), (10, B A)]) ?_ ?_
  ·clear f
   refine W.region (va (.pointer (some ⟨p, 0 + 1, none⟩)) (vx (l1 underlying4 ((mm M) 1 _ rfl)) ?_))
   rcases bo (e.Pict) with k | k
   ·have S := anT k x
    refine vb k (wn (va (.pointer (some ⟨b, 6, none⟩)) (wn (va (.pointer (some ⟨b, 6, none⟩)) (wn (va (.pointer (some ⟨b, 8, none⟩)) (wn (vx (le1 8 underlying3 (n.on 0 rfl)) (wn (va (B (a.pict == 2)) ?_))))))))))
    obtain rfl := si S
    exact va (B (a.pict == 2)) (va (B (a.pict == 2)) (wln ⟨o, _, _, rfl, pt, us, n, rfl⟩))
   obtain rfl := anF k x
   exact vb k (ps (ps (ps (ps (ps (va (B false) (va (B false) (wln ⟨o, _, _, rfl, pt, us, n, rfl⟩))))))))
  rintro E N ⟨Z, v0, _, rfl, z0, rfl, U, rfl⟩
  refine nrm ?_
  obtain rfl := si f
  exact ⟨Z, _, _, rfl, pt, us, U, rfl⟩
 rintro E N ⟨a0, w0, _, rfl, a1, rfl, t, rfl⟩
 refine cn d (fun f0 d => ?_) (fun f0 d => ?_)
 ·refine sr (va (B true) (wln (W.ret (bkr (thr ?_)))))
  obtain rfl := si d
  exact r1 ⟨_, a0, rfl, rfl, pt, t, rfl⟩
 refine W.skip (bkn (nrm (W.seq (W.seq (rD [] (Kp G0 [(Eb b 158 [r0_0, r0_1, r0_2, r0_3, r0_4, r0_5, B a.some, I a.last, I a.pict, I a.conj, B a.odd, r0_11])]) t ?_)))))
 intro b0 c1 u
 have l0 : Kp G0 [(Eb b 158 [r0_0, r0_1, r0_2, r0_3, r0_4, r0_5, B a.some, I a.last, I a.pict, I a.conj, B a.odd, r0_11])] b0 := (Kp.cons (u.on 0 rfl) Kp.nil0)
 refine ta 0 (.pointer (some ⟨b, 6, none⟩)) (ta 1 (.pointer (some ⟨b, 6, none⟩)) (ta 2 (.pointer (some ⟨b, 7, none⟩)) (tkx 3 l0 (fun c' k0 hk => le1 7 underlying3 (hk.on 0 rfl)) (ta 4 (Q p) (tx 5 (fun c' k0 => l1 underlying3 ((mm M) 0 _ rfl)) (bn d fun i g0 d => o1 6 (gc 6 (c_pairs_Join u a.last e.Break g0) ?_)))))))
 rintro v44 h d1 ⟨g, rfl⟩
 have m0 : Kp G0 [(Eb b 158 [r0_0, r0_1, r0_2, r0_3, r0_4, r0_5, B a.some, I a.last, I a.pict, I a.conj, B a.odd, r0_11])] h := (Kp.cons (g.on 0 rfl) Kp.nil0)
 refine ⟨.inr m0, dn (nrm (W.block (sr (va (B (i == 1)) (va (B (i == 1)) (wln (cn d (fun h0 d => ?_) (fun h0 d => ?_))))))))⟩
 ·refine sr (va (B true) (wln (W.ret (bkr (thr ?_)))))
  obtain rfl := si d
  exact r1 ⟨_, h, rfl, rfl, pt, g, rfl⟩
 refine sr (va (B (i == 2)) (va (B (i == 2)) (wln (cn d (fun i0 d => ?_) (fun i0 d => ?_)))))
 ·refine W.seq (bn d fun D y d => W.join (Jn h fun c l => Own c G ((Eb b 158 [r0_0, r0_1, r0_2, r0_3, r0_4, r0_5, B a.some, I a.last, I a.pict, I a.conj, B a.odd, r0_11]) :: F) ∧ l = [(4, B D)]) ?_ ?_)
  ·clear d
   refine W.region (va (.pointer (some ⟨b, 6, none⟩)) (va (.pointer (some ⟨b, 6, none⟩)) (va (.pointer (some ⟨b, 7, none⟩)) (vx (le1 7 underlying3 (g.on 0 rfl)) (va (B (a.last == 6)) ?_)))))
   rcases bo (a.last == 6) with m | m
   ·have T := anT m y
    refine vb m (wn (va (.pointer (some ⟨b, 6, none⟩)) (wn (va (.pointer (some ⟨b, 6, none⟩)) (wn (va (.pointer (some ⟨b, 10, none⟩)) (wn (vx (le1 10 underlying4 (g.on 0 rfl)) ?_))))))))
    obtain rfl := si T
    exact va (B a.odd) (va (B a.odd) (wln ⟨h, _, _, rfl, pt, us, g, rfl⟩))
   obtain rfl := anF m y
   exact vb m (ps (ps (ps (ps (va (B false) (va (B false) (wln ⟨h, _, _, rfl, pt, us, g, rfl⟩)))))))
  rintro E N ⟨d0, x0, _, rfl, e1, rfl, X, rfl⟩
  refine nrm (W.ret (bkr (thr ?_)))
  obtain rfl := si d
  exact r1 ⟨_, d0, rfl, rfl, pt, X, rfl⟩
 refine W.skip (bkn (nrm (sr (va (B false) (wln (W.ret ?_))))))
 obtain rfl := si d
 exact r1 ⟨_, h, rfl, rfl, pt, g, rfl⟩
def f_seg_State_picture__feed_Feeder_6 (p0 : G_seg_State) (p1 : G_api_Prop) : Option (Int) :=
 if p1.Pict = true then
 some 1
 else
 (andE (p0.pict == 1) (some (p1.Break == 4))).bind fun a =>
 if a = true then
 some 1
 else
 (andE (p0.pict == 1) (some (p1.Break == 5))).bind fun b =>
 if b = true then
 some 2
 else
 some 0
theorem c_seg_State_picture__feed_Feeder_6 {b : Nat} {r0_0 : Value} {r0_1 : Value} {r0_2 : Value} {r0_3 : Value} {r0_4 : Value} {r0_5 : Value} {r0_11 : Value} (a : G_seg_State) (d : G_api_Prop) (A : Own c0 G ((Eb b 158 [r0_0, r0_1, r0_2, r0_3, r0_4, r0_5, B a.some, I a.last, I a.pict, I a.conj, B a.odd, r0_11]) :: F)) {r : Int} (H : f_seg_State_picture__feed_Feeder_6 a d = some r) :
    Calls prog 232 #[.pointer (some ⟨b, 6, none⟩), .agg #[I d.Break, B d.Pict, I d.Conj, I d.East]] c0.w (Post c0 fun c v => Own c G ((Eb b 158 [r0_0, r0_1, r0_2, r0_3, r0_4, r0_5, B a.some, I a.last, I a.pict, I a.conj, B a.odd, r0_11]) :: F) ∧ v = I r) := by
 unfold f_seg_State_picture__feed_Feeder_6 at H
 refine en func232 rfl rfl (sr (me (bx 33 [I d.Break, B d.Pict, I d.Conj, I d.East] A) ?_))
 rintro v5 k T ⟨j, rfl, i, s⟩
 refine va (I 0) (wln (W.seq (W.block (sr (va (.pointer (some ⟨j, 0 + 1, none⟩)) (vx (l1 underlying4 (s 1 _ rfl)) (va (B d.Pict) (wln (cn H (fun E H => ?_) (fun E H => ?_))))))))))
 ·refine sr (va (I 1) (wln (W.ret (bkr (thr ?_)))))
  obtain rfl := si H
  exact r1 ⟨_, k, rfl, rfl, pt, i, rfl⟩
 refine W.seq (bn H fun p y H => W.join (Jn k fun c l => Own c G ((Eb b 158 [r0_0, r0_1, r0_2, r0_3, r0_4, r0_5, B a.some, I a.last, I a.pict, I a.conj, B a.odd, r0_11]) :: F) ∧ l = [(0, .pointer (some ⟨b, 6, none⟩)), (3, Q j), (8, B p)]) ?_ ?_)
 ·clear H
  refine W.region (va (.pointer (some ⟨b, 6, none⟩)) (va (.pointer (some ⟨b, 6, none⟩)) (va (.pointer (some ⟨b, 8, none⟩)) (vx (le1 8 underlying3 (i.on 0 rfl)) (va (B (a.pict == 1)) ?_)))))
  rcases bo (a.pict == 1) with h | h
  ·have z := anT h y
   refine vb h (wn (va (Q j) (wn (vx (l1 underlying3 (s 0 _ rfl)) (wn (va (B (d.Break == 4)) ?_))))))
   obtain rfl := si z
   exact va (B (d.Break == 4)) (va (B (d.Break == 4)) (wln ⟨k, _, _, rfl, pt, us, i, rfl⟩))
  obtain rfl := anF h y
  exact vb h (ps (ps (ps (va (B false) (va (B false) (wln ⟨k, _, _, rfl, pt, us, i, rfl⟩))))))
 rintro D M ⟨g, N, _, rfl, R, rfl, f, rfl⟩
 refine nrm (cn H (fun u H => ?_) (fun u H => ?_))
 ·refine sr (va (I 1) (wln (W.ret (bkr (thr ?_)))))
  obtain rfl := si H
  exact r1 ⟨_, g, rfl, rfl, pt, f, rfl⟩
 refine W.seq (bn H fun q o H => W.join (Jn g fun c l => Own c G ((Eb b 158 [r0_0, r0_1, r0_2, r0_3, r0_4, r0_5, B a.some, I a.last, I a.pict, I a.conj, B a.odd, r0_11]) :: F) ∧ l = [(19, B q)]) ?_ ?_)
 ·clear H
  refine W.region (va (.pointer (some ⟨b, 6, none⟩)) (va (.pointer (some ⟨b, 6, none⟩)) (va (.pointer (some ⟨b, 8, none⟩)) (vx (le1 8 underlying3 (f.on 0 rfl)) (va (B (a.pict == 1)) ?_)))))
  rcases bo (a.pict == 1) with e | e
  ·have t := anT e o
   refine vb e (wn (va (Q j) (wn (vx (l1 underlying3 ((mm s) 0 _ rfl)) (wn (va (B (d.Break == 5)) ?_))))))
   obtain rfl := si t
   exact va (B (d.Break == 5)) (va (B (d.Break == 5)) (wln ⟨g, _, _, rfl, pt, us, f, rfl⟩))
  obtain rfl := anF e o
  exact vb e (ps (ps (ps (va (B false) (va (B false) (wln ⟨g, _, _, rfl, pt, us, f, rfl⟩))))))
 rintro D M ⟨n, P, _, rfl, S, rfl, m, rfl⟩
 refine nrm (cn H (fun x H => ?_) (fun x H => ?_))
 ·refine sr (va (I 2) (wln (W.ret (bkr (thr ?_)))))
  obtain rfl := si H
  exact r1 ⟨_, n, rfl, rfl, pt, m, rfl⟩
 refine W.skip (bkn (nrm (sr (va (I 0) (wln (W.ret ?_))))))
 obtain rfl := si H
 exact r1 ⟨_, n, rfl, rfl, pt, m, rfl⟩
def f_seg_State_conjunct__feed_Feeder_6 (p0 : G_seg_State) (p1 : G_api_Prop) : Option (Int) :=
 if (p1.Conj == 1) = true then
 some 1
 else
 if (p0.conj == 0) = true then
 some 0
 else
 if (p1.Conj == 2) = true then
 some 2
 else
 if (p1.Conj == 3) = true then
 some p0.conj
 else
 some 0
theorem c_seg_State_conjunct__feed_Feeder_6 {b : Nat} {r0_0 : Value} {r0_1 : Value} {r0_2 : Value} {r0_3 : Value} {r0_4 : Value} {r0_5 : Value} {r0_11 : Value} (d : G_seg_State) (a : G_api_Prop) (i : Own c0 G ((Eb b 158 [r0_0, r0_1, r0_2, r0_3, r0_4, r0_5, B d.some, I d.last, I d.pict, I d.conj, B d.odd, r0_11]) :: F)) {r : Int} (H : f_seg_State_conjunct__feed_Feeder_6 d a = some r) :
    Calls prog 233 #[.pointer (some ⟨b, 6, none⟩), .agg #[I a.Break, B a.Pict, I a.Conj, I a.East]] c0.w (Post c0 fun c v => Own c G ((Eb b 158 [r0_0, r0_1, r0_2, r0_3, r0_4, r0_5, B d.some, I d.last, I d.pict, I d.conj, B d.odd, r0_11]) :: F) ∧ v = I r) := by
 unfold f_seg_State_conjunct__feed_Feeder_6 at H
 refine en func233 rfl rfl (sr (me (bx 33 [I a.Break, B a.Pict, I a.Conj, I a.East] i) ?_))
 rintro v5 f n ⟨g, rfl, e, h⟩
 refine va (I 0) (wln (W.seq (W.block (sr (va (.pointer (some ⟨g, 0 + 2, none⟩)) (vx (l1 underlying3 (h 2 _ rfl)) (va (B (a.Conj == 1)) (va (B (a.Conj == 1)) (wln (cn H (fun j H => ?_) (fun j H => ?_)))))))))))
 ·refine sr (va (I 1) (wln (W.ret (bkr (thr ?_)))))
  obtain rfl := si H
  exact r1 ⟨_, f, rfl, rfl, pt, e, rfl⟩
 refine sr (va (.pointer (some ⟨b, 6, none⟩)) (va (.pointer (some ⟨b, 6, none⟩)) (va (.pointer (some ⟨b, 9, none⟩)) (vx (le1 9 underlying3 (e.on 0 rfl)) (va (B (d.conj == 0)) (va (B (d.conj == 0)) (wln (cn H (fun k H => ?_) (fun k H => ?_)))))))))
 ·refine sr (va (I 0) (wln (W.ret (bkr (thr ?_)))))
  obtain rfl := si H
  exact r1 ⟨_, f, rfl, rfl, pt, e, rfl⟩
 refine sr (va (.pointer (some ⟨g, 0 + 2, none⟩)) (vx (l1 underlying3 (h 2 _ rfl)) (va (B (a.Conj == 2)) (va (B (a.Conj == 2)) (wln (cn H (fun l H => ?_) (fun l H => ?_)))))))
 ·refine sr (va (I 2) (wln (W.ret (bkr (thr ?_)))))
  obtain rfl := si H
  exact r1 ⟨_, f, rfl, rfl, pt, e, rfl⟩
 refine sr (va (.pointer (some ⟨g, 0 + 2, none⟩)) (vx (l1 underlying3 (h 2 _ rfl)) (va (B (a.Conj == 3)) (va (B (a.Conj == 3)) (wln (cn H (fun m H => ?_) (fun m H => ?_)))))))
 ·refine sr (va (.pointer (some ⟨b, 6, none⟩)) (va (.pointer (some ⟨b, 6, none⟩)) (va (.pointer (some ⟨b, 9, none⟩)) (vx (le1 9 underlying3 (e.on 0 rfl)) (va (I d.conj) (wln (W.ret (bkr (thr ?_)))))))))
  obtain rfl := si H
  exact r1 ⟨_, f, rfl, rfl, pt, e, rfl⟩
 refine W.skip (bkn (nrm (sr (va (I 0) (wln (W.ret ?_))))))
 obtain rfl := si H
 exact r1 ⟨_, f, rfl, rfl, pt, e, rfl⟩
def f_seg_State_Step__feed_Feeder_6 (p0 : G_seg_State) (p1 : G_api_Prop) : Option (G_seg_State × Bool) :=
 if false = true then
 some (p0, false)
 else
 (f_seg_State_joins__feed_Feeder_6 p0 p1).bind fun d =>
 (f_seg_State_picture__feed_Feeder_6 p0 p1).bind fun e =>
 (f_seg_State_conjunct__feed_Feeder_6 p0 p1).bind fun f =>
 (andE (p1.Break == 6) ((andE p0.some (some (p0.last == 6))).bind fun b =>
 (andE b (some p0.odd)).bind fun c =>
 some (!c))).bind fun a =>
 some ((⟨true, p1.Break, e, f, a⟩ : G_seg_State), d)
theorem c_seg_State_Step__feed_Feeder_6 {a : Nat} {r0_0 : Value} {r0_1 : Value} {r0_2 : Value} {r0_3 : Value} {r0_4 : Value} {r0_5 : Value} {r0_11 : Value} (b : G_seg_State) (f : G_api_Prop) (O0 : Own c0 G ((Eb a 158 [r0_0, r0_1, r0_2, r0_3, r0_4, r0_5, B b.some, I b.last, I b.pict, I b.conj, B b.odd, r0_11]) :: F)) {r : G_seg_State × Bool} (H : f_seg_State_Step__feed_Feeder_6 b f = some r) :
    Calls prog 183 #[.pointer (some ⟨a, 6, none⟩), .agg #[I f.Break, B f.Pict, I f.Conj, I f.East]] c0.w (Post c0 fun c v => Own c G ((Eb a 158 [r0_0, r0_1, r0_2, r0_3, r0_4, r0_5, B r.1.some, I r.1.last, I r.1.pict, I r.1.conj, B r.1.odd, r0_11]) :: F) ∧ v = B r.2) := by
 unfold f_seg_State_Step__feed_Feeder_6 at H
 refine en func183 rfl rfl (sr (me (bx 33 [I f.Break, B f.Pict, I f.Conj, I f.East] O0) ?_))
 rintro v5 c4 l4 ⟨A, rfl, O2, o⟩
 refine va (B false) (wln (W.seq (sr (va (.pointer (some ⟨a, 6, none⟩)) (va (B false) (wln (W.cond (t := false) (by kernel_rfl) (fun E => ?_) (fun E => ?_))))))))
 ·cases E
 have H := ie E H
 refine W.skip (nrm (sr (va (.pointer (some ⟨a, 6, none⟩)) (vx (lN 33 o) (bn H fun i h8 H => cl (c_seg_State_joins__feed_Feeder_6 b f O2 h8) ?_)))))
 rintro v14 j1 n1 ⟨P, rfl⟩
 refine va (B i) (wln (W.seq (rD [] (Kp G0 []) P ?_)))
 intro i0 q1 R
 have e2 : Kp G0 [] i0 := Kp.nil0
 refine ta 0 (.pointer (some ⟨a, 6, none⟩)) (ta 1 (.pointer (some ⟨a, 6, none⟩)) (ta 2 (.pointer (some ⟨a, 6, none⟩)) (tx 3 (fun c' z => lN 33 (mm o)) (ta 5 (.pointer (some ⟨a, 6, none⟩)) (tx 6 (fun c' z => lN 33 (mm o)) (bn H fun d v0 H => o1 4 (gc 4 (c_seg_State_picture__feed_Feeder_6 b f R v0) ?_)))))))
 rintro v25 j0 s1 ⟨S, rfl⟩
 have y0 : Kp G0 [] j0 := Kp.nil0
 refine ⟨.inr y0, bn H fun e w0 H => o1 7 (gc 7 (c_seg_State_conjunct__feed_Feeder_6 b f S w0) ?_)⟩
 rintro v34 k0 t1 ⟨T, rfl⟩
 have z0 : Kp G0 [] k0 := Kp.nil0
 refine ⟨.inr z0, ta 8 (.pointer (some ⟨a, 6, none⟩)) (ta 9 (.pointer (some ⟨a, 8, none⟩)) (o1 10 (gD 10 (sC 3 8 (I d) [r0_0, r0_1, r0_2, r0_3, r0_4, r0_5, B b.some, I b.last, I d, I b.conj, B b.odd, r0_11] 0 T ⟨rfl, trivial⟩) ?_)))⟩
 rintro l0 u1 U
 have a1 : Kp G0 [] l0 := Kp.nil0
 refine ⟨.inr a1, ta 11 (.pointer (some ⟨a, 6, none⟩)) (ta 12 (.pointer (some ⟨a, 9, none⟩)) (o1 13 (gD 13 (sC 3 9 (I e) [r0_0, r0_1, r0_2, r0_3, r0_4, r0_5, B b.some, I b.last, I d, I e, B b.odd, r0_11] 0 U ⟨rfl, trivial⟩) ?_)))⟩
 rintro p v1 h
 have c1 : Kp G0 [] p := Kp.nil0
 refine ⟨.inr c1, dn (nrm (W.seq (bn H fun n s H => W.join (Jn p fun c l => Own c G ((Eb a 158 [r0_0, r0_1, r0_2, r0_3, r0_4, r0_5, B b.some, I b.last, I d, I e, B n, r0_11]) :: F) ∧ l = [(0, .pointer (some ⟨a, 6, none⟩)), (3, Q A), (5, B i)]) ?_ ?_)))⟩
 ·clear H
  refine W.region (va (.pointer (some ⟨a, 6, none⟩)) (va (Q A) (vx (l1 underlying3 ((mm o) 0 _ rfl)) (va (B (f.Break == 6)) ?_))))
  rcases bo (f.Break == 6) with j | j
  ·have g := anT j s
   refine vb j (wn (va (.pointer (some ⟨a, 6, none⟩)) (wn (va (.pointer (some ⟨a, 6, none⟩)) (wn (va (.pointer (some ⟨a, 6, none⟩)) (wn (vx (le1 6 underlying4 (h.on 0 rfl)) (wn (bn g fun h1 u g => ?_))))))))))
   rcases bo (b.some) with k | k
   ·have M := anT k u
    refine vb k (wn (va (.pointer (some ⟨a, 6, none⟩)) (wn (va (.pointer (some ⟨a, 6, none⟩)) (wn (va (.pointer (some ⟨a, 7, none⟩)) (wn (vx (le1 7 underlying3 (h.on 0 rfl)) (wn (va (B (b.last == 6)) (wn ?_)))))))))))
    obtain rfl := si M
    refine va (B (b.last == 6)) (wn (bn g fun D x g => ?_))
    rcases bo (b.last == 6) with m | m
    ·have N := anT m x
     refine vb m (wn (va (.pointer (some ⟨a, 6, none⟩)) (wn (va (.pointer (some ⟨a, 6, none⟩)) (wn (va (.pointer (some ⟨a, 10, none⟩)) (wn (vx (le1 10 underlying4 (h.on 0 rfl)) (wn ?_)))))))))
     obtain rfl := si N
     refine va (B b.odd) (wn (va (B (!b.odd)) ?_))
     obtain rfl := si g
     refine va (B (!b.odd)) (va (.pointer (some ⟨a, 6, none⟩)) (va (.pointer (some ⟨a, 10, none⟩)) (md (sC 4 10 (B (!b.odd)) [r0_0, r0_1, r0_2, r0_3, r0_4, r0_5, B b.some, I b.last, I d, I e, B (!b.odd), r0_11] 0 h ⟨rfl, trivial⟩) ?_)))
     rintro m0 w1 X
     exact wln ⟨m0, _, _, rfl, pt, us, X, rfl⟩
    obtain rfl := anF m x
    refine vb m (ps (ps (ps (ps (wn (va (B false) (wn (va (B (!false)) ?_))))))))
    obtain rfl := si g
    refine va (B (!false)) (va (.pointer (some ⟨a, 6, none⟩)) (va (.pointer (some ⟨a, 10, none⟩)) (md (sC 4 10 (B (!false)) [r0_0, r0_1, r0_2, r0_3, r0_4, r0_5, B b.some, I b.last, I d, I e, B (!false), r0_11] 0 h ⟨rfl, trivial⟩) ?_)))
    rintro o0 x1 Z
    exact wln ⟨o0, _, _, rfl, pt, us, Z, rfl⟩
   obtain rfl := anF k u
   refine vb k (ps (ps (ps (ps (ps (wn (va (B false) (wn (bn g fun D x0 g => ?_)))))))))
   have y : false = false := rfl
   obtain rfl := anF y x0
   refine vb y (ps (ps (ps (ps (wn (va (B false) (wn (va (B (!false)) ?_))))))))
   obtain rfl := si g
   refine va (B (!false)) (va (.pointer (some ⟨a, 6, none⟩)) (va (.pointer (some ⟨a, 10, none⟩)) (md (sC 4 10 (B (!false)) [r0_0, r0_1, r0_2, r0_3, r0_4, r0_5, B b.some, I b.last, I d, I e, B (!false), r0_11] 0 h ⟨rfl, trivial⟩) ?_)))
   rintro q0 y1 a0
   exact wln ⟨q0, _, _, rfl, pt, us, a0, rfl⟩
  obtain rfl := anF j s
  refine vb j (ps (ps (ps (ps (ps (ps (ps (ps (ps (ps (ps (ps (ps (ps (ps (ps (ps (ps (va (B false) (va (.pointer (some ⟨a, 6, none⟩)) (va (.pointer (some ⟨a, 10, none⟩)) (md (sC 4 10 (B false) [r0_0, r0_1, r0_2, r0_3, r0_4, r0_5, B b.some, I b.last, I d, I e, B false, r0_11] 0 h ⟨rfl, trivial⟩) ?_))))))))))))))))))))))
  rintro s0 z1 b0
  exact wln ⟨s0, _, _, rfl, pt, us, b0, rfl⟩
 rintro e_ w_ ⟨k1, m1, _, rfl, a2, rfl, d0, rfl⟩
 refine nrm (W.seq (rD [] (Kp G0 []) d0 ?_))
 intro t0 b2 e0
 have f2 : Kp G0 [] t0 := Kp.nil0
 refine ta 0 (.pointer (some ⟨a, 6, none⟩)) (ta 1 (.pointer (some ⟨a, 6, none⟩)) (ta 2 (Q A) (tx 3 (fun c' z => l1 underlying3 ((mm o) 0 _ rfl)) (ta 4 (.pointer (some ⟨a, 6, none⟩)) (ta 5 (.pointer (some ⟨a, 6, none⟩)) (o1 6 (gD 6 (sC 4 6 (B true) [r0_0, r0_1, r0_2, r0_3, r0_4, r0_5, B true, I b.last, I d, I e, B n, r0_11] 0 e0 ⟨rfl, trivial⟩) ?_)))))))
 rintro u0 c2 f0
 have d1 : Kp G0 [] u0 := Kp.nil0
 refine ⟨.inr d1, ta 7 (.pointer (some ⟨a, 6, none⟩)) (ta 8 (.pointer (some ⟨a, 7, none⟩)) (o1 9 (gD 9 (sC 3 7 (I f.Break) [r0_0, r0_1, r0_2, r0_3, r0_4, r0_5, B true, I f.Break, I d, I e, B n, r0_11] 0 f0 ⟨rfl, trivial⟩) ?_)))⟩
 rintro q d2 g0
 have e1 : Kp G0 [] q := Kp.nil0
 refine ⟨.inr e1, dn (nrm (sr (va (B i) (va (B i) (wln (W.ret ?_))))))⟩
 obtain rfl := si H
 exact r1 ⟨_, q, rfl, rfl, pt, g0, rfl⟩
def f_seg_State_Reset__feed_Feeder_6 (p0 : G_seg_State) : Option (G_seg_State) :=
 if true = true then
 some (⟨false, 0, 0, 0, false⟩ : G_seg_State)
 else
 some p0
theorem c_seg_State_Reset__feed_Feeder_6 {a : Nat} {r0_0 : Value} {r0_1 : Value} {r0_2 : Value} {r0_3 : Value} {r0_4 : Value} {r0_5 : Value} {r0_11 : Value} (b : G_seg_State) (e : Own c0 G ((Eb a 158 [r0_0, r0_1, r0_2, r0_3, r0_4, r0_5, B b.some, I b.last, I b.pict, I b.conj, B b.odd, r0_11]) :: F)) {r : G_seg_State} (H : f_seg_State_Reset__feed_Feeder_6 b = some r) :
    Calls prog 111 #[.pointer (some ⟨a, 6, none⟩)] c0.w (Post c0 fun c v => Own c G ((Eb a 158 [r0_0, r0_1, r0_2, r0_3, r0_4, r0_5, B r.some, I r.last, I r.pict, I r.conj, B r.odd, r0_11]) :: F) ∧ v = .tuple #[]) := by
 unfold f_seg_State_Reset__feed_Feeder_6 at H
 refine en func111 rfl rfl (sr (va (.pointer (some ⟨a, 6, none⟩)) (va (B true) (wln (W.cond (t := true) (by kernel_rfl) (fun d => ?_) (fun d => ?_))))))
 ·have H := it d H
  refine W.region (va (.pointer (some ⟨a, 6, none⟩)) (va (.agg #[B false, I 0, I 0, I 0, B false]) (va (.pointer (some ⟨a, 6, none⟩)) (md (sB 156 6 [B false, I 0, I 0, I 0, B false] [r0_0, r0_1, r0_2, r0_3, r0_4, r0_5, B false, I 0, I 0, I 0, B false, r0_11] 0 e ⟨rfl, rfl, rfl, rfl, rfl, trivial⟩) ?_))))
  rintro g h f
  refine WL.nil ?_
  obtain rfl := si H
  exact n0 ⟨_, g, rfl, rfl, pt, f, rfl⟩
 cases d
def f_feed_Feeder_Close (sg : Sto) (p0 : Option Nat) : Option (Sto) :=
 if (!p0.isNone) = true then
 (p0).bind fun c =>
 (sg.feed_Feeder[c]?).bind fun a =>
 (sg.set_feed_Feeder c (⟨a.pen, a.dec, a.seg, (none : Option Nat)⟩ : G_feed_Feeder)).bind fun d =>
 (f_seg_State_Reset__feed_Feeder_6 a.seg).bind fun e =>
 (d.set_feed_Feeder c (⟨a.pen, a.dec, e, (none : Option Nat)⟩ : G_feed_Feeder)).bind fun b =>
 some b
 else
 some sg
theorem c_feed_Feeder_Close (n : Own c0 G F) (i : Rel c0 sg G) (k : Option Nat) {r : Sto} (M : Pt 4 c0 v1 k) (H : f_feed_Feeder_Close sg k = some r) :
    Calls prog 40 #[v1] c0.w (Post c0 fun c v => ∃ G_ : Gm, Own c G_ (F) ∧ Rel c r G_ ∧ v = .tuple #[]) := by
 unfold f_feed_Feeder_Close at H
 refine en func40 rfl rfl (sr (va (v1) (vr (B (!k.isNone)) (by rcases (M).cs with ⟨f, g⟩ | ⟨b_, f, g⟩ <;> (subst f; rw [g]; kernel_rfl)) (wln (cn H (fun T H => ?_) (fun T H => ?_))))))
 ·refine sr (va (v1) (bn H fun g0 U H => ?_))
  obtain ⟨d, rfl, j⟩ := (M).get U
  refine va (Q d) (va (.pointer (some ⟨d, 11, none⟩)) (bn H fun a X H => ?_))
  obtain ⟨v8, v10, A, R, e0⟩ := Rel.open_feed_Feeder i X j
  refine md (gC 44 11 (.pointer none) [v8, I a.dec.held, I a.dec.needs, .int .u8 a.dec.lo, .int .u8 a.dec.hi, I a.dec.bits, B a.seg.some, I a.seg.last, I a.seg.pict, I a.seg.conj, B a.seg.odd, .pointer none] 0 n A ⟨rfl, trivial⟩) ?_
  rintro d0 e o
  refine bn H fun S E H => ?_
  obtain ⟨Z, p, x, D, a0⟩ := Rel.put_feed_Feeder o (i.mono e) (E' := [(Eb d 158 [v8, I a.dec.held, I a.dec.needs, .int .u8 a.dec.lo, .int .u8 a.dec.hi, I a.dec.bits, B a.seg.some, I a.seg.last, I a.seg.pict, I a.seg.conj, B a.seg.odd, .pointer none])]) E ⟨d, v8, (.pointer none), (tm j), rfl, (R.mono e), rfl⟩
  refine wln (W.region (va (Q d) (va (Q d) (va (.pointer (some ⟨d, 6, none⟩)) ?_))))
  have q := p.borrow 0 D rfl
  refine bn H fun b N H => cl (c_seg_State_Reset__feed_Feeder_6 a.seg q N) ?_
  rintro v29 z h ⟨s, rfl⟩
  have t := s.giveB 0 rfl
  refine bn H fun l P H => ?_
  obtain ⟨m, u, y, f0, b0⟩ := Rel.put_feed_Feeder t (x.mono h) (E' := [(Eb d 158 [v8, I a.dec.held, I a.dec.needs, .int .u8 a.dec.lo, .int .u8 a.dec.hi, I a.dec.bits, B b.some, I b.last, I b.pict, I b.conj, B b.odd, .pointer none])]) P ⟨d, v8, (.pointer none), (tm j), rfl, (R.mono (e.trans h)), rfl⟩
  refine WL.nil ?_
  obtain rfl := si H
  exact n0 ⟨_, z, rfl, rfl, pt, m, u, y, rfl⟩
 refine W.skip ?_
 obtain rfl := si H
 exact n0 ⟨_, c0, rfl, rfl, pt, G, n, i, rfl⟩
def f_feed_Feeder_comes (sg : Sto) (p0 : Option Nat) (p1 : Int) : Option (Sto) :=
 (f_basew_Silent p1).bind fun s =>
 if s = true then
 (f_feed_Feeder_Close sg p0).bind fun k =>
 (p0).bind fun r =>
 (k.feed_Feeder[r]?).bind fun n =>
 (f_ctrl_Do k n.pen p1).bind fun p =>
 some p.1
 else
 (f_ucd_Of p1).bind fun e =>
 (p0).bind fun h =>
 (sg.feed_Feeder[h]?).bind fun a =>
 (f_seg_State_Step__feed_Feeder_6 a.seg e).bind fun j =>
 (sg.set_feed_Feeder h (⟨a.pen, a.dec, j.1, a.open_⟩ : G_feed_Feeder)).bind fun b =>
 (andE j.2 (some (!a.open_.isNone))).bind fun l =>
 if l = true then
 (p0).bind fun m =>
 (b.feed_Feeder[m]?).bind fun i =>
 (f_widen_Cluster_Join b i.open_ i.pen p1 e).bind fun q =>
 some q.1
 else
 (p0).bind fun c =>
 (b.feed_Feeder[c]?).bind fun o =>
 (f_widen_Begin b o.pen p1 e).bind fun f =>
 (f.1.feed_Feeder[c]?).bind fun d =>
 (f.1.set_feed_Feeder c (⟨d.pen, d.dec, d.seg, f.2⟩ : G_feed_Feeder)).bind fun g =>
 some g
theorem c_feed_Feeder_comes (O0 : Own c0 G F) (R0 : Rel c0 sg G) (hG : Gl [0, 4] c0) (p0 : Option Nat) (f : Int) {r : Sto} (U : Pt 4 c0 v1 p0) (H : f_feed_Feeder_comes sg p0 f = some r) :
    Calls prog 109 #[v1, J f] c0.w (Post c0 fun c v => ∃ G_ : Gm, Own c G_ (F) ∧ Rel c r G_ ∧ v = .tuple #[]) := by
 unfold f_feed_Feeder_comes at H
 refine en func109 rfl rfl (W.seq (sr (va (J f) (bn H fun e5 h3 H => cl (c_basew_Silent O0 f h3) ?_))))
 rintro v9 c8 N ⟨O5, rfl⟩
 refine wln (cn H (fun w2 H => ?_) (fun w2 H => ?_))
 ·refine sr (va (v1) (bn H fun f5 x2 H => cl (c_feed_Feeder_Close O5 R0.m p0 U.m x2) ?_))
  rintro v17 t4 l16 ⟨r4, g0, j0, rfl⟩
  refine wln (sr (va (v1) (bn H fun z4 z2 H => ?_)))
  obtain ⟨l0, rfl, y2⟩ := ((U.mono (N.trans l16))).get z2
  refine va (Q l0) (va (Q l0) (bn H fun z1 a3 H => ?_))
  obtain ⟨v22, v24, c3, b3, y4⟩ := Rel.open_feed_Feeder j0 a3 y2
  refine vx (le1 0 underlying40 (g0.gon c3 0 rfl)) (va (J f) (bn H fun o4 d3 H => cl (c_ctrl_Do g0 j0 z1.pen f b3 d3) ?_))
  rintro v33 s2 a5 ⟨d2, g2, q2, rfl⟩
  refine wln (W.ret (thr ?_))
  obtain rfl := si H
  exact r0 ⟨_, s2, rfl, rfl, pt, d2, g2, q2, rfl⟩
 refine W.skip (nrm (sr (va (J f) (bn H fun a e3 H => cl (c_ucd_Of O5 f e3) ?_))))
 rintro v40 u4 s ⟨i2, rfl⟩
 refine me (al 33 [I 0, B false, I 0, I 0] i2) ?_
 rintro v44 v4 t ⟨h, rfl, j2⟩
 refine md (sA 33 [I a.Break, B a.Pict, I a.Conj, I a.East] 0 j2 ⟨rfl, rfl, rfl, rfl, trivial⟩) ?_
 rintro t2 u k2
 refine wln (W.seq (W.seq (bn H fun e4 f3 H => bn H fun d g3 H => bn H fun g i3 H => bn H fun P j3 H => bn H fun k1 s0 H => W.join (Jn t2 fun c l => ∃ G_, Own c G_ ((Eb h 33 [I a.Break, B a.Pict, I a.Conj, I a.East]) :: F) ∧ l = [(0, v1), (1, J f), (4, Q h), (28, B k1)] ∧ Rel c P G_) ?_ ?_)))
 ·clear H
  refine rD [4, 9] (Kp G0 [(Eb h 33 [I a.Break, B a.Pict, I a.Conj, I a.East])]) k2 ?_
  intro u2 Z h0
  have v3 : Kp G0 [(Eb h 33 [I a.Break, B a.Pict, I a.Conj, I a.East])] u2 := (Kp.cons (h0.on 0 rfl) Kp.nil0)
  refine ta 0 (v1) ?_
  obtain ⟨j, rfl, t0⟩ := ((U.mono (N.trans (s.trans (t.trans (u.trans Z)))))).get f3
  refine ta 1 (Q j) (ta 2 (.pointer (some ⟨j, 6, none⟩)) (tkx 3 v3 (fun p i k => leN 33 0 [I a.Break, B a.Pict, I a.Conj, I a.East] (k.on 0 rfl)) ?_))
  obtain ⟨v57, v59, l3, k3, u0⟩ := Rel.open_feed_Feeder (R0.mono (N.trans (s.trans (t.trans (u.trans Z))))) g3 t0
  have m2 := h0.borrow 0 l3 rfl
  refine o1 4 (gc 4 (c_seg_State_Step__feed_Feeder_6 d.seg a m2 i3) ?_)
  rintro b5 m0 a0 ⟨n2, rfl⟩
  have o2 := n2.giveB 0 rfl
  obtain ⟨f0, R, k0, m3, s4⟩ := Rel.put_feed_Feeder o2 (R0.mono (N.trans (s.trans (t.trans (u.trans (Z.trans a0)))))) (E' := [(Eb j 158 [v57, I d.dec.held, I d.dec.needs, .int .u8 d.dec.lo, .int .u8 d.dec.hi, I d.dec.bits, B g.1.some, I g.1.last, I g.1.pict, I g.1.conj, B g.1.odd, v59])]) j3 ⟨j, v57, v59, (tm t0), rfl, (k3.mono a0), (u0.mono a0)⟩
  refine ⟨.inl rfl, ?_⟩
  rcases bo (g.2) with q | q
  ·have f2 := anT q s0
   refine AC.takeb 5 q rfl (by kernel_rfl) (by kernel_rfl) (fun p i => (by kernel_rfl)) (ta 6 (Q j) (ta 7 (Q j) (ta 8 (.pointer (some ⟨j, 11, none⟩)) (o1 9 (gl 9 (le1 11 underlying44 (R.gon m3 0 rfl)) (AC.take 10 (B (!d.open_.isNone)) rfl (by kernel_rfl) (by kernel_rfl) (fun p i => (by rcases u0.m.cs with ⟨o0, q0⟩ | ⟨b_, o0, q0⟩ <;> (subst o0; rw [q0]; kernel_rfl))) ?_))))))
   obtain rfl := si f2
   exact ta 11 (B (!d.open_.isNone)) (dn (nrm ⟨m0, _, _, rfl, pt, us, f0, R, rfl, k0⟩))
  obtain rfl := anF q s0
  exact AC.takeb 5 q rfl (by kernel_rfl) (by kernel_rfl) (fun p i => (by kernel_rfl)) (tp 6 (tp 7 (tp 8 (tp 9 (tp 10 (ta 11 (B false) (dn (nrm ⟨m0, _, _, rfl, pt, us, f0, R, rfl, k0⟩))))))))
 rintro e_ w_ ⟨w4, x4, _, rfl, w0, rfl, E, i0, rfl, M⟩
 refine nrm (cn H (fun n3 H => ?_) (fun n3 H => ?_))
 ·refine W.seq (rD [10] (Kp E [(Eb h 33 [I a.Break, B a.Pict, I a.Conj, I a.East])]) i0 ?_)
  intro v2 x0 S
  have e0 : Kp E [(Eb h 33 [I a.Break, B a.Pict, I a.Conj, I a.East])] v2 := (Kp.cons (S.on 0 rfl) (Kp.nil S))
  refine ta 0 (v1) (bn H fun f4 p3 H => ?_)
  obtain ⟨o, rfl, o3⟩ := ((U.mono (N.trans (s.trans (t.trans (u.trans (w0.trans x0))))))).get p3
  refine ta 1 (Q o) (ta 2 (.pointer (some ⟨o, 11, none⟩)) (bn H fun b0 q3 H => ?_))
  obtain ⟨c5, d5, v0, s3, t3⟩ := Rel.open_feed_Feeder (M.mono x0) q3 o3
  refine tkx 3 e0 (fun p i k => le1 11 underlying44 (k.gon v0 0 rfl)) (ta 4 (Q o) (ta 5 (Q o) (ta 6 (Q o) (tkx 7 e0 (fun p i k => le1 0 underlying40 (k.gon v0 0 rfl)) (ta 8 (J f) (tkx 9 e0 (fun p i k => leN 33 0 [I a.Break, B a.Pict, I a.Conj, I a.East] (k.on 0 rfl)) (bn H fun p4 u3 H => o1 10 (gc 10 (c_widen_Cluster_Join S M.m (hG.m.le (by decide)) b0.open_ b0.pen f a t3 s3 u3) ?_))))))))
  rintro j4 h1 h4 ⟨e2, p2, f1, rfl⟩
  refine ⟨.inl rfl, dn (nrm (W.ret (thr ?_)))⟩
  obtain rfl := si H
  have z0 := p2.sD 1 []
  exact r0 ⟨_, h1, rfl, rfl, pt, e2, z0, f1, rfl⟩
 refine W.skip (nrm (rD [7, 10] (Kp E [(Eb h 33 [I a.Break, B a.Pict, I a.Conj, I a.East])]) i0 ?_))
 intro i1 X x
 have d0 : Kp E [(Eb h 33 [I a.Break, B a.Pict, I a.Conj, I a.East])] i1 := (Kp.cons (x.on 0 rfl) (Kp.nil x))
 refine ta 0 (v1) (ta 1 (v1) (bn H fun g4 m1 H => ?_))
 obtain ⟨e, rfl, y⟩ := ((U.mono (N.trans (s.trans (t.trans (u.trans (w0.trans X))))))).get m1
 refine ta 2 (Q e) (ta 3 (Q e) (bn H fun a2 n1 H => ?_))
 obtain ⟨k4, l4, s1, q1, a4⟩ := Rel.open_feed_Feeder (M.mono X) n1 y
 refine tkx 4 d0 (fun p i k => le1 0 underlying40 (k.gon s1 0 rfl)) (ta 5 (J f) (tkx 6 d0 (fun p i k => leN 33 0 [I a.Break, B a.Pict, I a.Conj, I a.East] (k.on 0 rfl)) (bn H fun q4 t1 H => o1 7 (gc 7 (c_widen_Begin x M.m (hG.m.le (by decide)) a2.pen f a q1 t1) ?_))))
 rintro m4 z3 i4 ⟨_, w3, a1, T, rfl, z⟩
 refine ⟨.inl rfl, ta 8 (Q e) (ta 9 (.pointer (some ⟨e, 11, none⟩)) ?_)⟩
 obtain ⟨n, rfl⟩ := (z).form
 refine bn H fun b u1 H => ?_
 obtain ⟨D, n4, x1, w1, b4⟩ := Rel.open_feed_Feeder T u1 (tm y)
 refine o1 10 (gD 10 (gC 44 11 (.pointer n) [D, I b.dec.held, I b.dec.needs, .int .u8 b.dec.lo, .int .u8 b.dec.hi, I b.dec.bits, B b.seg.some, I b.seg.last, I b.seg.pict, I b.seg.conj, B b.seg.odd, .pointer n] 0 a1 x1 ⟨z.one, trivial⟩) ?_)
 rintro j1 A b1
 refine bn H fun c2 y1 H => ?_
 obtain ⟨y0, c1, g1, c4, y3⟩ := Rel.put_feed_Feeder b1 (T.mono A) (E' := [(Eb e 158 [D, I b.dec.held, I b.dec.needs, .int .u8 b.dec.lo, .int .u8 b.dec.hi, I b.dec.bits, B b.seg.some, I b.seg.last, I b.seg.pict, I b.seg.conj, B b.seg.odd, .pointer n])]) y1 ⟨e, D, (.pointer n), (tm y), rfl, (w1.mono A), (z.mono A)⟩
 refine ⟨.inl rfl, dn ?_⟩
 obtain rfl := si H
 have d1 := c1.sD 1 []
 exact n0 ⟨_, j1, rfl, rfl, pt, y0, d1, g1, rfl⟩
def f_feed_Feeder_all (sg : Sto) (p0 : Option Nat) (p1 : List Int) : Option (Sto) :=
 (iter (σ := Int × Sto) (τ := Sto) (((p1.length : Int) - 0).toNat + 1) (fun a =>
 if (decide (a.1 < (p1.length : Int))) = true then
 (idx p1 a.1).bind fun d =>
 (f_feed_Feeder_comes a.2 p0 d).bind fun b =>
 some (.inl ((w64 (a.1 + 1)), b))
 else
 some (.inr (a.2))) (0, sg)).bind fun c =>
 some c
theorem c_feed_Feeder_all (S : Own c0 G F) (T : Rel c0 sg G) (hG : Gl [0, 4] c0) (j : Option Nat) (d : List Int) {r : Sto} (Z : Pt 4 c0 v1 j) (h : Sl (RI .i32) c0 v3 d) (H : f_feed_Feeder_all sg j d = some r) :
    Calls prog 106 #[v1, v3] c0.w (Post c0 fun c v => ∃ G_ : Gm, Own c G_ (F) ∧ Rel c r G_ ∧ v = .tuple #[]) := by
 unfold f_feed_Feeder_all at H
 refine en func106 rfl rfl (sr (va (v3) (vx (ln 3 underlying27 h) (va (I 0) (wln (W.block (bn H fun i0 N p => lp N (fun a => Jn c0 fun c l => ∃ G_, Own c G_ (F) ∧ l = [(0, v1), (6, v3), (7, I (d.length : Int)), (8, I a.1)] ∧ Rel c a.2 G_) (fun i ex e w => ex = .exit 0 ∧ (Jn c0 fun c l => ∃ G_, Own c G_ (F) ∧ l = [] ∧ Rel c i G_) e w) ?_ ?_ ?_)))))))
 ·clear p N
  intro a j0 A R H
  revert A R
  rintro X w_ ⟨U, g8, _, rfl, l7, rfl, k, t, rfl, f⟩
  refine sr (va (B (decide (a.1 < (d.length : Int)))) (wln (W.seq (cn H (fun D H => ?_) (fun D H => ?_)))))
  ·refine W.skip (nrm (W.seq (W.block (sr (bn H fun b g H => ?_)))))
   obtain ⟨b0, E, P⟩ := Sl.at (h.mono l7) (idx_get g)
   obtain rfl := E
   refine vx (ix underlying27 h.m g) (vx (l1 underlying21 (P 0 _ rfl)) (va (J b) (wln (W.region (va (v1) (va (J b) (bn H fun e0 M H => cl (c_feed_Feeder_comes t f (hG.m.le (by decide)) j b Z.m M) ?_)))))))
   rintro v24 y g0 ⟨n, q, u, rfl⟩
   refine WL.nil (bkn (nrm (W.region (va (I (w64 (a.1 + 1))) (va (I (w64 (a.1 + 1))) (WL.nil ?_))))))
   obtain rfl := si H
   exact ⟨_, rfl, ⟨y, _, _, rfl, pt, us, n, q, rfl, u⟩⟩
  refine W.exit (thx ?_)
  obtain rfl := si H
  exact ⟨_, rfl, rfl, ⟨U, _, _, rfl, pt, us, k, t, rfl, f⟩⟩
 ·exact ⟨c0, _, _, rfl, pt, us, G, S, rfl, T⟩
 rintro _ X w_ ⟨rfl, z, f0, _, rfl, h0, rfl, o, s, rfl, x⟩
 refine bke ?_
 obtain rfl := si p
 exact n0 ⟨_, z, rfl, rfl, pt, o, s, x, rfl⟩
def f_utfdec_Dec_Held__feed_Feeder_1 (p0 : G_utfdec_Dec) : Option (Int) :=
 if false = true then
 some 0
 else
 some p0.held
theorem c_utfdec_Dec_Held__feed_Feeder_1 {b : Nat} {r0_0 : Value} {r0_6 : Value} {r0_7 : Value} {r0_8 : Value} {r0_9 : Value} {r0_10 : Value} {r0_11 : Value} (a : G_utfdec_Dec) (e : Own c0 G ((Eb b 158 [r0_0, I a.held, I a.needs, .int .u8 a.lo, .int .u8 a.hi, I a.bits, r0_6, r0_7, r0_8, r0_9, r0_10, r0_11]) :: F)) {r : Int} (H : f_utfdec_Dec_Held__feed_Feeder_1 a = some r) :
    Calls prog 112 #[.pointer (some ⟨b, 1, none⟩)] c0.w (Post c0 fun c v => Own c G ((Eb b 158 [r0_0, I a.held, I a.needs, .int .u8 a.lo, .int .u8 a.hi, I a.bits, r0_6, r0_7, r0_8, r0_9, r0_10, r0_11]) :: F) ∧ v = I r) := by
 unfold f_utfdec_Dec_Held__feed_Feeder_1 at H
 refine en func112 rfl rfl (sr (va (I 0) (wln (W.seq (sr (va (.pointer (some ⟨b, 1, none⟩)) (va (B false) (wln (W.cond (t := false) (by kernel_rfl) (fun d => ?_) (fun d => ?_))))))))))
 ·cases d
 have H := ie d H
 refine W.skip (nrm (sr (va (.pointer (some ⟨b, 1, none⟩)) (va (.pointer (some ⟨b, 1, none⟩)) (va (.pointer (some ⟨b, 1, none⟩)) (vx (le1 1 underlying3 (e.on 0 rfl)) (va (I a.held) (wln (W.ret ?_)))))))))
 obtain rfl := si H
 exact r1 ⟨_, c0, rfl, rfl, pt, e, rfl⟩
def f_utfdec_Dec_Flush__feed_Feeder_1 (p0 : G_utfdec_Dec) : Option (G_utfdec_Dec × (List Int)) :=
 (f_utfdec_Dec_Held__feed_Feeder_1 p0).bind fun a =>
 if (a == 0) = true then
 some (p0, ([] : List Int))
 else
 some ((⟨0, 0, 0, 0, 0⟩ : G_utfdec_Dec), ([65533] : List Int))
theorem c_utfdec_Dec_Flush__feed_Feeder_1 {a : Nat} {r0_0 : Value} {r0_6 : Value} {r0_7 : Value} {r0_8 : Value} {r0_9 : Value} {r0_10 : Value} {r0_11 : Value} (b : G_utfdec_Dec) (q : Own c0 G ((Eb a 158 [r0_0, I b.held, I b.needs, .int .u8 b.lo, .int .u8 b.hi, I b.bits, r0_6, r0_7, r0_8, r0_9, r0_10, r0_11]) :: F)) {r : G_utfdec_Dec × (List Int)} (H : f_utfdec_Dec_Flush__feed_Feeder_1 b = some r) :
    Calls prog 110 #[.pointer (some ⟨a, 1, none⟩)] c0.w (Post c0 fun c v => ∃ d p, Own c G (es true (RI .i32) d 21 p r.2 :: (Eb a 158 [r0_0, I r.1.held, I r.1.needs, .int .u8 r.1.lo, .int .u8 r.1.hi, I r.1.bits, r0_6, r0_7, r0_8, r0_9, r0_10, r0_11]) :: F) ∧ v = d ∧ OA (RI .i32) c d p r.2) := by
 unfold f_utfdec_Dec_Flush__feed_Feeder_1 at H
 refine en func110 rfl rfl (sr (va (Y) (wln (W.seq (sr (va (.pointer (some ⟨a, 1, none⟩)) (bn H fun o s H => cl (c_utfdec_Dec_Held__feed_Feeder_1 b q s) ?_)))))))
 rintro v8 k z ⟨i, rfl⟩
 refine va (B (o == 0)) (wln (cn H (fun t H => ?_) (fun t H => ?_)))
 ·refine sr (va (Y) (wln (W.ret (thr ?_))))
  obtain rfl := si H
  have l : OA (RI .i32) k (Y) [] [] := OA.nil (Nat.succ_pos _)
  have f := i.addHole (e := es true (RI .i32) (Y) 21 [] ([] : List Int)) rfl
  exact r1 ⟨_, k, rfl, rfl, pt, (Y), [], f, rfl, l⟩
 refine W.skip (nrm (sr (va (.pointer (some ⟨a, 1, none⟩)) (va (.agg #[I 0, I 0, .int .u8 0, .int .u8 0, I 0]) (va (.pointer (some ⟨a, 1, none⟩)) (md (sB 154 1 [I 0, I 0, .int .u8 0, .int .u8 0, I 0] [r0_0, I 0, I 0, .int .u8 0, .int .u8 0, I 0, r0_6, r0_7, r0_8, r0_9, r0_10, r0_11] 0 i ⟨rfl, rfl, rfl, rfl, rfl, trivial⟩) ?_))))))
 rintro u x g
 refine wln (sr (me (sl (RI .i32) 21 [[J 65533]] ([65533] : List Int) g ⟨rfl, trivial⟩) ?_))
 rintro v18 j y ⟨n, h, m⟩
 refine va (v18) (wln (W.ret ?_))
 obtain rfl := si H
 exact r1 ⟨_, j, rfl, rfl, pt, v18, n, h, rfl, m⟩
def f_octet_Lead (p0 : Int) : Option (Int) :=
 ((andE (decide (p0 ≥ 240)) (some (decide (p0 ≤ 244)))).bind fun a =>
 if a = true then
 some ((w64 ((w64 ((w64 ((w64 (0 + 1)) + 1)) + 1)) + 1)))
 else
 (andE (decide (p0 ≥ 224)) (some (decide (p0 < 240)))).bind fun b =>
 if b = true then
 some ((w64 ((w64 ((w64 (0 + 1)) + 1)) + 1)))
 else
 (andE (decide (p0 ≥ 194)) (some (decide (p0 < 224)))).bind fun c =>
 if c = true then
 some ((w64 ((w64 (0 + 1)) + 1)))
 else
 if (decide (p0 < 128)) = true then
 some ((w64 (0 + 1)))
 else
 some (0)).bind fun d =>
 some d
theorem c_octet_Lead (A : Own c0 G F) (a : Int) {r : Int} (H : f_octet_Lead a = some r) :
    Calls prog 222 #[.int .u8 a] c0.w (Post c0 fun c v => Own c G (F) ∧ v = I r) := by
 unfold f_octet_Lead at H
 refine en func222 rfl rfl (sr (va (I 0) (wln (sr (va (I 0) (wln (bn H fun k b T => W.seqJ (Jn c0 fun c l => Own c G (F) ∧ l = [(3, I k)]) ?_ ?_)))))))
 ·refine W.block (W.seq (W.block (W.seq (W.block (W.seq (W.block (W.seq (W.block (W.seq (W.seq (W.seq (bn b fun q P b => W.join (Jn c0 fun c l => Own c G (F) ∧ l = [(0, .int .u8 a), (3, I 0), (4, B q)]) ?_ ?_))))))))))))
  ·clear b
   refine W.region (va (.int .u8 a) (va (B (decide (a ≥ 240))) ?_))
   rcases bo (decide (a ≥ 240)) with j | j
   ·have U := anT j P
    refine vb j (wn (va (.int .u8 a) (wn (va (B (decide (a ≤ 244))) ?_))))
    obtain rfl := si U
    exact va (B (decide (a ≤ 244))) (va (B (decide (a ≤ 244))) (wln ⟨c0, _, _, rfl, pt, us, A, rfl⟩))
   obtain rfl := anF j P
   exact vb j (ps (ps (va (B false) (va (B false) (wln ⟨c0, _, _, rfl, pt, us, A, rfl⟩)))))
  rintro u x ⟨m, g7, _, rfl, l6, rfl, p, rfl⟩
  refine nrm (cn b (fun M b => ?_) (fun M b => ?_))
  ·refine W.exit (thx (thx (bke (nrm (W.region (va (I 0) (va (I (w64 (0 + 1))) (va (I (w64 (0 + 1))) (WL.nil (bkn (nrm (W.region (va (I (w64 (0 + 1))) (va (I (w64 ((w64 (0 + 1)) + 1))) (va (I (w64 ((w64 (0 + 1)) + 1))) (WL.nil (bkn (nrm (W.region (va (I (w64 ((w64 (0 + 1)) + 1))) (va (I (w64 ((w64 ((w64 (0 + 1)) + 1)) + 1))) (va (I (w64 ((w64 ((w64 (0 + 1)) + 1)) + 1))) (WL.nil (bkn (nrm (sr (va (I (w64 ((w64 ((w64 (0 + 1)) + 1)) + 1))) (va (I (w64 ((w64 ((w64 ((w64 (0 + 1)) + 1)) + 1)) + 1))) (va (I (w64 ((w64 ((w64 ((w64 (0 + 1)) + 1)) + 1)) + 1))) (wln (W.exit (bke (nrm ?_)))))))))))))))))))))))))))))))))
   obtain rfl := si b
   exact ⟨m, _, _, rfl, pt, us, p, rfl⟩
  refine W.skip (nrm (W.seq (W.seq (bn b fun s n b => W.join (Jn m fun c l => Own c G (F) ∧ l = [(0, .int .u8 a), (3, I 0), (11, B s)]) ?_ ?_))))
  ·clear b
   refine W.region (va (.int .u8 a) (va (B (decide (a ≥ 224))) ?_))
   rcases bo (decide (a ≥ 224)) with d | d
   ·have y := anT d n
    refine vb d (wn (va (.int .u8 a) (wn (va (B (decide (a < 240))) ?_))))
    obtain rfl := si y
    exact va (B (decide (a < 240))) (va (B (decide (a < 240))) (wln ⟨m, _, _, rfl, pt, us, p, rfl⟩))
   obtain rfl := anF d n
   exact vb d (ps (ps (va (B false) (va (B false) (wln ⟨m, _, _, rfl, pt, us, p, rfl⟩)))))
  rintro u x ⟨f, X, _, rfl, l16, rfl, g, rfl⟩
  refine nrm (cn b (fun N b => ?_) (fun N b => ?_))
  ·refine W.exit (thx (thx (bko rfl (thx (bke (nrm (W.region (va (I 0) (va (I (w64 (0 + 1))) (va (I (w64 (0 + 1))) (WL.nil (bkn (nrm (W.region (va (I (w64 (0 + 1))) (va (I (w64 ((w64 (0 + 1)) + 1))) (va (I (w64 ((w64 (0 + 1)) + 1))) (WL.nil (bkn (nrm (sr (va (I (w64 ((w64 (0 + 1)) + 1))) (va (I (w64 ((w64 ((w64 (0 + 1)) + 1)) + 1))) (va (I (w64 ((w64 ((w64 (0 + 1)) + 1)) + 1))) (wln (W.exit (bke (nrm ?_))))))))))))))))))))))))))))
   obtain rfl := si b
   exact ⟨f, _, _, rfl, pt, us, g, rfl⟩
  refine W.skip (nrm (W.seq (W.seq (bn b fun t o b => W.join (Jn f fun c l => Own c G (F) ∧ l = [(0, .int .u8 a), (3, I 0), (18, B t)]) ?_ ?_))))
  ·clear b
   refine W.region (va (.int .u8 a) (va (B (decide (a ≥ 194))) ?_))
   rcases bo (decide (a ≥ 194)) with e | e
   ·have z := anT e o
    refine vb e (wn (va (.int .u8 a) (wn (va (B (decide (a < 224))) ?_))))
    obtain rfl := si z
    exact va (B (decide (a < 224))) (va (B (decide (a < 224))) (wln ⟨f, _, _, rfl, pt, us, g, rfl⟩))
   obtain rfl := anF e o
   exact vb e (ps (ps (va (B false) (va (B false) (wln ⟨f, _, _, rfl, pt, us, g, rfl⟩)))))
  rintro u x ⟨i, Z, _, rfl, b0, rfl, h, rfl⟩
  refine nrm (cn b (fun R b => ?_) (fun R b => ?_))
  ·refine W.exit (thx (thx (bko rfl (thx (bko rfl (thx (bke (nrm (W.region (va (I 0) (va (I (w64 (0 + 1))) (va (I (w64 (0 + 1))) (WL.nil (bkn (nrm (sr (va (I (w64 (0 + 1))) (va (I (w64 ((w64 (0 + 1)) + 1))) (va (I (w64 ((w64 (0 + 1)) + 1))) (wln (W.exit (bke (nrm ?_)))))))))))))))))))))))
   obtain rfl := si b
   exact ⟨i, _, _, rfl, pt, us, h, rfl⟩
  refine W.skip (nrm (sr (va (.int .u8 a) (va (B (decide (a < 128))) (va (B (decide (a < 128))) (wln (cn b (fun S b => ?_) (fun S b => ?_))))))))
  ·refine W.exit (thx (bko rfl (thx (bko rfl (thx (bko rfl (thx (bke (nrm (sr (va (I 0) (va (I (w64 (0 + 1))) (va (I (w64 (0 + 1))) (wln (W.exit (bke (nrm ?_)))))))))))))))))
   obtain rfl := si b
   exact ⟨i, _, _, rfl, pt, us, h, rfl⟩
  refine W.skip (nrm (W.exit (bko rfl (thx (bko rfl (thx (bko rfl (thx (bko rfl (thx (bke (nrm ?_))))))))))))
  obtain rfl := si b
  exact ⟨i, _, _, rfl, pt, us, h, rfl⟩
 rintro u x ⟨E, a0, _, rfl, d0, rfl, D, rfl⟩
 refine sr (va (I k) (va (I k) (wln (W.ret ?_))))
 obtain rfl := si T
 exact r1 ⟨_, E, rfl, rfl, pt, D, rfl⟩
def f_octet_Bits (p0 : Int) : Option (Int) :=
 (f_octet_Lead p0).bind fun a =>
 if (a == 0) = true then
 some 0
 else
 if (a == 1) = true then
 some (w64 p0)
 else
 (shn (w64 (7 - a))).bind fun b =>
 some (ibAnd .i64 (w64 p0) (w64 ((w64 (1 * 2 ^ (min b 64))) - 1)))
theorem c_octet_Bits (j : Own c0 G F) (e : Int) {r : Int} (H : f_octet_Bits e = some r) :
    Calls prog 223 #[.int .u8 e] c0.w (Post c0 fun c v => Own c G (F) ∧ v = I r) := by
 unfold f_octet_Bits at H
 refine en func223 rfl rfl (sr (va (I 0) (wln (sr (va (.int .u8 e) (bn H fun d k H => cl (c_octet_Lead j e k) ?_))))))
 rintro v7 h n ⟨g, rfl⟩
 refine va (I d) (wln (sr (va (I d) (wln (W.block (sr (va (B (d == 0)) (va (B (d == 0)) (wln (cn H (fun l H => ?_) (fun l H => ?_)))))))))))
 ·refine sr (va (I 0) (wln (W.ret (bkr ?_))))
  obtain rfl := si H
  exact r1 ⟨_, h, rfl, rfl, pt, g, rfl⟩
 refine sr (va (B (d == 1)) (va (B (d == 1)) (wln (cn H (fun m H => ?_) (fun m H => ?_)))))
 ·refine sr (va (.int .u8 e) (va (I (w64 e)) (va (I (w64 e)) (wln (W.ret (bkr ?_))))))
  obtain rfl := si H
  exact r1 ⟨_, h, rfl, rfl, pt, g, rfl⟩
 refine sr (va (.int .u8 e) (va (I (w64 e)) (va (I d) (va (I (w64 (7 - d))) (bn H fun f i H => vr (I (w64 (1 * 2 ^ (min f 64)))) (run_shl (k' := .i64) (a := 1) (b := (w64 (7 - d))) i (by kernel_rfl) _) (va (I (w64 ((w64 (1 * 2 ^ (min f 64))) - 1))) (va (I (ibAnd .i64 (w64 e) (w64 ((w64 (1 * 2 ^ (min f 64))) - 1)))) (va (I (ibAnd .i64 (w64 e) (w64 ((w64 (1 * 2 ^ (min f 64))) - 1)))) (wln (W.ret (bkr ?_)))))))))))
 obtain rfl := si H
 exact r1 ⟨_, h, rfl, rfl, pt, g, rfl⟩
def f_octet_Second (p0 : Int) : Option (Int × Int) :=
 (f_octet_Lead p0).bind fun b =>
 if (decide (b < 2)) = true then
 some (0, 0)
 else
 (if (p0 == 224) = true then
 some (160, 191)
 else
 if (p0 == 240) = true then
 some (144, 191)
 else
 if (p0 == 244) = true then
 some (128, (IntKind.u8.wrap ((IntKind.u8.wrap (191 - 16)) - 32)))
 else
 if (p0 == 237) = true then
 some (128, (IntKind.u8.wrap (191 - 32)))
 else
 some (128, 191)).bind fun a =>
 some (a.1, a.2)
theorem c_octet_Second (p : Own c0 G F) (b : Int) {r : Int × Int} (H : f_octet_Second b = some r) :
    Calls prog 224 #[.int .u8 b] c0.w (Post c0 fun c v => Own c G (F) ∧ v = .tuple #[.int .u8 r.1, .int .u8 r.2]) := by
 unfold f_octet_Second at H
 refine en func224 rfl rfl (sr (va (.int .u8 0) (va (.int .u8 0) (wln (W.seq (sr (va (.int .u8 b) (bn H fun o q H => cl (c_octet_Lead p b q) ?_))))))))
 rintro v7 e y ⟨f, rfl⟩
 refine va (B (decide (o < 2))) (wln (cn H (fun s H => ?_) (fun s H => ?_)))
 ·refine sr (va (.int .u8 0) (va (.int .u8 0) (wln (W.ret (thr ?_)))))
  obtain rfl := si H
  exact r2 ⟨_, e, rfl, rfl, pt, f, rfl⟩
 refine W.skip (nrm (sr (va (.int .u8 128) (va (.int .u8 191) (wln (bn H fun d a g => W.seqJ (Jn e fun c l => Own c G (F) ∧ l = [(2, .int .u8 d.1), (3, .int .u8 d.2)]) ?_ ?_))))))
 ·refine sr (va (.int .u8 b) (wln (W.block (W.seq (W.block (W.seq (W.block (W.seq (W.block (W.seq (W.block (W.seq (W.seq (sr (va (B (b == 224)) (va (B (b == 224)) (wln (cn a (fun j a => ?_) (fun j a => ?_)))))))))))))))))))
  ·refine W.exit (thx (thx (bke (nrm (sr (va (.int .u8 160) (wln (W.exit (bko rfl (thx (bko rfl (thx (bko rfl (thx (bke (nrm ?_))))))))))))))))
   obtain rfl := si a
   exact ⟨e, _, _, rfl, pt, us, f, rfl⟩
  refine W.skip (nrm (W.seq (sr (va (B (b == 240)) (va (B (b == 240)) (wln (cn a (fun k a => ?_) (fun k a => ?_))))))))
  ·refine W.exit (thx (thx (bko rfl (thx (bke (nrm (sr (va (.int .u8 144) (wln (W.exit (bko rfl (thx (bko rfl (thx (bke (nrm ?_))))))))))))))))
   obtain rfl := si a
   exact ⟨e, _, _, rfl, pt, us, f, rfl⟩
  refine W.skip (nrm (W.seq (sr (va (B (b == 244)) (va (B (b == 244)) (wln (cn a (fun m a => ?_) (fun m a => ?_))))))))
  ·refine W.exit (thx (thx (bko rfl (thx (bko rfl (thx (bke (nrm (W.region (va (.int .u8 191) (va (.int .u8 (IntKind.u8.wrap (191 - 16))) (va (.int .u8 (IntKind.u8.wrap (191 - 16))) (WL.nil (bkn (nrm (sr (va (.int .u8 (IntKind.u8.wrap (191 - 16))) (va (.int .u8 (IntKind.u8.wrap ((IntKind.u8.wrap (191 - 16)) - 32))) (va (.int .u8 (IntKind.u8.wrap ((IntKind.u8.wrap (191 - 16)) - 32))) (wln (W.exit (bke (nrm ?_)))))))))))))))))))))))
   obtain rfl := si a
   exact ⟨e, _, _, rfl, pt, us, f, rfl⟩
  refine W.skip (nrm (sr (va (B (b == 237)) (va (B (b == 237)) (wln (cn a (fun n a => ?_) (fun n a => ?_)))))))
  ·refine W.exit (thx (bko rfl (thx (bko rfl (thx (bko rfl (thx (bke (nrm (sr (va (.int .u8 191) (va (.int .u8 (IntKind.u8.wrap (191 - 32))) (va (.int .u8 (IntKind.u8.wrap (191 - 32))) (wln (W.exit (bke (nrm ?_)))))))))))))))))
   obtain rfl := si a
   exact ⟨e, _, _, rfl, pt, us, f, rfl⟩
  refine W.skip (nrm (W.exit (bko rfl (thx (bko rfl (thx (bko rfl (thx (bko rfl (thx (bke (nrm ?_))))))))))))
  obtain rfl := si a
  exact ⟨e, _, _, rfl, pt, us, f, rfl⟩
 rintro x z ⟨i, t, _, rfl, u, rfl, h, rfl⟩
 refine sr (va (.int .u8 d.1) (va (.int .u8 d.2) (va (.int .u8 d.1) (va (.int .u8 d.2) (wln (W.ret ?_))))))
 obtain rfl := si g
 exact r2 ⟨_, i, rfl, rfl, pt, h, rfl⟩
def f_utfdec_Dec_begin__feed_Feeder_1 (p0 : G_utfdec_Dec) (p1 : Int) : Option (G_utfdec_Dec × (List Int)) :=
 (f_octet_Lead p1).bind fun a =>
 if (a == 0) = true then
 some (p0, ([65533] : List Int))
 else
 if (a == 1) = true then
 some (p0, ([(w32 p1)] : List Int))
 else
 (f_octet_Bits p1).bind fun c =>
 (f_octet_Second p1).bind fun b =>
 some ((⟨1, (w64 (a - 1)), b.1, b.2, c⟩ : G_utfdec_Dec), ([] : List Int))
theorem c_utfdec_Dec_begin__feed_Feeder_1 {a : Nat} {r0_0 : Value} {r0_6 : Value} {r0_7 : Value} {r0_8 : Value} {r0_9 : Value} {r0_10 : Value} {r0_11 : Value} (f : G_utfdec_Dec) (g : Int) (T : Own c0 G ((Eb a 158 [r0_0, I f.held, I f.needs, .int .u8 f.lo, .int .u8 f.hi, I f.bits, r0_6, r0_7, r0_8, r0_9, r0_10, r0_11]) :: F)) {r : G_utfdec_Dec × (List Int)} (H : f_utfdec_Dec_begin__feed_Feeder_1 f g = some r) :
    Calls prog 179 #[.pointer (some ⟨a, 1, none⟩), .int .u8 g] c0.w (Post c0 fun c v => ∃ k S, Own c G (es true (RI .i32) k 21 S r.2 :: (Eb a 158 [r0_0, I r.1.held, I r.1.needs, .int .u8 r.1.lo, .int .u8 r.1.hi, I r.1.bits, r0_6, r0_7, r0_8, r0_9, r0_10, r0_11]) :: F) ∧ v = k ∧ OA (RI .i32) c k S r.2) := by
 unfold f_utfdec_Dec_begin__feed_Feeder_1 at H
 refine en func179 rfl rfl (sr (va (Y) (wln (W.seq (sr (va (.int .u8 g) (bn H fun b X H => cl (c_octet_Lead T g X) ?_)))))))
 rintro v7 c6 l6 ⟨j, rfl⟩
 refine va (I b) (wln (sr (va (I b) (wln (W.block (sr (va (B (b == 0)) (va (B (b == 0)) (wln (cn H (fun Z H => ?_) (fun Z H => ?_)))))))))))
 ·refine sr (me (sl (RI .i32) 21 [[J 65533]] ([65533] : List Int) j ⟨rfl, trivial⟩) ?_)
  rintro v13 x h0 ⟨P, U, z⟩
  refine va (v13) (wln (W.ret (bkr (thr ?_))))
  obtain rfl := si H
  exact r1 ⟨_, x, rfl, rfl, pt, v13, P, U, rfl, z⟩
 refine sr (va (B (b == 1)) (va (B (b == 1)) (wln (cn H (fun A H => ?_) (fun A H => ?_)))))
 ·refine sr (va (.int .u8 g) (va (J (w32 g)) (me (sl (RI .i32) 21 [[J (w32 g)]] ([(w32 g)] : List Int) j ⟨rfl, trivial⟩) ?_)))
  rintro v19 y i0 ⟨R, l, D⟩
  refine va (v19) (wln (W.ret (bkr (thr ?_))))
  obtain rfl := si H
  exact r1 ⟨_, y, rfl, rfl, pt, v19, R, l, rfl, D⟩
 refine sr (va (.pointer (some ⟨a, 1, none⟩)) (va (.pointer (some ⟨a, 1, none⟩)) (va (.pointer (some ⟨a, 1, none⟩)) (va (I b) (va (I (w64 (b - 1))) (va (.int .u8 g) (bn H fun h E H => cl (c_octet_Bits j g E) ?_)))))))
 rintro v26 a0 j0 ⟨m, rfl⟩
 refine va (.pointer (some ⟨a, 1, none⟩)) (va (.pointer (some ⟨a, 1, none⟩)) (md (sC 3 1 (I 1) [r0_0, I 1, I f.needs, .int .u8 f.lo, .int .u8 f.hi, I f.bits, r0_6, r0_7, r0_8, r0_9, r0_10, r0_11] 0 m ⟨rfl, trivial⟩) ?_))
 rintro b0 k0 n
 refine va (.pointer (some ⟨a, 1, none⟩)) (va (.pointer (some ⟨a, 2, none⟩)) (md (sC 3 2 (I (w64 (b - 1))) [r0_0, I 1, I (w64 (b - 1)), .int .u8 f.lo, .int .u8 f.hi, I f.bits, r0_6, r0_7, r0_8, r0_9, r0_10, r0_11] 0 n ⟨rfl, trivial⟩) ?_))
 rintro d0 l0 o
 refine va (.pointer (some ⟨a, 1, none⟩)) (va (.pointer (some ⟨a, 5, none⟩)) (md (sC 3 5 (I h) [r0_0, I 1, I (w64 (b - 1)), .int .u8 f.lo, .int .u8 f.hi, I h, r0_6, r0_7, r0_8, r0_9, r0_10, r0_11] 0 o ⟨rfl, trivial⟩) ?_))
 rintro e0 m0 p
 refine wln (W.region (va (.pointer (some ⟨a, 1, none⟩)) (va (.pointer (some ⟨a, 1, none⟩)) (va (.int .u8 g) (bn H fun d M H => cl (c_octet_Second p g M) ?_)))))
 rintro v39 f0 o0 ⟨q, rfl⟩
 refine va (.tuple #[.int .u8 d.1, .int .u8 d.2]) (va (.int .u8 d.1) (va (.int .u8 d.2) (va (.pointer (some ⟨a, 1, none⟩)) (va (.pointer (some ⟨a, 3, none⟩)) (md (sC 5 3 (.int .u8 d.1) [r0_0, I 1, I (w64 (b - 1)), .int .u8 d.1, .int .u8 f.hi, I h, r0_6, r0_7, r0_8, r0_9, r0_10, r0_11] 0 q ⟨rfl, trivial⟩) ?_)))))
 rintro g0 q0 s
 refine va (.pointer (some ⟨a, 1, none⟩)) (va (.pointer (some ⟨a, 4, none⟩)) (md (sC 5 4 (.int .u8 d.2) [r0_0, I 1, I (w64 (b - 1)), .int .u8 d.1, .int .u8 d.2, I h, r0_6, r0_7, r0_8, r0_9, r0_10, r0_11] 0 s ⟨rfl, trivial⟩) ?_))
 rintro i s0 t
 refine WL.nil (bkn (nrm (sr (va (Y) (wln (W.ret ?_))))))
 obtain rfl := si H
 have N : OA (RI .i32) i (Y) [] [] := OA.nil (Nat.succ_pos _)
 have u := t.addHole (e := es true (RI .i32) (Y) 21 [] ([] : List Int)) rfl
 exact r1 ⟨_, i, rfl, rfl, pt, (Y), [], u, rfl, N⟩
def f_utfdec_Dec_Step__feed_Feeder_1 (p0 : G_utfdec_Dec) (p1 : Int) : Option (G_utfdec_Dec × (List Int)) :=
 if false = true then
 some (p0, ([] : List Int))
 else
 if (p0.held == 0) = true then
 (f_utfdec_Dec_begin__feed_Feeder_1 p0 p1).bind fun a =>
 some (a.1, a.2)
 else
 (orE (decide (p1 < p0.lo)) (some (decide (p1 > p0.hi)))).bind fun d =>
 if d = true then
 (f_utfdec_Dec_Flush__feed_Feeder_1 p0).bind fun b =>
 (f_utfdec_Dec_begin__feed_Feeder_1 b.1 p1).bind fun c =>
 (app b.2 c.2).bind fun e =>
 some (c.1, e)
 else
 if (decide ((w64 (p0.needs - 1)) > 0)) = true then
 some ((⟨(w64 (p0.held + 1)), (w64 (p0.needs - 1)), 128, 191, (ibOr .i64 (w64 (p0.bits * 2 ^ 6)) (w64 (ibAnd .u8 p1 63)))⟩ : G_utfdec_Dec), ([] : List Int))
 else
 some ((⟨0, 0, 0, 0, 0⟩ : G_utfdec_Dec), ([(w32 (ibOr .i64 (w64 (p0.bits * 2 ^ 6)) (w64 (ibAnd .u8 p1 63))))] : List Int))
theorem c_utfdec_Dec_Step__feed_Feeder_1 {a : Nat} {r0_0 : Value} {r0_6 : Value} {r0_7 : Value} {r0_8 : Value} {r0_9 : Value} {r0_10 : Value} {r0_11 : Value} (b : G_utfdec_Dec) (d : Int) (h : Own c0 G ((Eb a 158 [r0_0, I b.held, I b.needs, .int .u8 b.lo, .int .u8 b.hi, I b.bits, r0_6, r0_7, r0_8, r0_9, r0_10, r0_11]) :: F)) {r : G_utfdec_Dec × (List Int)} (H : f_utfdec_Dec_Step__feed_Feeder_1 b d = some r) :
    Calls prog 107 #[.pointer (some ⟨a, 1, none⟩), .int .u8 d] c0.w (Post c0 fun c v => ∃ x y2, Own c G (es true (RI .i32) x 21 y2 r.2 :: (Eb a 158 [r0_0, I r.1.held, I r.1.needs, .int .u8 r.1.lo, .int .u8 r.1.hi, I r.1.bits, r0_6, r0_7, r0_8, r0_9, r0_10, r0_11]) :: F) ∧ v = x ∧ OA (RI .i32) c x y2 r.2) := by
 unfold f_utfdec_Dec_Step__feed_Feeder_1 at H
 refine en func107 rfl rfl (sr (va (Y) (wln (W.seq (W.block (sr (va (.pointer (some ⟨a, 1, none⟩)) (va (B false) (va (B false) (wln (W.cond (t := false) (by kernel_rfl) (fun s => ?_) (fun s => ?_))))))))))))
 ·cases s
 have H := ie s H
 refine sr (va (.pointer (some ⟨a, 1, none⟩)) (va (.pointer (some ⟨a, 1, none⟩)) (va (.pointer (some ⟨a, 1, none⟩)) (vx (le1 1 underlying3 (h.on 0 rfl)) (va (B (b.held == 0)) (va (B (b.held == 0)) (wln (cn H (fun h2 H => ?_) (fun h2 H => ?_)))))))))
 ·refine sr (va (.pointer (some ⟨a, 1, none⟩)) (va (.int .u8 d) (bn H fun z0 h4 H => cl (c_utfdec_Dec_begin__feed_Feeder_1 b d h h4) ?_)))
  rintro v5 X q1 ⟨_, u6, O9, rfl, h7⟩
  refine va (v5) (wln (W.ret (bkr (thr ?_))))
  obtain rfl := si H
  exact r1 ⟨_, X, rfl, rfl, pt, v5, u6, O9, rfl, h7⟩
 refine W.seq (bn H fun q o H => W.join (Jn c0 fun c l => Own c G ((Eb a 158 [r0_0, I b.held, I b.needs, .int .u8 b.lo, .int .u8 b.hi, I b.bits, r0_6, r0_7, r0_8, r0_9, r0_10, r0_11]) :: F) ∧ l = [(0, .pointer (some ⟨a, 1, none⟩)), (1, .int .u8 d), (18, B q)]) ?_ ?_)
 ·clear H
  refine W.region (va (.int .u8 d) (va (.pointer (some ⟨a, 1, none⟩)) (va (.pointer (some ⟨a, 1, none⟩)) (va (.pointer (some ⟨a, 3, none⟩)) (vx (le1 3 underlying5 (h.on 0 rfl)) (va (B (decide (d < b.lo))) ?_))))))
  rcases bo (decide (d < b.lo)) with f | f
  ·obtain rfl := orT f o
   exact vb f (ps (ps (ps (ps (ps (ps (va (B true) (va (B true) (wln ⟨c0, _, _, rfl, pt, us, h, rfl⟩)))))))))
  have y := orF f o
  refine vb f (wn (va (.int .u8 d) (wn (va (.pointer (some ⟨a, 1, none⟩)) (wn (va (.pointer (some ⟨a, 1, none⟩)) (wn (va (.pointer (some ⟨a, 4, none⟩)) (wn (vx (le1 4 underlying5 (h.on 0 rfl)) (wn (va (B (decide (d > b.hi))) ?_))))))))))))
  obtain rfl := si y
  exact va (B (decide (d > b.hi))) (va (B (decide (d > b.hi))) (wln ⟨c0, _, _, rfl, pt, us, h, rfl⟩))
 rintro e_ w_ ⟨c1, n1, _, rfl, s1, rfl, i, rfl⟩
 refine nrm (cn H (fun b0 H => ?_) (fun b0 H => ?_))
 ·refine sr (va (.pointer (some ⟨a, 1, none⟩)) (bn H fun u d0 H => cl (c_utfdec_Dec_Flush__feed_Feeder_1 b i d0) ?_))
  rintro v26 d1 t1 ⟨_, f2, z, rfl, e0⟩
  refine va (.pointer (some ⟨a, 1, none⟩)) (va (.int .u8 d) ?_)
  have A := z.sD 2 [1, 0]
  refine bn H fun a1 f0 H => cl (c_utfdec_Dec_begin__feed_Feeder_1 u.1 d A f0) ?_
  rintro v37 e1 u1 ⟨_, g2, D, rfl, g0⟩
  obtain ⟨f1, i0, v1, E, h0⟩ := D.frz 0 rfl g0
  refine WL.gh i0 (bn H fun b1 j0 H => me (ap (RI .i32) (J 0) 4 27 2 E e0.m h0 j0 underlying27) ?_)
  rintro v55 Z w1 ⟨q0, M, k0⟩
  refine va (v55) (wln (W.ret (bkr (thr ?_))))
  obtain rfl := si H
  have N := M.sD 3 [2, 1]
  exact r1 ⟨_, Z, rfl, rfl, pt, v55, q0, N, rfl, k0⟩
 refine W.skip (bkn (nrm (sr (va (.pointer (some ⟨a, 1, none⟩)) (va (.pointer (some ⟨a, 1, none⟩)) (va (.pointer (some ⟨a, 1, none⟩)) (va (.pointer (some ⟨a, 5, none⟩)) (vx (le1 5 underlying3 (i.on 0 rfl)) (va (I (w64 (b.bits * 2 ^ 6))) (va (.int .u8 d) (va (.int .u8 (ibAnd .u8 d 63)) (va (I (w64 (ibAnd .u8 d 63))) (va (I (ibOr .i64 (w64 (b.bits * 2 ^ 6)) (w64 (ibAnd .u8 d 63)))) (va (.pointer (some ⟨a, 1, none⟩)) (va (.pointer (some ⟨a, 5, none⟩)) (md (sC 3 5 (I (ibOr .i64 (w64 (b.bits * 2 ^ 6)) (w64 (ibAnd .u8 d 63)))) [r0_0, I b.held, I b.needs, .int .u8 b.lo, .int .u8 b.hi, I (ibOr .i64 (w64 (b.bits * 2 ^ 6)) (w64 (ibAnd .u8 d 63))), r0_6, r0_7, r0_8, r0_9, r0_10, r0_11] 0 i ⟨rfl, trivial⟩) ?_))))))))))))))))
 rintro g1 x1 P
 refine wln (sr (va (.pointer (some ⟨a, 1, none⟩)) (va (.pointer (some ⟨a, 1, none⟩)) (va (.pointer (some ⟨a, 1, none⟩)) (va (.pointer (some ⟨a, 3, none⟩)) (md (sC 5 3 (.int .u8 128) [r0_0, I b.held, I b.needs, .int .u8 128, .int .u8 b.hi, I (ibOr .i64 (w64 (b.bits * 2 ^ 6)) (w64 (ibAnd .u8 d 63))), r0_6, r0_7, r0_8, r0_9, r0_10, r0_11] 0 P ⟨rfl, trivial⟩) ?_))))))
 rintro i1 z1 R
 refine va (.pointer (some ⟨a, 1, none⟩)) (va (.pointer (some ⟨a, 4, none⟩)) (md (sC 5 4 (.int .u8 191) [r0_0, I b.held, I b.needs, .int .u8 128, .int .u8 191, I (ibOr .i64 (w64 (b.bits * 2 ^ 6)) (w64 (ibAnd .u8 d 63))), r0_6, r0_7, r0_8, r0_9, r0_10, r0_11] 0 R ⟨rfl, trivial⟩) ?_))
 rintro j1 a2 j
 refine wln (sr (va (.pointer (some ⟨a, 1, none⟩)) (va (.pointer (some ⟨a, 1, none⟩)) (va (.pointer (some ⟨a, 1, none⟩)) (vx (le1 1 underlying3 (j.on 0 rfl)) (va (I (w64 (b.held + 1))) (va (.pointer (some ⟨a, 1, none⟩)) (va (.pointer (some ⟨a, 1, none⟩)) (md (sC 3 1 (I (w64 (b.held + 1))) [r0_0, I (w64 (b.held + 1)), I b.needs, .int .u8 128, .int .u8 191, I (ibOr .i64 (w64 (b.bits * 2 ^ 6)) (w64 (ibAnd .u8 d 63))), r0_6, r0_7, r0_8, r0_9, r0_10, r0_11] 0 j ⟨rfl, trivial⟩) ?_)))))))))
 rintro k1 b2 k
 refine wln (sr (va (.pointer (some ⟨a, 1, none⟩)) (va (.pointer (some ⟨a, 1, none⟩)) (va (.pointer (some ⟨a, 2, none⟩)) (vx (le1 2 underlying3 (k.on 0 rfl)) (va (I (w64 (b.needs - 1))) (va (.pointer (some ⟨a, 1, none⟩)) (va (.pointer (some ⟨a, 2, none⟩)) (md (sC 3 2 (I (w64 (b.needs - 1))) [r0_0, I (w64 (b.held + 1)), I (w64 (b.needs - 1)), .int .u8 128, .int .u8 191, I (ibOr .i64 (w64 (b.bits * 2 ^ 6)) (w64 (ibAnd .u8 d 63))), r0_6, r0_7, r0_8, r0_9, r0_10, r0_11] 0 k ⟨rfl, trivial⟩) ?_)))))))))
 rintro n c2 g
 refine wln (W.seq (sr (va (.pointer (some ⟨a, 1, none⟩)) (va (.pointer (some ⟨a, 1, none⟩)) (va (.pointer (some ⟨a, 2, none⟩)) (vx (le1 2 underlying3 (g.on 0 rfl)) (va (B (decide ((w64 (b.needs - 1)) > 0))) (wln (cn H (fun l0 H => ?_) (fun l0 H => ?_))))))))))
 ·refine sr (va (Y) (wln (W.ret (thr ?_))))
  obtain rfl := si H
  have m0 : OA (RI .i32) n (Y) [] [] := OA.nil (Nat.succ_pos _)
  have S := g.addHole (e := es true (RI .i32) (Y) 21 [] ([] : List Int)) rfl
  exact r1 ⟨_, n, rfl, rfl, pt, (Y), [], S, rfl, m0⟩
 refine W.skip (nrm (sr (va (.pointer (some ⟨a, 1, none⟩)) (va (.pointer (some ⟨a, 1, none⟩)) (va (.pointer (some ⟨a, 5, none⟩)) (vx (le1 5 underlying3 (g.on 0 rfl)) (va (J (w32 (ibOr .i64 (w64 (b.bits * 2 ^ 6)) (w64 (ibAnd .u8 d 63))))) (va (J (w32 (ibOr .i64 (w64 (b.bits * 2 ^ 6)) (w64 (ibAnd .u8 d 63))))) (wln (sr (va (.pointer (some ⟨a, 1, none⟩)) (va (.agg #[I 0, I 0, .int .u8 0, .int .u8 0, I 0]) (va (.pointer (some ⟨a, 1, none⟩)) (md (sB 154 1 [I 0, I 0, .int .u8 0, .int .u8 0, I 0] [r0_0, I 0, I 0, .int .u8 0, .int .u8 0, I 0, r0_6, r0_7, r0_8, r0_9, r0_10, r0_11] 0 g ⟨rfl, rfl, rfl, rfl, rfl, trivial⟩) ?_))))))))))))))
 rintro m1 d2 T
 refine wln (sr (va (J (w32 (ibOr .i64 (w64 (b.bits * 2 ^ 6)) (w64 (ibAnd .u8 d 63))))) (me (sl (RI .i32) 21 [[J (w32 (ibOr .i64 (w64 (b.bits * 2 ^ 6)) (w64 (ibAnd .u8 d 63))))]] ([(w32 (ibOr .i64 (w64 (b.bits * 2 ^ 6)) (w64 (ibAnd .u8 d 63))))] : List Int) T ⟨rfl, trivial⟩) ?_)))
 rintro p a0 e2 ⟨s0, U, o0⟩
 refine va (p) (wln (W.ret ?_))
 obtain rfl := si H
 exact r1 ⟨_, a0, rfl, rfl, pt, p, s0, U, rfl, o0⟩
def f_feed_Feeder_Bytes (sg : Sto) (p0 : Option Nat) (p1 : List Int) : Option (Sto) :=
 if p0.isNone = true then
 some sg
 else
 (iter (σ := Int × Sto) (τ := Sto) (((p1.length : Int) - 0).toNat + 1) (fun b =>
 if (decide (b.1 < (p1.length : Int))) = true then
 (idx p1 b.1).bind fun f =>
 (p0).bind fun d =>
 (b.2.feed_Feeder[d]?).bind fun a =>
 (f_utfdec_Dec_Step__feed_Feeder_1 a.dec f).bind fun e =>
 (b.2.set_feed_Feeder d (⟨a.pen, e.1, a.seg, a.open_⟩ : G_feed_Feeder)).bind fun c =>
 (f_feed_Feeder_all c p0 e.2).bind fun g =>
 some (.inl ((w64 (b.1 + 1)), g))
 else
 some (.inr (b.2))) (0, sg)).bind fun h =>
 some h
theorem c_feed_Feeder_Bytes (M : Own c0 G F) (R0 : Rel c0 sg G) (hG : Gl [0, 4] c0) (j : Option Nat) (k : List Int) {r : Sto} (t : Pt 4 c0 v1 j) (u : Sl (RI .u8) c0 v3 k) (H : f_feed_Feeder_Bytes sg j k = some r) :
    Calls prog 37 #[v1, v3] c0.w (Post c0 fun c v => ∃ G_ : Gm, Own c G_ (F) ∧ Rel c r G_ ∧ v = .tuple #[]) := by
 unfold f_feed_Feeder_Bytes at H
 refine en func37 rfl rfl (W.seq (sr (va (v1) (vr (B j.isNone) (by rcases (t).cs with ⟨p, s⟩ | ⟨b_, p, s⟩ <;> (subst p; rw [s]; kernel_rfl)) (wln (cn H (fun h5 H => ?_) (fun h5 H => ?_)))))))
 ·refine W.ret (thr ?_)
  obtain rfl := si H
  exact r0 ⟨_, c0, rfl, rfl, pt, G, M, R0, rfl⟩
 refine W.skip (nrm (sr (va (v3) (vx (ln 3 underlying57 u) (va (I 0) (wln (W.block (bn H fun y1 h6 E => lp h6 (fun d => Jn c0 fun c l => ∃ G_, Own c G_ (F) ∧ l = [(0, v1), (8, v3), (9, I (k.length : Int)), (10, I d.1)] ∧ Rel c d.2 G_) (fun x ex e w => ex = .exit 0 ∧ (Jn c0 fun c l => ∃ G_, Own c G_ (F) ∧ l = [] ∧ Rel c x G_) e w) ?_ ?_ ?_))))))))
 ·clear E h6
  intro d a2 i0 c1 H
  revert i0 c1
  rintro e_ w_ ⟨c8, g9, _, rfl, l8, rfl, z, n, rfl, h⟩
  refine sr (va (B (decide (d.1 < (k.length : Int)))) (wln (W.seq (cn H (fun j0 H => ?_) (fun j0 H => ?_)))))
  ·refine W.skip (nrm (W.seq (W.block (sr (bn H fun f o H => ?_)))))
   obtain ⟨h1, k0, b1⟩ := Sl.at (u.mono l8) (idx_get o)
   obtain rfl := k0
   refine vx (ix underlying57 u.m o) (vx (l1 underlying5 (b1 0 _ rfl)) (va (.int .u8 f) (wln (W.region (va (v1) (va (v1) (bn H fun g1 l0 H => ?_)))))))
   obtain ⟨g, rfl, q⟩ := ((t.mono l8)).get l0
   refine va (Q g) (va (.pointer (some ⟨g, 1, none⟩)) (va (.int .u8 f) (bn H fun a m0 H => ?_)))
   obtain ⟨v23, v25, s0, o0, q0⟩ := Rel.open_feed_Feeder h m0 q
   have N := n.borrow 0 s0 rfl
   refine bn H fun b t0 H => cl (c_utfdec_Dec_Step__feed_Feeder_1 a.dec f N t0) ?_
   rintro v31 n1 i ⟨_, z1, P, rfl, u0⟩
   have S := P.sD 2 [1, 0]
   have R := S.giveB 0 rfl
   refine bn H fun y v0 H => ?_
   obtain ⟨k1, T, d0, t1, m1⟩ := Rel.put_feed_Feeder R (h.mono i) (E' := [(Eb g 158 [v23, I b.1.held, I b.1.needs, .int .u8 b.1.lo, .int .u8 b.1.hi, I b.1.bits, B a.seg.some, I a.seg.last, I a.seg.pict, I a.seg.conj, B a.seg.odd, v25])]) v0 ⟨g, v23, v25, (tm q), rfl, (o0.mono i), (q0.mono i)⟩
   obtain ⟨q1, x0, u1, U, w0⟩ := T.frz 0 rfl u0
   refine WL.gh x0 (bn H fun j1 y0 H => cl (c_feed_Feeder_all U d0.m (hG.m.le (by decide)) j b.2 t.m w0 y0) ?_)
   rintro v58 g0 w1 ⟨A, X, e0, rfl⟩
   refine WL.nil (bkn (nrm (W.region (va (I (w64 (d.1 + 1))) (va (I (w64 (d.1 + 1))) (WL.nil ?_))))))
   obtain rfl := si H
   refine ⟨_, rfl, ?_⟩
   have Z := X.sD 1 []
   exact ⟨g0, _, _, rfl, pt, us, A, Z, rfl, e0⟩
  refine W.exit (thx ?_)
  obtain rfl := si H
  exact ⟨_, rfl, rfl, ⟨c8, _, _, rfl, pt, us, z, n, rfl, h⟩⟩
 ·exact ⟨c0, _, _, rfl, pt, us, G, M, rfl, R0⟩
 rintro _ e_ w_ ⟨rfl, h0, s1, _, rfl, x1, rfl, D, a0, rfl, f0⟩
 refine bke ?_
 obtain rfl := si E
 exact n0 ⟨_, h0, rfl, rfl, pt, D, a0, f0, rfl⟩
def f_feed_Feeder_Flush (sg : Sto) (p0 : Option Nat) : Option (Sto) :=
 if p0.isNone = true then
 some sg
 else
 (p0).bind fun c =>
 (sg.feed_Feeder[c]?).bind fun a =>
 (f_utfdec_Dec_Flush__feed_Feeder_1 a.dec).bind fun d =>
 (sg.set_feed_Feeder c (⟨a.pen, d.1, a.seg, a.open_⟩ : G_feed_Feeder)).bind fun b =>
 (f_feed_Feeder_all b p0 d.2).bind fun f =>
 (f_feed_Feeder_Close f p0).bind fun e =>
 some e
theorem c_feed_Feeder_Flush (l : Own c0 G F) (j : Rel c0 sg G) (hG : Gl [0, 4] c0) (f : Option Nat) {r : Sto} (g : Pt 4 c0 v1 f) (H : f_feed_Feeder_Flush sg f = some r) :
    Calls prog 39 #[v1] c0.w (Post c0 fun c v => ∃ G_ : Gm, Own c G_ (F) ∧ Rel c r G_ ∧ v = .tuple #[]) := by
 unfold f_feed_Feeder_Flush at H
 refine en func39 rfl rfl (W.seq (sr (va (v1) (vr (B f.isNone) (by rcases (g).cs with ⟨h, i⟩ | ⟨b_, h, i⟩ <;> (subst h; rw [i]; kernel_rfl)) (wln (cn H (fun h3 H => ?_) (fun h3 H => ?_)))))))
 ·refine W.ret (thr ?_)
  obtain rfl := si H
  exact r0 ⟨_, c0, rfl, rfl, pt, G, l, j, rfl⟩
 refine W.skip (nrm (sr (va (v1) (va (v1) (bn H fun s0 h6 H => ?_)))))
 obtain ⟨d, rfl, h5⟩ := (g).get h6
 refine va (Q d) (va (.pointer (some ⟨d, 1, none⟩)) (bn H fun a h7 H => ?_))
 obtain ⟨v8, v10, N, h9, M⟩ := Rel.open_feed_Feeder j h7 h5
 have n := l.borrow 0 N rfl
 refine bn H fun b P H => cl (c_utfdec_Dec_Flush__feed_Feeder_1 a.dec n P) ?_
 rintro v16 l0 e ⟨_, w0, o, rfl, R⟩
 have q := o.sD 2 [1, 0]
 have p := q.giveB 0 rfl
 refine bn H fun b0 S H => ?_
 obtain ⟨i0, s, z, q0, k0⟩ := Rel.put_feed_Feeder p (j.mono e) (E' := [(Eb d 158 [v8, I b.1.held, I b.1.needs, .int .u8 b.1.lo, .int .u8 b.1.hi, I b.1.bits, B a.seg.some, I a.seg.last, I a.seg.pict, I a.seg.conj, B a.seg.odd, v10])]) S ⟨d, v8, v10, (tm h5), rfl, (h9.mono e), (M.mono e)⟩
 obtain ⟨m0, U, t0, t, T⟩ := s.frz 0 rfl R
 refine WL.gh U (bn H fun x0 X H => cl (c_feed_Feeder_all t z.m (hG.m.le (by decide)) f b.2 g.m T X) ?_)
 rintro v43 o0 u0 ⟨j0, u, A, rfl⟩
 refine wln (W.region (va (Q d) (bn H fun h0 Z H => cl (c_feed_Feeder_Close u A f g.m Z) ?_)))
 rintro v50 E v0 ⟨k, x, D, rfl⟩
 refine WL.nil ?_
 obtain rfl := si H
 have y := x.sD 1 []
 exact n0 ⟨_, E, rfl, rfl, pt, k, y, D, rfl⟩
def f_feed_Feeder_Held (sg : Sto) (p0 : Option Nat) : Option (Int) :=
 if p0.isNone = true then
 some 0
 else
 (p0).bind fun c =>
 (sg.feed_Feeder[c]?).bind fun a =>
 (f_utfdec_Dec_Held__feed_Feeder_1 a.dec).bind fun b =>
 some b
theorem c_feed_Feeder_Held (h : Own c0 G F) (q : Rel c0 sg G) (f : Option Nat) {r : Int} (p : Pt 4 c0 v1 f) (H : f_feed_Feeder_Held sg f = some r) :
    Calls prog 41 #[v1] c0.w (Post c0 fun c v => Own c G (F) ∧ v = I r) := by
 unfold f_feed_Feeder_Held at H
 refine en func41 rfl rfl (sr (va (I 0) (wln (W.seq (sr (va (v1) (vr (B f.isNone) (by rcases (p).cs with ⟨d, e⟩ | ⟨D, d, e⟩ <;> (subst d; rw [e]; kernel_rfl)) (wln (cn H (fun s H => ?_) (fun s H => ?_))))))))))
 ·refine sr (va (I 0) (wln (W.ret (thr ?_))))
  obtain rfl := si H
  exact r1 ⟨_, c0, rfl, rfl, pt, h, rfl⟩
 refine W.skip (nrm (sr (va (v1) (bn H fun z u H => ?_))))
 obtain ⟨m, rfl, t⟩ := (p).get u
 refine va (Q m) (va (.pointer (some ⟨m, 1, none⟩)) (bn H fun a x H => ?_))
 obtain ⟨v8, v10, b, E, y⟩ := Rel.open_feed_Feeder q x t
 have i := h.borrow 0 b rfl
 refine bn H fun g o H => cl (c_utfdec_Dec_Held__feed_Feeder_1 a.dec i o) ?_
 rintro v21 n A ⟨j, rfl⟩
 have k := j.giveB 0 rfl
 have l := Own.back k b rfl
 refine va (I g) (wln (W.ret ?_))
 obtain rfl := si H
 exact r1 ⟨_, n, rfl, rfl, pt, l, rfl⟩
def f_feed_Feeder_Open (sg : Sto) (p0 : Option Nat) : Option (List Int) :=
 if p0.isNone = true then
 some ([] : List Int)
 else
 (p0).bind fun c =>
 (sg.feed_Feeder[c]?).bind fun a =>
 (f_widen_Cluster_Text sg a.open_).bind fun b =>
 some b
theorem c_feed_Feeder_Open (d : Own c0 G F) (j : Rel c0 sg G) (g : Option Nat) {r : List Int} (q : Pt 4 c0 v1 g) (H : f_feed_Feeder_Open sg g = some r) :
    Calls prog 42 #[v1] c0.w (Post c0 fun c v => ∃ h t, Own c G (es true (RI .i32) h 21 t r :: F) ∧ v = h ∧ OA (RI .i32) c h t r) := by
 unfold f_feed_Feeder_Open at H
 refine en func42 rfl rfl (sr (va (Y) (wln (W.seq (sr (va (v1) (vr (B g.isNone) (by rcases (q).cs with ⟨a, b⟩ | ⟨R, a, b⟩ <;> (subst a; rw [b]; kernel_rfl)) (wln (cn H (fun x H => ?_) (fun x H => ?_))))))))))
 ·refine sr (va (Y) (wln (W.ret (thr ?_))))
  obtain rfl := si H
  have y : OA (RI .i32) c0 (Y) [] [] := OA.nil (Nat.succ_pos _)
  have u := d.addHole (e := es true (RI .i32) (Y) 21 [] ([] : List Int)) rfl
  exact r1 ⟨_, c0, rfl, rfl, pt, (Y), [], u, rfl, y⟩
 refine W.skip (nrm (sr (va (v1) (bn H fun N A H => ?_))))
 obtain ⟨k, rfl, z⟩ := (q).get A
 refine va (Q k) (va (.pointer (some ⟨k, 11, none⟩)) (bn H fun f D H => ?_))
 obtain ⟨v10, v12, n, M, m⟩ := Rel.open_feed_Feeder j D z
 refine vx (le1 11 underlying44 (d.gon n 0 rfl)) (bn H fun E o H => cl (c_widen_Cluster_Text d j f.open_ m o) ?_)
 rintro v16 l P ⟨_, s, i, rfl, p⟩
 refine va (v16) (wln (W.ret ?_))
 obtain rfl := si H
 exact r1 ⟨_, l, rfl, rfl, pt, v16, s, i, rfl, p⟩
def f_edit_Does (p0 : Int) : Option (Bool) :=
 (andE (decide (p0 ≥ 2)) (some (decide (p0 ≤ 12)))).bind fun a =>
 some a
theorem c_edit_Does (d : Own c0 G F) (a : Int) {r : Bool} (H : f_edit_Does a = some r) :
    Calls prog 31 #[I a] c0.w (Post c0 fun c v => Own c G (F) ∧ v = B r) := by
 unfold f_edit_Does at H
 refine en func31 rfl rfl (sr (va (B false) (wln (W.seq (bn H fun e f H => W.join (Jn c0 fun c l => Own c G (F) ∧ l = [(2, B e)]) ?_ ?_)))))
 ·clear H
  refine W.region (va (I a) (va (B (decide (a ≥ 2))) ?_))
  rcases bo (decide (a ≥ 2)) with b | b
  ·have g := anT b f
   refine vb b (wn (va (I a) (wn (va (B (decide (a ≤ 12))) ?_))))
   obtain rfl := si g
   exact va (B (decide (a ≤ 12))) (va (B (decide (a ≤ 12))) (wln ⟨c0, _, _, rfl, pt, us, d, rfl⟩))
  obtain rfl := anF b f
  exact vb b (ps (ps (va (B false) (va (B false) (wln ⟨c0, _, _, rfl, pt, us, d, rfl⟩)))))
 rintro j n ⟨i, k, _, rfl, m, rfl, h, rfl⟩
 refine nrm (W.ret ?_)
 obtain rfl := si H
 exact r1 ⟨_, i, rfl, rfl, pt, h, rfl⟩
def f_edit_Wrong (p0 : G_api_Op) : Option (Er) :=
 (f_edit_Does p0.Kind).bind fun d =>
 if (!d) = true then
 some (Er.sent 4)
 else
 (andE (decide (p0.Kind ≤ 4)) (some (p0.Kind != 2))).bind fun a =>
 (andE a ((orE (decide (p0.A < 0)) (some (decide (p0.A > 2)))).bind fun c =>
 some c)).bind fun b =>
 if b = true then
 some (Er.sent 0)
 else
 some Er.nil
theorem c_edit_Wrong (S : Own c0 G F) (hG : Gl [0, 4] c0) (a : G_api_Op) {r : Er} (h2 : Sl (RI .u8) c0 v1 a.Bytes) (H : f_edit_Wrong a = some r) :
    Calls prog 29 #[.agg #[I a.Kind, I a.A, I a.B, v1]] c0.w (Post c0 fun c v => ∃ R, Own c G (F) ∧ v = R ∧ RE 305 179 c R r) := by
 unfold f_edit_Wrong at H
 refine en func29 rfl rfl (sr ?_)
 obtain ⟨U, X, Z, rfl⟩ := (h2).form
 refine me (bx 59 [I a.Kind, I a.A, I a.B, .slice U X Z] S) ?_
 rintro v10 c9 P ⟨i, rfl, T, k⟩
 refine va (.nilIface) (wln (W.seq (W.block (sr (va (Q i) (vx (l1 underlying3 (k 0 _ rfl)) (bn H fun u D H => cl (c_edit_Does T a.Kind D) ?_)))))))
 rintro v17 b l16 ⟨d, rfl⟩
 refine va (B (!u)) (va (B (!u)) (wln (cn H (fun E H => ?_) (fun E H => ?_))))
 ·refine sr ?_
  obtain ⟨v19, o⟩ := (hG.mono (P.trans l16)).get 4 (by decide)
  refine vx (l1 underlying37 o.im) (va (v19) (wln (W.ret (bkr (thr ?_)))))
  obtain rfl := si H
  exact r1 ⟨_, b, rfl, rfl, pt, v19, d, rfl, o⟩
 refine W.seq (bn H fun a0 p H => bn H fun x j H => W.join (Jn b fun c l => Own c G (F) ∧ l = [(9, B x)]) ?_ ?_)
 ·clear H
  refine W.region (va (Q i) (vx (l1 underlying3 ((mm k) 0 _ rfl)) (va (B (decide (a.Kind ≤ 4))) ?_)))
  rcases bo (decide (a.Kind ≤ 4)) with e | e
  ·have y := anT e p
   refine vb e (wn (va (Q i) (wn (vx (l1 underlying3 ((mm k) 0 _ rfl)) (wn (va (B (a.Kind != 2)) ?_))))))
   obtain rfl := si y
   refine va (B (a.Kind != 2)) ?_
   rcases bo (a.Kind != 2) with f | f
   ·have h := anT f j
    refine vb f (wn (va (.pointer (some ⟨i, 0 + 1, none⟩)) (wn (vx (l1 underlying3 ((mm k) 1 _ rfl)) (wn (va (B (decide (a.A < 0))) (wn (bn h fun b0 q h => ?_))))))))
    rcases bo (decide (a.A < 0)) with g | g
    ·obtain rfl := orT g q
     refine vb g (ps (ps (ps (wn (va (B true) ?_)))))
     obtain rfl := si h
     exact va (B true) (va (B true) (wln ⟨b, _, _, rfl, pt, us, d, rfl⟩))
    have z := orF g q
    refine vb g (wn (va (.pointer (some ⟨i, 0 + 1, none⟩)) (wn (vx (l1 underlying3 ((mm k) 1 _ rfl)) (wn (va (B (decide (a.A > 2))) (wn ?_)))))))
    obtain rfl := si z
    refine va (B (decide (a.A > 2))) ?_
    obtain rfl := si h
    exact va (B (decide (a.A > 2))) (va (B (decide (a.A > 2))) (wln ⟨b, _, _, rfl, pt, us, d, rfl⟩))
   obtain rfl := anF f j
   exact vb f (ps (ps (ps (ps (ps (ps (ps (ps (va (B false) (va (B false) (wln ⟨b, _, _, rfl, pt, us, d, rfl⟩)))))))))))
  obtain rfl := anF e p
  refine vb e (ps (ps (ps (va (B false) ?_))))
  have s : false = false := rfl
  obtain rfl := anF s j
  exact vb s (ps (ps (ps (ps (ps (ps (ps (ps (va (B false) (va (B false) (wln ⟨b, _, _, rfl, pt, us, d, rfl⟩)))))))))))
 rintro e_ w_ ⟨n, e0, _, rfl, N, rfl, m, rfl⟩
 refine nrm (cn H (fun M H => ?_) (fun M H => ?_))
 ·refine sr ?_
  obtain ⟨v38, t⟩ := (hG.mono (P.trans (l16.trans N))).get 0 (by decide)
  refine vx (l1 underlying37 t.im) (va (v38) (wln (W.ret (bkr (thr ?_)))))
  obtain rfl := si H
  exact r1 ⟨_, n, rfl, rfl, pt, v38, m, rfl, t⟩
 refine W.skip (bkn (nrm (sr (va (.nilIface) (wln (W.ret ?_))))))
 obtain rfl := si H
 exact r1 ⟨_, n, rfl, rfl, pt, .nilIface, m, rfl, rfl⟩
def f_edit_rows (sg : Sto) (p0 : Option Nat) (p1 : G_api_Op) : Option (Sto) :=
 (p0).bind fun e =>
 (sg.place_Pen[e]?).bind fun b =>
 (f_grid_Grid_High sg b.G).bind fun f =>
 if (p1.Kind == 10) = true then
 (f_scroll_Up sg b.G 0 f p1.A).bind fun i =>
 some i
 else
 if (p1.Kind == 11) = true then
 (f_scroll_Down sg b.G 0 f p1.A).bind fun j =>
 some j
 else
 if (p1.Kind == 8) = true then
 (f_scroll_Down sg b.G b.At.Row f p1.A).bind fun g =>
 (g.place_Pen[e]?).bind fun c =>
 (f_cursor_Return c.At).bind fun d =>
 (g.set_place_Pen e (⟨c.G, d, c.Auto⟩ : G_place_Pen)).bind fun a =>
 some a
 else
 if (p1.Kind == 9) = true then
 (f_scroll_Up sg b.G b.At.Row f p1.A).bind fun h =>
 (h.place_Pen[e]?).bind fun c =>
 (f_cursor_Return c.At).bind fun d =>
 (h.set_place_Pen e (⟨c.G, d, c.Auto⟩ : G_place_Pen)).bind fun a =>
 some a
 else
 (f_cursor_Return b.At).bind fun d =>
 (sg.set_place_Pen e (⟨b.G, d, b.Auto⟩ : G_place_Pen)).bind fun a =>
 some a
theorem c_edit_rows (O0 : Own c0 G F) (s : Rel c0 sg G) (p0 : Option Nat) (f : G_api_Op) {r : Sto} (h2 : Pt 2 c0 v1 p0) (h4 : Sl (RI .u8) c0 v3 f.Bytes) (H : f_edit_rows sg p0 f = some r) :
    Calls prog 101 #[v1, .agg #[I f.Kind, I f.A, I f.B, v3]] c0.w (Post c0 fun c v => ∃ G_ : Gm, Own c G_ (F) ∧ Rel c r G_ ∧ v = .tuple #[]) := by
 unfold f_edit_rows at H
 refine en func101 rfl rfl (sr ?_)
 obtain ⟨a5, a6, a7, rfl⟩ := (h4).form
 refine me (bx 59 [I f.Kind, I f.A, I f.B, .slice a5 a6 a7] O0) ?_
 rintro v12 p3 x ⟨t, rfl, O9, q⟩
 refine wln (sr (va (v1) (bn H fun y3 y1 H => ?_)))
 obtain ⟨a, rfl, l⟩ := ((h2.mono x)).get y1
 refine va (Q a) (va (Q a) (bn H fun e z1 H => ?_))
 obtain ⟨v17, g, n⟩ := Rel.open_place_Pen (s.mono x) z1 l
 refine vx (le1 0 underlying35 (O9.gon g 0 rfl)) (bn H fun i a2 H => cl (c_grid_Grid_High O9 s.m e.G n a2) ?_)
 rintro v26 q3 b0 ⟨k, rfl⟩
 refine va (I i) (wln (W.seq (sr (va (Q t) (vx (l1 underlying3 ((mm q) 0 _ rfl)) (wln (W.block (sr (va (B (f.Kind == 10)) (va (B (f.Kind == 10)) (wln (cn H (fun b2 H => ?_) (fun b2 H => ?_)))))))))))))
 ·refine W.seq (rD [7] (Kp G []) k ?_)
  intro n1 z3 M
  have t2 : Kp G [] n1 := (Kp.nil M)
  refine ta 0 (Q a) (ta 1 (Q a) (ta 2 (Q a) (tkx 3 t2 (fun p h j => le1 0 underlying35 (j.gon g 0 rfl)) (ta 4 (I i) (ta 5 (.pointer (some ⟨t, 0 + 1, none⟩)) (tx 6 (fun p h => l1 underlying3 ((mm q) 1 _ rfl)) (bn H fun i3 c2 H => o1 7 (gc 7 (c_scroll_Up M s.m e.G 0 i f.A n.m c2) ?_))))))))
  rintro v37 q1 a4 ⟨z0, c1, j1, rfl⟩
  refine ⟨.inl rfl, dn (nrm (W.ret (bkr (thr ?_))))⟩
  obtain rfl := si H
  exact r0 ⟨_, q1, rfl, rfl, pt, z0, c1, j1, rfl⟩
 refine sr (va (B (f.Kind == 11)) (va (B (f.Kind == 11)) (wln (cn H (fun d2 H => ?_) (fun d2 H => ?_)))))
 ·refine W.seq (rD [7] (Kp G []) k ?_)
  intro s1 b4 N
  have u2 : Kp G [] s1 := (Kp.nil N)
  refine ta 0 (Q a) (ta 1 (Q a) (ta 2 (Q a) (tkx 3 u2 (fun p h j => le1 0 underlying35 (j.gon g 0 rfl)) (ta 4 (I i) (ta 5 (.pointer (some ⟨t, 0 + 1, none⟩)) (tx 6 (fun p h => l1 underlying3 ((mm q) 1 _ rfl)) (bn H fun j3 e2 H => o1 7 (gc 7 (c_scroll_Down N s.m e.G 0 i f.A n.m e2) ?_))))))))
  rintro v48 t1 c4 ⟨a1, d1, k1, rfl⟩
  refine ⟨.inl rfl, dn (nrm (W.ret (bkr (thr ?_))))⟩
  obtain rfl := si H
  exact r0 ⟨_, t1, rfl, rfl, pt, a1, d1, k1, rfl⟩
 refine sr (va (B (f.Kind == 8)) (va (B (f.Kind == 8)) (wln (cn H (fun f2 H => ?_) (fun f2 H => ?_)))))
 ·refine rD [12] (Kp G []) k ?_
  intro u1 d4 P
  have g0 : Kp G [] u1 := (Kp.nil P)
  refine ta 0 (Q a) (ta 1 (Q a) (ta 2 (Q a) (tkx 3 g0 (fun p h j => le1 0 underlying35 (j.gon g 0 rfl)) (ta 4 (Q a) (ta 5 (Q a) (ta 6 (.pointer (some ⟨a, 1, none⟩)) (ta 7 (.pointer (some ⟨a, 1, none⟩)) (tkx 8 g0 (fun p h j => le1 1 underlying3 (j.gon g 0 rfl)) (ta 9 (I i) (ta 10 (.pointer (some ⟨t, 0 + 1, none⟩)) (tx 11 (fun p h => l1 underlying3 ((mm q) 1 _ rfl)) (bn H fun k3 g2 H => o1 12 (gc 12 (c_scroll_Down P s.m e.G e.At.Row i f.A n.m g2) ?_)))))))))))))
  rintro v59 s3 e4 ⟨m3, R, U, rfl⟩
  refine ⟨.inl rfl, dn (bkn (nrm (W.region (va (Q a) (va (Q a) (va (Q a) (va (.pointer (some ⟨a, 1, none⟩)) (bn H fun d i2 H => ?_))))))))⟩
  obtain ⟨D, Z, j2⟩ := Rel.open_place_Pen U i2 (tm l)
  refine vx (leN 24 1 [I d.At.Row, I d.At.Col, B d.At.Pending] (R.gon Z 0 rfl)) (bn H fun b k2 H => cl (c_cursor_Return R d.At k2) ?_)
  rintro i4 t3 d0 ⟨e1, rfl⟩
  refine va (Q a) (va (.pointer (some ⟨a, 1, none⟩)) (md (gB 24 1 [I b.Row, I b.Col, B b.Pending] [D, I b.Row, I b.Col, B b.Pending, B d.Auto] 0 e1 Z ⟨rfl, rfl, rfl, trivial⟩) ?_))
  rintro w1 e0 f1
  refine bn H fun o l2 H => ?_
  obtain ⟨b1, g1, m1, x3, o3⟩ := Rel.put_place_Pen f1 (U.mono (d0.trans e0)) (E' := [(Eb a 42 [D, I b.Row, I b.Col, B b.Pending, B d.Auto])]) l2 ⟨a, D, (tm l), rfl, (j2.mono (d0.trans e0))⟩
  refine WL.nil ?_
  obtain rfl := si H
  exact n0 ⟨_, w1, rfl, rfl, pt, b1, g1, m1, rfl⟩
 refine sr (va (B (f.Kind == 9)) (va (B (f.Kind == 9)) (wln (cn H (fun m2 H => ?_) (fun m2 H => ?_)))))
 ·refine rD [12] (Kp G []) k ?_
  intro x1 f4 S
  have h0 : Kp G [] x1 := (Kp.nil S)
  refine ta 0 (Q a) (ta 1 (Q a) (ta 2 (Q a) (tkx 3 h0 (fun p h j => le1 0 underlying35 (j.gon g 0 rfl)) (ta 4 (Q a) (ta 5 (Q a) (ta 6 (.pointer (some ⟨a, 1, none⟩)) (ta 7 (.pointer (some ⟨a, 1, none⟩)) (tkx 8 h0 (fun p h j => le1 1 underlying3 (j.gon g 0 rfl)) (ta 9 (I i) (ta 10 (.pointer (some ⟨t, 0 + 1, none⟩)) (tx 11 (fun p h => l1 underlying3 ((mm q) 1 _ rfl)) (bn H fun l3 n2 H => o1 12 (gc 12 (c_scroll_Up S s.m e.G e.At.Row i f.A n.m n2) ?_)))))))))))))
  rintro j4 u3 g4 ⟨n3, T, X, rfl⟩
  refine ⟨.inl rfl, dn (bkn (nrm (W.region (va (Q a) (va (Q a) (va (Q a) (va (.pointer (some ⟨a, 1, none⟩)) (bn H fun d o2 H => ?_))))))))⟩
  obtain ⟨E, a0, p2⟩ := Rel.open_place_Pen X o2 (tm l)
  refine vx (leN 24 1 [I d.At.Row, I d.At.Col, B d.At.Pending] (T.gon a0 0 rfl)) (bn H fun b q2 H => cl (c_cursor_Return T d.At q2) ?_)
  rintro g3 w3 f0 ⟨i1, rfl⟩
  refine va (Q a) (va (.pointer (some ⟨a, 1, none⟩)) (md (gB 24 1 [I b.Row, I b.Col, B b.Pending] [E, I b.Row, I b.Col, B b.Pending, B d.Auto] 0 i1 a0 ⟨rfl, rfl, rfl, trivial⟩) ?_))
  rintro u0 u k0
  refine bn H fun o w0 H => ?_
  obtain ⟨i0, l0, s0, c3, w2⟩ := Rel.put_place_Pen k0 (X.mono (f0.trans u)) (E' := [(Eb a 42 [E, I b.Row, I b.Col, B b.Pending, B d.Auto])]) w0 ⟨a, E, (tm l), rfl, (p2.mono (f0.trans u))⟩
  refine WL.nil ?_
  obtain rfl := si H
  exact n0 ⟨_, u0, rfl, rfl, pt, i0, l0, s0, rfl⟩
 refine W.skip (bkn (nrm (W.region (va (Q a) (va (Q a) (va (Q a) (va (.pointer (some ⟨a, 1, none⟩)) (vx (leN 24 1 [I e.At.Row, I e.At.Col, B e.At.Pending] (k.gon g 0 rfl)) (bn H fun b x0 H => cl (c_cursor_Return k e.At x0) ?_)))))))))
 rintro h3 b3 y ⟨m0, rfl⟩
 refine va (Q a) (va (.pointer (some ⟨a, 1, none⟩)) (md (gB 24 1 [I b.Row, I b.Col, B b.Pending] [v17, I b.Row, I b.Col, B b.Pending, B e.Auto] 0 m0 g ⟨rfl, rfl, rfl, trivial⟩) ?_))
 rintro v0 z o0
 refine bn H fun o y0 H => ?_
 obtain ⟨j0, q0, t0, d3, x2⟩ := Rel.put_place_Pen o0 (s.mono (x.trans (b0.trans (y.trans z)))) (E' := [(Eb a 42 [v17, I b.Row, I b.Col, B b.Pending, B e.Auto])]) y0 ⟨a, v17, (tm l), rfl, (n.mono (b0.trans (y.trans z)))⟩
 refine WL.nil ?_
 obtain rfl := si H
 exact n0 ⟨_, v0, rfl, rfl, pt, j0, q0, t0, rfl⟩
def f_edit_line (sg : Sto) (p0 : Option Nat) (p1 : Int) : Option (Sto) :=
 (p0).bind fun f =>
 (sg.place_Pen[f]?).bind fun b =>
 (f_grid_Grid_Row sg b.G b.At.Row).bind fun a =>
 if (p1 == 0) = true then
 (f_erase_Right sg a b.At.Col).bind fun c =>
 some c
 else
 if (p1 == 1) = true then
 (f_erase_Left sg a b.At.Col).bind fun d =>
 some d
 else
 (f_erase_All sg a).bind fun e =>
 some e
theorem c_edit_line (O0 : Own c0 G F) (h : Rel c0 sg G) (hG : Gl [0, 4] c0) (Z : Option Nat) (d : Int) {r : Sto} (h2 : Pt 2 c0 v1 Z) (H : f_edit_line sg Z d = some r) :
    Calls prog 174 #[v1, I d] c0.w (Post c0 fun c v => ∃ G_ : Gm, Own c G_ (F) ∧ Rel c r G_ ∧ v = .tuple #[]) := by
 unfold f_edit_line at H
 refine en func174 rfl rfl (W.seq (rD [] (Kp G []) O0 ?_))
 intro c3 X q
 have p5 : Kp G [] c3 := (Kp.nil q)
 refine ta 0 (v1) (bn H fun o0 h8 H => ?_)
 obtain ⟨a, rfl, h7⟩ := ((h2.mono X)).get h8
 refine ta 1 (Q a) (ta 2 (Q a) (bn H fun g h9 H => ?_))
 obtain ⟨v10, f, E⟩ := Rel.open_place_Pen (h.mono X) h9 h7
 refine tkx 3 p5 (fun c' U j => le1 0 underlying35 (j.gon f 0 rfl)) (ta 4 (Q a) (ta 5 (Q a) (ta 6 (.pointer (some ⟨a, 1, none⟩)) (ta 7 (.pointer (some ⟨a, 1, none⟩)) (tkx 8 p5 (fun c' U j => le1 1 underlying3 (j.gon f 0 rfl)) (bn H fun e M H => o1 9 (gc 9 (c_grid_Grid_Row q h.m g.G g.At.Row E M) ?_)))))))
 rintro v14 y q0 ⟨_, b, rfl, i⟩
 have a0 : Kp G [] y := (Kp.nil b)
 refine ⟨.inr a0, ta 10 (v14) (dn (nrm (sr (va (I d) (wln (W.block (sr (va (B (d == 0)) (va (B (d == 0)) (wln (cn H (fun N H => ?_) (fun N H => ?_))))))))))))⟩
 ·refine W.region (va (v14) (va (Q a) (va (Q a) (va (.pointer (some ⟨a, 1, none⟩)) (va (.pointer (some ⟨a, 2, none⟩)) (vx (le1 2 underlying3 (b.gon f 0 rfl)) (bn H fun k0 P H => cl (c_erase_Right b h.m (hG.m.le (by decide)) e g.At.Col i P) ?_)))))))
  rintro v30 z s0 ⟨k, o, t, rfl⟩
  refine WL.nil (bkn ?_)
  obtain rfl := si H
  exact n0 ⟨_, z, rfl, rfl, pt, k, o, t, rfl⟩
 refine sr (va (B (d == 1)) (va (B (d == 1)) (wln (cn H (fun R H => ?_) (fun R H => ?_)))))
 ·refine W.region (va (v14) (va (Q a) (va (Q a) (va (.pointer (some ⟨a, 1, none⟩)) (va (.pointer (some ⟨a, 2, none⟩)) (vx (le1 2 underlying3 (b.gon f 0 rfl)) (bn H fun l0 S H => cl (c_erase_Left b h.m (hG.m.le (by decide)) e g.At.Col i S) ?_)))))))
  rintro v38 A t0 ⟨l, p, u, rfl⟩
  refine WL.nil (bkn ?_)
  obtain rfl := si H
  exact n0 ⟨_, A, rfl, rfl, pt, l, p, u, rfl⟩
 refine W.region (va (v14) (bn H fun m0 T H => cl (c_erase_All b h.m (hG.m.le (by decide)) e i T) ?_))
 rintro v45 D u0 ⟨n, s, x, rfl⟩
 refine WL.nil (bkn ?_)
 obtain rfl := si H
 exact n0 ⟨_, D, rfl, rfl, pt, n, s, x, rfl⟩
def f_edit_screen (sg : Sto) (p0 : Option Nat) (p1 : Int) : Option (Sto) :=
 (f_edit_line sg p0 p1).bind fun c =>
 (p0).bind fun b =>
 (c.place_Pen[b]?).bind fun p =>
 (f_grid_Grid_High c p.G).bind fun d =>
 (iter (σ := Int × Sto) (τ := Sto) ((d - 0).toNat + 1) (fun a =>
 if (decide (a.1 < d)) = true then
 ((orE (p1 == 2) ((andE (p1 == 0) ((a.2.place_Pen[b]?).bind fun j =>
 some (decide (a.1 > j.At.Row)))).bind fun f =>
 some f)).bind fun e =>
 (orE e ((andE (p1 == 1) ((a.2.place_Pen[b]?).bind fun k =>
 some (decide (a.1 < k.At.Row)))).bind fun h =>
 some h)).bind fun g =>
 if g = true then
 (a.2.place_Pen[b]?).bind fun l =>
 (f_grid_Grid_Row a.2 l.G a.1).bind fun m =>
 (f_erase_All a.2 m).bind fun n =>
 some (n)
 else
 some (a.2)).bind fun o =>
 some (.inl ((w64 (a.1 + 1)), o))
 else
 some (.inr (a.2))) (0, c)).bind fun i =>
 some i
theorem c_edit_screen (O0 : Own c0 G F) (R0 : Rel c0 sg G) (hG : Gl [0, 4] c0) (p0 : Option Nat) (f : Int) {r : Sto} (h2 : Pt 2 c0 v1 p0) (H : f_edit_screen sg p0 f = some r) :
    Calls prog 175 #[v1, I f] c0.w (Post c0 fun c v => ∃ G_ : Gm, Own c G_ (F) ∧ Rel c r G_ ∧ v = .tuple #[]) := by
 unfold f_edit_screen at H
 refine en func175 rfl rfl (sr (va (v1) (va (I f) (bn H fun q3 h3 H => cl (c_edit_line O0 R0 (hG.le (by decide)) p0 f h2 h3) ?_))))
 rintro v9 c8 l8 ⟨G4, O5, R6, rfl⟩
 refine wln (sr (va (v1) (bn H fun e3 j1 H => ?_)))
 obtain ⟨b, rfl, n⟩ := ((h2.mono l8)).get j1
 refine va (Q b) (va (Q b) (bn H fun k2 k1 H => ?_))
 obtain ⟨v14, n1, m1⟩ := Rel.open_place_Pen R6 k1 n
 refine vx (le1 0 underlying35 (O5.gon n1 0 rfl)) (bn H fun A q1 H => cl (c_grid_Grid_High O5 R6 k2.G m1 q1) ?_)
 rintro v23 R f3 ⟨x0, rfl⟩
 refine va (I 0) (wln (W.block (bn H fun u2 U T => lp U (fun a => Jn R fun c l => ∃ G_, Own c G_ (F) ∧ l = [(0, Q b), (1, I f), (12, I A), (13, I a.1)] ∧ Rel c a.2 G_) (fun S ex e w => ex = .exit 0 ∧ (Jn R fun c l => ∃ G_, Own c G_ (F) ∧ l = [] ∧ Rel c S G_) e w) ?_ ?_ ?_)))
 ·clear T U
  intro a s3 i1 l2 H
  revert i1 l2
  rintro e_ w_ ⟨i, x2, _, rfl, g3, rfl, D, g, rfl, j⟩
  refine sr (va (B (decide (a.1 < A))) (wln (W.seq (cn H (fun t1 H => ?_) (fun t1 H => ?_)))))
  ·refine W.skip (nrm (bn H fun t0 d w0 => W.seqJ (Jn i fun c l => ∃ G_, Own c G_ (F) ∧ l = [(0, Q b), (1, I f), (12, I A), (13, I a.1)] ∧ Rel c t0 G_) ?_ ?_))
   ·refine W.block (sr (va (I a.1) (va (I a.1) (wln (W.seq (bn d fun p2 X d => bn d fun j0 z d => W.join (Jn i fun c l => Own c D (F) ∧ l = [(0, Q b), (1, I f), (4, I a.1), (12, I A), (13, I a.1), (43, B j0)]) ?_ ?_))))))
    ·clear d
     refine W.region (va (I f) (va (B (f == 2)) ?_))
     rcases bo (f == 2) with o | o
     ·obtain rfl := orT o X
      refine vb o (ps (ps (ps (ps (ps (ps (ps (ps (ps (ps (ps (va (B true) ?_))))))))))))
      have Z : true = true := rfl
      obtain rfl := orT Z z
      exact vb Z (ps (ps (ps (ps (ps (ps (ps (ps (ps (ps (ps (va (B true) (wln ⟨i, _, _, rfl, pt, us, g, rfl⟩)))))))))))))
     have u := orF o X
     refine vb o (wn (va (I f) (wn (va (B (f == 0)) (wn (bn u fun q2 a0 u => ?_))))))
     rcases bo (f == 0) with p | p
     ·have E := anT p a0
      refine vb p (wn (va (I a.1) (wn (va (Q b) (wn (va (Q b) (wn (va (.pointer (some ⟨b, 1, none⟩)) (wn (va (.pointer (some ⟨b, 1, none⟩)) (wn (bn E fun k u1 E => ?_))))))))))))
      obtain ⟨v44, w1, b3⟩ := Rel.open_place_Pen j u1 (tm n)
      refine vx (le1 1 underlying3 (g.gon w1 0 rfl)) (wn (va (B (decide (a.1 > k.At.Row))) (wn ?_)))
      obtain rfl := si E
      refine va (B (decide (a.1 > k.At.Row))) ?_
      obtain rfl := si u
      refine va (B (decide (a.1 > k.At.Row))) ?_
      rcases bo (decide (a.1 > k.At.Row)) with q | q
      ·obtain rfl := orT q z
       exact vb q (ps (ps (ps (ps (ps (ps (ps (ps (ps (ps (ps (va (B true) (wln ⟨i, _, _, rfl, pt, us, g, rfl⟩)))))))))))))
      have x := orF q z
      refine vb q (wn (va (I f) (wn (va (B (f == 1)) (wn (bn x fun k0 b0 x => ?_))))))
      rcases bo (f == 1) with s | s
      ·have M := anT s b0
       refine vb s (wn (va (I a.1) (wn (va (Q b) (wn (va (Q b) (wn (va (.pointer (some ⟨b, 1, none⟩)) (wn (va (.pointer (some ⟨b, 1, none⟩)) (wn (bn M fun h x1 M => ?_))))))))))))
       obtain ⟨v53, y1, c3⟩ := Rel.open_place_Pen j x1 (tm n)
       refine vx (le1 1 underlying3 (g.gon y1 0 rfl)) (wn (va (B (decide (a.1 < h.At.Row))) (wn ?_)))
       obtain rfl := si M
       refine va (B (decide (a.1 < h.At.Row))) ?_
       obtain rfl := si x
       exact va (B (decide (a.1 < h.At.Row))) (wln ⟨i, _, _, rfl, pt, us, g, rfl⟩)
      obtain rfl := anF s b0
      refine vb s (ps (ps (ps (ps (ps (ps (ps (wn (va (B false) ?_)))))))))
      obtain rfl := si x
      exact va (B false) (wln ⟨i, _, _, rfl, pt, us, g, rfl⟩)
     obtain rfl := anF p a0
     refine vb p (ps (ps (ps (ps (ps (ps (ps (wn (va (B false) ?_)))))))))
     obtain rfl := si u
     refine va (B false) ?_
     have d0 : false = false := rfl
     have y := orF d0 z
     refine vb d0 (wn (va (I f) (wn (va (B (f == 1)) (wn (bn y fun k0 e0 y => ?_))))))
     rcases bo (f == 1) with t | t
     ·have N := anT t e0
      refine vb t (wn (va (I a.1) (wn (va (Q b) (wn (va (Q b) (wn (va (.pointer (some ⟨b, 1, none⟩)) (wn (va (.pointer (some ⟨b, 1, none⟩)) (wn (bn N fun h z1 N => ?_))))))))))))
      obtain ⟨m3, a2, d3⟩ := Rel.open_place_Pen j z1 (tm n)
      refine vx (le1 1 underlying3 (g.gon a2 0 rfl)) (wn (va (B (decide (a.1 < h.At.Row))) (wn ?_)))
      obtain rfl := si N
      refine va (B (decide (a.1 < h.At.Row))) ?_
      obtain rfl := si y
      exact va (B (decide (a.1 < h.At.Row))) (wln ⟨i, _, _, rfl, pt, us, g, rfl⟩)
     obtain rfl := anF t e0
     refine vb t (ps (ps (ps (ps (ps (ps (ps (wn (va (B false) ?_)))))))))
     obtain rfl := si y
     exact va (B false) (wln ⟨i, _, _, rfl, pt, us, g, rfl⟩)
    rintro e_ w_ ⟨e1, y2, _, rfl, j2, rfl, P, rfl⟩
    refine nrm (cn d (fun b2 d => ?_) (fun b2 d => ?_))
    ·refine W.region (va (Q b) (va (Q b) (va (Q b) (bn d fun m0 c2 d => ?_))))
     obtain ⟨n3, e2, d2⟩ := Rel.open_place_Pen (j.mono j2) c2 (tm n)
     refine vx (le1 0 underlying35 (P.gon e2 0 rfl)) (va (I a.1) (bn d fun s0 f2 d => cl (c_grid_Grid_Row P j.m m0.G a.1 d2 f2) ?_))
     rintro o3 w2 i3 ⟨_, z0, rfl, g2⟩
     refine bn d fun v2 i2 d => cl (c_erase_All z0 j.m (hG.m.le (by decide)) s0 g2 i2) ?_
     rintro p3 f1 j3 ⟨u0, a1, c1, rfl⟩
     refine WL.nil (bkn (nrm ?_))
     obtain rfl := si d
     exact ⟨f1, _, _, rfl, pt, us, u0, a1, rfl, c1⟩
    refine W.skip (bkn (nrm ?_))
    obtain rfl := si d
    exact ⟨e1, _, _, rfl, pt, us, D, P, rfl, j.m⟩
   rintro e_ w_ ⟨g1, z2, _, rfl, k3, rfl, v0, b1, rfl, d1⟩
   refine W.region (va (I (w64 (a.1 + 1))) (va (I (w64 (a.1 + 1))) (WL.nil ?_)))
   obtain rfl := si w0
   exact ⟨_, rfl, ⟨g1, _, _, rfl, pt, us, v0, b1, rfl, d1⟩⟩
  refine W.exit (thx ?_)
  obtain rfl := si H
  exact ⟨_, rfl, rfl, ⟨i, _, _, rfl, pt, us, D, g, rfl, j⟩⟩
 ·exact ⟨R, _, _, rfl, pt, us, G4, x0, rfl, R6.m⟩
 rintro _ e_ w_ ⟨rfl, h1, a3, _, rfl, l3, rfl, f0, g0, rfl, h0⟩
 refine bke ?_
 obtain rfl := si T
 exact n0 ⟨_, h1, rfl, rfl, pt, f0, g0, h0, rfl⟩
def f_edit_cells (sg : Sto) (p0 : Option Nat) (p1 : G_api_Op) : Option (Sto) :=
 (p0).bind fun e =>
 (sg.place_Pen[e]?).bind fun a =>
 (f_grid_Grid_Row sg a.G a.At.Row).bind fun c =>
 if (p1.Kind == 2) = true then
 (f_grid_Grid_Wide sg a.G).bind fun f =>
 (f_grid_Grid_High sg a.G).bind fun g =>
 (f_cursor_Move p1.A p1.B f g).bind fun h =>
 (sg.set_place_Pen e (⟨a.G, h, a.Auto⟩ : G_place_Pen)).bind fun d =>
 some d
 else
 if (p1.Kind == 3) = true then
 (f_edit_line sg p0 p1.A).bind fun i =>
 some i
 else
 if (p1.Kind == 4) = true then
 (f_edit_screen sg p0 p1.A).bind fun j =>
 some j
 else
 if (p1.Kind == 5) = true then
 (f_erase_Cells sg c a.At.Col p1.A).bind fun k =>
 some k
 else
 if (p1.Kind == 6) = true then
 (f_shift_Insert sg c a.At.Col p1.A).bind fun l =>
 some l
 else
 if (p1.Kind == 7) = true then
 (f_shift_Delete sg c a.At.Col p1.A).bind fun m =>
 some m
 else
 if (p1.Kind == 12) = true then
 (sg.set_place_Pen e (⟨a.G, a.At, p1.A != 0⟩ : G_place_Pen)).bind fun b =>
 some b
 else
 some sg
theorem c_edit_cells (O0 : Own c0 G F) (k : Rel c0 sg G) (hG : Gl [0, 4] c0) (D : Option Nat) (b : G_api_Op) {r : Sto} (h2 : Pt 2 c0 v1 D) (h4 : Sl (RI .u8) c0 v3 b.Bytes) (H : f_edit_cells sg D b = some r) :
    Calls prog 102 #[v1, .agg #[I b.Kind, I b.A, I b.B, v3]] c0.w (Post c0 fun c v => ∃ G_ : Gm, Own c G_ (F) ∧ Rel c r G_ ∧ v = .tuple #[]) := by
 unfold f_edit_cells at H
 refine en func102 rfl rfl (sr ?_)
 obtain ⟨a5, a6, a7, rfl⟩ := (h4).form
 refine me (bx 59 [I b.Kind, I b.A, I b.B, .slice a5 a6 a7] O0) ?_
 rintro v12 d4 q ⟨n, rfl, O9, i⟩
 refine wln (W.seq (rD [] (Kp G []) O9 ?_))
 intro a2 s E
 have e0 : Kp G [] a2 := (Kp.nil E)
 refine ta 0 (v1) (bn H fun f4 m2 H => ?_)
 obtain ⟨a, rfl, x⟩ := ((h2.mono (q.trans s))).get m2
 refine ta 1 (Q a) (ta 2 (Q a) (bn H fun d n2 H => ?_))
 obtain ⟨v20, h, o⟩ := Rel.open_place_Pen (k.mono (q.trans s)) n2 x
 refine tkx 3 e0 (fun l f j => le1 0 underlying35 (j.gon h 0 rfl)) (ta 4 (Q a) (ta 5 (Q a) (ta 6 (.pointer (some ⟨a, 1, none⟩)) (ta 7 (.pointer (some ⟨a, 1, none⟩)) (tkx 8 e0 (fun l f j => le1 1 underlying3 (j.gon h 0 rfl)) (bn H fun p o2 H => o1 9 (gc 9 (c_grid_Grid_Row E k.m d.G d.At.Row o o2) ?_)))))))
 rintro v24 U t ⟨_, g, rfl, y⟩
 have c3 : Kp G [] U := (Kp.nil g)
 refine ⟨.inr c3, ta 10 (v24) (dn (nrm (sr (va (Q n) (vx (l1 underlying3 ((mm i) 0 _ rfl)) (wln (W.block (sr (va (B (b.Kind == 2)) (va (B (b.Kind == 2)) (wln (cn H (fun p2 H => ?_) (fun p2 H => ?_)))))))))))))⟩
 ·refine rD [18] (Kp G []) g ?_
  intro b2 X M
  have f0 : Kp G [] b2 := (Kp.nil M)
  refine ta 0 (Q a) (ta 1 (.pointer (some ⟨n, 0 + 1, none⟩)) (tx 2 (fun l f => l1 underlying3 ((mm i) 1 _ rfl)) (ta 3 (.pointer (some ⟨n, 0 + 2, none⟩)) (tx 4 (fun l f => l1 underlying3 ((mm i) 2 _ rfl)) (ta 5 (Q a) (ta 6 (Q a) (ta 7 (Q a) (tkx 8 f0 (fun l f j => le1 0 underlying35 (j.gon h 0 rfl)) (ta 10 (Q a) (ta 11 (Q a) (ta 12 (Q a) (tkx 13 f0 (fun l f j => le1 0 underlying35 (j.gon h 0 rfl)) (bn H fun f1 q2 H => o1 9 (gc 9 (c_grid_Grid_Wide M k.m d.G o.m q2) ?_))))))))))))))
  rintro v43 c2 Z ⟨N, rfl⟩
  have d3 : Kp G [] c2 := (Kp.nil N)
  refine ⟨.inr d3, bn H fun g1 s2 H => o1 14 (gc 14 (c_grid_Grid_High N k.m d.G o.m s2) ?_)⟩
  rintro v51 d2 a0 ⟨P, rfl⟩
  have e3 : Kp G [] d2 := (Kp.nil P)
  refine ⟨.inr e3, bn H fun e t2 H => o1 15 (gc 15 (c_cursor_Move P b.A b.B f1 g1 t2) ?_)⟩
  rintro v59 e2 b0 ⟨R, rfl⟩
  have f3 : Kp G [] e2 := (Kp.nil R)
  refine ⟨.inr f3, ta 16 (Q a) (ta 17 (.pointer (some ⟨a, 1, none⟩)) (o1 18 (gD 18 (gB 24 1 [I e.Row, I e.Col, B e.Pending] [v20, I e.Row, I e.Col, B e.Pending, B d.Auto] 0 R h ⟨rfl, rfl, rfl, trivial⟩) ?_)))⟩
  rintro f2 d0 n1
  refine bn H fun h1 u2 H => ?_
  obtain ⟨i1, q1, w1, e4, c4⟩ := Rel.put_place_Pen n1 (k.mono (q.trans (s.trans (t.trans (X.trans (Z.trans (a0.trans (b0.trans d0)))))))) (E' := [(Eb a 42 [v20, I e.Row, I e.Col, B e.Pending, B d.Auto])]) u2 ⟨a, v20, (tm x), rfl, (o.mono (t.trans (X.trans (Z.trans (a0.trans (b0.trans d0))))))⟩
  refine ⟨.inl rfl, dn (bkn ?_)⟩
  obtain rfl := si H
  exact n0 ⟨_, f2, rfl, rfl, pt, i1, q1, w1, rfl⟩
 refine sr (va (B (b.Kind == 3)) (va (B (b.Kind == 3)) (wln (cn H (fun v2 H => ?_) (fun v2 H => ?_)))))
 ·refine W.region (va (Q a) (va (.pointer (some ⟨n, 0 + 1, none⟩)) (vx (l1 underlying3 ((mm i) 1 _ rfl)) (bn H fun x3 w2 H => cl (c_edit_line g k.m (hG.m.le (by decide)) D b.A h2.m w2) ?_))))
  rintro m4 g2 g4 ⟨j1, s1, x1, rfl⟩
  refine WL.nil (bkn ?_)
  obtain rfl := si H
  exact n0 ⟨_, g2, rfl, rfl, pt, j1, s1, x1, rfl⟩
 refine sr (va (B (b.Kind == 4)) (va (B (b.Kind == 4)) (wln (cn H (fun x2 H => ?_) (fun x2 H => ?_)))))
 ·refine W.region (va (Q a) (va (.pointer (some ⟨n, 0 + 1, none⟩)) (vx (l1 underlying3 ((mm i) 1 _ rfl)) (bn H fun y3 y2 H => cl (c_edit_screen g k.m (hG.m.le (by decide)) D b.A h2.m y2) ?_))))
  rintro n4 i2 i4 ⟨k1, t1, y1, rfl⟩
  refine WL.nil (bkn ?_)
  obtain rfl := si H
  exact n0 ⟨_, i2, rfl, rfl, pt, k1, t1, y1, rfl⟩
 refine sr (va (B (b.Kind == 5)) (va (B (b.Kind == 5)) (wln (cn H (fun z2 H => ?_) (fun z2 H => ?_)))))
 ·refine rD [8] (Kp G []) g ?_
  intro j2 j4 S
  have g3 : Kp G [] j2 := (Kp.nil S)
  refine ta 0 (v24) (ta 1 (Q a) (ta 2 (Q a) (ta 3 (.pointer (some ⟨a, 1, none⟩)) (ta 4 (.pointer (some ⟨a, 2, none⟩)) (tkx 5 g3 (fun l f j => le1 2 underlying3 (j.gon h 0 rfl)) (ta 6 (.pointer (some ⟨n, 0 + 1, none⟩)) (tx 7 (fun l f => l1 underlying3 ((mm i) 1 _ rfl)) (bn H fun z3 a3 H => o1 8 (gc 8 (c_erase_Cells S k.m (hG.m.le (by decide)) p d.At.Col b.A y.m a3) ?_)))))))))
  rintro o4 k2 k4 ⟨m1, u1, z1, rfl⟩
  refine ⟨.inl rfl, dn (bkn ?_)⟩
  obtain rfl := si H
  exact n0 ⟨_, k2, rfl, rfl, pt, m1, u1, z1, rfl⟩
 refine sr (va (B (b.Kind == 6)) (va (B (b.Kind == 6)) (wln (cn H (fun b3 H => ?_) (fun b3 H => ?_)))))
 ·refine rD [8] (Kp G []) g ?_
  intro l2 l4 T
  have h3 : Kp G [] l2 := (Kp.nil T)
  refine ta 0 (v24) (ta 1 (Q a) (ta 2 (Q a) (ta 3 (.pointer (some ⟨a, 1, none⟩)) (ta 4 (.pointer (some ⟨a, 2, none⟩)) (tkx 5 h3 (fun l f j => le1 2 underlying3 (j.gon h 0 rfl)) (ta 6 (.pointer (some ⟨n, 0 + 1, none⟩)) (tx 7 (fun l f => l1 underlying3 ((mm i) 1 _ rfl)) (bn H fun a4 x0 H => o1 8 (gc 8 (c_shift_Insert T k.m (hG.m.le (by decide)) p d.At.Col b.A y.m x0) ?_)))))))))
  rintro u3 t0 q3 ⟨g0, j0, o0, rfl⟩
  refine ⟨.inl rfl, dn (bkn ?_)⟩
  obtain rfl := si H
  exact n0 ⟨_, t0, rfl, rfl, pt, g0, j0, o0, rfl⟩
 refine sr (va (B (b.Kind == 7)) (va (B (b.Kind == 7)) (wln (cn H (fun y0 H => ?_) (fun y0 H => ?_)))))
 ·refine rD [8] (Kp G []) g ?_
  intro u0 s3 u
  have d1 : Kp G [] u0 := (Kp.nil u)
  refine ta 0 (v24) (ta 1 (Q a) (ta 2 (Q a) (ta 3 (.pointer (some ⟨a, 1, none⟩)) (ta 4 (.pointer (some ⟨a, 2, none⟩)) (tkx 5 d1 (fun l f j => le1 2 underlying3 (j.gon h 0 rfl)) (ta 6 (.pointer (some ⟨n, 0 + 1, none⟩)) (tx 7 (fun l f => l1 underlying3 ((mm i) 1 _ rfl)) (bn H fun b4 z0 H => o1 8 (gc 8 (c_shift_Delete u k.m (hG.m.le (by decide)) p d.At.Col b.A y.m z0) ?_)))))))))
  rintro w3 v0 t3 ⟨h0, k0, q0, rfl⟩
  refine ⟨.inl rfl, dn (bkn ?_)⟩
  obtain rfl := si H
  exact n0 ⟨_, v0, rfl, rfl, pt, h0, k0, q0, rfl⟩
 refine sr (va (B (b.Kind == 12)) (va (B (b.Kind == 12)) (wln (cn H (fun a1 H => ?_) (fun a1 H => ?_)))))
 ·refine W.region (va (Q a) (va (.pointer (some ⟨n, 0 + 1, none⟩)) (vx (l1 underlying3 ((mm i) 1 _ rfl)) (va (B (b.A != 0)) (va (Q a) (va (.pointer (some ⟨a, 4, none⟩)) (md (gC 4 4 (B (b.A != 0)) [v20, I d.At.Row, I d.At.Col, B d.At.Pending, B (b.A != 0)] 0 g h ⟨rfl, trivial⟩) ?_)))))))
  rintro w0 z l0
  refine bn H fun e1 b1 H => ?_
  obtain ⟨i0, m0, s0, o3, k3⟩ := Rel.put_place_Pen l0 (k.mono (q.trans (s.trans (t.trans z)))) (E' := [(Eb a 42 [v20, I d.At.Row, I d.At.Col, B d.At.Pending, B (b.A != 0)])]) b1 ⟨a, v20, (tm x), rfl, (o.mono (t.trans z))⟩
  refine WL.nil (bkn ?_)
  obtain rfl := si H
  exact n0 ⟨_, w0, rfl, rfl, pt, i0, m0, s0, rfl⟩
 refine W.skip (bkn ?_)
 obtain rfl := si H
 exact n0 ⟨_, U, rfl, rfl, pt, G, g, k.m, rfl⟩
def f_edit_Do (sg : Sto) (p0 : Option Nat) (p1 : G_api_Op) : Option (Sto × Er) :=
 (f_edit_Wrong p1).bind fun g =>
 if (!g.isNil) = true then
 some (sg, g)
 else
 (orE p0.isNone ((p0).bind fun i =>
 (sg.place_Pen[i]?).bind fun j =>
 some j.G.isNone)).bind fun h =>
 if h = true then
 some (sg, Er.nil)
 else
 (p0).bind fun d =>
 (sg.place_Pen[d]?).bind fun b =>
 (f_grid_Grid_Wide sg b.G).bind fun k =>
 (f_grid_Grid_High sg b.G).bind fun l =>
 (f_cursor_Hold b.At k l).bind fun e =>
 (sg.set_place_Pen d (⟨b.G, e, b.Auto⟩ : G_place_Pen)).bind fun f =>
 (f.set_place_Pen d (⟨b.G, (⟨e.Row, e.Col, false⟩ : G_api_Cursor), b.Auto⟩ : G_place_Pen)).bind fun a =>
 (if (p1.Kind == 8) = true then
 (f_edit_rows a p0 p1).bind fun c =>
 some (c)
 else
 if (p1.Kind == 9) = true then
 (f_edit_rows a p0 p1).bind fun c =>
 some (c)
 else
 (if (p1.Kind == 10) = true then
 some (p1.Kind == 10)
 else
 some (p1.Kind == 11)).bind fun o =>
 if o = true then
 (f_edit_rows a p0 p1).bind fun c =>
 some (c)
 else
 (f_edit_cells a p0 p1).bind fun m =>
 some (m)).bind fun n =>
 some (n, Er.nil)
theorem c_edit_Do (O0 : Own c0 G F) (t : Rel c0 sg G) (hG : Gl [0, 4] c0) (s : Option Nat) (e : G_api_Op) {r : Sto × Er} (u : Pt 2 c0 v1 s) (P : Sl (RI .u8) c0 v3 e.Bytes) (H : f_edit_Do sg s e = some r) :
    Calls prog 30 #[v1, .agg #[I e.Kind, I e.A, I e.B, v3]] c0.w (Post c0 fun c v => ∃ y1, ∃ G_ : Gm, Own c G_ (F) ∧ Rel c r.1 G_ ∧ v = y1 ∧ RE 305 179 c y1 r.2) := by
 unfold f_edit_Do at H
 refine en func30 rfl rfl (sr ?_)
 obtain ⟨a5, a6, a7, rfl⟩ := (P).form
 refine me (bx 59 [I e.Kind, I e.A, I e.B, .slice a5 a6 a7] O0) ?_
 rintro v12 v4 p ⟨b8, rfl, O9, k⟩
 refine va (.nilIface) (wln (W.seq (sr (vx (lN 59 k) (bn H fun w3 y2 H => cl (c_edit_Wrong O9 (hG.m.le (by decide)) e P.m y2) ?_)))))
 rintro v14 D q ⟨_, x, rfl, o0⟩
 refine va (v14) (wln (sr (va (v14) (vr (B (!w3.isNil)) (by rcases (o0).cs with ⟨h, i⟩ | ⟨b_, h, i⟩ | ⟨b_, h, i⟩ <;> (subst h; rw [i]; kernel_rfl)) (wln (cn H (fun z2 H => ?_) (fun z2 H => ?_)))))))
 ·refine sr (va (v14) (va (v14) (wln (W.ret (thr ?_)))))
  obtain rfl := si H
  exact r1 ⟨_, D, rfl, rfl, pt, v14, G, x, t.m, rfl, o0⟩
 refine W.skip (nrm (W.seq (W.seq (bn H fun n1 q0 H => W.join (Jn D fun c l => Own c G (F) ∧ l = [(0, v1), (3, Q b8), (19, B n1)]) ?_ ?_))))
 ·clear H
  refine W.region (va (v1) (vr (B s.isNone) (by rcases u.m.cs with ⟨h, i⟩ | ⟨b_, h, i⟩ <;> (subst h; rw [i]; kernel_rfl)) ?_))
  rcases bo (s.isNone) with o | o
  ·obtain rfl := orT o q0
   exact vb o (ps (ps (ps (ps (ps (va (B true) (wln ⟨D, _, _, rfl, pt, us, x, rfl⟩)))))))
  have n := orF o q0
  refine vb o (wn (va (v1) (wn (bn n fun g4 b3 n => ?_))))
  obtain ⟨m0, rfl, a3⟩ := ((u.mono (p.trans q))).get b3
  refine va (Q m0) (wn (va (Q m0) (wn (bn n fun e0 c3 n => ?_))))
  obtain ⟨v30, e3, d3⟩ := Rel.open_place_Pen (t.mono (p.trans q)) c3 a3
  refine vx (le1 0 underlying35 (x.gon e3 0 rfl)) (wn (vr (B e0.G.isNone) (by rcases (d3).cs with ⟨h, i⟩ | ⟨b_, h, i⟩ <;> (subst h; rw [i]; kernel_rfl)) ?_))
  obtain rfl := si n
  exact va (B e0.G.isNone) (wln ⟨D, _, _, rfl, pt, us, x, rfl⟩)
 rintro e_ w_ ⟨q2, x4, _, rfl, U, rfl, h0, rfl⟩
 refine nrm (cn H (fun f3 H => ?_) (fun f3 H => ?_))
 ·refine sr (va (.nilIface) (wln (W.ret (thr ?_))))
  obtain rfl := si H
  exact r1 ⟨_, q2, rfl, rfl, pt, .nilIface, G, h0, t.m, rfl, rfl⟩
 refine W.skip (nrm (W.seq (rD [18] (Kp G []) h0 ?_)))
 intro s2 X i0
 have f0 : Kp G [] s2 := (Kp.nil i0)
 refine ta 0 (v1) (ta 1 (v1) (bn H fun i4 g3 H => ?_))
 obtain ⟨a, rfl, S⟩ := ((u.mono (p.trans (q.trans (U.trans X))))).get g3
 refine ta 2 (Q a) (ta 3 (.pointer (some ⟨a, 1, none⟩)) (bn H fun d h3 H => ?_))
 obtain ⟨v47, N, M⟩ := Rel.open_place_Pen (t.mono (p.trans (q.trans (U.trans X)))) h3 S
 refine tkx 4 f0 (fun c' s0 T => leN 24 1 [I d.At.Row, I d.At.Col, B d.At.Pending] (T.gon N 0 rfl)) (ta 5 (Q a) (ta 6 (Q a) (ta 7 (Q a) (tkx 8 f0 (fun c' s0 T => le1 0 underlying35 (T.gon N 0 rfl)) (ta 10 (Q a) (ta 11 (Q a) (ta 12 (Q a) (tkx 13 f0 (fun c' s0 T => le1 0 underlying35 (T.gon N 0 rfl)) (bn H fun z1 i3 H => o1 9 (gc 9 (c_grid_Grid_Wide i0 t.m d.G M i3) ?_))))))))))
 rintro v56 t2 Z ⟨j0, rfl⟩
 have q3 : Kp G [] t2 := (Kp.nil j0)
 refine ⟨.inr q3, bn H fun a2 j3 H => o1 14 (gc 14 (c_grid_Grid_High j0 t.m d.G M.m j3) ?_)⟩
 rintro b5 u2 a0 ⟨k0, rfl⟩
 have s3 : Kp G [] u2 := (Kp.nil k0)
 refine ⟨.inr s3, bn H fun b k3 H => o1 15 (gc 15 (c_cursor_Hold k0 d.At z1 a2 k3) ?_)⟩
 rintro c5 v2 b0 ⟨l0, rfl⟩
 have t3 : Kp G [] v2 := (Kp.nil l0)
 refine ⟨.inr t3, ta 16 (Q a) (ta 17 (.pointer (some ⟨a, 1, none⟩)) (o1 18 (gD 18 (gB 24 1 [I b.Row, I b.Col, B b.Pending] [v47, I b.Row, I b.Col, B b.Pending, B d.Auto] 0 l0 N ⟨rfl, rfl, rfl, trivial⟩) ?_)))⟩
 rintro w4 d0 j2
 refine bn H fun d2 m3 H => ?_
 obtain ⟨s4, k2, n2, l3, t4⟩ := Rel.put_place_Pen j2 (t.mono (p.trans (q.trans (U.trans (X.trans (Z.trans (a0.trans (b0.trans d0)))))))) (E' := [(Eb a 42 [v47, I b.Row, I b.Col, B b.Pending, B d.Auto])]) m3 ⟨a, v47, (tm S), rfl, (M.mono (Z.trans (a0.trans (b0.trans d0))))⟩
 refine ⟨.inl rfl, dn (nrm (sr (va (Q a) (va (Q a) (va (.pointer (some ⟨a, 1, none⟩)) (va (.pointer (some ⟨a, 3, none⟩)) (md (gC 4 3 (B false) [v47, I b.Row, I b.Col, B false, B d.Auto] 0 k2 l3 ⟨rfl, trivial⟩) ?_)))))))⟩
 rintro E t0 l2
 refine bn H fun e2 n3 H => ?_
 obtain ⟨f2, y, z, y4, u4⟩ := Rel.put_place_Pen l2 (n2.mono t0) (E' := [(Eb a 42 [v47, I b.Row, I b.Col, B false, B d.Auto])]) n3 ⟨a, v47, (tm S), rfl, (M.mono (Z.trans (a0.trans (b0.trans (d0.trans t0)))))⟩
 refine wln (bn H fun b2 f i2 => W.seqJ (Jn E fun c l => ∃ G_, Own c G_ (F) ∧ l = [] ∧ Rel c b2 G_) ?_ ?_)
 ·refine sr (va (Q b8) (vx (l1 underlying3 ((mm k) 0 _ rfl)) (wln (W.block (W.seq (W.block (W.seq (W.block (W.block (W.block (W.seq (W.seq (sr (va (B (e.Kind == 8)) (va (B (e.Kind == 8)) (wln (cn f (fun o3 f => ?_) (fun o3 f => ?_))))))))))))))))))
  ·refine W.exit (thx (thx (bke (bkn (bkn (nrm (sr (va (Q a) (vx (lN 59 (mm k)) (bn f fun g0 p3 f => cl (c_edit_rows y z s e u.m P.m p3) ?_))))))))))
   rintro d5 w2 z4 ⟨g2, m2, o2, rfl⟩
   refine wln (W.exit (bko rfl (thx (bke (nrm ?_)))))
   obtain rfl := si f
   exact ⟨w2, _, _, rfl, pt, us, g2, m2, rfl, o2⟩
  refine W.skip (nrm (W.seq (sr (va (B (e.Kind == 9)) (va (B (e.Kind == 9)) (wln (cn f (fun q1 f => ?_) (fun q1 f => ?_))))))))
  ·refine W.exit (thx (thx (bko rfl (bke (bkn (nrm (sr (va (Q a) (vx (lN 59 (mm k)) (bn f fun g0 s1 f => cl (c_edit_rows y z s e u.m P.m s1) ?_))))))))))
   rintro o4 i1 j4 ⟨u0, y0, c1, rfl⟩
   refine wln (W.exit (bko rfl (thx (bke (nrm ?_)))))
   obtain rfl := si f
   exact ⟨i1, _, _, rfl, pt, us, u0, y0, rfl, c1⟩
  refine W.skip (nrm (bn f fun c2 j g => W.seqJ (Jn E fun c l => Own c f2 (F) ∧ l = [(0, Q a), (3, Q b8), (48, B c2)]) ?_ ?_))
  ·refine sr (va (B (e.Kind == 10)) (va (B (e.Kind == 10)) (wln (cn j (fun t1 j => ?_) (fun t1 j => ?_)))))
   ·refine W.skip (nrm ?_)
    obtain rfl := si j
    exact ⟨E, _, _, rfl, pt, us, y, rfl⟩
   refine W.region (va (B (e.Kind == 11)) (va (B (e.Kind == 11)) (wln ?_)))
   obtain rfl := si j
   exact ⟨E, _, _, rfl, pt, us, y, rfl⟩
  rintro e_ w_ ⟨d4, e4, _, rfl, k4, rfl, R, rfl⟩
  refine cn g (fun u1 g => ?_) (fun u1 g => ?_)
  ·refine W.exit (thx (bko rfl (bko rfl (bke (nrm (sr (va (Q a) (vx (lN 59 (mm k)) (bn g fun g0 w1 g => cl (c_edit_rows R z.m s e u.m P.m w1) ?_)))))))))
   rintro p4 j1 l4 ⟨v0, z0, d1, rfl⟩
   refine wln (W.exit (bko rfl (thx (bke (nrm ?_)))))
   obtain rfl := si g
   exact ⟨j1, _, _, rfl, pt, us, v0, z0, rfl, d1⟩
  refine W.skip (nrm (W.exit (bko rfl (bko rfl (bko rfl (thx (bke (nrm (sr (va (Q a) (vx (lN 59 (mm k)) (bn g fun r4 x1 g => cl (c_edit_cells R z.m (hG.m.le (by decide)) s e u.m P.m x1) ?_))))))))))))
  rintro q4 k1 m4 ⟨w0, a1, e1, rfl⟩
  refine wln (W.exit (bke (nrm ?_)))
  obtain rfl := si g
  exact ⟨k1, _, _, rfl, pt, us, w0, a1, rfl, e1⟩
 rintro e_ w_ ⟨m1, f4, _, rfl, n4, rfl, x0, b1, rfl, f1⟩
 refine sr (va (.nilIface) (wln (W.ret ?_)))
 obtain rfl := si i2
 exact r1 ⟨_, m1, rfl, rfl, pt, .nilIface, x0, b1, f1, rfl, rfl⟩
def f_linotyperef38_act (p0 : G_linotyperef34_Pen) (p1 : Int) (p2 : Int) (p3 : Int) (p4 : Int) : Option (G_linotyperef34_Pen) :=
 (idx p0.L p1).bind fun d =>
 (idx p0.L p1).bind fun b =>
 (f_linotyperef26_Act d.Cells b.Wrap p2 p3 p4).bind fun a =>
 (f_linotyperef34_Pen_With p0 p1 (⟨a.1, a.2⟩ : G_api_Line)).bind fun c =>
 some c
def f_linotyperef38_lines (p0 : G_linotyperef34_Pen) (p1 : Int) (p2 : Int) : Option (G_linotyperef34_Pen) :=
 (idx ([2, 1, 3] : List Int) p2).bind fun k =>
 (f_linotyperef38_act p0 p0.At.Row k p0.At.Col 0).bind fun b =>
 (iter (σ := Int × (List G_api_Line) × Int × Int × Bool × Bool) (τ := ((List G_api_Line) × Int × Int × Bool × Bool)) (((b.L.length : Int) - 0).toNat + 1) (fun a =>
 (andE (decide (a.1 < (a.2.1.length : Int))) (some (p1 == 4))).bind fun f =>
 if f = true then
 ((orE (p2 == 2) ((andE (p2 == 0) (some (decide (a.1 > a.2.2.1)))).bind fun h =>
 some h)).bind fun g =>
 (orE g ((andE (p2 == 1) (some (decide (a.1 < a.2.2.1)))).bind fun j =>
 some j)).bind fun i =>
 if i = true then
 (f_linotyperef38_act (⟨a.2.1, (⟨a.2.2.1, a.2.2.2.1, a.2.2.2.2.1⟩ : G_api_Cursor), a.2.2.2.2.2⟩ : G_linotyperef34_Pen) a.1 3 0 0).bind fun d =>
 some (d.L, d.At.Row, d.At.Col, d.At.Pending, d.Auto)
 else
 some (a.2.1, a.2.2.1, a.2.2.2.1, a.2.2.2.2.1, a.2.2.2.2.2)).bind fun e =>
 some (.inl ((w64 (a.1 + 1)), e.1, e.2.1, e.2.2.1, e.2.2.2.1, e.2.2.2.2))
 else
 some (.inr (a.2.1, a.2.2.1, a.2.2.2.1, a.2.2.2.2.1, a.2.2.2.2.2))) (0, b.L, b.At.Row, b.At.Col, b.At.Pending, b.Auto)).bind fun c =>
 some (⟨c.1, (⟨c.2.1, c.2.2.1, c.2.2.2.1⟩ : G_api_Cursor), c.2.2.2.2⟩ : G_linotyperef34_Pen)
def f_linotyperef38_Do (p0 : G_linotyperef34_Pen) (p1 : G_api_Op) : Option (G_linotyperef34_Pen) :=
 (f_linotyperef34_Pen_Hold p0).bind fun a =>
 (idx a.L a.At.Row).bind fun c =>
 (if (p1.Kind == 2) = true then
 (f_linotyperef34_Pen_Wide (⟨a.L, (⟨a.At.Row, a.At.Col, false⟩ : G_api_Cursor), a.Auto⟩ : G_linotyperef34_Pen)).bind fun o =>
 (f_linotyperef31_Hold (⟨p1.A, p1.B, false⟩ : G_api_Cursor) o (a.L.length : Int)).bind fun h =>
 some (c.Cells, false, a.L, h.Row, h.Col, h.Pending, a.Auto)
 else
 (if (p1.Kind == 3) = true then
 some (p1.Kind == 3)
 else
 some (p1.Kind == 4)).bind fun p =>
 if p = true then
 (f_linotyperef38_lines (⟨a.L, (⟨a.At.Row, a.At.Col, false⟩ : G_api_Cursor), a.Auto⟩ : G_linotyperef34_Pen) p1.Kind p1.A).bind fun f =>
 some (c.Cells, false, f.L, f.At.Row, f.At.Col, f.At.Pending, f.Auto)
 else
 if (p1.Kind == 5) = true then
 (f_linotyperef38_act (⟨a.L, (⟨a.At.Row, a.At.Col, false⟩ : G_api_Cursor), a.Auto⟩ : G_linotyperef34_Pen) a.At.Row 4 a.At.Col p1.A).bind fun g =>
 some (c.Cells, false, g.L, g.At.Row, g.At.Col, g.At.Pending, g.Auto)
 else
 if (p1.Kind == 6) = true then
 (f_linotyperef27_Insert c.Cells a.At.Col p1.A).bind fun j =>
 some (j.1, j.2, a.L, a.At.Row, a.At.Col, false, a.Auto)
 else
 if (p1.Kind == 7) = true then
 (f_linotyperef27_Delete c.Cells a.At.Col p1.A).bind fun i =>
 some (i.1, i.2, a.L, a.At.Row, a.At.Col, false, a.Auto)
 else
 (if (p1.Kind == 8) = true then
 some (p1.Kind == 8)
 else
 some (p1.Kind == 9)).bind fun m =>
 if m = true then
 (f_linotyperef33_Move a.L a.At.Row (a.L.length : Int) p1.A (p1.Kind == 9)).bind fun k =>
 some (c.Cells, false, k, a.At.Row, 0, false, a.Auto)
 else
 (if (p1.Kind == 10) = true then
 some (p1.Kind == 10)
 else
 some (p1.Kind == 11)).bind fun n =>
 if n = true then
 (f_linotyperef33_Move a.L 0 (a.L.length : Int) p1.A (p1.Kind == 10)).bind fun l =>
 some (c.Cells, false, l, a.At.Row, a.At.Col, false, a.Auto)
 else
 if (p1.Kind == 12) = true then
 some (c.Cells, false, a.L, a.At.Row, a.At.Col, false, p1.A != 0)
 else
 some (c.Cells, false, a.L, a.At.Row, a.At.Col, false, a.Auto)).bind fun b =>
 (if b.2.1 = true then
 (f_linotyperef34_Pen_With (⟨b.2.2.1, (⟨b.2.2.2.1, b.2.2.2.2.1, b.2.2.2.2.2.1⟩ : G_api_Cursor), b.2.2.2.2.2.2⟩ : G_linotyperef34_Pen) a.At.Row (⟨b.1, false⟩ : G_api_Line)).bind fun d =>
 some (d.L, d.At.Row, d.At.Col, d.At.Pending, d.Auto)
 else
 some (b.2.2.1, b.2.2.2.1, b.2.2.2.2.1, b.2.2.2.2.2.1, b.2.2.2.2.2.2)).bind fun e =>
 some (⟨e.1, (⟨e.2.1, e.2.2.1, e.2.2.2.1⟩ : G_api_Cursor), e.2.2.2.2⟩ : G_linotyperef34_Pen)
def f_screen_New (sg : Sto) (p0 : Int) (p1 : Int) : Option (Sto × (Option Nat)) :=
 (f_place_New sg p0 p1).bind fun b =>
 (f_feed_New b.1 b.2).bind fun c =>
 (some (c.1.add_screen_Screen (⟨c.2, b.2⟩ : G_screen_Screen))).bind fun a =>
 some (a, (some c.1.screen_Screen.length))
theorem c_screen_New (O0 : Own c0 G F) (R0 : Rel c0 sg G) (g : Int) (h : Int) {r : Sto × (Option Nat)} (H : f_screen_New sg g h = some r) :
    Calls prog 55 #[I g, I h] c0.w (Post c0 fun c v => ∃ y1, ∃ G_ : Gm, Own c G_ (F) ∧ Rel c r.1 G_ ∧ Adds G G_ ∧ v = y1 ∧ Pt 5 c y1 r.2) := by
 unfold f_screen_New at H
 refine en func55 rfl rfl (sr (va (.pointer none) (wln (sr (va (I g) (va (I h) (bn H fun n h1 H => cl (c_place_New O0 R0 g h h1) ?_)))))))
 rintro v2 c8 l8 ⟨_, G4, O5, R6, a7, rfl, p⟩
 have D := (Adds.refl _).trans a7
 refine va (v2) (wln (sr (va (v2) (bn H fun o R H => cl (c_feed_New O5 R6 n.2 p R) ?_))))
 rintro v12 j0 m ⟨_, i0, t, A, M, rfl, l⟩
 have j := D.trans M
 refine va (v2) ?_
 obtain ⟨d, rfl⟩ := (l).form
 obtain ⟨e, rfl⟩ := ((p.mono m)).form
 refine va (.agg #[.pointer d, .pointer e]) (me (al 176 [.pointer d, .pointer e] t) ?_)
 rintro v26 k0 f ⟨a, rfl, u⟩
 have y := u.sD 1 [0]
 refine bn H fun q S H => ?_
 obtain ⟨k, s, T, o0, U, z, i, l0, X, N⟩ := Rel.new_screen_Screen (E := [(Eb a 176 [.pointer d, .pointer e])]) (F := F) (x := (⟨o.2, n.2⟩ : G_screen_Screen)) (b := a) y (A.mono f) (fun c_ hle_ => ⟨a, (.pointer d), (.pointer e), rfl, rfl, (l.mono (f.trans hle_)), (p.mono ((m.trans f).trans hle_))⟩)
 rw [Option.some.inj S] at i
 refine WL.gh T.1 ?_
 have m0 := Adds.nil j X
 have P := j.trans N
 have Z : Pt 5 k (Q a) (some o.1.screen_Screen.length) := ⟨a, rfl, U⟩
 refine va (Q a) (wln (W.ret ?_))
 obtain rfl := si H
 exact r1 ⟨_, k, rfl, rfl, pt, (Q a), s, z, i, P, rfl, Z⟩
def f_screen_Screen_Do (sg : Sto) (p0 : Option Nat) (p1 : G_api_Op) : Option (Sto × Er) :=
 if p0.isNone = true then
 some (sg, (Er.sent 7))
 else
 if (p1.Kind == 0) = true then
 (p0).bind fun g =>
 (sg.screen_Screen[g]?).bind fun i =>
 (f_feed_Feeder_Bytes sg i.Feeder p1.Bytes).bind fun o =>
 some (o, Er.nil)
 else
 if (p1.Kind == 1) = true then
 (p0).bind fun h =>
 (sg.screen_Screen[h]?).bind fun j =>
 (f_feed_Feeder_Flush sg j.Feeder).bind fun p =>
 some (p, Er.nil)
 else
 if (p1.Kind == 13) = true then
 (p0).bind fun a =>
 (sg.screen_Screen[a]?).bind fun k =>
 (f_feed_Feeder_Close sg k.Feeder).bind fun c =>
 (c.screen_Screen[a]?).bind fun l =>
 (f_size_Resize c l.pen p1.A p1.B).bind fun q =>
 some (q, Er.nil)
 else
 (f_edit_Wrong p1).bind fun d =>
 if (!d.isNil) = true then
 some (sg, d)
 else
 (p0).bind fun b =>
 (sg.screen_Screen[b]?).bind fun m =>
 (f_feed_Feeder_Close sg m.Feeder).bind fun e =>
 (e.screen_Screen[b]?).bind fun n =>
 (f_edit_Do e n.pen p1).bind fun f =>
 some (f.1, f.2)
theorem c_screen_Screen_Do (O0 : Own c0 G F) (d : Rel c0 sg G) (hG : Gl [0, 4, 7] c0) (p0 : Option Nat) (a : G_api_Op) {r : Sto × Er} (t : Pt 5 c0 v1 p0) (z : Sl (RI .u8) c0 v3 a.Bytes) (H : f_screen_Screen_Do sg p0 a = some r) :
    Calls prog 56 #[v1, .agg #[I a.Kind, I a.A, I a.B, v3]] c0.w (Post c0 fun c v => ∃ y1, ∃ G_ : Gm, Own c G_ (F) ∧ Rel c r.1 G_ ∧ v = y1 ∧ RE 305 179 c y1 r.2) := by
 unfold f_screen_Screen_Do at H
 refine en func56 rfl rfl (sr ?_)
 obtain ⟨a5, a6, a7, rfl⟩ := (z).form
 refine me (bx 59 [I a.Kind, I a.A, I a.B, .slice a5 a6 a7] O0) ?_
 rintro v12 s1 b ⟨y, rfl, l, h⟩
 refine va (.nilIface) (wln (W.seq (sr (va (v1) (vr (B p0.isNone) (by rcases t.m.cs with ⟨e, f⟩ | ⟨b_, e, f⟩ <;> (subst e; rw [f]; kernel_rfl)) (wln (cn H (fun b2 H => ?_) (fun b2 H => ?_))))))))
 ·refine sr ?_
  obtain ⟨v14, S⟩ := (hG.mono b).get 7 (by decide)
  refine vx (l1 underlying37 S.im) (va (v14) (wln (W.ret (thr ?_))))
  obtain rfl := si H
  exact r1 ⟨_, s1, rfl, rfl, pt, v14, G, l, d.m, rfl, S⟩
 refine W.skip (nrm (W.seq (sr (va (Q y) (vx (l1 underlying3 (h 0 _ rfl)) (wln (W.block (sr (va (B (a.Kind == 0)) (va (B (a.Kind == 0)) (wln (cn H (fun c2 H => ?_) (fun c2 H => ?_)))))))))))))
 ·refine rD [6] (Kp G []) l ?_
  intro t1 Z E
  have h3 : Kp G [] t1 := (Kp.nil E)
  refine ta 0 (v1) (bn H fun s3 e2 H => ?_)
  obtain ⟨P, rfl, d2⟩ := ((t.mono (b.trans Z))).get e2
  refine ta 1 (Q P) (ta 2 (Q P) (bn H fun u0 f2 H => ?_))
  obtain ⟨v24, v26, i2, g2, m4⟩ := Rel.open_screen_Screen (d.mono (b.trans Z)) f2 d2
  refine tkx 3 h3 (fun n g u => le1 0 underlying73 (u.gon i2 0 rfl)) (ta 4 (.pointer (some ⟨y, 0 + 3, none⟩)) (tx 5 (fun n g => l1 underlying57 ((mm h) 3 _ rfl)) (bn H fun e4 j2 H => o1 6 (gc 6 (c_feed_Feeder_Bytes E d.m (hG.m.le (by decide)) u0.Feeder a.Bytes g2 z.m j2) ?_))))
  rintro v35 u1 q4 ⟨d1, g1, k1, rfl⟩
  refine ⟨.inl rfl, dn (bkn (nrm (sr (va (.nilIface) (wln (W.ret ?_))))))⟩
  obtain rfl := si H
  exact r1 ⟨_, u1, rfl, rfl, pt, .nilIface, d1, g1, k1, rfl, rfl⟩
 refine sr (va (B (a.Kind == 1)) (va (B (a.Kind == 1)) (wln (cn H (fun k2 H => ?_) (fun k2 H => ?_)))))
 ·refine W.region (va (v1) (bn H fun t3 m2 H => ?_))
  obtain ⟨R, rfl, l2⟩ := ((t.mono b)).get m2
  refine va (Q R) (va (Q R) (bn H fun v0 n2 H => ?_))
  obtain ⟨v41, v43, p2, o2, n4⟩ := Rel.open_screen_Screen (d.mono b) n2 l2
  refine vx (le1 0 underlying73 (l.gon p2 0 rfl)) (bn H fun f4 q2 H => cl (c_feed_Feeder_Flush l d.m (hG.m.le (by decide)) v0.Feeder o2 q2) ?_)
  rintro v52 w1 r4 ⟨e1, h1, m1, rfl⟩
  refine WL.nil (bkn (nrm (sr (va (.nilIface) (wln (W.ret ?_))))))
  obtain rfl := si H
  exact r1 ⟨_, w1, rfl, rfl, pt, .nilIface, e1, h1, m1, rfl, rfl⟩
 refine sr (va (B (a.Kind == 13)) (va (B (a.Kind == 13)) (wln (cn H (fun s2 H => ?_) (fun s2 H => ?_)))))
 ·refine sr (va (v1) (bn H fun u3 t2 H => ?_))
  obtain ⟨i, rfl, T⟩ := ((t.mono b)).get t2
  refine va (Q i) (va (Q i) (bn H fun w0 u2 H => ?_))
  obtain ⟨v58, v60, w2, v2, o4⟩ := Rel.open_screen_Screen (d.mono b) u2 T
  refine vx (le1 0 underlying73 (l.gon w2 0 rfl)) (bn H fun g4 x2 H => cl (c_feed_Feeder_Close l d.m w0.Feeder v2 x2) ?_)
  rintro u4 l4 s4 ⟨D, i1, N, rfl⟩
  refine wln (rD [8] (Kp D []) i1 ?_)
  intro x1 g3 M
  have i3 : Kp D [] x1 := (Kp.nil M)
  refine ta 0 (Q i) (ta 1 (Q i) (ta 2 (.pointer (some ⟨i, 1, none⟩)) (bn H fun x0 y2 H => ?_)))
  obtain ⟨v4, w4, a3, p4, z2⟩ := Rel.open_screen_Screen (N.mono g3) y2 (tm T)
  refine tkx 3 i3 (fun n g u => le1 1 underlying40 (u.gon a3 0 rfl)) (ta 4 (.pointer (some ⟨y, 0 + 1, none⟩)) (tx 5 (fun n g => l1 underlying3 ((mm h) 1 _ rfl)) (ta 6 (.pointer (some ⟨y, 0 + 2, none⟩)) (tx 7 (fun n g => l1 underlying3 ((mm h) 2 _ rfl)) (bn H fun i4 b3 H => o1 8 (gc 8 (c_size_Resize M N.m (hG.m.le (by decide)) x0.pen a.A a.B z2 b3) ?_))))))
  rintro x4 z1 t4 ⟨f1, j1, n1, rfl⟩
  refine ⟨.inl rfl, dn (bkn (nrm (sr (va (.nilIface) (wln (W.ret ?_))))))⟩
  obtain rfl := si H
  exact r1 ⟨_, z1, rfl, rfl, pt, .nilIface, f1, j1, n1, rfl, rfl⟩
 refine W.seq (sr (vx (lN 59 h) (bn H fun c1 c3 H => cl (c_edit_Wrong l (hG.m.le (by decide)) a z.m c3) ?_)))
 rintro k a2 a0 ⟨_, q, rfl, U⟩
 refine va (k) (wln (sr (va (k) (vr (B (!c1.isNil)) (by rcases (U).cs with ⟨e, f⟩ | ⟨b_, e, f⟩ | ⟨b_, e, f⟩ <;> (subst e; rw [f]; kernel_rfl)) (wln (cn H (fun d3 H => ?_) (fun d3 H => ?_)))))))
 ·refine sr (va (k) (va (k) (wln (W.ret (thr (bkr (thr ?_)))))))
  obtain rfl := si H
  exact r1 ⟨_, a2, rfl, rfl, pt, k, G, q, d.m, rfl, U⟩
 refine W.skip (nrm (sr (va (v1) (bn H fun w3 e3 H => ?_))))
 obtain ⟨j, rfl, X⟩ := ((t.mono (b.trans a0))).get e3
 refine va (Q j) (va (Q j) (bn H fun y0 f3 H => ?_))
 obtain ⟨z3, a4, j0, i0, p3⟩ := Rel.open_screen_Screen (d.mono (b.trans a0)) f3 X
 refine vx (le1 0 underlying73 (q.gon j0 0 rfl)) (bn H fun j4 k0 H => cl (c_feed_Feeder_Close q d.m y0.Feeder i0 k0) ?_)
 rintro b4 o3 x3 ⟨o, d0, s, rfl⟩
 refine wln (W.seq (rD [5] (Kp o []) d0 ?_))
 intro g0 t0 p
 have b1 : Kp o [] g0 := (Kp.nil p)
 refine ta 0 (Q j) (ta 1 (Q j) (ta 2 (.pointer (some ⟨j, 1, none⟩)) (bn H fun z0 l0 H => ?_)))
 obtain ⟨c4, d4, o0, q3, m0⟩ := Rel.open_screen_Screen (s.mono t0) l0 (tm X)
 refine tkx 3 b1 (fun n g u => le1 1 underlying40 (u.gon o0 0 rfl)) (tx 4 (fun n g => lN 59 (mm h)) (bn H fun k4 q0 H => o1 5 (gc 5 (c_edit_Do p s.m (hG.m.le (by decide)) z0.pen a m0 z.m q0) ?_)))
 rintro x h0 y3 ⟨_, b0, e0, f0, rfl, s0⟩
 refine ⟨.inl rfl, ta 6 (x) (dn (nrm (W.ret (bkr (thr ?_)))))⟩
 obtain rfl := si H
 exact r1 ⟨_, h0, rfl, rfl, pt, x, b0, e0, f0, rfl, s0⟩
def f_screen_Screen_Run (sg : Sto) (p0 : Option Nat) (p1 : List G_api_Op) : Option (Sto × Er) :=
 (iter (σ := Er × Int × Sto) (τ := (Er × Sto)) (((p1.length : Int) - 0).toNat + 1) (fun a =>
 if (decide (a.2.1 < (p1.length : Int))) = true then
 ((idx p1 a.2.1).bind fun f =>
 (f_screen_Screen_Do a.2.2 p0 f).bind fun b =>
 (andE (!b.2.isNil) (some a.1.isNil)).bind fun e =>
 if e = true then
 (f_api_Wrong a.2.1 b.2).bind fun g =>
 some (g, b.1)
 else
 some (a.1, b.1)).bind fun c =>
 some (.inl (c.1, (w64 (a.2.1 + 1)), c.2))
 else
 some (.inr (a.1, a.2.2))) (Er.nil, 0, sg)).bind fun d =>
 some (d.2, d.1)
theorem c_screen_Screen_Run (O0 : Own c0 G F) (R0 : Rel c0 sg G) (hG : Gl [0, 4, 7] c0) (p0 : Option Nat) (j : List G_api_Op) {r : Sto × Er} (h2 : Pt 5 c0 v1 p0) (Z : Sl R_api_Op c0 v3 j) (H : f_screen_Screen_Run sg p0 j = some r) :
    Calls prog 62 #[v1, v3] c0.w (Post c0 fun c v => ∃ y1, ∃ G_ : Gm, Own c G_ (F) ∧ Rel c r.1 G_ ∧ v = y1 ∧ RE 305 179 c y1 r.2) := by
 unfold f_screen_Screen_Run at H
 refine en func62 rfl rfl (sr (va (.nilIface) (wln (sr (va (.nilIface) (wln (W.seq (sr (va (v3) (vx (ln 3 underlying55 Z) (va (I 0) (wln (W.block (bn H fun n2 h5 H6 => lp h5 (fun a => Jn c0 fun c l => ∃ v7 G_, Own c G_ (F) ∧ l = [(0, v1), (5, v7), (9, v3), (10, I (j.length : Int)), (11, I a.2.1)] ∧ Rel c a.2.2 G_ ∧ RE 305 179 c v7 a.1) (fun u ex e w => ex = .exit 0 ∧ (Jn c0 fun c l => ∃ v8 G_, Own c G_ (F) ∧ l = [(5, v8)] ∧ Rel c u.2 G_ ∧ RE 305 179 c v8 u.1) e w) ?_ ?_ ?_))))))))))))))
 ·clear H6 h5
  intro a o2 a1 n1 H
  revert a1 n1
  rintro X w_ ⟨c9, c2, _, rfl, l9, rfl, v7, d0, y, rfl, M, s⟩
  refine sr (va (B (decide (a.2.1 < (j.length : Int)))) (wln (W.seq (cn H (fun b1 H => ?_) (fun b1 H => ?_)))))
  ·refine W.skip (nrm (bn H fun x b g0 => W.seqJ (Jn c9 fun c l => ∃ v19 G_, Own c G_ (F) ∧ l = [(0, v1), (5, v19), (9, v3), (10, I (j.length : Int)), (11, I a.2.1)] ∧ Rel c x.2 G_ ∧ RE 305 179 c v19 x.1) ?_ ?_))
   ·refine W.block (sr (va (I a.2.1) (bn b fun d P b => ?_)))
    obtain ⟨x1, c1, m1⟩ := Sl.at (Z.mono l9) (idx_get P)
    obtain ⟨v24, rfl, t⟩ := c1
    refine vx (ix underlying55 Z.m P) (vx (lN 59 m1) (me (al 59 [I 0, I 0, I 0, Y] y) ?_))
    rintro v29 a2 k1 ⟨u0, rfl, j0⟩
    refine va (I a.2.1) ?_
    obtain ⟨n, o, p, rfl⟩ := ((t.mono k1)).form
    refine md (sA 59 [I d.Kind, I d.A, I d.B, .slice n o p] 0 j0 ⟨rfl, rfl, rfl, t.m.one, trivial⟩) ?_
    rintro b2 g2 z
    refine wln (sr (va (v1) (vx (leN 59 0 [I d.Kind, I d.A, I d.B, .slice n o p] (z.on 0 rfl)) (bn b fun i d1 b => cl (c_screen_Screen_Do z M.m (hG.m.le (by decide)) p0 d h2.m t.m d1) ?_))))
    rintro v36 q i2 ⟨_, k, D, N, rfl, R⟩
    refine va (v36) (wln (W.seq (bn b fun U S b => W.join (Jn q fun c l => Own c k ((Eb u0 59 [I d.Kind, I d.A, I d.B, .slice n o p]) :: F) ∧ l = [(0, v1), (5, v7), (6, I a.2.1), (8, v36), (9, v3), (10, I (j.length : Int)), (11, I a.2.1), (24, B U)]) ?_ ?_)))
    ·clear b
     refine W.region (va (v36) (vr (B (!i.2.isNil)) (by rcases (R).cs with ⟨f, g⟩ | ⟨T, f, g⟩ | ⟨T, f, g⟩ <;> (subst f; rw [g]; kernel_rfl)) ?_))
     rcases bo (!i.2.isNil) with h | h
     ·have h0 := anT h S
      refine vb h (wn (va (v7) (wn (vr (B a.1.isNil) (by rcases s.m.cs with ⟨f, g⟩ | ⟨T, f, g⟩ | ⟨T, f, g⟩ <;> (subst f; rw [g]; kernel_rfl)) ?_))))
      obtain rfl := si h0
      exact va (B a.1.isNil) (wln ⟨q, _, _, rfl, pt, us, D, rfl⟩)
     obtain rfl := anF h S
     exact vb h (ps (ps (va (B false) (wln ⟨q, _, _, rfl, pt, us, D, rfl⟩))))
    rintro X w_ ⟨v0, d2, _, rfl, j2, rfl, E, rfl⟩
    refine nrm (cn b (fun f1 b => ?_) (fun f1 b => ?_))
    ·refine W.region (va (I a.2.1) (va (v36) (bn b fun z1 g1 b => cl (c_api_Wrong E a.2.1 i.2 R.m g1) ?_)))
     rintro v55 w0 k2 ⟨_, k0, rfl, h1⟩
     refine va (v55) (WL.nil (bkn (nrm ?_)))
     obtain rfl := si b
     have l0 := k0.sD 1 []
     exact ⟨w0, _, _, rfl, pt, us, v55, k, l0, rfl, N.m, h1⟩
    refine W.skip (bkn (nrm ?_))
    obtain rfl := si b
    have m0 := E.sD 1 []
    exact ⟨v0, _, _, rfl, pt, us, v7, k, m0, rfl, N.m, s.m⟩
   rintro X w_ ⟨x0, e2, _, rfl, l2, rfl, v19, e0, o0, rfl, s0, i1⟩
   refine W.region (va (I (w64 (a.2.1 + 1))) (va (I (w64 (a.2.1 + 1))) (WL.nil ?_)))
   obtain rfl := si g0
   exact ⟨_, rfl, ⟨x0, _, _, rfl, pt, us, v19, e0, o0, rfl, s0, i1⟩⟩
  refine W.exit (thx ?_)
  obtain rfl := si H
  exact ⟨_, rfl, rfl, ⟨c9, _, _, rfl, pt, us, v7, d0, y, rfl, M, s⟩⟩
 ·exact ⟨c0, _, _, rfl, pt, us, .nilIface, G, O0, rfl, R0, rfl⟩
 rintro _ X w_ ⟨rfl, y0, f2, _, rfl, m2, rfl, v8, f0, q0, rfl, t0, j1⟩
 refine bke (nrm (sr (va (v8) (va (v8) (wln (W.ret ?_))))))
 obtain rfl := si H6
 exact r1 ⟨_, y0, rfl, rfl, pt, v8, f0, q0, t0, rfl, j1⟩
def f_screen_Screen_View (sg : Sto) (p0 : Option Nat) : Option (G_api_View) :=
 if p0.isNone = true then
 some (⟨0, 0, ([] : List G_api_Line), (⟨0, 0, false⟩ : G_api_Cursor), false⟩ : G_api_View)
 else
 (p0).bind fun b =>
 (sg.screen_Screen[b]?).bind fun d =>
 (d.pen).bind fun c =>
 (sg.place_Pen[c]?).bind fun a =>
 (f_grid_Grid_Wide sg a.G).bind fun e =>
 (f_grid_Grid_High sg a.G).bind fun f =>
 (f_grid_Grid_Lines sg a.G).bind fun g =>
 some (⟨e, f, g, a.At, a.Auto⟩ : G_api_View)
theorem c_screen_Screen_View (O0 : Own c0 G F) (o : Rel c0 sg G) (U : Option Nat) {r : G_api_View} (h2 : Pt 5 c0 v1 U) (H : f_screen_Screen_View sg U = some r) :
    Calls prog 57 #[v1] c0.w (Post c0 fun c v => ∃ X y2, Own c G (es true R_api_Line X 71 y2 r.Lines :: F) ∧ v = .agg #[I r.Wide, I r.High, X, I r.At.Row, I r.At.Col, B r.At.Pending, B r.Auto] ∧ OA R_api_Line c X y2 r.Lines) := by
 unfold f_screen_Screen_View at H
 refine en func57 rfl rfl (sr (me (al 96 [I 0, I 0, Y, I 0, I 0, B false, B false] O0) ?_))
 rintro v6 c5 T ⟨b3, rfl, y⟩
 refine wln (W.seq (sr (va (v1) (vr (B U.isNone) (by rcases h2.m.cs with ⟨N, P⟩ | ⟨b_, N, P⟩ <;> (subst N; rw [P]; kernel_rfl)) (wln (cn H (fun h7 H => ?_) (fun h7 H => ?_)))))))
 ·refine sr (va (.agg #[I 0, I 0, Y, I 0, I 0, B false, B false]) (md (sA 96 [I 0, I 0, Y, I 0, I 0, B false, B false] 0 y ⟨rfl, rfl, rfl, rfl, rfl, rfl, rfl, trivial⟩) ?_))
  rintro S l9 O8
  refine wln (W.ret (thr ?_))
  obtain rfl := si H
  have g0 : OA R_api_Line S (Y) [] [] := OA.nil (Nat.succ_pos _)
  have z := O8.addHole (e := es true R_api_Line (Y) 71 [] ([] : List G_api_Line)) rfl
  have Z := z.sD 2 [0]
  exact retC (c := S) (vs := [I 0, I 0, Y, I 0, I 0, B false, B false]) rfl (by kernel_rfl) (by kernel_rfl) (by kernel_rfl) (z.on 1 rfl _ rfl).1 ⟨_, S, rfl, rfl, pt, (Y), [], Z, rfl, g0⟩
 refine W.skip (nrm (sr (va (v1) (bn H fun e1 i0 H => ?_))))
 obtain ⟨b, rfl, h0⟩ := ((h2.mono T)).get i0
 refine va (Q b) (va (.pointer (some ⟨b, 1, none⟩)) (bn H fun g1 j0 H => ?_))
 obtain ⟨v17, v19, q, i1, l0⟩ := Rel.open_screen_Screen (o.mono T) j0 h0
 refine vx (le1 1 underlying40 (y.gon q 0 rfl)) (bn H fun f1 o0 H => ?_)
 obtain ⟨d, rfl, m0⟩ := (l0).get o0
 refine va (Q d) (va (Q d) (bn H fun a q0 H => ?_))
 obtain ⟨v26, t, s⟩ := Rel.open_place_Pen (o.mono T) q0 m0
 refine vx (le1 0 underlying35 (y.gon t 0 rfl)) (va (v26) (wln (W.seq (rD [] (Kp G []) y ?_))))
 intro b0 j1 A
 have l : Kp G [] b0 := (Kp.nil A)
 refine ta 0 (v26) (ta 2 (v26) (ta 4 (v26) (ta 6 (Q b) (ta 7 (Q b) (ta 8 (.pointer (some ⟨b, 1, none⟩)) (tkx 9 l (fun R x f => le1 1 underlying40 (f.gon q 0 rfl)) (ta 10 (Q d) (ta 11 (.pointer (some ⟨d, 1, none⟩)) (tkx 12 l (fun R x f => leN 24 1 [I a.At.Row, I a.At.Col, B a.At.Pending] (f.gon t 0 rfl)) (ta 13 (Q b) (ta 14 (Q b) (ta 15 (.pointer (some ⟨b, 1, none⟩)) (tkx 16 l (fun R x f => le1 1 underlying40 (f.gon q 0 rfl)) (ta 17 (Q d) (ta 18 (.pointer (some ⟨d, 4, none⟩)) (tkx 19 l (fun R x f => le1 4 underlying4 (f.gon t 0 rfl)) (bn H fun g s0 H => o1 1 (gc 1 (c_grid_Grid_Wide A o.m a.G s.m s0) ?_))))))))))))))))))
 rintro v38 d0 k1 ⟨D, rfl⟩
 have v0 : Kp G [] d0 := (Kp.nil D)
 refine ⟨.inr v0, bn H fun h t0 H => o1 3 (gc 3 (c_grid_Grid_High D o.m a.G s.m t0) ?_)⟩
 rintro v46 e0 m1 ⟨E, rfl⟩
 have w0 : Kp G [] e0 := (Kp.nil E)
 refine ⟨.inr w0, bn H fun h1 u0 H => o1 5 (gc 5 (c_grid_Grid_Lines E o.m a.G s.m u0) ?_)⟩
 rintro v49 f0 n1 ⟨_, z0, M, rfl, u⟩
 have x0 : Kp G [] f0 := (Kp.nil M)
 refine ⟨.inr x0, ?_⟩
 obtain ⟨i, j, k, rfl⟩ := (u).form
 refine ta 20 (.agg #[I g, I h, .slice i j k, I a.At.Row, I a.At.Col, B a.At.Pending, B a.Auto]) (o1 21 (gD 21 (sA 96 [I g, I h, .slice i j k, I a.At.Row, I a.At.Col, B a.At.Pending, B a.Auto] 1 M ⟨rfl, rfl, (u).one, rfl, rfl, rfl, rfl, trivial⟩) ?_))
 rintro p p1 n
 have y0 : Kp G [] p := (Kp.nil n)
 refine ⟨.inr y0, dn (nrm (W.ret ?_))⟩
 obtain rfl := si H
 have a0 := n.sD 2 [0]
 exact retC (c := p) (vs := [I g, I h, .slice i j k, I a.At.Row, I a.At.Col, B a.At.Pending, B a.Auto]) rfl (by kernel_rfl) (by kernel_rfl) (by kernel_rfl) (n.on 1 rfl _ rfl).1 ⟨_, p, rfl, rfl, pt, (.slice i j k), z0, a0, rfl, u.m⟩
def f_screen_Screen_Held (sg : Sto) (p0 : Option Nat) : Option (Int) :=
 if p0.isNone = true then
 some 0
 else
 (p0).bind fun c =>
 (sg.screen_Screen[c]?).bind fun a =>
 (f_feed_Feeder_Held sg a.Feeder).bind fun b =>
 some b
theorem c_screen_Screen_Held (d : Own c0 G F) (i : Rel c0 sg G) (f : Option Nat) {r : Int} (n : Pt 5 c0 v1 f) (H : f_screen_Screen_Held sg f = some r) :
    Calls prog 64 #[v1] c0.w (Post c0 fun c v => Own c G (F) ∧ v = I r) := by
 unfold f_screen_Screen_Held at H
 refine en func64 rfl rfl (sr (va (I 0) (wln (W.seq (sr (va (v1) (vr (B f.isNone) (by rcases (n).cs with ⟨a, b⟩ | ⟨z, a, b⟩ <;> (subst a; rw [b]; kernel_rfl)) (wln (cn H (fun o H => ?_) (fun o H => ?_))))))))))
 ·refine sr (va (I 0) (wln (W.ret (thr ?_))))
  obtain rfl := si H
  exact r1 ⟨_, c0, rfl, rfl, pt, d, rfl⟩
 refine W.skip (nrm (sr (va (v1) (bn H fun x q H => ?_))))
 obtain ⟨j, rfl, p⟩ := (n).get q
 refine va (Q j) (va (Q j) (bn H fun e s H => ?_))
 obtain ⟨v8, v10, l, t, u⟩ := Rel.open_screen_Screen i s p
 refine vx (le1 0 underlying73 (d.gon l 0 rfl)) (bn H fun g m H => cl (c_feed_Feeder_Held d i e.Feeder t m) ?_)
 rintro v19 k y ⟨h, rfl⟩
 refine va (I g) (wln (W.ret ?_))
 obtain rfl := si H
 exact r1 ⟨_, k, rfl, rfl, pt, h, rfl⟩
def f_screen_Screen_Open (sg : Sto) (p0 : Option Nat) : Option (List Int) :=
 if p0.isNone = true then
 some ([] : List Int)
 else
 (p0).bind fun c =>
 (sg.screen_Screen[c]?).bind fun a =>
 (f_feed_Feeder_Open sg a.Feeder).bind fun b =>
 some b
theorem c_screen_Screen_Open (d : Own c0 G F) (j : Rel c0 sg G) (g : Option Nat) {r : List Int} (q : Pt 5 c0 v1 g) (H : f_screen_Screen_Open sg g = some r) :
    Calls prog 65 #[v1] c0.w (Post c0 fun c v => ∃ h t, Own c G (es true (RI .i32) h 21 t r :: F) ∧ v = h ∧ OA (RI .i32) c h t r) := by
 unfold f_screen_Screen_Open at H
 refine en func65 rfl rfl (sr (va (Y) (wln (W.seq (sr (va (v1) (vr (B g.isNone) (by rcases (q).cs with ⟨a, b⟩ | ⟨R, a, b⟩ <;> (subst a; rw [b]; kernel_rfl)) (wln (cn H (fun x H => ?_) (fun x H => ?_))))))))))
 ·refine sr (va (Y) (wln (W.ret (thr ?_))))
  obtain rfl := si H
  have y : OA (RI .i32) c0 (Y) [] [] := OA.nil (Nat.succ_pos _)
  have u := d.addHole (e := es true (RI .i32) (Y) 21 [] ([] : List Int)) rfl
  exact r1 ⟨_, c0, rfl, rfl, pt, (Y), [], u, rfl, y⟩
 refine W.skip (nrm (sr (va (v1) (bn H fun N A H => ?_))))
 obtain ⟨k, rfl, z⟩ := (q).get A
 refine va (Q k) (va (Q k) (bn H fun f D H => ?_))
 obtain ⟨v10, v12, n, m, M⟩ := Rel.open_screen_Screen j D z
 refine vx (le1 0 underlying73 (d.gon n 0 rfl)) (bn H fun E o H => cl (c_feed_Feeder_Open d j f.Feeder m o) ?_)
 rintro v16 l P ⟨_, s, i, rfl, p⟩
 refine va (v16) (wln (W.ret ?_))
 obtain rfl := si H
 exact r1 ⟨_, l, rfl, rfl, pt, v16, s, i, rfl, p⟩
def f_linotypelaw40_works (sg : Sto) : Option (Sto × Bool) :=
 (f_screen_New sg 3 1).bind fun b =>
 (if b.2.isNone = true then some (true, b.1) else (f_screen_Screen_Run b.1 b.2 ([(⟨0, 0, 0, ([97] : List Int)⟩ : G_api_Op), (⟨2, 0, 0, ([] : List Int)⟩ : G_api_Op), (⟨0, 0, 0, ([204, 129] : List Int)⟩ : G_api_Op)] : List G_api_Op)).bind fun d =>
 some (!d.2.isNil, d.1)).bind fun c =>
 if c.1 = true then
 some (c.2, false)
 else
 (f_screen_Screen_View c.2 b.2).bind fun a =>
 (andE ((a.Lines.length : Int) == 1) ((idx a.Lines 0).bind fun i =>
 some ((i.Cells.length : Int) == 3))).bind fun e =>
 (andE e ((idx a.Lines 0).bind fun j =>
 (idx j.Cells 0).bind fun k =>
 (f_linotyperef01_Same k.Text ([769] : List Int)).bind fun l =>
 some l)).bind fun f =>
 (andE f (some (a.At.Row == 0 && (a.At.Col == 1 && (a.At.Pending == false && true))))).bind fun g =>
 (andE g (some a.Auto)).bind fun h =>
 some (c.2, h)
theorem c_linotypelaw40_works (O0 : Own c0 G F) (R0 : Rel c0 sg G) (hG : Gl [0, 4, 7] c0) {r : Sto × Bool} (H : f_linotypelaw40_works sg = some r) :
    Calls prog 54 #[] c0.w (Post c0 fun c v => ∃ G_ : Gm, Own c G_ (F) ∧ Rel c r.1 G_ ∧ v = B r.2) := by
 unfold f_linotypelaw40_works at H
 refine en func54 rfl rfl (sr (va (B false) (wln (sr (bn H fun E h1 H => cl (c_screen_New O0 R0 3 1 h1) ?_)))))
 rintro v2 c8 l8 ⟨_, G4, O5, R6, a7, rfl, h3⟩
 refine va (v2) (wln (W.seq (W.seq (bn H fun v0 w0 H => W.join (Jn c8 fun c l => ∃ G_, Own c G_ (F) ∧ l = [(1, v2), (17, B v0.1)] ∧ Rel c v0.2 G_) ?_ ?_))))
 ·clear H
  refine W.region (va (v2) (vr (B E.2.isNone) (by rcases (h3).cs with ⟨k, n⟩ | ⟨b_, k, n⟩ <;> (subst k; rw [n]; kernel_rfl)) ?_))
  rcases bo (E.2.isNone) with s | s
  ·obtain rfl := Option.some.inj (it s w0)
   exact vb s (ps (ps (ps (ps (ps (ps (ps (ps (ps (ps (va (B true) (wln ⟨c8, _, _, rfl, pt, us, G4, O5, rfl, R6⟩))))))))))))
  have N := ie s w0
  refine vb s (wn (va (v2) (wn (me (sl (RI .u8) 5 [[.int .u8 97]] ([97] : List Int) O5 ⟨rfl, trivial⟩) ?_))))
  rintro v17 l4 l16 ⟨c5, b2, u2⟩
  refine wn (me (Own.mark (T := 57) 0 b2 rfl u2 (by kernel_rfl) underlying57 underlying5 (by kernel_rfl)) ?_)
  rintro v21 m4 u4 ⟨c2, x0⟩
  have d2 := c2.sD 1 []
  refine wn ?_
  obtain ⟨S, U, X, rfl⟩ := (x0).form
  refine va (.agg #[I 0, I 0, I 0, .slice S U X]) (wn (va (.agg #[I 2, I 0, I 0, Y]) (wn (me (sl (RI .u8) 5 [[.int .u8 204], [.int .u8 129]] ([204, 129] : List Int) d2 ⟨rfl, rfl, trivial⟩) ?_))))
  rintro v30 n4 v4 ⟨d5, e2, y0⟩
  refine wn ?_
  obtain ⟨Z, a0, b0, rfl⟩ := (y0).form
  refine va (.agg #[I 0, I 0, I 0, .slice Z a0 b0]) (wn ?_)
  obtain ⟨o4, x2, w4, f2, w2⟩ := e2.frz 0 rfl y0
  refine WL.gh x2 (me (sl R_api_Op 59 [[I 0, I 0, I 0, .slice S U X], [I 2, I 0, I 0, Y], [I 0, I 0, I 0, .slice Z a0 b0]] ([(⟨0, 0, 0, ([97] : List Int)⟩ : G_api_Op), (⟨2, 0, 0, ([] : List Int)⟩ : G_api_Op), (⟨0, 0, 0, ([204, 129] : List Int)⟩ : G_api_Op)] : List G_api_Op) f2 ⟨⟨(.slice S U X), rfl, x0.m⟩, ⟨(Y), rfl, (Sl.nl _ _)⟩, ⟨(.slice Z a0 b0), rfl, w2⟩, trivial⟩) ?_)
  rintro v42 p4 x4 ⟨e5, g2, y2⟩
  refine wn ?_
  obtain ⟨q4, a3, y4, h2, z2⟩ := g2.frz 0 rfl y2
  refine WL.gh a3 (bn N fun s0 b3 N => cl (c_screen_Screen_Run h2 R6.m (hG.m.le (by decide)) E.2 ([(⟨0, 0, 0, ([97] : List Int)⟩ : G_api_Op), (⟨2, 0, 0, ([] : List Int)⟩ : G_api_Op), (⟨0, 0, 0, ([204, 129] : List Int)⟩ : G_api_Op)] : List G_api_Op) h3.m z2 b3) ?_)
  rintro v48 q2 z4 ⟨_, a2, j2, n2, rfl, c3⟩
  refine wn (vr (B (!s0.2.isNil)) (by rcases (c3).cs with ⟨k, n⟩ | ⟨b_, k, n⟩ | ⟨b_, k, n⟩ <;> (subst k; rw [n]; kernel_rfl)) ?_)
  obtain rfl := si N
  refine va (B (!s0.2.isNil)) (wln ?_)
  have k2 := j2.sD 2 []
  exact ⟨q2, _, _, rfl, pt, us, a2, k2, rfl, n2⟩
 rintro e_ w_ ⟨s2, t4, _, rfl, a5, rfl, M, u0, rfl, R⟩
 refine nrm (cn H (fun d3 H => ?_) (fun d3 H => ?_))
 ·refine sr (va (B false) (wln (W.ret (thr ?_))))
  obtain rfl := si H
  exact r1 ⟨_, s2, rfl, rfl, pt, M, u0, R, rfl⟩
 refine W.skip (nrm (sr (va (v2) (bn H fun a e3 H => cl (c_screen_Screen_View u0 R E.2 h3.m e3) ?_))))
 rintro g5 r4 b5 ⟨f5, k3, l2, rfl, b⟩
 refine me (al 96 [I 0, I 0, Y, I 0, I 0, B false, B false] l2) ?_
 rintro h5 s4 q0 ⟨i, rfl, m2⟩
 obtain ⟨o, p, q, rfl⟩ := ((b.mono q0)).form
 refine md (sA 96 [I a.Wide, I a.High, .slice o p q, I a.At.Row, I a.At.Col, B a.At.Pending, B a.Auto] 0 m2 ⟨rfl, rfl, b.m.one, rfl, rfl, rfl, rfl, trivial⟩) ?_
 rintro d0 a1 d
 refine wln (W.seq (bn H fun t3 z0 H => bn H fun u3 m0 H => bn H fun v3 D H => bn H fun n1 t H => W.join (Jn d0 fun c l => Own c M ((Eb i 96 [I a.Wide, I a.High, .slice o p q, I a.At.Row, I a.At.Col, B a.At.Pending, B a.Auto]) :: es true R_api_Line (.slice o p q) 71 k3 a.Lines :: F) ∧ l = [(0, B n1)]) ?_ ?_))
 ·clear H
  refine W.region (va (.pointer (some ⟨i, 2, none⟩)) (vx (le1 2 underlying22 (d.on 0 rfl)) (vx (lnO 3 underlying22 b.m) (va (B ((a.Lines.length : Int) == 1)) ?_))))
  rcases bo ((a.Lines.length : Int) == 1) with u | u
  ·have P := anT u z0
   refine vb u (wn (va (.pointer (some ⟨i, 2, none⟩)) (wn (vx (le1 2 underlying22 (d.on 0 rfl)) (wn (bn P fun A o0 P => vx (ixO underlying22 b.m o0) (wn (va (.pointer (some ⟨sb (.slice o p q), (0 : Int).toNat * 2, none⟩)) (wn ?_)))))))))
   obtain ⟨d4, f3, j3⟩ := OA.at (b.mono (q0.trans a1)) o0
   obtain ⟨l3, rfl, g3⟩ := f3
   refine vr l3 (rx (by kernel_rfl) (ldE1 underlying69 rfl (d.on 1 rfl) (b.m.blk o0) (at1 (j := 0) j3 rfl))) (wn (vx (ln 3 underlying69 g3) (wn (va (B ((A.Cells.length : Int) == 3)) ?_))))
   obtain rfl := si P
   refine va (B ((A.Cells.length : Int) == 3)) ?_
   rcases bo ((A.Cells.length : Int) == 3) with x | x
   ·have e := anT x m0
    refine vb x (wn (va (.pointer (some ⟨i, 2, none⟩)) (wn (vx (le1 2 underlying22 (d.on 0 rfl)) (wn (bn e fun k4 p0 e => vx (ixO underlying22 b.m p0) (wn (va (.pointer (some ⟨sb (.slice o p q), (0 : Int).toNat * 2, none⟩)) (wn ?_)))))))))
    obtain ⟨e4, i3, x1⟩ := OA.at (b.mono (q0.trans a1)) p0
    obtain ⟨z, rfl, e0⟩ := i3
    refine vr z (rx (by kernel_rfl) (ldE1 underlying69 rfl (d.on 1 rfl) (b.m.blk p0) (at1 (j := 0) x1 rfl))) (wn (bn e fun z1 f0 e => ?_))
    obtain ⟨m3, p1, y1⟩ := Sl.at e0 (idx_get f0)
    obtain ⟨g4, rfl, q1⟩ := p1
    refine vx (ix underlying69 e0 f0) (wn (va (.pointer (some ⟨sb z, so z + (0 : Int).toNat * 2 + 1, none⟩)) (wn (vx (l1 underlying27 (y1 1 _ rfl)) (wn (me (sl (RI .i32) 21 [[J 769]] ([769] : List Int) d ⟨rfl, trivial⟩) ?_))))))
    rintro h4 q3 z3 ⟨f4, d1, s1⟩
    refine wn ?_
    obtain ⟨s3, u1, a4, e1, t1⟩ := d1.frz 0 rfl s1
    refine WL.gh u1 (bn e fun t0 v1 e => cl (c_linotyperef01_Same e1 z1.Text ([769] : List Int) q1.m t1 v1) ?_)
    rintro i4 y b4 ⟨f, rfl⟩
    obtain rfl := si e
    refine va (B t0) ?_
    rcases bo (t0) with g | g
    ·have b1 := anT g D
     refine vb g (wn (va (.pointer (some ⟨i, 3, none⟩)) (wn (vx (leN 24 3 [I a.At.Row, I a.At.Col, B a.At.Pending] (f.on 1 rfl)) (wn (va (.agg #[I 0, I 1, B false]) (wn (vr (B (a.At.Row == 0 && (a.At.Col == 1 && (a.At.Pending == false && true)))) (run_eqlA (T := 24) (xs := #[I a.At.Row, I a.At.Col, B a.At.Pending]) (ys := #[I 0, I 1, B false]) (r := (a.At.Row == 0 && (a.At.Col == 1 && (a.At.Pending == false && true)))) underlying24 (by kernel_rfl) (by kernel_rfl) (EqP.int (by kernel_rfl) underlying3 rfl rfl (EqP.int (by kernel_rfl) underlying3 rfl rfl (EqP.bool (by kernel_rfl) underlying4 rfl rfl EqP.nil))) (by kernel_rfl) _) ?_))))))))
     obtain rfl := si b1
     refine va (B (a.At.Row == 0 && (a.At.Col == 1 && (a.At.Pending == false && true)))) ?_
     rcases bo ((a.At.Row == 0 && (a.At.Col == 1 && (a.At.Pending == false && true)))) with h | h
     ·have c1 := anT h t
      refine vb h (wn (va (.pointer (some ⟨i, 6, none⟩)) (wn (vx (le1 6 underlying4 (f.on 1 rfl)) ?_))))
      obtain rfl := si c1
      refine va (B a.Auto) (va (B a.Auto) (wln ?_))
      have f1 := f.sD 3 [1, 2]
      exact ⟨y, _, _, rfl, pt, us, f1, rfl⟩
     obtain rfl := anF h t
     refine vb h (ps (ps (va (B false) (va (B false) (wln ?_)))))
     have g1 := f.sD 3 [1, 2]
     exact ⟨y, _, _, rfl, pt, us, g1, rfl⟩
    obtain rfl := anF g D
    refine vb g (ps (ps (ps (ps (va (B false) ?_)))))
    have g0 : false = false := rfl
    obtain rfl := anF g0 t
    refine vb g0 (ps (ps (va (B false) (va (B false) (wln ?_)))))
    have i1 := f.sD 3 [1, 2]
    exact ⟨y, _, _, rfl, pt, us, i1, rfl⟩
   obtain rfl := anF x m0
   refine vb x (ps (ps (ps (ps (ps (ps (ps (ps (ps (ps (va (B false) ?_)))))))))))
   have h0 : false = false := rfl
   obtain rfl := anF h0 D
   refine vb h0 (ps (ps (ps (ps (va (B false) ?_)))))
   have i0 : false = false := rfl
   obtain rfl := anF i0 t
   exact vb i0 (ps (ps (va (B false) (va (B false) (wln ⟨d0, _, _, rfl, pt, us, d, rfl⟩)))))
  obtain rfl := anF u z0
  refine vb u (ps (ps (ps (ps (ps (ps (ps (va (B false) ?_))))))))
  have j0 : false = false := rfl
  obtain rfl := anF j0 m0
  refine vb j0 (ps (ps (ps (ps (ps (ps (ps (ps (ps (ps (va (B false) ?_)))))))))))
  have k0 : false = false := rfl
  obtain rfl := anF k0 D
  refine vb k0 (ps (ps (ps (ps (va (B false) ?_)))))
  have l0 : false = false := rfl
  obtain rfl := anF l0 t
  exact vb l0 (ps (ps (va (B false) (va (B false) (wln ⟨d0, _, _, rfl, pt, us, d, rfl⟩)))))
 rintro e_ w_ ⟨m1, x3, _, rfl, c4, rfl, j1, rfl⟩
 refine nrm (W.ret ?_)
 obtain rfl := si H
 have k1 := j1.sD 2 []
 exact r1 ⟨_, m1, rfl, rfl, pt, M, k1, R.m, rfl⟩
def f_linotyperef14_rows  : Option (List ByteArray) :=
 some ([(⟨#[48, 48, 48, 48, 49, 49, 48, 48, 49, 48, 48, 48, 48, 48]⟩ : ByteArray), (⟨#[48, 48, 49, 48, 48, 48, 48, 48, 48, 48, 48, 48, 48, 48]⟩ : ByteArray), (⟨#[48, 48, 48, 48, 48, 48, 48, 48, 48, 48, 48, 48, 48, 48]⟩ : ByteArray), (⟨#[48, 48, 48, 48, 48, 48, 48, 48, 48, 48, 48, 48, 48, 48]⟩ : ByteArray), (⟨#[50, 48, 48, 48, 49, 49, 48, 48, 49, 48, 48, 48, 48, 48]⟩ : ByteArray), (⟨#[50, 48, 48, 48, 49, 49, 48, 48, 49, 48, 48, 48, 48, 48]⟩ : ByteArray), (⟨#[48, 48, 48, 48, 49, 49, 50, 48, 49, 48, 48, 48, 48, 48]⟩ : ByteArray), (⟨#[49, 48, 48, 48, 49, 49, 49, 49, 49, 49, 49, 49, 49, 49]⟩ : ByteArray), (⟨#[48, 48, 48, 48, 49, 49, 48, 48, 49, 48, 48, 48, 48, 48]⟩ : ByteArray), (⟨#[48, 48, 48, 48, 49, 49, 48, 48, 49, 49, 49, 48, 49, 49]⟩ : ByteArray), (⟨#[48, 48, 48, 48, 49, 49, 48, 48, 49, 48, 49, 49, 48, 48]⟩ : ByteArray), (⟨#[48, 48, 48, 48, 49, 49, 48, 48, 49, 48, 48, 49, 48, 48]⟩ : ByteArray), (⟨#[48, 48, 48, 48, 49, 49, 48, 48, 49, 48, 49, 49, 48, 48]⟩ : ByteArray), (⟨#[48, 48, 48, 48, 49, 49, 48, 48, 49, 48, 48, 49, 48, 48]⟩ : ByteArray)] : List ByteArray)
def f_linotyperef14_Join (p0 : Int) (p1 : Int) : Option (Int) :=
 ((orE (decide (p0 < 0)) (some (decide (p0 > 13)))).bind fun f =>
 if f = true then
 some (0)
 else
 some (p0)).bind fun g =>
 ((orE (decide (p1 < 0)) (some (decide (p1 > 13)))).bind fun a =>
 if a = true then
 some (0)
 else
 some (p1)).bind fun e =>
 (f_linotyperef14_rows).bind fun b =>
 (idx b g).bind fun c =>
 (sidx c e).bind fun d =>
 some (w64 ((w64 d) - 48))
def f_linotyperef40_Same (p0 : G_api_View) (p1 : G_api_View) : Option (Bool) :=
 (andE (p0.Wide == p1.Wide) (some (p0.High == p1.High))).bind fun a =>
 (andE a (some (p0.At.Row == p1.At.Row && (p0.At.Col == p1.At.Col && (p0.At.Pending == p1.At.Pending && true))))).bind fun b =>
 (andE b (some (p0.Auto == p1.Auto))).bind fun c =>
 (andE c ((f_linotyperef32_Same p0.Lines p1.Lines).bind fun e =>
 some e)).bind fun d =>
 some d
theorem c_linotyperef40_Same (O0 : Own c0 G F) (a : G_api_View) (b : G_api_View) {r : Bool} (h2 : Sl R_api_Line c0 v1 a.Lines) (h4 : Sl R_api_Line c0 v3 b.Lines) (H : f_linotyperef40_Same a b = some r) :
    Calls prog 63 #[.agg #[I a.Wide, I a.High, v1, I a.At.Row, I a.At.Col, B a.At.Pending, B a.Auto], .agg #[I b.Wide, I b.High, v3, I b.At.Row, I b.At.Col, B b.At.Pending, B b.Auto]] c0.w (Post c0 fun c v => Own c G (F) ∧ v = B r) := by
 unfold f_linotyperef40_Same at H
 refine en func63 rfl rfl (sr ?_)
 obtain ⟨a5, a6, a7, rfl⟩ := (h2).form
 refine me (bx 96 [I a.Wide, I a.High, .slice a5 a6 a7, I a.At.Row, I a.At.Col, B a.At.Pending, B a.Auto] O0) ?_
 rintro v12 v0 j0 ⟨t, rfl, O9, o⟩
 obtain ⟨a0, b0, d0, rfl⟩ := ((h4.mono j0)).form
 refine me (bx 96 [I b.Wide, I b.High, .slice a0 b0 d0, I b.At.Row, I b.At.Col, B b.At.Pending, B b.Auto] O9) ?_
 rintro v20 f x0 ⟨e, rfl, d, p⟩
 refine va (B false) (wln (W.seq (bn H fun s0 y H => bn H fun t0 u H => bn H fun u0 q H => bn H fun P g H => W.join (Jn f fun c l => Own c G (F) ∧ l = [(4, B P)]) ?_ ?_)))
 ·clear H
  refine W.region (va (Q t) (vx (l1 underlying3 ((mm o) 0 _ rfl)) (va (Q e) (vx (l1 underlying3 (p 0 _ rfl)) (va (B (a.Wide == b.Wide)) ?_)))))
  rcases bo (a.Wide == b.Wide) with h | h
  ·have R := anT h y
   refine vb h (wn (va (.pointer (some ⟨t, 0 + 1, none⟩)) (wn (vx (l1 underlying3 ((mm o) 1 _ rfl)) (wn (va (.pointer (some ⟨e, 0 + 1, none⟩)) (wn (vx (l1 underlying3 (p 1 _ rfl)) (wn (va (B (a.High == b.High)) ?_))))))))))
   obtain rfl := si R
   refine va (B (a.High == b.High)) ?_
   rcases bo (a.High == b.High) with i | i
   ·have S := anT i u
    refine vb i (wn (va (.pointer (some ⟨t, 0 + 3, none⟩)) (wn (vx (lN 24 (imsub (k := 3) (l := [I a.At.Row, I a.At.Col, B a.At.Pending]) (mm o) rfl)) (wn (va (.pointer (some ⟨e, 0 + 3, none⟩)) (wn (vx (lN 24 (imsub (k := 3) (l := [I b.At.Row, I b.At.Col, B b.At.Pending]) p rfl)) (wn (vr (B (a.At.Row == b.At.Row && (a.At.Col == b.At.Col && (a.At.Pending == b.At.Pending && true)))) (run_eqlA (T := 24) (xs := #[I a.At.Row, I a.At.Col, B a.At.Pending]) (ys := #[I b.At.Row, I b.At.Col, B b.At.Pending]) (r := (a.At.Row == b.At.Row && (a.At.Col == b.At.Col && (a.At.Pending == b.At.Pending && true)))) underlying24 (by kernel_rfl) (by kernel_rfl) (EqP.int (by kernel_rfl) underlying3 rfl rfl (EqP.int (by kernel_rfl) underlying3 rfl rfl (EqP.bool (by kernel_rfl) underlying4 rfl rfl EqP.nil))) (by kernel_rfl) _) ?_))))))))))
    obtain rfl := si S
    refine va (B (a.At.Row == b.At.Row && (a.At.Col == b.At.Col && (a.At.Pending == b.At.Pending && true)))) ?_
    rcases bo ((a.At.Row == b.At.Row && (a.At.Col == b.At.Col && (a.At.Pending == b.At.Pending && true)))) with j | j
    ·have U := anT j q
     refine vb j (wn (va (.pointer (some ⟨t, 0 + 6, none⟩)) (wn (vx (l1 underlying4 ((mm o) 6 _ rfl)) (wn (va (.pointer (some ⟨e, 0 + 6, none⟩)) (wn (vx (l1 underlying4 (p 6 _ rfl)) (wn (va (B (a.Auto == b.Auto)) ?_))))))))))
     obtain rfl := si U
     refine va (B (a.Auto == b.Auto)) ?_
     rcases bo (a.Auto == b.Auto) with n | n
     ·have s := anT n g
      refine vb n (wn (va (.pointer (some ⟨t, 0 + 2, none⟩)) (wn (vx (l1 underlying22 ((mm o) 2 _ rfl)) (wn (va (.pointer (some ⟨e, 0 + 2, none⟩)) (wn (vx (l1 underlying22 (p 2 _ rfl)) (wn (bn s fun x h0 s => cl (c_linotyperef32_Same d a.Lines b.Lines h2.m h4.m h0) ?_))))))))))
      rintro v39 e0 y0 ⟨X, rfl⟩
      obtain rfl := si s
      exact va (B x) (va (B x) (wln ⟨e0, _, _, rfl, pt, us, X, rfl⟩))
     obtain rfl := anF n g
     exact vb n (ps (ps (ps (ps (ps (va (B false) (va (B false) (wln ⟨f, _, _, rfl, pt, us, d, rfl⟩))))))))
    obtain rfl := anF j q
    refine vb j (ps (ps (ps (ps (ps (va (B false) ?_))))))
    have z : false = false := rfl
    obtain rfl := anF z g
    exact vb z (ps (ps (ps (ps (ps (va (B false) (va (B false) (wln ⟨f, _, _, rfl, pt, us, d, rfl⟩))))))))
   obtain rfl := anF i u
   refine vb i (ps (ps (ps (ps (ps (va (B false) ?_))))))
   have A : false = false := rfl
   obtain rfl := anF A q
   refine vb A (ps (ps (ps (ps (ps (va (B false) ?_))))))
   have D : false = false := rfl
   obtain rfl := anF D g
   exact vb D (ps (ps (ps (ps (ps (va (B false) (va (B false) (wln ⟨f, _, _, rfl, pt, us, d, rfl⟩))))))))
  obtain rfl := anF h y
  refine vb h (ps (ps (ps (ps (ps (va (B false) ?_))))))
  have E : false = false := rfl
  obtain rfl := anF E u
  refine vb E (ps (ps (ps (ps (ps (va (B false) ?_))))))
  have M : false = false := rfl
  obtain rfl := anF M q
  refine vb M (ps (ps (ps (ps (ps (va (B false) ?_))))))
  have N : false = false := rfl
  obtain rfl := anF N g
  exact vb N (ps (ps (ps (ps (ps (va (B false) (va (B false) (wln ⟨f, _, _, rfl, pt, us, d, rfl⟩))))))))
 rintro e_ w_ ⟨f0, w0, _, rfl, z0, rfl, Z, rfl⟩
 refine nrm (W.ret ?_)
 obtain rfl := si H
 exact r1 ⟨_, f0, rfl, rfl, pt, Z, rfl⟩
def f_linotypelaw40_Great (p0 : List G_api_Op) : Option (Bool) :=
 (iter (σ := Int × Int) (τ := Bool ⊕ Unit) (((p0.length : Int) - 0).toNat + 1) (fun a =>
 (andE (decide (a.2 < (p0.length : Int))) (some (decide (a.2 < 60)))).bind fun d =>
 if d = true then
 (idx p0 a.2).bind fun c =>
 (orE (decide ((w64 (a.1 + (c.Bytes.length : Int))) > 600)) ((idx p0 a.2).bind fun h =>
 (andE (h.Kind == 13) ((idx p0 a.2).bind fun i =>
 some (decide (i.A > 60)))).bind fun f =>
 (andE f ((idx p0 a.2).bind fun j =>
 some (decide (j.B > 60)))).bind fun g =>
 some g)).bind fun e =>
 if e = true then
 some (.inr (.inl true))
 else
 some (.inl ((w64 (a.1 + (c.Bytes.length : Int))), (w64 (a.2 + 1))))
 else
 some (.inr (.inr ()))) (0, 0)).bind fun b =>
 match b with
 | .inl b =>
 some b
 | .inr b =>
 some (decide ((p0.length : Int) > 50))
theorem c_linotypelaw40_Great (O0 : Own c0 G F) (s : List G_api_Op) {r : Bool} (f : Sl R_api_Op c0 v1 s) (H : f_linotypelaw40_Great s = some r) :
    Calls prog 59 #[v1] c0.w (Post c0 fun c v => Own c G (F) ∧ v = B r) := by
 unfold f_linotypelaw40_Great at H
 refine en func59 rfl rfl (sr (va (B false) (wln (sr (va (I 0) (wln (W.seq (sr (va (I 0) (wln (W.block (bn H fun y h3 H4 => lp h3 (fun a => Jn c0 fun c l => Own c G (F) ∧ l = [(0, v1), (3, I a.1), (4, I a.2)]) (fun t => match t with | .inl x_ => (fun i1 ex e w => ex = .ret ∧ (Jn c0 fun c l => Own c G (F) ∧ l = [(2, B i1)]) e w) x_ | .inr x_ => (fun t1 ex e w => ex = .exit 0 ∧ (Jn c0 fun c l => Own c G (F) ∧ l = [(0, v1)]) e w) x_) ?_ ?_ ?_))))))))))))
 ·clear H4 h3
  intro a f2 t0 j1 H
  revert t0 j1
  rintro D M ⟨c5, g6, _, rfl, E, rfl, O7, rfl⟩
  refine W.seq (W.seq (bn H fun g0 R H => W.join (Jn c5 fun c l => Own c G (F) ∧ l = [(0, v1), (3, I a.1), (4, I a.2), (12, B g0)]) ?_ ?_))
  ·clear H
   refine W.region (va (I a.2) (va (v1) (vx (ln 3 underlying55 f.m) (va (B (decide (a.2 < (s.length : Int)))) ?_))))
   rcases bo (decide (a.2 < (s.length : Int))) with i | i
   ·have k0 := anT i R
    refine vb i (wn (va (I a.2) (wn (va (B (decide (a.2 < 60))) ?_))))
    obtain rfl := si k0
    exact va (B (decide (a.2 < 60))) (wln ⟨c5, _, _, rfl, pt, us, O7, rfl⟩)
   obtain rfl := anF i R
   exact vb i (ps (ps (va (B false) (wln ⟨c5, _, _, rfl, pt, us, O7, rfl⟩))))
  rintro D M ⟨g, u1, _, rfl, q, rfl, h, rfl⟩
  refine nrm (cn H (fun v0 H => ?_) (fun v0 H => ?_))
  ·refine W.skip (nrm (W.seq (W.block (sr (va (I a.1) (va (v1) (va (I a.2) (bn H fun d S H => ?_))))))))
   obtain ⟨n1, w0, e1⟩ := Sl.at (f.mono (E.trans q)) (idx_get S)
   obtain ⟨v25, rfl, x0⟩ := w0
   refine vx (ix underlying55 f.m S) (va (.pointer (some ⟨sb v1, so v1 + a.2.toNat * 4 + 3, none⟩)) (vx (l1 underlying57 (e1 3 _ rfl)) (vx (ln 3 underlying57 x0) (va (I (w64 (a.1 + (d.Bytes.length : Int)))) (va (I (w64 (a.1 + (d.Bytes.length : Int)))) (wln (W.seq (bn H fun h0 T H => W.join (Jn g fun c l => Own c G (F) ∧ l = [(0, v1), (3, I (w64 (a.1 + (d.Bytes.length : Int)))), (4, I a.2), (48, B h0)]) ?_ ?_))))))))
   ·clear H
    refine W.region (va (I (w64 (a.1 + (d.Bytes.length : Int)))) (va (B (decide ((w64 (a.1 + (d.Bytes.length : Int))) > 600))) ?_))
    rcases bo (decide ((w64 (a.1 + (d.Bytes.length : Int))) > 600)) with j | j
    ·obtain rfl := orT j T
     exact vb j (ps (ps (ps (ps (ps (ps (ps (ps (ps (ps (ps (ps (ps (ps (ps (ps (ps (ps (ps (ps (ps (ps (va (B true) (wln ⟨g, _, _, rfl, pt, us, h, rfl⟩))))))))))))))))))))))))
    have b := orF j T
    refine vb j (wn (va (v1) (wn (va (I a.2) (wn (bn b fun z U b => ?_))))))
    obtain ⟨p1, z0, f1⟩ := Sl.at (f.mono (E.trans q)) (idx_get U)
    obtain ⟨v34, rfl, z1⟩ := z0
    refine vx (ix underlying55 f.m U) (wn (va (.pointer (some ⟨sb v1, so v1 + a.2.toNat * 4, none⟩)) (wn (vx (l1 underlying3 (f1 0 _ rfl)) (wn (va (B (z.Kind == 13)) (wn (bn b fun m1 X b => ?_))))))))
    rcases bo (z.Kind == 13) with k | k
    ·have u := anT k X
     refine vb k (wn (va (v1) (wn (va (I a.2) (wn (bn u fun o Z u => ?_))))))
     obtain ⟨q1, a1, g1⟩ := Sl.at (f.mono (E.trans q)) (idx_get Z)
     obtain ⟨v43, rfl, a2⟩ := a1
     refine vx (ix underlying55 f.m Z) (wn (va (.pointer (some ⟨sb v1, so v1 + a.2.toNat * 4 + 1, none⟩)) (wn (vx (l1 underlying3 (g1 1 _ rfl)) (wn (va (B (decide (o.A > 60))) (wn ?_)))))))
     obtain rfl := si u
     refine va (B (decide (o.A > 60))) (wn (bn b fun i0 a0 b => ?_))
     rcases bo (decide (o.A > 60)) with n | n
     ·have x := anT n a0
      refine vb n (wn (va (v1) (wn (va (I a.2) (wn (bn x fun p b0 x => ?_))))))
      obtain ⟨s1, b1, h1⟩ := Sl.at (f.mono (E.trans q)) (idx_get b0)
      obtain ⟨v52, rfl, b2⟩ := b1
      refine vx (ix underlying55 f.m b0) (wn (va (.pointer (some ⟨sb v1, so v1 + a.2.toNat * 4 + 2, none⟩)) (wn (vx (l1 underlying3 (h1 2 _ rfl)) (wn (va (B (decide (p.B > 60))) (wn ?_)))))))
      obtain rfl := si x
      refine va (B (decide (p.B > 60))) ?_
      obtain rfl := si b
      exact va (B (decide (p.B > 60))) (wln ⟨g, _, _, rfl, pt, us, h, rfl⟩)
     obtain rfl := anF n a0
     refine vb n (ps (ps (ps (ps (ps (ps (wn (va (B false) ?_))))))))
     obtain rfl := si b
     exact va (B false) (wln ⟨g, _, _, rfl, pt, us, h, rfl⟩)
    obtain rfl := anF k X
    refine vb k (ps (ps (ps (ps (ps (ps (wn (va (B false) (wn (bn b fun i0 c1 b => ?_))))))))))
    have d0 : false = false := rfl
    obtain rfl := anF d0 c1
    refine vb d0 (ps (ps (ps (ps (ps (ps (wn (va (B false) ?_))))))))
    obtain rfl := si b
    exact va (B false) (wln ⟨g, _, _, rfl, pt, us, h, rfl⟩)
   rintro D M ⟨P, w1, _, rfl, c2, rfl, N, rfl⟩
   refine nrm (cn H (fun d1 H => ?_) (fun d1 H => ?_))
   ·refine sr (va (B true) (wln (W.ret (bkr (thr ?_)))))
    obtain rfl := si H
    exact ⟨_, rfl, ⟨rfl, ⟨P, _, _, rfl, pt, us, N, rfl⟩⟩⟩
   refine W.skip (bkn (nrm (W.region (va (I a.2) (va (I (w64 (a.2 + 1))) (va (I (w64 (a.2 + 1))) (WL.nil ?_)))))))
   obtain rfl := si H
   exact ⟨_, rfl, ⟨P, _, _, rfl, pt, us, N, rfl⟩⟩
  refine W.exit (thx ?_)
  obtain rfl := si H
  exact ⟨_, rfl, rfl, ⟨g, _, _, rfl, pt, us, h, rfl⟩⟩
 ·exact ⟨c0, _, _, rfl, pt, us, O0, rfl⟩
 rcases y with y | y
 ·intro u0; revert u0
  rintro _ D M ⟨rfl, q0, x1, _, rfl, d2, rfl, l0, rfl⟩
  refine bkr (thr ?_)
  obtain rfl := si H4
  exact r1 ⟨_, q0, rfl, rfl, pt, l0, rfl⟩
 rintro _ D M ⟨rfl, s0, y1, _, rfl, e2, rfl, o0, rfl⟩
 refine bke (nrm (sr (va (v1) (vx (ln 3 underlying55 f.m) (va (B (decide ((s.length : Int) > 50))) (va (B (decide ((s.length : Int) > 50))) (wln (W.ret ?_))))))))
 obtain rfl := si H4
 exact r1 ⟨_, s0, rfl, rfl, pt, o0, rfl⟩
def f_linotypelaw40_ScreenCuts (sg : Sto) (p0 : List G_api_Op) (p1 : G_linotypelaw40_Cut) (p2 : List G_api_Op) : Option (Sto × Bool) :=
 (f_linotypelaw40_works sg).bind fun g =>
 (orE (!g.2) ((f_linotypelaw40_Great p0).bind fun t =>
 some t)).bind fun o =>
 (orE o ((f_linotypelaw40_Great p2).bind fun u =>
 some u)).bind fun p =>
 (orE p (some (decide ((p1.B.length : Int) > 300)))).bind fun q =>
 if q = true then
 (f_linotypelaw40_works g.1).bind fun h =>
 some (h.1, h.2)
 else
 (dvg (IntKind.u64.wrap (w64 ((p1.B.length : Int) + 1)))).bind fun S =>
 (f_screen_New g.1 7 4).bind fun a =>
 (f_screen_New a.1 7 4).bind fun b =>
 (f_screen_Screen_Run b.1 a.2 p0).bind fun v =>
 (f_screen_Screen_Run v.1 b.2 p0).bind fun w =>
 (f_screen_Screen_Do w.1 a.2 (⟨0, 0, 0, p1.B⟩ : G_api_Op)).bind fun x =>
 (slc p1.B 0 (w64 ((IntKind.u64.wrap p1.At).tmod (IntKind.u64.wrap (w64 ((p1.B.length : Int) + 1)))))).bind fun y =>
 (slc p1.B (w64 ((IntKind.u64.wrap p1.At).tmod (IntKind.u64.wrap (w64 ((p1.B.length : Int) + 1))))) p1.B.length).bind fun z =>
 (f_screen_Screen_Run x.1 b.2 ([(⟨0, 0, 0, y⟩ : G_api_Op), (⟨0, 0, 0, ([] : List Int)⟩ : G_api_Op), (⟨0, 0, 0, z⟩ : G_api_Op)] : List G_api_Op)).bind fun c =>
 (f_screen_Screen_View c.1 a.2).bind fun A =>
 (f_screen_Screen_View c.1 b.2).bind fun D =>
 (f_linotyperef40_Same A D).bind fun E =>
 (orE (!E) ((f_screen_Screen_Held c.1 a.2).bind fun H =>
 (f_screen_Screen_Held c.1 b.2).bind fun M =>
 some (H != M))).bind fun r =>
 (orE r ((f_screen_Screen_Open c.1 a.2).bind fun N =>
 (f_screen_Screen_Open c.1 b.2).bind fun P =>
 (f_linotyperef01_Same N P).bind fun R =>
 some (!R))).bind fun s =>
 if s = true then
 some (c.1, false)
 else
 (iter (σ := Int × Sto) (τ := (Sto × Bool) ⊕ Sto) (((p2.length : Int) - 0).toNat + 1) (fun d =>
 if (decide (d.1 < (p2.length : Int))) = true then
 (idx p2 d.1).bind fun i =>
 (f_screen_Screen_Do d.2 a.2 i).bind fun j =>
 (idx p2 d.1).bind fun k =>
 (f_screen_Screen_Do j.1 b.2 k).bind fun e =>
 (f_screen_Screen_View e.1 a.2).bind fun l =>
 (f_screen_Screen_View e.1 b.2).bind fun m =>
 (f_linotyperef40_Same l m).bind fun n =>
 if (!n) = true then
 some (.inr (.inl (e.1, false)))
 else
 some (.inl ((w64 (d.1 + 1)), e.1))
 else
 some (.inr (.inr (d.2)))) (0, c.1)).bind fun f =>
 match f with
 | .inl f =>
 some f
 | .inr f =>
 some (f, true)
theorem c_linotypelaw40_ScreenCuts (O0 : Own c0 G F) (R0 : Rel c0 sg G) (hG : Gl [0, 4, 7] c0) (p0 : List G_api_Op) (d : G_linotypelaw40_Cut) (p2 : List G_api_Op) {r : Sto × Bool} (h2 : Sl R_api_Op c0 v1 p0) (h4 : Sl (RI .u8) c0 v3 d.B) (h6 : Sl R_api_Op c0 v5 p2) (H : f_linotypelaw40_ScreenCuts sg p0 d p2 = some r) :
    Calls prog 10 #[v1, .agg #[v3, I d.At], v5] c0.w (Post c0 fun c v => ∃ G_ : Gm, Own c G_ (F) ∧ Rel c r.1 G_ ∧ v = B r.2) := by
 unfold f_linotypelaw40_ScreenCuts at H
 refine en func10 rfl rfl (sr ?_)
 obtain ⟨T, U, X, rfl⟩ := (h4).form
 refine me (bx 105 [.slice T U X, I d.At] O0) ?_
 rintro v14 c13 i1 ⟨p3, rfl, o8, y3⟩
 refine va (B false) (wln (W.seq (rD [] (Kp G0 []) o8 ?_)))
 intro q3 j1 p8
 have p17 : Kp G0 [] q3 := Kp.nil0
 refine ta 0 (Q p3) (tx 1 (fun c' q2 => l1 underlying57 ((mm y3) 0 _ rfl)) (ta 2 (.pointer (some ⟨p3, 0 + 1, none⟩)) (tx 3 (fun c' q2 => l1 underlying3 ((mm y3) 1 _ rfl)) (ta 4 (.slice T U X) (ta 5 (I d.At) (dn (nrm (W.seq (W.seq (bn H fun c1 g9 H => bn H fun d_13 t3 H => bn H fun d_17 l2 H => bn H fun u5 h1 H => W.join (Jn q3 fun c l => ∃ G_, Own c G_ (F) ∧ l = [(0, v1), (2, v5), (7, .slice T U X), (8, I d.At), (31, B u5)] ∧ Rel c c1.1 G_) ?_ ?_))))))))))
 ·clear H
  refine W.region (cl (c_linotypelaw40_works p8 R0.m (hG.m.le (by decide)) g9) ?_)
  rintro v27 b9 l26 ⟨f1, k3, g1, rfl⟩
  refine va (B (!c1.2)) ?_
  rcases bo (!c1.2) with f0 | f0
  ·obtain rfl := orT f0 t3
   refine vb f0 (ps (ps (va (B true) ?_)))
   have u3 : true = true := rfl
   obtain rfl := orT u3 l2
   refine vb u3 (ps (ps (va (B true) ?_)))
   have w3 : true = true := rfl
   obtain rfl := orT w3 h1
   exact vb w3 (ps (ps (ps (va (B true) (wln ⟨b9, _, _, rfl, pt, us, f1, k3, rfl, g1⟩)))))
  have w1 := orF f0 t3
  refine vb f0 (wn (va (v1) (wn (bn w1 fun x2 h9 w1 => cl (c_linotypelaw40_Great k3 p0 h2.m h9) ?_))))
  rintro v38 c9 l37 ⟨l3, rfl⟩
  obtain rfl := si w1
  refine va (B x2) ?_
  rcases bo (x2) with g0 | g0
  ·obtain rfl := orT g0 l2
   refine vb g0 (ps (ps (va (B true) ?_)))
   have x3 : true = true := rfl
   obtain rfl := orT x3 h1
   exact vb x3 (ps (ps (ps (va (B true) (wln ⟨c9, _, _, rfl, pt, us, f1, l3, rfl, g1.m⟩)))))
  have x1 := orF g0 l2
  refine vb g0 (wn (va (v5) (wn (bn x1 fun y2 i9 x1 => cl (c_linotypelaw40_Great l3 p2 h6.m i9) ?_))))
  rintro v48 s3 l47 ⟨m3, rfl⟩
  obtain rfl := si x1
  refine va (B y2) ?_
  rcases bo (y2) with h0 | h0
  ·obtain rfl := orT h0 h1
   exact vb h0 (ps (ps (ps (va (B true) (wln ⟨s3, _, _, rfl, pt, us, f1, m3, rfl, g1.m⟩)))))
  have n8 := orF h0 h1
  refine vb h0 (wn (va (.slice T U X) (wn (vx (ln 3 underlying57 h4.m) (wn (va (B (decide ((d.B.length : Int) > 300))) ?_))))))
  obtain rfl := si n8
  exact va (B (decide ((d.B.length : Int) > 300))) (wln ⟨s3, _, _, rfl, pt, us, f1, m3, rfl, g1.m⟩)
 rintro e_ w_ ⟨c51, g52, _, rfl, k1, rfl, G54, n3, rfl, o3⟩
 refine nrm (cn H (fun j9 H => ?_) (fun j9 H => ?_))
 ·refine sr (bn H fun j8 k9 H => cl (c_linotypelaw40_works n3 o3 (hG.m.le (by decide)) k9) ?_)
  rintro v64 d9 l63 ⟨m8, q8, v8, rfl⟩
  refine va (B j8.2) (wln (W.ret (thr ?_)))
  obtain rfl := si H
  exact r1 ⟨_, d9, rfl, rfl, pt, m8, q8, v8, rfl⟩
 refine W.skip (nrm (sr (va (I d.At) (va (.int .u64 (IntKind.u64.wrap d.At)) (va (.slice T U X) (vx (ln 3 underlying57 h4.m) (va (I (w64 ((d.B.length : Int) + 1))) (va (.int .u64 (IntKind.u64.wrap (w64 ((d.B.length : Int) + 1)))) (bn H fun x_36 l9 H => vr (.int .u64 ((IntKind.u64.wrap d.At).tmod (IntKind.u64.wrap (w64 ((d.B.length : Int) + 1))))) (run_rem (a := (IntKind.u64.wrap d.At)) (b := (IntKind.u64.wrap (w64 ((d.B.length : Int) + 1)))) l9 (by kernel_rfl) _) (va (I (w64 ((IntKind.u64.wrap d.At).tmod (IntKind.u64.wrap (w64 ((d.B.length : Int) + 1)))))) (va (I (w64 ((IntKind.u64.wrap d.At).tmod (IntKind.u64.wrap (w64 ((d.B.length : Int) + 1)))))) (wln (sr (bn H fun n m9 H => cl (c_screen_New n3 o3 7 4 m9) ?_))))))))))))))
 rintro h c73 m1 ⟨_, G69, r8, w8, a72, rfl, x⟩
 refine bn H fun o n9 H => cl (c_screen_New r8 w8 7 4 n9) ?_
 rintro i c82 n1 ⟨_, G78, s8, x8, a81, rfl, y⟩
 refine va (h) (va (i) (wln (sr (va (h) (va (v1) (bn H fun x_47 o9 H => cl (c_screen_Screen_Run s8 x8 (hG.m.le (by decide)) n.2 p0 x.m h2.m o9) ?_))))))
 rintro v85 c91 q1 ⟨_, G87, t8, y8, rfl, h86⟩
 refine wln (sr (va (i) (va (v1) (bn H fun x_51 p9 H => cl (c_screen_Screen_Run t8 y8 (hG.m.le (by decide)) o.2 p0 y.m h2.m p9) ?_))))
 rintro v94 z9 b0 ⟨_, G96, u8, z8, rfl, h95⟩
 refine wln (sr (va (h) (va (.slice T U X) (va (.agg #[I 0, I 0, I 0, .slice T U X]) (bn H fun x_56 x5 H => cl (c_screen_Screen_Do u8 z8 (hG.m.le (by decide)) n.2 (⟨0, 0, 0, d.B⟩ : G_api_Op) x.m h4.m x5) ?_)))))
 rintro v103 c109 d0 ⟨_, v9, d4, g5, rfl, h104⟩
 refine wln (W.seq (rD [] (Kp G0 []) d4 ?_))
 intro l5 e0 e4
 have p113 : Kp G0 [] l5 := Kp.nil0
 refine ta 0 (i) (ta 1 (.slice T U X) (ta 2 (I (w64 ((IntKind.u64.wrap d.At).tmod (IntKind.u64.wrap (w64 ((d.B.length : Int) + 1)))))) (bn H fun M y5 H => ?_)))
 obtain ⟨g8, z5, g2⟩ := run_cutH (k' := .i64) underlying57 (by kernel_rfl) (h4.mono (i1.trans (j1.trans (k1.trans (m1.trans (n1.trans (q1.trans (b0.trans (d0.trans e0))))))))) y5
 refine AC.take 3 (g8) rfl (by kernel_rfl) (by kernel_rfl) (fun c' q2 => (rx (by kernel_rfl) (z5 _))) ?_
 obtain ⟨k0, l0, m0, rfl⟩ := (g2).form
 refine ta 4 (.agg #[I 0, I 0, I 0, .slice k0 l0 m0]) (ta 5 (.agg #[I 0, I 0, I 0, Y]) (ta 6 (.slice T U X) (ta 7 (I (w64 ((IntKind.u64.wrap d.At).tmod (IntKind.u64.wrap (w64 ((d.B.length : Int) + 1)))))) (bn H fun N a6 H => ?_))))
 obtain ⟨h8, b6, i2⟩ := run_cutL (k := .i64) underlying57 (by kernel_rfl) (h4.mono (i1.trans (j1.trans (k1.trans (m1.trans (n1.trans (q1.trans (b0.trans (d0.trans e0))))))))) a6
 refine AC.take 8 (h8) rfl (by kernel_rfl) (by kernel_rfl) (fun c' q2 => (rx (by kernel_rfl) (b6 _))) ?_
 obtain ⟨o0, q0, s0, rfl⟩ := (i2).form
 refine ta 9 (.agg #[I 0, I 0, I 0, .slice o0 q0 s0]) (o1 10 (gm 10 (sl R_api_Op 59 [[I 0, I 0, I 0, .slice k0 l0 m0], [I 0, I 0, I 0, Y], [I 0, I 0, I 0, .slice o0 q0 s0]] ([(⟨0, 0, 0, M⟩ : G_api_Op), (⟨0, 0, 0, ([] : List Int)⟩ : G_api_Op), (⟨0, 0, 0, N⟩ : G_api_Op)] : List G_api_Op) e4 ⟨⟨(.slice k0 l0 m0), rfl, g2⟩, ⟨(Y), rfl, (Sl.nl _ _)⟩, ⟨(.slice o0 q0 s0), rfl, i2⟩, trivial⟩) ?_))
 rintro z0 m5 s2 ⟨w0, f4, c6⟩
 have d8 : Kp G0 [] m5 := Kp.nil0
 refine ⟨.inr d8, ?_⟩
 obtain ⟨n5, e6, u0, g4, d6⟩ := f4.frz 0 rfl c6
 have e8 : Kp G0 [] n5 := Kp.nil0
 refine AC.gh e6 u0 (fun _ => e8) (bn H fun x_69 f6 H => o1 11 (gc 11 (c_screen_Screen_Run g4 g5.m (hG.m.le (by decide)) o.2 ([(⟨0, 0, 0, M⟩ : G_api_Op), (⟨0, 0, 0, ([] : List Int)⟩ : G_api_Op), (⟨0, 0, 0, N⟩ : G_api_Op)] : List G_api_Op) y.m d6 f6) ?_))
 rintro v140 e2 t2 ⟨_, i0, i4, g, rfl, h141⟩
 have f8 : Kp G0 [] e2 := Kp.nil0
 refine ⟨.inr f8, dn (nrm (W.seq (W.seq (bn H fun P g6 H => bn H fun R i6 H => bn H fun z2 j6 H => bn H fun d_77 j2 H => bn H fun w5 t0 H => W.join (Jn e2 fun c l => ∃ D z E A, Own c i0 (es false R_api_Line D 71 z R.Lines :: es false R_api_Line E 71 A P.Lines :: es false R_api_Op z0 59 w0 ([(⟨0, 0, 0, M⟩ : G_api_Op), (⟨0, 0, 0, ([] : List Int)⟩ : G_api_Op), (⟨0, 0, 0, N⟩ : G_api_Op)] : List G_api_Op) :: F) ∧ l = [(2, v5), (10, h), (11, i), (85, B w5)] ∧ OA R_api_Line c D z R.Lines ∧ OA R_api_Line c E A P.Lines) ?_ ?_))))⟩
 ·clear H
  refine W.region (va (h) (cl (c_screen_Screen_View i4 g n.2 x.m g6) ?_))
  rintro v166 c165 l165 ⟨a1, x0, j4, rfl, Z⟩
  refine va (i) (cl (c_screen_Screen_View j4 g.m o.2 y.m i6) ?_)
  rintro v175 c174 t7 ⟨b1, y0, k4, rfl, a0⟩
  obtain ⟨c178, l6, u7, l4, k6⟩ := k4.frz 1 rfl (Z.mono t7)
  refine WL.gh l6 ?_
  obtain ⟨c182, n6, l182, m4, m6⟩ := l4.frz 0 rfl (a0.mono u7)
  refine WL.gh n6 (cl (c_linotyperef40_Same m4 P R k6.m m6 j6) ?_)
  rintro v189 o5 l188 ⟨y1, rfl⟩
  refine va (B (!z2)) ?_
  rcases bo (!z2) with s | s
  ·obtain rfl := orT s j2
   refine vb s (ps (ps (ps (ps (ps (va (B true) ?_))))))
   have k2 : true = true := rfl
   obtain rfl := orT k2 t0
   exact vb k2 (ps (ps (ps (ps (ps (ps (va (B true) (wln ⟨o5, _, _, rfl, pt, us, b1, y0, a1, x0, y1, rfl, a0.m, Z.m⟩))))))))
  have p := orF s j2
  refine vb s (wn (va (h) (wn (bn p fun d1 o6 p => cl (c_screen_Screen_Held y1 g.m n.2 x.m o6) ?_))))
  rintro v199 c198 l198 ⟨n4, rfl⟩
  refine wn (va (i) (wn (bn p fun e1 q6 p => cl (c_screen_Screen_Held n4 g.m o.2 y.m q6) ?_)))
  rintro v206 p5 l205 ⟨z1, rfl⟩
  refine wn (va (B (d1 != e1)) ?_)
  obtain rfl := si p
  refine va (B (d1 != e1)) ?_
  rcases bo (d1 != e1) with u | u
  ·obtain rfl := orT u t0
   exact vb u (ps (ps (ps (ps (ps (ps (va (B true) (wln ⟨p5, _, _, rfl, pt, us, b1, y0, a1, x0, z1, rfl, a0.m, Z.m⟩))))))))
  have j := orF u t0
  refine vb u (wn (va (h) (wn (bn j fun k8 r6 j => cl (c_screen_Screen_Open z1 g.m n.2 x.m r6) ?_))))
  rintro v210 c217 l217 ⟨_, u211, o4, rfl, s6⟩
  refine wn (va (i) (wn (bn j fun l8 t6 j => cl (c_screen_Screen_Open o4 g.m o.2 y.m t6) ?_)))
  rintro v220 c227 v7 ⟨_, u221, p4, rfl, u6⟩
  refine wn ?_
  obtain ⟨c231, w6, w7, q4, v6⟩ := p4.frz 1 rfl (s6.mono v7)
  refine WL.gh w6 ?_
  obtain ⟨c235, y6, l235, r4, x6⟩ := q4.frz 0 rfl (u6.mono w7)
  refine WL.gh y6 (bn j fun a3 z6 j => cl (c_linotyperef01_Same r4 k8 l8 v6.m x6 z6) ?_)
  rintro v243 q5 l242 ⟨s4, rfl⟩
  refine wn (va (B (!a3)) ?_)
  obtain rfl := si j
  refine va (B (!a3)) (wln ?_)
  have t4 := s4.sD 5 [2, 3, 4]
  exact ⟨q5, _, _, rfl, pt, us, b1, y0, a1, x0, t4, rfl, a0.m, Z.m⟩
 rintro e_ w_ ⟨q, g246, _, rfl, u2, rfl, D, z, E, A, a2, rfl, h248, h249⟩
 refine nrm (cn H (fun b7 H => ?_) (fun b7 H => ?_))
 ·refine sr (va (B false) (wln (W.ret (thr ?_))))
  obtain rfl := si H
  have u4 := a2.sD 3 []
  exact r1 ⟨_, q, rfl, rfl, pt, i0, u4, g.m, rfl⟩
 refine W.skip (nrm (W.seq (sr (va (I 0) (wln (W.block (bn H fun v0 m2 j0 => lp m2 (fun f => Jn q fun c l => ∃ G_, Own c G_ (es false R_api_Line D 71 z R.Lines :: es false R_api_Line E 71 A P.Lines :: es false R_api_Op z0 59 w0 ([(⟨0, 0, 0, M⟩ : G_api_Op), (⟨0, 0, 0, ([] : List Int)⟩ : G_api_Op), (⟨0, 0, 0, N⟩ : G_api_Op)] : List G_api_Op) :: F) ∧ l = [(2, v5), (10, h), (11, i), (12, I f.1)] ∧ Rel c f.2 G_) (fun t => match t with | .inl x_ => (fun z3 ex e w => ex = .ret ∧ (Jn q fun c l => ∃ G_, Own c G_ (F) ∧ l = [(6, B z3.2)] ∧ Rel c z3.1 G_) e w) x_ | .inr x_ => (fun c3 ex e w => ex = .exit 0 ∧ (Jn q fun c l => ∃ G_, Own c G_ (es false R_api_Line D 71 z R.Lines :: es false R_api_Line E 71 A P.Lines :: es false R_api_Op z0 59 w0 ([(⟨0, 0, 0, M⟩ : G_api_Op), (⟨0, 0, 0, ([] : List Int)⟩ : G_api_Op), (⟨0, 0, 0, N⟩ : G_api_Op)] : List G_api_Op) :: F) ∧ l = [] ∧ Rel c c3 G_) e w) x_) ?_ ?_ ?_)))))))
 ·clear j0 m2
  intro f xx_ e9 q9 H
  revert e9 q9
  rintro e_ w_ ⟨r5, g258, _, rfl, v2, rfl, a4, b2, rfl, d2⟩
  refine W.seq (sr (va (I f.1) (va (v5) (vx (ln 3 underlying55 h6.m) (va (B (decide (f.1 < (p2.length : Int)))) (wln (cn H (fun c7 H => ?_) (fun c7 H => ?_))))))))
  ·refine W.skip (nrm (W.seq (W.block (sr (va (h) (va (v5) (va (I f.1) (bn H fun f3 n2 H => ?_))))))))
   obtain ⟨r9, d7, b8⟩ := Sl.at (h6.mono (i1.trans (j1.trans (k1.trans (m1.trans (n1.trans (q1.trans (b0.trans (d0.trans (e0.trans (s2.trans (u0.trans (t2.trans (u2.trans v2)))))))))))))) (idx_get n2)
   obtain ⟨v268, rfl, e7⟩ := d7
   refine vx (ix underlying55 h6.m n2) (vx (lN 59 b8) (bn H fun t9 f7 H => cl (c_screen_Screen_Do b2 d2 (hG.m.le (by decide)) n.2 f3 x.m e7 f7) ?_))
   rintro v271 c277 x7 ⟨_, w9, v4, h5, rfl, h272⟩
   refine wln (sr (va (i) (va (v5) (va (I f.1) (bn H fun g3 o2 H => ?_)))))
   obtain ⟨s9, g7, c8⟩ := Sl.at (h6.mono (i1.trans (j1.trans (k1.trans (m1.trans (n1.trans (q1.trans (b0.trans (d0.trans (e0.trans (s2.trans (u0.trans (t2.trans (u2.trans (v2.trans x7))))))))))))))) (idx_get o2)
   obtain ⟨v283, rfl, h7⟩ := g7
   refine vx (ix underlying55 h6.m o2) (vx (lN 59 c8) (bn H fun u9 i7 H => cl (c_screen_Screen_Do v4 h5 (hG.m.le (by decide)) o.2 g3 y.m h7 i7) ?_))
   rintro v286 c292 l292 ⟨_, u1, w4, S, rfl, h287⟩
   refine wln (sr (va (h) (bn H fun h3 j7 H => cl (c_screen_Screen_View w4 S n.2 x.m j7) ?_)))
   rintro v303 c302 l302 ⟨v295, u296, x4, rfl, k7⟩
   refine va (i) (bn H fun i3 l7 H => cl (c_screen_Screen_View x4 S.m o.2 y.m l7) ?_)
   rintro v313 c312 y7 ⟨v305, u306, y4, rfl, m7⟩
   obtain ⟨c316, o7, z7, z4, n7⟩ := y4.frz 1 rfl (k7.mono y7)
   refine WL.gh o7 ?_
   obtain ⟨c320, q7, l320, a5, p7⟩ := z4.frz 0 rfl (m7.mono z7)
   refine WL.gh q7 (bn H fun j3 r7 H => cl (c_linotyperef40_Same a5 h3 i3 n7.m p7 r7) ?_)
   rintro v328 f2 l327 ⟨c2, rfl⟩
   refine va (B (!j3)) (wln (cn H (fun s7 H => ?_) (fun s7 H => ?_)))
   ·refine sr (va (B false) (wln (W.ret (bkr (thr ?_)))))
    obtain rfl := si H
    refine ⟨_, rfl, ⟨rfl, ?_⟩⟩
    have b5 := c2.sD 5 []
    exact ⟨f2, _, _, rfl, pt, us, u1, b5, rfl, S.m⟩
   refine W.skip (bkn (nrm (W.region (va (I f.1) (va (I (w64 (f.1 + 1))) (va (I (w64 (f.1 + 1))) (WL.nil ?_)))))))
   obtain rfl := si H
   refine ⟨_, rfl, ?_⟩
   have c5 := c2.sD 5 [2, 3, 4]
   exact ⟨f2, _, _, rfl, pt, us, u1, c5, rfl, S.m⟩
  refine W.exit (thx ?_)
  obtain rfl := si H
  exact ⟨_, rfl, rfl, ⟨r5, _, _, rfl, pt, us, a4, b2, rfl, d2⟩⟩
 ·exact ⟨q, _, _, rfl, pt, us, i0, a2, rfl, g.m⟩
 rcases v0 with v0 | v0
 ·intro f9; revert f9
  rintro _ e_ w_ ⟨rfl, s5, g333, _, rfl, l332, rfl, b4, d5, rfl, i5⟩
  refine bkr (thr ?_)
  obtain rfl := si j0
  exact r1 ⟨_, s5, rfl, rfl, pt, b4, d5, i5, rfl⟩
 rintro _ e_ w_ ⟨rfl, t5, g339, _, rfl, l338, rfl, c4, e5, rfl, j5⟩
 refine bke (nrm (sr (va (B true) (wln (W.ret ?_)))))
 obtain rfl := si j0
 have f5 := e5.sD 3 []
 exact r1 ⟨_, t5, rfl, rfl, pt, c4, f5, j5, rfl⟩
end Go.Proofs.YthokmpbbkpjhbaaGreatDoor
namespace Go.Lt
open Go.ChangeShapes Go.WideShapes Go.RowKit
def C0 (w : World) : Cx := ⟨w, fun _ _ => False, fun _ _ => none⟩
theorem own0 (w : World) : Own (C0 w) (fun _ _ => []) [] :=
 ⟨⟨fun i e h => by cases i <;> simp [at_] at h, fun i j e e' h => by cases i <;> simp [at_] at h⟩, fun _ _ _ => rfl⟩
theorem im0 {w : World} {b o : Nat} {v : Value} (h : w.cell? ⟨b, o, none⟩ = some v) : Im (C0 w) b o v := by
 refine ⟨?_, id, h⟩
 unfold World.cell? at h
 split at h
 ·rename_i hh; exact (Array.getElem?_eq_some_iff.1 hh).1
 ·cases h
def Rd (P : Program) (t : TypeId) {α : Type} (R : Rp α) (K : α → Prop) : Prop :=
 P.cellsOf t = R.size ∧ ∀ {H : Type} {enc : TypeId × Value → H} {w : World} {sp : Nat → Bool} {held : Bool} {fuel : Nat} {cs : List Value} {x : DataW H × List MemPlace},
  DataW.trod enc P w 0 sp held fuel t cs = some x → ∃ y, R.cells (C0 w) cs y ∧ K y
theorem Rd.int {P : Program} {t : TypeId} {k : IntKind} (ht : P.underlying t = some (.int k)) (hc : P.cellsOf t = 1) : Rd P t (RI k) (fun n => (Lit.int k n).wf = true) :=
 ⟨hc, fun h => by obtain ⟨n, rfl, _, hw⟩ := DataW.trod_int ht h; exact ⟨n, rfl, hw⟩⟩
theorem pick {α : Type} {Q : Nat → α → Prop} : ∀ n, (∀ i, i < n → ∃ x, Q i x) → ∃ xs : List α, xs.length = n ∧ ∀ i x, xs[i]? = some x → Q i x
 | 0, _ => ⟨[], rfl, fun i x h => by simp at h⟩
 | n + 1, h => by
  obtain ⟨xs, hl, hx⟩ := pick n fun i hi => h i (Nat.lt_succ_of_lt hi)
  obtain ⟨y, hy⟩ := h n (Nat.lt_succ_self n)
  refine ⟨xs ++ [y], by simp [hl], fun i x hi => ?_⟩
  rw [List.getElem?_append] at hi
  split at hi
  ·exact hx i x hi
  ·rename_i hn
   have h1 := (List.getElem?_eq_some_iff.1 hi).1
   simp only [List.length_cons, List.length_nil] at h1
   obtain rfl : i = n := by omega
   rw [hl, Nat.sub_self] at hi
   cases hi
   exact hy
theorem cells_at {w : World} {a : Addr} {n : Nat} {cs : List Value} (h : w.cells? 0 a n = some cs) : cs.length = n ∧ ∀ j u, cs[j]? = some u → w.cell? (a.add j) = some u := by
 unfold World.cells? at h
 rw [if_pos (Nat.zero_le _)] at h
 have hl : cs.length = n := by simpa using mapM_some_length h
 refine ⟨hl, fun j u hu => ?_⟩
 have hjn : j < n := by have := (List.getElem?_eq_some_iff.1 hu).1; omega
 have hj := mapM_some_get h j j (List.getElem?_range hjn)
 rw [hu] at hj
 exact hj
theorem Rd.slice {P : Program} {t e : TypeId} {α : Type} {R : Rp α} {K : α → Prop} (ht : P.underlying t = some (.slice e)) (hc : P.cellsOf t = 1) (h0 : 0 < R.size) (h : Rd P e R K) : Rd P t (RL R) (fun xs => xs.length ≤ maxLen ∧ ∀ x ∈ xs, K x) := by
 refine ⟨hc, fun {H enc w sp held fuel cs x} hd => ?_⟩
 rcases DataW.trod_slice ht hd with ⟨rfl, _⟩ | ⟨a, len, cap, elems, rest, n, _, rfl, _, _, hl, hm, hlen, hel, _, _⟩
 ·exact ⟨[], ⟨_, rfl, Sl.nl R _⟩, Nat.zero_le _, fun x hx => by cases hx⟩
 ·obtain ⟨b, o, s⟩ := a
  have key : ∀ i, i < len → ∃ x, K x ∧ ∃ b' off l, (some ⟨b, o, s⟩ : Option Addr) = some ⟨b', off, none⟩ ∧ R.cells (C0 w) l x ∧ ∀ j u, l[j]? = some u → Im (C0 w) b' (off + i * R.size + j) u := by
   intro i hi
   have hs : s = none := by
    have hE := hel 0 (by omega)
    rw [List.getElem?_eq_getElem (show 0 < elems.length by omega), Option.bind_eq_some_iff] at hE
    obtain ⟨cs, hcs, _⟩ := hE
    obtain ⟨c1, c2⟩ := cells_at hcs
    have hp : 0 < cs.length := by rw [c1, h.1]; exact h0
    have := World.cell?_spot (c2 0 _ (List.getElem?_eq_getElem hp))
    simpa [Addr.add] using this
   subst hs
   have hE := hel i hi
   rw [List.getElem?_eq_getElem (show i < elems.length by omega), Option.bind_eq_some_iff] at hE
   obtain ⟨cs, hcs, hr⟩ := hE
   obtain ⟨c1, c2⟩ := cells_at hcs
   obtain ⟨x, hx, hk⟩ := h.2 hr
   refine ⟨x, hk, b, o, cs, rfl, hx, fun j u hu => im0 ?_⟩
   have := c2 j u hu
   rw [Go.WideShapes.add_plain, Go.WideShapes.add_plain, h.1] at this
   exact this
  obtain ⟨xs, hxl, hxs⟩ := pick len key
  subst hxl
  refine ⟨xs, ⟨_, rfl, some ⟨b, o, s⟩, cap, rfl, hl, hm, fun i x hx => (hxs i x hx).2⟩, Nat.le_trans hl hm, fun x hx => ?_⟩
  obtain ⟨i, hi⟩ := List.mem_iff_getElem?.1 hx
  exact (hxs i x hi).1
theorem Rd.field {P : Program} {H : Type} {enc : TypeId × Value → H} {w : World} {sp : Nat → Bool} {held : Bool} {n : Nat} {cs : List Value} {fs : Array Field} {xs : List (DataW H × List MemPlace)}
  (hf : ∀ (i : Nat) (f : Field), fs[i]? = some f → DataW.trod enc P w 0 sp held n f.type ((cs.drop f.offset).take (P.cellsOf f.type)) = xs[i]?) (hx : xs.length = fs.size)
  (i : Nat) {f : Field} (hi : fs[i]? = some f) {α : Type} {R : Rp α} {K : α → Prop} (h : Rd P f.type R K) : ∃ y, R.cells (C0 w) ((cs.drop f.offset).take R.size) y ∧ K y := by
 have hlt := (Array.getElem?_eq_some_iff.1 hi).1
 have := hf i f hi
 rw [List.getElem?_eq_getElem (show i < xs.length by omega), h.1] at this
 exact h.2 this
section
variable {P : Program} {H : Type} {enc : TypeId × Value → H} {w : World} {sp : Nat → Bool} {held : Bool} {t : TypeId} {v : Value} {d : DataW H} {p : List MemPlace}
theorem arg_slice {e : TypeId} {α : Type} {R : Rp α} {K : List α → Prop} (ht : P.underlying t = some (.slice e)) (h : Rd P t (RL R) K) (hok : Value.okWide P w .any 0 t v) (hd : DataW.Trod enc P w 0 sp held t v d p) :
  ∃ xs, Sl R (C0 w) v xs ∧ K xs := by
 obtain ⟨fuel, hd⟩ := hd
 obtain ⟨xs, ⟨u, hu, hs⟩, hk⟩ := h.2 hd
 have : v.cells = #[v] := by
  unfold Value.okWide at hok
  simp only [ht] at hok
  unfold Cell.okWide at hok
  cases v <;> simp [ht, Cell.ok] at hok ⊢
  all_goals rfl
 rw [this] at hu
 cases hu
 exact ⟨xs, hs, hk⟩
theorem arg_agg {α : Type} {R : Rp α} {K : α → Prop} {fs : Array Field} (ht : P.underlying t = some (.struct fs)) (h : Rd P t R K) (hok : Value.okWide P w .any 0 t v) (hd : DataW.Trod enc P w 0 sp held t v d p) :
  ∃ cs x, v = .agg cs ∧ R.cells (C0 w) cs.toList x ∧ K x := by
 obtain ⟨fuel, hd⟩ := hd
 obtain ⟨x, hx, hk⟩ := h.2 hd
 unfold Value.okWide at hok
 rw [ht] at hok
 obtain ⟨cs, rfl, _⟩ := hok
 exact ⟨cs, x, rfl, hx, hk⟩
end
theorem trodAll_kept {H : Type} {enc : TypeId × Value → H} {P : Program} (hl : laidOutB P = true) {w w' : World} (h : ∀ k, k < w.heap.size → w'.heap[k]? = w.heap[k]?) {sp : Nat → Bool} :
  ∀ {ts : List TypeId} {vs : List Value} {ds : List (DataW H)} {ps : List MemPlace}, (ts.all fun t => P.readableRec t && decide (t < P.types.size)) = true → (∀ x ∈ ps, x.block < w.heap.size) → (∀ x ∈ ps, sp x.block = true) →
  DataW.TrodAll enc P w 0 (fun _ => true) true ts vs ds ps → DataW.TrodAll enc P w' 0 sp true ts vs ds ps
 | [], [], [], _, _, _, _, hA => hA
 | [], _ :: _, _, _, _, _, _, hA => hA.elim
 | [], [], _ :: _, _, _, _, _, hA => hA.elim
 | _ :: _, [], _, _, _, _, _, hA => hA.elim
 | _ :: _, _ :: _, [], _, _, _, _, hA => hA.elim
 | t :: ts, v :: vs, d :: ds, ps, hr, hlt, hsp, hA => by
  obtain ⟨p, q, h1, h2, rfl⟩ := hA
  simp only [List.all_cons, Bool.and_eq_true, decide_eq_true_eq] at hr
  refine ⟨p, q, WideElems.Trod_stays hl hr.1.1 hr.1.2 h1 (fun x hx => ?_) (fun x hx => hsp x (List.mem_append_left _ hx)), trodAll_kept hl h hr.2 (fun x hx => hlt x (List.mem_append_right _ hx)) (fun x hx => hsp x (List.mem_append_right _ hx)) h2, rfl⟩
  have hb := hlt x (List.mem_append_left _ hx)
  cases x with
  | cell b o => exact World.cell?_of_block (w := w) (h b hb)
  | map b => exact h b hb
theorem post_same {H : Type} {enc : TypeId × Value → H} {P : Program} {f : Func} {s : ChangeSpec} {apart fresh handsOn again : Bool} {w w' : World} {args : Array Value} {v : Value} {ds gs : List (DataW H)} {ps before : List MemPlace}
  (hW : DataW.Whole enc P f.params.toList s.vars apart w args.toList ds gs before) (he : before = ps ++ [])
  (hr : ∀ (b : Nat) (sp : Nat → Bool) (hd : Bool), DataW.TrodAll enc P w' b sp hd f.resultTypes.toList (v.resultList f.resultTypes.size) (s.fn H (ds ++ gs)).results [])
  (ha : ∀ sp : Nat → Bool, (∀ x ∈ ps, sp x.block = true) → DataW.TrodAll enc P w' 0 sp true f.params.toList args.toList (s.fn H (ds ++ gs)).args ps)
  (hv : ∀ sp : Nat → Bool, DataW.TrodVars enc P w' sp s.vars (s.fn H (ds ++ gs)).vars [])
  (hg : Gr w w') (ho : ∀ (j : Nat) (t : TypeId) (r : Value), f.resultTypes[j]? = some t → (v.resultList f.resultTypes.size)[j]? = some r → Value.okWide P w' .any 0 t r) : s.post enc P f apart fresh handsOn again w args v w' := by
 rw [List.append_nil] at he
 subst he
 have hlt : ∀ x ∈ before, x.block < w.heap.size := fun x hx => hW.lt x hx
 refine ⟨ds, gs, before, [], before, [], hW, hr _ _ _, ha _ (fun x hx => decide_eq_true (hlt x hx)), hv _, World.keptBut_mono (fun x hx => ⟨hx, .inr (.inl hx)⟩) (hg.frame (· ∈ before)), fun _ => ?_⟩
 obtain ⟨_, _, _, _, _, hz, hn⟩ := hW
 refine ⟨ho, _, _, ([] ++ before) ++ [], ⟨[] ++ before, [], trodAll_append (ha _ fun _ _ => rfl) (hr _ _ _), hv _, rfl, fun b off hb => ?_, fun e => ?_⟩, fun x hx _ => by simpa using hx⟩
 ·have hb' : MemPlace.cell b off ∈ before := by simpa using hb
  have := hlt _ hb'
  rw [hg.2.1 ⟨b, off, none⟩ this]
  exact hz b off (by simpa using hb')
 ·simpa using hn e
theorem metH {P : Program} {laid : List (String × DataW Unit)} {w : World} (h : (laid.filter fun x => x.2.handleName?.isSome) = []) : laidMetH P laid w = laidMet P laid w := by
 unfold laidMetH
 rw [h]
theorem laid_sent {P : Program} {W : World} {ti tp te ts : TypeId} {ms : Array (String × TypeId)} {f : Field} (hi : P.underlying ti = some (.interface ms)) (hrow : ∀ u, P.typeName? 3 u = some "*errors.errorString" → u = tp)
  (hp : P.underlying tp = some (.pointer te)) (he : P.underlying te = some (.struct #[f])) (hft : f.type = ts) (hfo : f.offset = 0) (hs : P.underlying ts = some .string) (hc : P.cellsOf te = 1) (hcs : P.cellsOf ts = 1) :
  ∀ {laid : List (String × DataW Unit)} {ps : List MemPlace}, DataW.LaidVars P W laid ps → (∀ b off, MemPlace.cell b off ∈ ps → (∃ c t, W.heap[b]? = some (.cells c t (0, 0))) ∧ ∀ u v, W.cell? ⟨b, off, none⟩ = some (.iface u v) → Value.okWide P W .any 0 u v) →
  ∀ n text g, (n, DataW.iface "*errors.errorString" (.ptr (.agg [.lit (.string text)]))) ∈ laid → P.globalNamed n = some g → (P.globals[g]?).map (·.type) = some ti → ∃ a s, W.cell? ⟨g, 0, none⟩ = some (.iface tp (.pointer (some a))) ∧ W.cell? a = some (.string s) ∧ s.data.toList = text ∧ ∃ c t, W.heap[a.block]? = some (.cells c t (0, 0))
 | [], _, _, _, _, _, _, hm, _, _ => by cases hm
 | (n', d) :: r, ps, ⟨g', t, cs, fuel, p, q, hg', ht', hv, hd, hr, e⟩, hrows, n, text, g, hm, hg, ht => by
  subst e
  rcases List.mem_cons.1 hm with hh | hm
  ·cases hh
   obtain rfl := Option.some.inj (hg.symm.trans hg')
   obtain rfl := Option.some.inj (ht.symm.trans ht')
   obtain ⟨l⟩ := cs
   have ok : ∀ u v, l = [.iface u v] → Value.okWide P W .any 0 u v := fun u v e => by
    subst e
    exact (hrows g 0 (by simp [MemPlace.row])).2 u v (by simpa using World.var?_cell hg hv 0)
   obtain ⟨a, s, rfl, h1, h2, _, rfl⟩ := errorString_of_trod hi hrow hp he hft hfo hs hc hcs hd ok
   exact ⟨a, s, by simpa using World.var?_cell hg hv 0, h1, h2, (hrows a.block a.off (by simp [MemPlace.row])).1⟩
  ·exact laid_sent hi hrow hp he hft hfo hs hc hcs hr (fun b off hb => hrows b off (List.mem_append_right _ hb)) n text g hm hg ht
theorem joined {P : Program} {f : FuncId} {fn : Func} {s : ChangeSpec} {c : OpenClaim} (l1 : laidOutB P = true) (l2 : mapsRowed P = true) (l3 : (P.stops == []) = true) (l4 : (P.stopKnobs == []) = true) (l5 : P.stopsHeard = true) (l6 : P.mayEnter = true)
  (l7 : (c.lifted == P.liftsFinal) = true) (l8 : (P.make == some c.make) = true) (l9 : (c.plainKeys == P.plainKeys) = true)
  (a0 : c.wf (OpenSpec.ofChange s) = true) (a1 : (fn.params.all (P.readableRec ·) && namedTie P c.named s.vars && (c.stops == []) && (c.knobs == [])) = true)
  (a2 : (c.inPlace == P.inPlace f) = true) (a3 : (c.unfollowed == P.unfollowed f) = true) (a4 : (c.recurses == P.recurses f) = true) (a5 : (c.named == P.varsNamed f) = true)
  (a6 : ((c.maps == (fn.params.toList ++ s.plain.varTypes P).any (P.mapsRec ·)) && (c.ifaces == (fn.params.toList ++ s.plain.varTypes P).any (P.ifacesRec ·)) && (c.mapsOut == P.mapsAmong fn.resultTypes.toList) &&
   (c.loops == (fn.params.toList ++ s.plain.varTypes P).any (P.loopsFrom ·)) && (c.wideKeys == (fn.params.toList ++ s.plain.varTypes P ++ fn.resultTypes.toList).any (P.wideKeysFrom ·)) &&
   s.vars.all (P.varReadable ·) && fn.resultTypes.all (fun t => P.readableRec t && decide (t < P.types.size)) && (c.ifacesOut == fn.resultTypes.toList.any (P.ifacesRec ·)) && (c.loopsOut == fn.resultTypes.toList.any (P.loopsFrom ·))) = true)
  (a7 : (c.shortTexts.isNone && (c.kinds == (if c.domain.isEmpty then [] else fn.params.toList.map fun t => match P.underlying t with | some (.int k) => some k | _ => none)) && (c.pinned == c.pinnedBy) &&
   (c.veiled == (fn.params.toList ++ s.plain.varTypes P ++ fn.resultTypes.toList).any (P.veiledRec ·)) && c.veiledFits P fn.params.toList (fn.params.toList ++ s.plain.varTypes P ++ fn.resultTypes.toList)) = true) : joinedFacts P f fn s c = true := by
 simp only [Bool.and_eq_true] at a1 a6 a7
 obtain ⟨⟨⟨b1, b2⟩, b3⟩, b4⟩ := a1
 obtain ⟨⟨⟨⟨⟨⟨⟨⟨c1, c2⟩, c3⟩, c4⟩, c5⟩, c6⟩, c7⟩, c8⟩, c9⟩ := a6
 obtain ⟨⟨⟨⟨d1, d2⟩, d3⟩, d4⟩, d5⟩ := a7
 unfold joinedFacts
 simp only [Bool.and_eq_true]
 exact ⟨⟨⟨⟨⟨⟨⟨⟨⟨⟨⟨⟨⟨⟨⟨⟨⟨⟨⟨⟨⟨⟨⟨⟨⟨⟨⟨⟨⟨⟨⟨a0, l1⟩, l2⟩, b1⟩, b2⟩, b3⟩, l3⟩, b4⟩, l4⟩, a2⟩, a3⟩, a4⟩, a5⟩, c1⟩, c2⟩, c3⟩, c4⟩, c5⟩, c6⟩, c7⟩, c8⟩, c9⟩, l9⟩, d1⟩, l5⟩, l6⟩, l7⟩, l8⟩, d2⟩, d3⟩, d4⟩, d5⟩
end Go.Lt
namespace Go.Proofs.YthokmpbbkpjhbaaGreatDoor
open Go Go.Lt
set_option linter.unusedVariables false
theorem len4 {α : Type} {cs : List α} (h : cs.length = 4) : ∃ a0 a1 a2 a3, cs = [a0, a1, a2, a3] := by
 match cs, h with
 | [a0, a1, a2, a3], _ => exact ⟨_, _, _, _, rfl⟩
theorem len2 {α : Type} {cs : List α} (h : cs.length = 2) : ∃ a0 a1, cs = [a0, a1] := by
 match cs, h with
 | [a0, a1], _ => exact ⟨_, _, rfl⟩
def K_3 (n : Int) : Prop := (Lit.int .i64 n).wf = true
theorem D_3 : Rd Tryz.prog 3 (RI .i64) K_3 := Rd.int Tryz.underlying3 (by kernel_rfl)
def K_5 (n : Int) : Prop := (Lit.int .u8 n).wf = true
theorem D_5 : Rd Tryz.prog 5 (RI .u8) K_5 := Rd.int Tryz.underlying5 (by kernel_rfl)
def K_57 (xs : List Int) : Prop := xs.length ≤ maxLen ∧ ∀ x ∈ xs, K_5 x
theorem D_57 : Rd Tryz.prog 57 (RL (RI .u8)) K_57 := Rd.slice Tryz.underlying57 (by kernel_rfl) (by decide) D_5
def K_59 (x : G_api_Op) : Prop := K_3 x.Kind ∧ K_3 x.A ∧ K_3 x.B ∧ K_57 x.Bytes
theorem D_59 : Rd Tryz.prog 59 R_api_Op K_59 := by
 refine ⟨by kernel_rfl, fun {H enc w sp held fuel cs x} h => ?_⟩
 obtain ⟨xs, n, rfl, rfl, hl, hn, hf⟩ := DataW.trod_struct Tryz.underlying59 h
 replace hl := hl.trans (show Tryz.prog.cellsOf 59 = 4 by kernel_rfl)
 obtain ⟨a0, a1, a2, a3, rfl⟩ := len4 hl
 obtain ⟨y0, e0, k0⟩ := Rd.field hf hn 0 rfl D_3
 have e0 : [a0] = [.int .i64 y0] := e0
 cases e0
 obtain ⟨y1, e1, k1⟩ := Rd.field hf hn 1 rfl D_3
 have e1 : [a1] = [.int .i64 y1] := e1
 cases e1
 obtain ⟨y2, e2, k2⟩ := Rd.field hf hn 2 rfl D_3
 have e2 : [a2] = [.int .i64 y2] := e2
 cases e2
 obtain ⟨y3, e3, k3⟩ := Rd.field hf hn 3 rfl D_57
 obtain ⟨v3, e3, s3⟩ := e3
 have e3 : [a3] = [v3] := e3
 cases e3
 exact ⟨⟨y0, y1, y2, y3⟩, ⟨_, rfl, s3⟩, k0, k1, k2, k3⟩
def K_55 (xs : List G_api_Op) : Prop := xs.length ≤ maxLen ∧ ∀ x ∈ xs, K_59 x
theorem D_55 : Rd Tryz.prog 55 (RL R_api_Op) K_55 := Rd.slice Tryz.underlying55 (by kernel_rfl) (by decide) D_59
def K_105 (x : G_linotypelaw40_Cut) : Prop := K_57 x.B ∧ K_3 x.At
theorem D_105 : Rd Tryz.prog 105 R_linotypelaw40_Cut K_105 := by
 refine ⟨by kernel_rfl, fun {H enc w sp held fuel cs x} h => ?_⟩
 obtain ⟨xs, n, rfl, rfl, hl, hn, hf⟩ := DataW.trod_struct Tryz.underlying105 h
 replace hl := hl.trans (show Tryz.prog.cellsOf 105 = 2 by kernel_rfl)
 obtain ⟨a0, a1, rfl⟩ := len2 hl
 obtain ⟨y0, e0, k0⟩ := Rd.field hf hn 0 rfl D_57
 obtain ⟨v0, e0, s0⟩ := e0
 have e0 : [a0] = [v0] := e0
 cases e0
 obtain ⟨y1, e1, k1⟩ := Rd.field hf hn 1 rfl D_3
 have e1 : [a1] = [.int .i64 y1] := e1
 cases e1
 exact ⟨⟨y0, y1⟩, ⟨_, rfl, s0⟩, k0, k1⟩
theorem rel0 (w : World) : Rel (C0 w) ⟨[], [], [], [], [], []⟩ (fun _ _ => []) :=
 ⟨⟨fun k x h => by simp at h, fun _ _ => rfl⟩, ⟨fun k x h => by simp at h, fun _ _ => rfl⟩, ⟨fun k x h => by simp at h, fun _ _ => rfl⟩, ⟨fun k x h => by simp at h, fun _ _ => rfl⟩, ⟨fun k x h => by simp at h, fun _ _ => rfl⟩, ⟨fun k x h => by simp at h, fun _ _ => rfl⟩⟩
theorem star : "*" ++ "errors.errorString" = "*errors.errorString" := by decide
set_option maxRecDepth 100000 in
theorem sent_row (u : TypeId) (h : Tryz.prog.typeName? 3 u = some "*errors.errorString") : u = 305 :=
 typeName_ptr_named (nm := "errors.errorString") (by rw [star]; kernel_rfl) (by kernel_rfl) (by decide) u (by rw [star]; exact h)
set_option maxRecDepth 100000 in
theorem gl_sent {W : World} {laid : List (String × DataW Unit)} (h : laidMetH Tryz.prog laid W) (hf : (laid.filter fun x => x.2.handleName?.isSome) = []) (n : String) (text : List UInt8) (g : Nat)
  (hm : (n, DataW.iface "*errors.errorString" (.ptr (.agg [.lit (.string text)]))) ∈ laid) (hg : Tryz.prog.globalNamed n = some g) (ht : (Tryz.prog.globals[g]?).map (·.type) = some 37) :
  ∃ a s, Im (C0 W) g 0 (.iface 305 (.pointer (some a))) ∧ W.cell? a = some (.string s) ∧ s.data.toList = text ∧ RE 305 179 (C0 W) (.iface 305 (.pointer (some a))) (.sent g) := by
 rw [metH hf] at h
 obtain ⟨ps, hl, _, hr⟩ := h
 obtain ⟨a, s, h1, h2, h3, cs, t, h4⟩ := laid_sent Tryz.underlying37 sent_row Tryz.underlying305 Tryz.underlying326 rfl rfl Tryz.underlying9 (by kernel_rfl) (by kernel_rfl) hl hr n text g hm hg ht
 exact ⟨a, s, im0 h1, h2, h3, a, rfl, im0 h1, (Array.getElem?_eq_some_iff.1 h4).1, fun _ => id, cs, t, h4⟩
theorem gl_all {W : World} {n : List Nat} (tx : Nat → List UInt8) (h : ∀ g, g ∈ n → ∃ a s, Im (C0 W) g 0 (.iface 305 (.pointer (some a))) ∧ W.cell? a = some (.string s) ∧ s.data.toList = tx g ∧ RE 305 179 (C0 W) (.iface 305 (.pointer (some a))) (.sent g))
  (hd : ∀ g, g ∈ n → ∀ g', g' ∈ n → tx g = tx g' → g = g') : Gl n (C0 W) := by
 refine ⟨fun g hg => ?_, fun g g' hg hg' hne a h1 h2 => ?_⟩
 ·obtain ⟨a, _, _, _, _, h4⟩ := h g hg
  exact ⟨_, h4⟩
 ·obtain ⟨a1, s1, e1, e2, e3, _⟩ := h g hg
  obtain ⟨a2, s2, f1, f2, f3, _⟩ := h g' hg'
  have q1 := e1.cell.symm.trans h1.cell
  have q2 := f1.cell.symm.trans h2.cell
  cases q1
  cases q2
  have q3 := e2.symm.trans f2
  cases q3
  exact hne (hd g hg g' hg' (e3.symm.trans f3))
end Go.Proofs.YthokmpbbkpjhbaaGreatDoor
namespace Go.Proofs.YthokmpbbkpjhbaaGreatDoor
structure Sg where
 some : Bool
 last : Int
 pict : Int
 conj : Int
 odd : Bool
def sg0 : Sg := ⟨false, 0, 0, 0, false⟩
def nxP (s : Int) (p : G_api_Prop) : Int := if p.Pict = true then 1 else if s = 1 ∧ p.Break = 4 then 1 else if s = 1 ∧ p.Break = 5 then 2 else 0
def nxC (s : Int) (p : G_api_Prop) : Int := if p.Conj = 1 then 1 else if s = 0 then 0 else if p.Conj = 2 then 2 else if p.Conj = 3 then s else 0
def sgN (s : Sg) (p : G_api_Prop) : Sg := ⟨true, p.Break, nxP s.pict p, nxC s.conj p, p.Break == 6 && !(s.some && s.last == 6 && s.odd)⟩
def sgF (l : List G_api_Prop) : Sg := l.foldl sgN sg0
def sgJ (pj : Int → Int → Int) (s : Sg) (p : G_api_Prop) : Bool :=
 s.some && ((p.Conj == 1 && s.conj == 2) || (p.Pict && s.pict == 2) || pj s.last p.Break == 1 || (pj s.last p.Break == 2 && s.last == 6 && s.odd))
def ri : List G_api_Prop → Nat
 | [] => 0
 | x :: l => if x.Break = 6 then ri l + 1 else 0
def hb : List G_api_Prop → Int
 | [] => 0
 | x :: _ => x.Break
def od : List G_api_Prop → Bool
 | [] => false
 | x :: l => x.Break == 6 && !(!l.isEmpty && hb l == 6 && od l)
theorem ri_od (l : List G_api_Prop) : od l = (ri l % 2 == 1) := by
 induction l with
 | nil => rfl
 | cons x l ih =>
  unfold od ri
  by_cases h : x.Break = 6
  ·rw [if_pos h, ih]
   have hb' : (x.Break == 6) = true := by simp [h]
   rw [hb', Bool.true_and]
   cases l with
   | nil => rfl
   | cons y l =>
    by_cases h2 : y.Break = 6
    ·have e : (hb (y :: l) == 6) = true := by simp [hb, h2]
     rw [e]
     simp only [List.isEmpty_cons, Bool.not_false, Bool.true_and]
     rw [Bool.eq_iff_iff]
     simp only [Bool.not_eq_true', beq_eq_false_iff_ne, beq_iff_eq]
     omega
    ·have e : (hb (y :: l) == 6) = false := by simp [hb, h2]
     rw [e]
     simp only [Bool.and_false, Bool.false_and, Bool.not_false]
     have : ri (y :: l) = 0 := by unfold ri; rw [if_neg h2]
     rw [this]
     rfl
  ·rw [if_neg h]
   simp [h]
structure Sq (s t : Sg) : Prop where
 pict : s.pict = t.pict
 conj : s.conj = t.conj
 odd : s.odd = t.odd
theorem sgN_sq {s t : Sg} (h : Sq s t) (h1 : s.odd = true → s.some = true ∧ s.last = 6) (h2 : t.odd = true → t.some = true ∧ t.last = 6) (p : G_api_Prop) : sgN s p = sgN t p := by
 unfold sgN
 rw [h.pict, h.conj]
 congr 2
 have : (s.some && s.last == 6 && s.odd) = (t.some && t.last == 6 && t.odd) := by
  have ho := h.odd
  rw [Bool.eq_iff_iff]
  simp only [Bool.and_eq_true, beq_iff_eq]
  constructor
  ·rintro ⟨_, q⟩
   have := h2 (ho ▸ q)
   exact ⟨this, ho ▸ q⟩
  ·rintro ⟨_, q⟩
   have := h1 (ho ▸ q)
   exact ⟨this, ho ▸ q⟩
 rw [this]
end Go.Proofs.YthokmpbbkpjhbaaGreatDoor
