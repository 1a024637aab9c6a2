import Derived.Test.YthokmpbbkpjhbaaGreatDoorMq
import Derived.Test.YthokmpbbkpjhbaaGreatDoorProg
import Derived.Test.YthokmpbbkpjhbaaGreatDoorMy
import Derived.Test.YthokmpbbkpjhbaaGreatDoorMz
namespace Go.Proofs.YthokmpbbkpjhbaaGreatDoor
open Go Go.Lt
set_option maxRecDepth 10000
set_option linter.unusedVariables false
attribute [local irreducible] W WL AC
open Tryz
variable {c0 : Cx} {G : Gm} {F : List En} {sg : Sto} {v1 v2 v3 v4 v5 v6 v7 v8 v9 v10 v11 v12 v13 v14 v15 v16 v17 v18 v19 v20 v21 v22 v23 v24 v25 v26 v27 v28 v29 v30 v31 v32 v33 v34 v35 v36 v37 v38 v39 v40 v41 v42 v43 v44 v45 v46 v47 v48 v49 v50 v51 v52 v53 v54 v55 v56 v57 v58 v59 v60 : Value}
def t_gcb_table_134 : List (Int × Int × Int) := [(0, 9, 3), (10, 10, 2), (11, 12, 3), (13, 13, 1), (14, 31, 3), (127, 159, 3), (173, 173, 3), (768, 879, 4), (1155, 1161, 4), (1425, 1469, 4), (1471, 1471, 4), (1473, 1474, 4), (1476, 1477, 4), (1479, 1479, 4), (1536, 1541, 7), (1552, 1562, 4), (1564, 1564, 3), (1611, 1631, 4), (1648, 1648, 4), (1750, 1756, 4), (1757, 1757, 7), (1759, 1764, 4), (1767, 1768, 4), (1770, 1773, 4), (1807, 1807, 7), (1809, 1809, 4), (1840, 1866, 4), (1958, 1968, 4), (2027, 2035, 4), (2070, 2073, 4), (2075, 2083, 4), (2192, 2193, 7), (2259, 2273, 4), (2274, 2274, 7), (2275, 2306, 4), (2307, 2307, 8), (2362, 2362, 4), (2363, 2363, 8), (2364, 2364, 4), (2366, 2368, 8), (2369, 2376, 4), (2377, 2380, 8), (2381, 2381, 4), (2382, 2383, 8), (2385, 2391, 4), (2402, 2403, 4), (2433, 2433, 4), (2434, 2435, 8), (2492, 2492, 4), (2494, 2494, 4), (2495, 2496, 8), (2497, 2500, 4), (2503, 2504, 8), (2507, 2508, 8), (2509, 2509, 4), (2519, 2519, 4), (2530, 2531, 4), (2561, 2562, 4), (2563, 2563, 8), (2620, 2620, 4), (2622, 2624, 8), (2625, 2626, 4), (2631, 2632, 4), (2635, 2637, 4), (2691, 2691, 8), (2748, 2748, 4), (2750, 2752, 8), (2753, 2757, 4), (2761, 2761, 8), (2765, 2765, 4), (2818, 2819, 8), (2876, 2876, 4), (2878, 2879, 4), (2880, 2880, 8), (2881, 2884, 4), (2887, 2888, 8), (2893, 2893, 4), (2902, 2903, 4), (3073, 3075, 8), (3132, 3132, 4), (3134, 3136, 4), (3137, 3140, 8), (3142, 3144, 4), (3146, 3149, 4), (3276, 3277, 4), (3330, 3331, 8), (3390, 3390, 4), (3391, 3392, 8), (3393, 3396, 4), (3398, 3400, 8), (3405, 3405, 4), (3406, 3406, 7), (3633, 3633, 4), (3635, 3635, 8), (3636, 3642, 4), (3655, 3662, 4), (3761, 3761, 4), (3763, 3763, 8), (3764, 3772, 4), (3864, 3865, 4), (3902, 3903, 8), (3953, 3966, 4), (4155, 4156, 8), (4957, 4959, 4), (6158, 6158, 3), (6832, 6862, 4), (7616, 7679, 4), (8203, 8203, 3), (8204, 8204, 4), (8205, 8205, 5), (8206, 8207, 3), (8232, 8238, 3), (8288, 8303, 3), (8400, 8432, 4), (12330, 12335, 4), (12441, 12442, 4), (42607, 42610, 4), (64286, 64286, 4), (65024, 65039, 4), (65056, 65071, 4), (65279, 65279, 3), (65520, 65531, 3), (69821, 69821, 7), (69837, 69837, 7), (127462, 127487, 6), (127995, 127999, 4), (917504, 917535, 3), (917536, 917631, 4), (917632, 917759, 3), (917760, 917999, 4), (918000, 921599, 3)]
def f_gcb_table  : Option (List (Int × Int × Int)) :=
 some t_gcb_table_134
theorem c_gcb_table (O0 : Own c0 G F) {r : List (Int × Int × Int)} (H : f_gcb_table  = some r) :
    Calls Tryz.prog 252 #[] c0.w (Post c0 fun c v => ∃ y1 y2, Own c G (es true RA3_i64 y1 295 y2 r :: F) ∧ v = y1 ∧ OA RA3_i64 c y1 y2 r) := by
 unfold f_gcb_table at H
 refine en func252 rfl rfl (sr (va (.slice none 0 0) (wln (sr (va (.agg #[.int .i64 0, .int .i64 9, .int .i64 3]) (va (.agg #[.int .i64 10, .int .i64 10, .int .i64 2]) (va (.agg #[.int .i64 11, .int .i64 12, .int .i64 3]) (va (.agg #[.int .i64 13, .int .i64 13, .int .i64 1]) (va (.agg #[.int .i64 14, .int .i64 31, .int .i64 3]) (va (.agg #[.int .i64 127, .int .i64 159, .int .i64 3]) (va (.agg #[.int .i64 173, .int .i64 173, .int .i64 3]) (va (.agg #[.int .i64 768, .int .i64 879, .int .i64 4]) (va (.agg #[.int .i64 1155, .int .i64 1161, .int .i64 4]) (va (.agg #[.int .i64 1425, .int .i64 1469, .int .i64 4]) (va (.agg #[.int .i64 1471, .int .i64 1471, .int .i64 4]) (va (.agg #[.int .i64 1473, .int .i64 1474, .int .i64 4]) (va (.agg #[.int .i64 1476, .int .i64 1477, .int .i64 4]) (va (.agg #[.int .i64 1479, .int .i64 1479, .int .i64 4]) (va (.agg #[.int .i64 1536, .int .i64 1541, .int .i64 7]) (va (.agg #[.int .i64 1552, .int .i64 1562, .int .i64 4]) (va (.agg #[.int .i64 1564, .int .i64 1564, .int .i64 3]) (va (.agg #[.int .i64 1611, .int .i64 1631, .int .i64 4]) (va (.agg #[.int .i64 1648, .int .i64 1648, .int .i64 4]) (va (.agg #[.int .i64 1750, .int .i64 1756, .int .i64 4]) (va (.agg #[.int .i64 1757, .int .i64 1757, .int .i64 7]) (va (.agg #[.int .i64 1759, .int .i64 1764, .int .i64 4]) (va (.agg #[.int .i64 1767, .int .i64 1768, .int .i64 4]) (va (.agg #[.int .i64 1770, .int .i64 1773, .int .i64 4]) (va (.agg #[.int .i64 1807, .int .i64 1807, .int .i64 7]) (va (.agg #[.int .i64 1809, .int .i64 1809, .int .i64 4]) (va (.agg #[.int .i64 1840, .int .i64 1866, .int .i64 4]) (va (.agg #[.int .i64 1958, .int .i64 1968, .int .i64 4]) (va (.agg #[.int .i64 2027, .int .i64 2035, .int .i64 4]) (va (.agg #[.int .i64 2070, .int .i64 2073, .int .i64 4]) (va (.agg #[.int .i64 2075, .int .i64 2083, .int .i64 4]) (va (.agg #[.int .i64 2192, .int .i64 2193, .int .i64 7]) (va (.agg #[.int .i64 2259, .int .i64 2273, .int .i64 4]) (va (.agg #[.int .i64 2274, .int .i64 2274, .int .i64 7]) (va (.agg #[.int .i64 2275, .int .i64 2306, .int .i64 4]) (va (.agg #[.int .i64 2307, .int .i64 2307, .int .i64 8]) (va (.agg #[.int .i64 2362, .int .i64 2362, .int .i64 4]) (va (.agg #[.int .i64 2363, .int .i64 2363, .int .i64 8]) (va (.agg #[.int .i64 2364, .int .i64 2364, .int .i64 4]) (va (.agg #[.int .i64 2366, .int .i64 2368, .int .i64 8]) (va (.agg #[.int .i64 2369, .int .i64 2376, .int .i64 4]) (va (.agg #[.int .i64 2377, .int .i64 2380, .int .i64 8]) (va (.agg #[.int .i64 2381, .int .i64 2381, .int .i64 4]) (va (.agg #[.int .i64 2382, .int .i64 2383, .int .i64 8]) (va (.agg #[.int .i64 2385, .int .i64 2391, .int .i64 4]) (va (.agg #[.int .i64 2402, .int .i64 2403, .int .i64 4]) (va (.agg #[.int .i64 2433, .int .i64 2433, .int .i64 4]) (va (.agg #[.int .i64 2434, .int .i64 2435, .int .i64 8]) (va (.agg #[.int .i64 2492, .int .i64 2492, .int .i64 4]) (va (.agg #[.int .i64 2494, .int .i64 2494, .int .i64 4]) (va (.agg #[.int .i64 2495, .int .i64 2496, .int .i64 8]) (va (.agg #[.int .i64 2497, .int .i64 2500, .int .i64 4]) (va (.agg #[.int .i64 2503, .int .i64 2504, .int .i64 8]) (va (.agg #[.int .i64 2507, .int .i64 2508, .int .i64 8]) (va (.agg #[.int .i64 2509, .int .i64 2509, .int .i64 4]) (va (.agg #[.int .i64 2519, .int .i64 2519, .int .i64 4]) (va (.agg #[.int .i64 2530, .int .i64 2531, .int .i64 4]) (va (.agg #[.int .i64 2561, .int .i64 2562, .int .i64 4]) (va (.agg #[.int .i64 2563, .int .i64 2563, .int .i64 8]) (va (.agg #[.int .i64 2620, .int .i64 2620, .int .i64 4]) (va (.agg #[.int .i64 2622, .int .i64 2624, .int .i64 8]) (va (.agg #[.int .i64 2625, .int .i64 2626, .int .i64 4]) (va (.agg #[.int .i64 2631, .int .i64 2632, .int .i64 4]) (va (.agg #[.int .i64 2635, .int .i64 2637, .int .i64 4]) (va (.agg #[.int .i64 2691, .int .i64 2691, .int .i64 8]) (va (.agg #[.int .i64 2748, .int .i64 2748, .int .i64 4]) (va (.agg #[.int .i64 2750, .int .i64 2752, .int .i64 8]) (va (.agg #[.int .i64 2753, .int .i64 2757, .int .i64 4]) (va (.agg #[.int .i64 2761, .int .i64 2761, .int .i64 8]) (va (.agg #[.int .i64 2765, .int .i64 2765, .int .i64 4]) (va (.agg #[.int .i64 2818, .int .i64 2819, .int .i64 8]) (va (.agg #[.int .i64 2876, .int .i64 2876, .int .i64 4]) (va (.agg #[.int .i64 2878, .int .i64 2879, .int .i64 4]) (va (.agg #[.int .i64 2880, .int .i64 2880, .int .i64 8]) (va (.agg #[.int .i64 2881, .int .i64 2884, .int .i64 4]) (va (.agg #[.int .i64 2887, .int .i64 2888, .int .i64 8]) (va (.agg #[.int .i64 2893, .int .i64 2893, .int .i64 4]) (va (.agg #[.int .i64 2902, .int .i64 2903, .int .i64 4]) (va (.agg #[.int .i64 3073, .int .i64 3075, .int .i64 8]) (va (.agg #[.int .i64 3132, .int .i64 3132, .int .i64 4]) (va (.agg #[.int .i64 3134, .int .i64 3136, .int .i64 4]) (va (.agg #[.int .i64 3137, .int .i64 3140, .int .i64 8]) (va (.agg #[.int .i64 3142, .int .i64 3144, .int .i64 4]) (va (.agg #[.int .i64 3146, .int .i64 3149, .int .i64 4]) (va (.agg #[.int .i64 3276, .int .i64 3277, .int .i64 4]) (va (.agg #[.int .i64 3330, .int .i64 3331, .int .i64 8]) (va (.agg #[.int .i64 3390, .int .i64 3390, .int .i64 4]) (va (.agg #[.int .i64 3391, .int .i64 3392, .int .i64 8]) (va (.agg #[.int .i64 3393, .int .i64 3396, .int .i64 4]) (va (.agg #[.int .i64 3398, .int .i64 3400, .int .i64 8]) (va (.agg #[.int .i64 3405, .int .i64 3405, .int .i64 4]) (va (.agg #[.int .i64 3406, .int .i64 3406, .int .i64 7]) (va (.agg #[.int .i64 3633, .int .i64 3633, .int .i64 4]) (va (.agg #[.int .i64 3635, .int .i64 3635, .int .i64 8]) (va (.agg #[.int .i64 3636, .int .i64 3642, .int .i64 4]) (va (.agg #[.int .i64 3655, .int .i64 3662, .int .i64 4]) (va (.agg #[.int .i64 3761, .int .i64 3761, .int .i64 4]) (va (.agg #[.int .i64 3763, .int .i64 3763, .int .i64 8]) (va (.agg #[.int .i64 3764, .int .i64 3772, .int .i64 4]) (va (.agg #[.int .i64 3864, .int .i64 3865, .int .i64 4]) (va (.agg #[.int .i64 3902, .int .i64 3903, .int .i64 8]) (va (.agg #[.int .i64 3953, .int .i64 3966, .int .i64 4]) (va (.agg #[.int .i64 4155, .int .i64 4156, .int .i64 8]) (va (.agg #[.int .i64 4957, .int .i64 4959, .int .i64 4]) (va (.agg #[.int .i64 6158, .int .i64 6158, .int .i64 3]) (va (.agg #[.int .i64 6832, .int .i64 6862, .int .i64 4]) (va (.agg #[.int .i64 7616, .int .i64 7679, .int .i64 4]) (va (.agg #[.int .i64 8203, .int .i64 8203, .int .i64 3]) (va (.agg #[.int .i64 8204, .int .i64 8204, .int .i64 4]) (va (.agg #[.int .i64 8205, .int .i64 8205, .int .i64 5]) (va (.agg #[.int .i64 8206, .int .i64 8207, .int .i64 3]) (va (.agg #[.int .i64 8232, .int .i64 8238, .int .i64 3]) (va (.agg #[.int .i64 8288, .int .i64 8303, .int .i64 3]) (va (.agg #[.int .i64 8400, .int .i64 8432, .int .i64 4]) (va (.agg #[.int .i64 12330, .int .i64 12335, .int .i64 4]) (va (.agg #[.int .i64 12441, .int .i64 12442, .int .i64 4]) (va (.agg #[.int .i64 42607, .int .i64 42610, .int .i64 4]) (va (.agg #[.int .i64 64286, .int .i64 64286, .int .i64 4]) (va (.agg #[.int .i64 65024, .int .i64 65039, .int .i64 4]) (va (.agg #[.int .i64 65056, .int .i64 65071, .int .i64 4]) (va (.agg #[.int .i64 65279, .int .i64 65279, .int .i64 3]) (va (.agg #[.int .i64 65520, .int .i64 65531, .int .i64 3]) (va (.agg #[.int .i64 69821, .int .i64 69821, .int .i64 7]) (va (.agg #[.int .i64 69837, .int .i64 69837, .int .i64 7]) (va (.agg #[.int .i64 127462, .int .i64 127487, .int .i64 6]) (va (.agg #[.int .i64 127995, .int .i64 127999, .int .i64 4]) (va (.agg #[.int .i64 917504, .int .i64 917535, .int .i64 3]) (va (.agg #[.int .i64 917536, .int .i64 917631, .int .i64 4]) (va (.agg #[.int .i64 917632, .int .i64 917759, .int .i64 3]) (va (.agg #[.int .i64 917760, .int .i64 917999, .int .i64 4]) (va (.agg #[.int .i64 918000, .int .i64 921599, .int .i64 3]) (me (Own.sl (R := RA3_i64) (E := 295) (ls := t_gcb_table_134.map (fun x => [Value.int .i64 x.1, Value.int .i64 x.2.1, Value.int .i64 x.2.2])) (vs := (t_gcb_table_134.map (fun x => [Value.int .i64 x.1, Value.int .i64 x.2.1, Value.int .i64 x.2.2])).flatten) (xs := t_gcb_table_134) true O0 (Nat.succ_pos _) rfl (AllR.map _ (fun _ => rfl) _) (by kernel_rfl) (by kernel_rfl)) ?_))))))))))))))))))))))))))))))))))))))))))))))))))))))))))))))))))))))))))))))))))))))))))))))))))))))))))))))))))))))))))))))))))))))))
 rintro v5 c4 l4 ⟨u2, O1, h3⟩
 refine va (v5) (wln (W.ret ?_))
 obtain rfl := si H
 exact r1 ⟨_, c4, rfl, rfl, pt, v5, u2, O1, rfl, h3⟩
def f_gcb_Of_1 (p0 : Int) (q0_0 : List (Int × Int × Int)) (q1_0 : Int) : Option (Bool) :=
 (idx q0_0 p0).bind fun x_5 =>
 some (decide (x_5.2.1 ≥ (w64 q1_0)))
theorem c_gcb_Of_1 {bc0 : Nat} {bc1 : Nat} (O0 : Own c0 G F) (p0 : Int) (q0_0 : List (Int × Int × Int)) (q1_0 : Int) {r : Bool} (m1 : ∀ j u, ([v2] : List Value)[j]? = some u → Im c0 bc0 (0 + j) u) (h3 : Sl RA3_i64 c0 v2 q0_0) (m4 : ∀ j u, ([.int .i32 q1_0] : List Value)[j]? = some u → Im c0 bc1 (0 + j) u) (H : f_gcb_Of_1 p0 q0_0 q1_0 = some r) :
    Calls Tryz.prog 254 #[.int .i64 p0, .pointer (some ⟨bc0, 0, none⟩), .pointer (some ⟨bc1, 0, none⟩)] c0.w (Post c0 fun c v => Own c G (F) ∧ v = .bool r) := by
 unfold f_gcb_Of_1 at H
 refine en func254 rfl rfl (sr (va (.bool false) (wln (W.seq (rD [] (Kp G0 []) O0 ?_)))))
 intro c5 l5 O6
 have p7 : Kp G0 [] c5 := Kp.nil0
 refine tx 0 (fun c' hle => l1 underlying292 ((mm m1) 0 _ rfl)) (ta 1 (.int .i64 p0) (bn H fun x_5 h8 H => ?_))
 obtain ⟨l_9, h10, m11⟩ := Sl.at (h3.mono l5) (idx_get h8)
 obtain rfl := h10
 refine tx 2 (fun c' hle => ix underlying292 h3.m h8) (ta 3 (.pointer (some ⟨sb v2, so v2 + p0.toNat * 3 + 1, none⟩)) (tx 4 (fun c' hle => l1 underlying3 ((mm m11) 1 _ rfl)) (tx 5 (fun c' hle => l1 underlying21 ((mm m4) 0 _ rfl)) (ta 6 (.int .i64 (w64 q1_0)) (ta 7 (.bool (decide (x_5.2.1 ≥ (w64 q1_0)))) (ta 8 (.bool (decide (x_5.2.1 ≥ (w64 q1_0)))) (dn (nrm (W.ret ?_)))))))))
 obtain rfl := si H
 exact r1 ⟨_, c5, rfl, rfl, pt, O6, rfl⟩
def f_sort_Search__gcb_Of_1 (p0 : Int) (p1_0_0 : List (Int × Int × Int)) (p1_1_0 : Int) : Option (Int) :=
 (iter (σ := Int × Int) (τ := Int) ((p0 - 0).toNat + 1) (fun s_7 =>
 if (decide (s_7.1 < s_7.2)) = true then
 (f_gcb_Of_1 (w64 ((IntKind.u64.wrap (w64 (s_7.1 + s_7.2))).fdiv (2 ^ 1))) p1_0_0 p1_1_0).bind fun x_22 =>
 if (!x_22) = true then
 some (.inl ((w64 ((w64 ((IntKind.u64.wrap (w64 (s_7.1 + s_7.2))).fdiv (2 ^ 1))) + 1)), s_7.2))
 else
 some (.inl (s_7.1, (w64 ((IntKind.u64.wrap (w64 (s_7.1 + s_7.2))).fdiv (2 ^ 1)))))
 else
 some (.inr (s_7.1))) (0, p0)).bind fun o_7 =>
 some o_7
theorem c_sort_Search__gcb_Of_1 {b1_0 : Nat} {b1_1 : Nat} (O0 : Own c0 G F) (p0 : Int) (p1_0_0 : List (Int × Int × Int)) (p1_1_0 : Int) {r : Int} (m1 : ∀ j u, ([v2] : List Value)[j]? = some u → Im c0 b1_0 (0 + j) u) (h3 : Sl RA3_i64 c0 v2 p1_0_0) (m4 : ∀ j u, ([.int .i32 p1_1_0] : List Value)[j]? = some u → Im c0 b1_1 (0 + j) u) (H : f_sort_Search__gcb_Of_1 p0 p1_0_0 p1_1_0 = some r) :
    Calls Tryz.prog 253 #[.int .i64 p0, .func (.func 254) #[] #[.pointer (some ⟨b1_0, 0, none⟩), .pointer (some ⟨b1_1, 0, none⟩)]] c0.w (Post c0 fun c v => Own c G (F) ∧ v = .int .i64 r) := by
 unfold f_sort_Search__gcb_Of_1 at H
 refine en func253 rfl rfl (sr (va (.int .i64 0) (wln (sr (va (.int .i64 p0) (va (.int .i64 0) (va (.int .i64 p0) (wln (W.seq (W.block (bn H fun o_7 h5 H6 => lp h5 (fun s_7 => Jn c0 fun c l => Own c G (F) ∧ l = [(1, .func (.func 254) #[] #[.pointer (some ⟨b1_0, 0, none⟩), .pointer (some ⟨b1_1, 0, none⟩)]), (5, .int .i64 s_7.1), (6, .int .i64 s_7.2)]) (fun o_7_ ex e w => ex = .exit 0 ∧ (Jn c0 fun c l => Own c G (F) ∧ l = [(5, .int .i64 o_7_)]) e w) ?_ ?_ ?_)))))))))))
 ·clear H6 h5
  intro s_7 xx_ ee_ ww_ H
  revert ee_ ww_
  rintro e_ w_ ⟨c7, g8, _, rfl, l7, rfl, O9, rfl⟩
  refine W.seq (sr (va (.int .i64 s_7.1) (va (.int .i64 s_7.2) (va (.bool (decide (s_7.1 < s_7.2))) (wln (cn H (fun h13 H => ?_) (fun h13 H => ?_)))))))
  ·refine W.skip (nrm (W.block (sr (va (.int .i64 s_7.1) (va (.int .i64 s_7.2) (va (.int .i64 (w64 (s_7.1 + s_7.2))) (va (.int .u64 (IntKind.u64.wrap (w64 (s_7.1 + s_7.2)))) (va (.int .u64 ((IntKind.u64.wrap (w64 (s_7.1 + s_7.2))).fdiv (2 ^ 1))) (va (.int .i64 (w64 ((IntKind.u64.wrap (w64 (s_7.1 + s_7.2))).fdiv (2 ^ 1)))) (va (.int .i64 (w64 ((IntKind.u64.wrap (w64 (s_7.1 + s_7.2))).fdiv (2 ^ 1)))) (wln (sr (va (.func (.func 254) #[] #[.pointer (some ⟨b1_0, 0, none⟩), .pointer (some ⟨b1_1, 0, none⟩)]) (va (.int .i64 (w64 ((IntKind.u64.wrap (w64 (s_7.1 + s_7.2))).fdiv (2 ^ 1)))) (bn H fun x_22 h14 H => cl (c_gcb_Of_1 O9 (w64 ((IntKind.u64.wrap (w64 (s_7.1 + s_7.2))).fdiv (2 ^ 1))) p1_0_0 p1_1_0 (mm m1) h3.m (mm m4) h14) ?_)))))))))))))))
   rintro v20 c19 l19 ⟨O16, rfl⟩
   refine va (.bool (!x_22)) (wln (cn H (fun h21 H => ?_) (fun h21 H => ?_)))
   ·refine W.region (va (.int .i64 (w64 ((IntKind.u64.wrap (w64 (s_7.1 + s_7.2))).fdiv (2 ^ 1)))) (va (.int .i64 (w64 ((w64 ((IntKind.u64.wrap (w64 (s_7.1 + s_7.2))).fdiv (2 ^ 1))) + 1))) (va (.int .i64 (w64 ((w64 ((IntKind.u64.wrap (w64 (s_7.1 + s_7.2))).fdiv (2 ^ 1))) + 1))) (WL.nil (bkn ?_)))))
    obtain rfl := si H
    exact ⟨_, rfl, ⟨c19, _, _, rfl, pt, us, O16, rfl⟩⟩
   refine W.region (va (.int .i64 (w64 ((IntKind.u64.wrap (w64 (s_7.1 + s_7.2))).fdiv (2 ^ 1)))) (va (.int .i64 (w64 ((IntKind.u64.wrap (w64 (s_7.1 + s_7.2))).fdiv (2 ^ 1)))) (WL.nil (bkn ?_))))
   obtain rfl := si H
   exact ⟨_, rfl, ⟨c19, _, _, rfl, pt, us, O16, rfl⟩⟩
  refine W.exit (thx ?_)
  obtain rfl := si H
  exact ⟨_, rfl, rfl, ⟨c7, _, _, rfl, pt, us, O9, rfl⟩⟩
 ·exact ⟨c0, _, _, rfl, pt, us, O0, rfl⟩
 rintro _ e_ w_ ⟨rfl, c22, g23, _, rfl, l22, rfl, O24, rfl⟩
 refine bke (nrm (sr (va (.int .i64 o_7) (va (.int .i64 o_7) (wln (W.ret ?_))))))
 obtain rfl := si H6
 exact r1 ⟨_, c22, rfl, rfl, pt, O24, rfl⟩
def f_hangul_in (p0 : Int) (p1 : Int) (p2 : Int) : Option (Bool) :=
 (andE (decide (p0 ≥ p1)) (some (decide (p0 ≤ p2)))).bind fun d_6 =>
 some d_6
theorem c_hangul_in (O0 : Own c0 G F) (p0 : Int) (p1 : Int) (p2 : Int) {r : Bool} (H : f_hangul_in p0 p1 p2 = some r) :
    Calls Tryz.prog 269 #[.int .i32 p0, .int .i32 p1, .int .i32 p2] c0.w (Post c0 fun c v => Own c G (F) ∧ v = .bool r) := by
 unfold f_hangul_in at H
 refine en func269 rfl rfl (sr (va (.bool false) (wln (W.seq (bn H fun d_6 h1 H => W.join (Jn c0 fun c l => Own c G (F) ∧ l = [(6, .bool d_6)]) ?_ ?_)))))
 ·clear H
  refine W.region (va (.int .i32 p0) (va (.int .i32 p1) (va (.bool (decide (p0 ≥ p1))) ?_)))
  rcases bo (decide (p0 ≥ p1)) with h2 | h2
  ·have H3 := anT h2 h1
   refine vb h2 (wn (va (.int .i32 p0) (wn (va (.int .i32 p2) (wn (va (.bool (decide (p0 ≤ p2))) ?_))))))
   obtain rfl := si H3
   exact va (.bool (decide (p0 ≤ p2))) (va (.bool (decide (p0 ≤ p2))) (wln ⟨c0, _, _, rfl, pt, us, O0, rfl⟩))
  obtain rfl := anF h2 h1
  exact vb h2 (ps (ps (ps (va (.bool false) (va (.bool false) (wln ⟨c0, _, _, rfl, pt, us, O0, rfl⟩))))))
 rintro e_ w_ ⟨c4, g5, _, rfl, l4, rfl, O6, rfl⟩
 refine nrm (W.ret ?_)
 obtain rfl := si H
 exact r1 ⟨_, c4, rfl, rfl, pt, O6, rfl⟩
def f_hangul_Syllable (p0 : Int) : Option (Bool) :=
 (f_hangul_in p0 44032 55203).bind fun x_4 =>
 some x_4
theorem c_hangul_Syllable (O0 : Own c0 G F) (p0 : Int) {r : Bool} (H : f_hangul_Syllable p0 = some r) :
    Calls Tryz.prog 270 #[.int .i32 p0] c0.w (Post c0 fun c v => Own c G (F) ∧ v = .bool r) := by
 unfold f_hangul_Syllable at H
 refine en func270 rfl rfl (sr (va (.bool false) (wln (sr (va (.int .i32 p0) (bn H fun x_4 h1 H => cl (c_hangul_in O0 p0 44032 55203 h1) ?_))))))
 rintro v7 c6 l6 ⟨O3, rfl⟩
 refine va (.bool x_4) (wln (W.ret ?_))
 obtain rfl := si H
 exact r1 ⟨_, c6, rfl, rfl, pt, O3, rfl⟩
def f_hangul_Class (p0 : Int) : Option (Int) :=
 (f_hangul_in p0 4352 4447).bind fun x_4 =>
 (orE x_4 ((f_hangul_in p0 43360 43388).bind fun x_8 =>
 some x_8)).bind fun d_5 =>
 if d_5 = true then
 some 9
 else
 (f_hangul_in p0 4448 4519).bind fun x_14 =>
 (orE x_14 ((f_hangul_in p0 55216 55238).bind fun x_18 =>
 some x_18)).bind fun d_15 =>
 if d_15 = true then
 some 10
 else
 (f_hangul_in p0 4520 4607).bind fun x_24 =>
 (orE x_24 ((f_hangul_in p0 55243 55291).bind fun x_28 =>
 some x_28)).bind fun d_25 =>
 if d_25 = true then
 some 11
 else
 (f_hangul_Syllable p0).bind fun x_34 =>
 if (!x_34) = true then
 some 0
 else
 if (((w32 (p0 - 44032)).tmod 28) == 0) = true then
 some 12
 else
 some 13
theorem c_hangul_Class (O0 : Own c0 G F) (p0 : Int) {r : Int} (H : f_hangul_Class p0 = some r) :
    Calls Tryz.prog 255 #[.int .i32 p0] c0.w (Post c0 fun c v => Own c G (F) ∧ v = .int .i64 r) := by
 unfold f_hangul_Class at H
 refine en func255 rfl rfl (sr (va (.int .i64 0) (wln (W.seq (W.block (W.seq (bn H fun x_4 h1 H => bn H fun d_5 h2 H => W.join (Jn c0 fun c l => Own c G (F) ∧ l = [(0, .int .i32 p0), (3, .bool d_5)]) ?_ ?_)))))))
 ·clear H
  refine W.region (va (.int .i32 p0) (cl (c_hangul_in O0 p0 4352 4447 h1) ?_))
  rintro v8 c7 l7 ⟨O4, rfl⟩
  rcases bo (x_4) with h9 | h9
  ·obtain rfl := orT h9 h2
   exact vb h9 (ps (ps (va (.bool true) (va (.bool true) (wln ⟨c7, _, _, rfl, pt, us, O4, rfl⟩)))))
  have H10 := orF h9 h2
  refine vb h9 (wn (va (.int .i32 p0) (wn (bn H10 fun x_8 h11 H10 => cl (c_hangul_in O4 p0 43360 43388 h11) ?_))))
  rintro v17 c16 l16 ⟨O13, rfl⟩
  obtain rfl := si H10
  exact va (.bool x_8) (va (.bool x_8) (wln ⟨c16, _, _, rfl, pt, us, O13, rfl⟩))
 rintro e_ w_ ⟨c18, g19, _, rfl, l18, rfl, O20, rfl⟩
 refine nrm (cn H (fun h24 H => ?_) (fun h24 H => ?_))
 ·refine sr (va (.int .i64 9) (wln (W.ret (bkr (thr ?_)))))
  obtain rfl := si H
  exact r1 ⟨_, c18, rfl, rfl, pt, O20, rfl⟩
 refine W.seq (bn H fun x_14 h25 H => bn H fun d_15 h26 H => W.join (Jn c18 fun c l => Own c G (F) ∧ l = [(0, .int .i32 p0), (10, .bool d_15)]) ?_ ?_)
 ·clear H
  refine W.region (va (.int .i32 p0) (cl (c_hangul_in O20 p0 4448 4519 h25) ?_))
  rintro v32 c31 l31 ⟨O28, rfl⟩
  rcases bo (x_14) with h33 | h33
  ·obtain rfl := orT h33 h26
   exact vb h33 (ps (ps (va (.bool true) (va (.bool true) (wln ⟨c31, _, _, rfl, pt, us, O28, rfl⟩)))))
  have H34 := orF h33 h26
  refine vb h33 (wn (va (.int .i32 p0) (wn (bn H34 fun x_18 h35 H34 => cl (c_hangul_in O28 p0 55216 55238 h35) ?_))))
  rintro v41 c40 l40 ⟨O37, rfl⟩
  obtain rfl := si H34
  exact va (.bool x_18) (va (.bool x_18) (wln ⟨c40, _, _, rfl, pt, us, O37, rfl⟩))
 rintro e_ w_ ⟨c42, g43, _, rfl, l42, rfl, O44, rfl⟩
 refine nrm (cn H (fun h48 H => ?_) (fun h48 H => ?_))
 ·refine sr (va (.int .i64 10) (wln (W.ret (bkr (thr ?_)))))
  obtain rfl := si H
  exact r1 ⟨_, c42, rfl, rfl, pt, O44, rfl⟩
 refine W.seq (bn H fun x_24 h49 H => bn H fun d_25 h50 H => W.join (Jn c42 fun c l => Own c G (F) ∧ l = [(0, .int .i32 p0), (17, .bool d_25)]) ?_ ?_)
 ·clear H
  refine W.region (va (.int .i32 p0) (cl (c_hangul_in O44 p0 4520 4607 h49) ?_))
  rintro v56 c55 l55 ⟨O52, rfl⟩
  rcases bo (x_24) with h57 | h57
  ·obtain rfl := orT h57 h50
   exact vb h57 (ps (ps (va (.bool true) (va (.bool true) (wln ⟨c55, _, _, rfl, pt, us, O52, rfl⟩)))))
  have H58 := orF h57 h50
  refine vb h57 (wn (va (.int .i32 p0) (wn (bn H58 fun x_28 h59 H58 => cl (c_hangul_in O52 p0 55243 55291 h59) ?_))))
  rintro v65 c64 l64 ⟨O61, rfl⟩
  obtain rfl := si H58
  exact va (.bool x_28) (va (.bool x_28) (wln ⟨c64, _, _, rfl, pt, us, O61, rfl⟩))
 rintro e_ w_ ⟨c66, g67, _, rfl, l66, rfl, O68, rfl⟩
 refine nrm (cn H (fun h72 H => ?_) (fun h72 H => ?_))
 ·refine sr (va (.int .i64 11) (wln (W.ret (bkr (thr ?_)))))
  obtain rfl := si H
  exact r1 ⟨_, c66, rfl, rfl, pt, O68, rfl⟩
 refine sr (va (.int .i32 p0) (bn H fun x_34 h73 H => cl (c_hangul_Syllable O68 p0 h73) ?_))
 rintro v79 c78 l78 ⟨O75, rfl⟩
 refine va (.bool (!x_34)) (va (.bool (!x_34)) (wln (cn H (fun h80 H => ?_) (fun h80 H => ?_))))
 ·refine sr (va (.int .i64 0) (wln (W.ret (bkr (thr ?_)))))
  obtain rfl := si H
  exact r1 ⟨_, c78, rfl, rfl, pt, O75, rfl⟩
 refine sr (va (.int .i32 p0) (va (.int .i32 (w32 (p0 - 44032))) (va (.int .i32 ((w32 (p0 - 44032)).tmod 28)) (va (.bool (((w32 (p0 - 44032)).tmod 28) == 0)) (va (.bool (((w32 (p0 - 44032)).tmod 28) == 0)) (wln (cn H (fun h81 H => ?_) (fun h81 H => ?_))))))))
 ·refine sr (va (.int .i64 12) (wln (W.ret (bkr (thr ?_)))))
  obtain rfl := si H
  exact r1 ⟨_, c78, rfl, rfl, pt, O75, rfl⟩
 refine W.skip (bkn (nrm (sr (va (.int .i64 13) (wln (W.ret ?_))))))
 obtain rfl := si H
 exact r1 ⟨_, c78, rfl, rfl, pt, O75, rfl⟩
def f_gcb_Of (p0 : Int) : Option (Int) :=
 (f_gcb_table).bind fun x_4 =>
 (f_sort_Search__gcb_Of_1 (x_4.length : Int) x_4 p0).bind fun x_11 =>
 (andE (decide (x_11 < (x_4.length : Int))) ((idx x_4 x_11).bind fun x_22 =>
 some (decide (x_22.1 ≤ (w64 p0))))).bind fun d_18 =>
 if d_18 = true then
 (idx x_4 x_11).bind fun x_31 =>
 some x_31.2.2
 else
 (f_hangul_Class p0).bind fun x_37 =>
 some x_37
theorem c_gcb_Of (O0 : Own c0 G F) (p0 : Int) {r : Int} (H : f_gcb_Of p0 = some r) :
    Calls Tryz.prog 227 #[.int .i32 p0] c0.w (Post c0 fun c v => Own c G (F) ∧ v = .int .i64 r) := by
 unfold f_gcb_Of at H
 refine en func227 rfl rfl (sr (me (bx 21 [.int .i32 p0] O0) ?_))
 rintro v5 c4 l4 ⟨b1, rfl, O2, m3⟩
 refine va (.int .i64 0) (wln (sr (bn H fun x_4 h6 H => cl (c_gcb_table O2 h6) ?_)))
 rintro v7 c14 l14 ⟨_, u8, O11, rfl, h9⟩
 refine me (al 292 [.slice none 0 0] O11) ?_
 rintro v19 c18 l18 ⟨b16, rfl, O17⟩
 obtain ⟨a20, a21, a22, rfl⟩ := ((h9.mono l18)).form
 refine md (sC 292 0 (.slice a20 a21 a22) [.slice a20 a21 a22] 0 O17 ⟨h9.m.one, trivial⟩) ?_
 rintro c24 l24 O23
 refine wln (sr (vx (le1 0 underlying292 (O23.on 0 rfl)) (vx (lnO 3 underlying292 h9.m) ?_)))
 obtain ⟨c27, h28, l27, O25, h26⟩ := O23.frz 1 rfl (h9.mono (l18.trans l24))
 refine WL.gh h28 ?_
 obtain ⟨c31, h32, l31, O29, m30⟩ := Own.frzB 0 O25 rfl
 refine WL.gh h32 ?_
 have O33 := O29.sD 2 [1]
 refine va (.func (.func 254) #[] #[.pointer (some ⟨b16, 0, none⟩), .pointer (some ⟨b1, 0, none⟩)]) (bn H fun x_11 h34 H => cl (c_sort_Search__gcb_Of_1 O33 (x_4.length : Int) x_4 p0 m30 h26.m (mm m3) h34) ?_)
 rintro v40 c39 l39 ⟨O36, rfl⟩
 refine va (.int .i64 x_11) (wln (W.seq (W.seq (bn H fun d_18 h41 H => W.join (Jn c39 fun c l => Own c G (es false RA3_i64 (.slice a20 a21 a22) 295 u8 x_4 :: F) ∧ l = [(1, .pointer (some ⟨b1, 0, none⟩)), (3, .pointer (some ⟨b16, 0, none⟩)), (4, .int .i64 x_11), (23, .bool d_18)]) ?_ ?_))))
 ·clear H
  refine rD [] (Kp G0 []) O36 ?_
  intro c42 l42 O43
  have p44 : Kp G0 [] c42 := Kp.nil0
  refine ta 0 (.int .i64 x_11) (tx 1 (fun c' hle => l1 underlying292 ((mm m30) 0 _ rfl)) (tx 2 (fun c' hle => ln 3 underlying292 h26.m) (ta 3 (.bool (decide (x_11 < (x_4.length : Int)))) ?_)))
  rcases bo (decide (x_11 < (x_4.length : Int))) with h45 | h45
  ·have H46 := anT h45 h41
   refine bn H46 fun x_22 h47 H46 => AC.takeb 4 h45 rfl (by kernel_rfl) (by kernel_rfl) (fun c' hle => (by kernel_rfl)) (tx 5 (fun c' hle => l1 underlying292 ((mm m30) 0 _ rfl)) (ta 6 (.int .i64 x_11) ?_))
   obtain ⟨l_48, h49, m50⟩ := Sl.at (h26.mono (l31.trans (l39.trans l42))) (idx_get h47)
   obtain rfl := h49
   refine tx 7 (fun c' hle => ix underlying292 h26.m h47) (ta 8 (.pointer (some ⟨sb (.slice a20 a21 a22), so (.slice a20 a21 a22) + x_11.toNat * 3, none⟩)) (tx 9 (fun c' hle => l1 underlying3 ((mm m50) 0 _ rfl)) (tx 10 (fun c' hle => l1 underlying21 ((mm m3) 0 _ rfl)) (ta 11 (.int .i64 (w64 p0)) (ta 12 (.bool (decide (x_22.1 ≤ (w64 p0)))) ?_)))))
   obtain rfl := si H46
   exact ta 13 (.bool (decide (x_22.1 ≤ (w64 p0)))) (dn (nrm ⟨c42, _, _, rfl, pt, us, O43, rfl⟩))
  obtain rfl := anF h45 h41
  exact AC.takeb 4 h45 rfl (by kernel_rfl) (by kernel_rfl) (fun c' hle => (by kernel_rfl)) (tp 5 (tp 6 (tp 7 (tp 8 (tp 9 (tp 10 (tp 11 (tp 12 (ta 13 (.bool false) (dn (nrm ⟨c42, _, _, rfl, pt, us, O43, rfl⟩)))))))))))
 rintro e_ w_ ⟨c51, g52, _, rfl, l51, rfl, O53, rfl⟩
 refine nrm (cn H (fun h57 H => ?_) (fun h57 H => ?_))
 ·refine sr (vx (l1 underlying292 ((mm m30) 0 _ rfl)) (va (.int .i64 x_11) (bn H fun x_31 h58 H => ?_)))
  obtain ⟨l_59, h60, m61⟩ := Sl.at (h26.mono (l31.trans (l39.trans l51))) (idx_get h58)
  obtain rfl := h60
  refine vx (ix underlying292 h26.m h58) (va (.pointer (some ⟨sb (.slice a20 a21 a22), so (.slice a20 a21 a22) + x_11.toNat * 3 + 2, none⟩)) (vx (l1 underlying3 (m61 2 _ rfl)) (va (.int .i64 x_31.2.2) (wln (W.ret (thr ?_))))))
  obtain rfl := si H
  have O62 := O53.sD 1 []
  exact r1 ⟨_, c51, rfl, rfl, pt, O62, rfl⟩
 refine W.skip (nrm (sr (vx (l1 underlying21 ((mm m3) 0 _ rfl)) (bn H fun x_37 h63 H => cl (c_hangul_Class O53 p0 h63) ?_))))
 rintro v69 c68 l68 ⟨O65, rfl⟩
 refine va (.int .i64 x_37) (wln (W.ret ?_))
 obtain rfl := si H
 have O70 := O65.sD 1 []
 exact r1 ⟨_, c68, rfl, rfl, pt, O70, rfl⟩
def f_pict_Is_1 (p0 : Int) (q0_0 : List (Int × Int)) (q1_0 : Int) : Option (Bool) :=
 (idx q0_0 p0).bind fun x_5 =>
 some (decide (x_5.2 ≥ q1_0))
theorem c_pict_Is_1 {bc0 : Nat} {bc1 : Nat} (O0 : Own c0 G F) (p0 : Int) (q0_0 : List (Int × Int)) (q1_0 : Int) {r : Bool} (m1 : ∀ j u, ([v2] : List Value)[j]? = some u → Im c0 bc0 (0 + j) u) (h3 : Sl RA2_i32 c0 v2 q0_0) (m4 : ∀ j u, ([.int .i32 q1_0] : List Value)[j]? = some u → Im c0 bc1 (0 + j) u) (H : f_pict_Is_1 p0 q0_0 q1_0 = some r) :
    Calls Tryz.prog 257 #[.int .i64 p0, .pointer (some ⟨bc0, 0, none⟩), .pointer (some ⟨bc1, 0, none⟩)] c0.w (Post c0 fun c v => Own c G (F) ∧ v = .bool r) := by
 unfold f_pict_Is_1 at H
 refine en func257 rfl rfl (sr (va (.bool false) (wln (W.seq (rD [] (Kp G0 []) O0 ?_)))))
 intro c5 l5 O6
 have p7 : Kp G0 [] c5 := Kp.nil0
 refine tx 0 (fun c' hle => l1 underlying296 ((mm m1) 0 _ rfl)) (ta 1 (.int .i64 p0) (bn H fun x_5 h8 H => ?_))
 obtain ⟨l_9, h10, m11⟩ := Sl.at (h3.mono l5) (idx_get h8)
 obtain rfl := h10
 refine tx 2 (fun c' hle => ix underlying296 h3.m h8) (ta 3 (.pointer (some ⟨sb v2, so v2 + p0.toNat * 2 + 1, none⟩)) (tx 4 (fun c' hle => l1 underlying21 ((mm m11) 1 _ rfl)) (tx 5 (fun c' hle => l1 underlying21 ((mm m4) 0 _ rfl)) (ta 6 (.bool (decide (x_5.2 ≥ q1_0))) (ta 7 (.bool (decide (x_5.2 ≥ q1_0))) (dn (nrm (W.ret ?_))))))))
 obtain rfl := si H
 exact r1 ⟨_, c5, rfl, rfl, pt, O6, rfl⟩
def f_sort_Search__pict_Is_1 (p0 : Int) (p1_0_0 : List (Int × Int)) (p1_1_0 : Int) : Option (Int) :=
 (iter (σ := Int × Int) (τ := Int) ((p0 - 0).toNat + 1) (fun s_7 =>
 if (decide (s_7.1 < s_7.2)) = true then
 (f_pict_Is_1 (w64 ((IntKind.u64.wrap (w64 (s_7.1 + s_7.2))).fdiv (2 ^ 1))) p1_0_0 p1_1_0).bind fun x_22 =>
 if (!x_22) = true then
 some (.inl ((w64 ((w64 ((IntKind.u64.wrap (w64 (s_7.1 + s_7.2))).fdiv (2 ^ 1))) + 1)), s_7.2))
 else
 some (.inl (s_7.1, (w64 ((IntKind.u64.wrap (w64 (s_7.1 + s_7.2))).fdiv (2 ^ 1)))))
 else
 some (.inr (s_7.1))) (0, p0)).bind fun o_7 =>
 some o_7
theorem c_sort_Search__pict_Is_1 {b1_0 : Nat} {b1_1 : Nat} (O0 : Own c0 G F) (p0 : Int) (p1_0_0 : List (Int × Int)) (p1_1_0 : Int) {r : Int} (m1 : ∀ j u, ([v2] : List Value)[j]? = some u → Im c0 b1_0 (0 + j) u) (h3 : Sl RA2_i32 c0 v2 p1_0_0) (m4 : ∀ j u, ([.int .i32 p1_1_0] : List Value)[j]? = some u → Im c0 b1_1 (0 + j) u) (H : f_sort_Search__pict_Is_1 p0 p1_0_0 p1_1_0 = some r) :
    Calls Tryz.prog 253 #[.int .i64 p0, .func (.func 257) #[] #[.pointer (some ⟨b1_0, 0, none⟩), .pointer (some ⟨b1_1, 0, none⟩)]] c0.w (Post c0 fun c v => Own c G (F) ∧ v = .int .i64 r) := by
 unfold f_sort_Search__pict_Is_1 at H
 refine en func253 rfl rfl (sr (va (.int .i64 0) (wln (sr (va (.int .i64 p0) (va (.int .i64 0) (va (.int .i64 p0) (wln (W.seq (W.block (bn H fun o_7 h5 H6 => lp h5 (fun s_7 => Jn c0 fun c l => Own c G (F) ∧ l = [(1, .func (.func 257) #[] #[.pointer (some ⟨b1_0, 0, none⟩), .pointer (some ⟨b1_1, 0, none⟩)]), (5, .int .i64 s_7.1), (6, .int .i64 s_7.2)]) (fun o_7_ ex e w => ex = .exit 0 ∧ (Jn c0 fun c l => Own c G (F) ∧ l = [(5, .int .i64 o_7_)]) e w) ?_ ?_ ?_)))))))))))
 ·clear H6 h5
  intro s_7 xx_ ee_ ww_ H
  revert ee_ ww_
  rintro e_ w_ ⟨c7, g8, _, rfl, l7, rfl, O9, rfl⟩
  refine W.seq (sr (va (.int .i64 s_7.1) (va (.int .i64 s_7.2) (va (.bool (decide (s_7.1 < s_7.2))) (wln (cn H (fun h13 H => ?_) (fun h13 H => ?_)))))))
  ·refine W.skip (nrm (W.block (sr (va (.int .i64 s_7.1) (va (.int .i64 s_7.2) (va (.int .i64 (w64 (s_7.1 + s_7.2))) (va (.int .u64 (IntKind.u64.wrap (w64 (s_7.1 + s_7.2)))) (va (.int .u64 ((IntKind.u64.wrap (w64 (s_7.1 + s_7.2))).fdiv (2 ^ 1))) (va (.int .i64 (w64 ((IntKind.u64.wrap (w64 (s_7.1 + s_7.2))).fdiv (2 ^ 1)))) (va (.int .i64 (w64 ((IntKind.u64.wrap (w64 (s_7.1 + s_7.2))).fdiv (2 ^ 1)))) (wln (sr (va (.func (.func 257) #[] #[.pointer (some ⟨b1_0, 0, none⟩), .pointer (some ⟨b1_1, 0, none⟩)]) (va (.int .i64 (w64 ((IntKind.u64.wrap (w64 (s_7.1 + s_7.2))).fdiv (2 ^ 1)))) (bn H fun x_22 h14 H => cl (c_pict_Is_1 O9 (w64 ((IntKind.u64.wrap (w64 (s_7.1 + s_7.2))).fdiv (2 ^ 1))) p1_0_0 p1_1_0 (mm m1) h3.m (mm m4) h14) ?_)))))))))))))))
   rintro v20 c19 l19 ⟨O16, rfl⟩
   refine va (.bool (!x_22)) (wln (cn H (fun h21 H => ?_) (fun h21 H => ?_)))
   ·refine W.region (va (.int .i64 (w64 ((IntKind.u64.wrap (w64 (s_7.1 + s_7.2))).fdiv (2 ^ 1)))) (va (.int .i64 (w64 ((w64 ((IntKind.u64.wrap (w64 (s_7.1 + s_7.2))).fdiv (2 ^ 1))) + 1))) (va (.int .i64 (w64 ((w64 ((IntKind.u64.wrap (w64 (s_7.1 + s_7.2))).fdiv (2 ^ 1))) + 1))) (WL.nil (bkn ?_)))))
    obtain rfl := si H
    exact ⟨_, rfl, ⟨c19, _, _, rfl, pt, us, O16, rfl⟩⟩
   refine W.region (va (.int .i64 (w64 ((IntKind.u64.wrap (w64 (s_7.1 + s_7.2))).fdiv (2 ^ 1)))) (va (.int .i64 (w64 ((IntKind.u64.wrap (w64 (s_7.1 + s_7.2))).fdiv (2 ^ 1)))) (WL.nil (bkn ?_))))
   obtain rfl := si H
   exact ⟨_, rfl, ⟨c19, _, _, rfl, pt, us, O16, rfl⟩⟩
  refine W.exit (thx ?_)
  obtain rfl := si H
  exact ⟨_, rfl, rfl, ⟨c7, _, _, rfl, pt, us, O9, rfl⟩⟩
 ·exact ⟨c0, _, _, rfl, pt, us, O0, rfl⟩
 rintro _ e_ w_ ⟨rfl, c22, g23, _, rfl, l22, rfl, O24, rfl⟩
 refine bke (nrm (sr (va (.int .i64 o_7) (va (.int .i64 o_7) (wln (W.ret ?_))))))
 obtain rfl := si H6
 exact r1 ⟨_, c22, rfl, rfl, pt, O24, rfl⟩
def t_pict_table_81 : List (Int × Int) := [(169, 169), (174, 174), (8252, 8252), (8265, 8265), (8482, 8482), (8505, 8505), (8596, 8601), (8617, 8618), (8986, 8987), (9000, 9000), (9096, 9096), (9167, 9167), (9193, 9203), (9208, 9210), (9410, 9410), (9642, 9643), (9654, 9654), (9664, 9664), (9723, 9726), (9728, 9733), (9735, 9746), (9748, 9861), (9872, 9989), (9992, 10002), (10004, 10004), (10006, 10006), (10013, 10013), (10017, 10017), (10024, 10024), (10035, 10036), (10052, 10052), (10055, 10055), (10060, 10060), (10062, 10062), (10067, 10069), (10071, 10071), (10083, 10087), (10133, 10135), (10145, 10145), (10160, 10160), (10175, 10175), (10548, 10549), (11013, 11015), (11035, 11036), (11088, 11088), (11093, 11093), (12336, 12336), (12349, 12349), (12951, 12951), (12953, 12953), (126976, 127231), (127245, 127247), (127279, 127279), (127340, 127345), (127358, 127359), (127374, 127374), (127377, 127386), (127405, 127461), (127489, 127503), (127514, 127514), (127535, 127535), (127538, 127546), (127548, 127551), (127561, 127994), (128000, 128317), (128326, 128591), (128640, 128767), (128884, 128895), (128981, 129023), (129036, 129039), (129096, 129103), (129114, 129119), (129160, 129167), (129198, 129279), (129292, 129338), (129340, 129349), (129351, 129791), (130048, 131069)]
def f_pict_table  : Option (List (Int × Int)) :=
 some t_pict_table_81
theorem c_pict_table (O0 : Own c0 G F) {r : List (Int × Int)} (H : f_pict_table  = some r) :
    Calls Tryz.prog 256 #[] c0.w (Post c0 fun c v => ∃ y1 y2, Own c G (es true RA2_i32 y1 298 y2 r :: F) ∧ v = y1 ∧ OA RA2_i32 c y1 y2 r) := by
 unfold f_pict_table at H
 refine en func256 rfl rfl (sr (va (.slice none 0 0) (wln (sr (va (.agg #[.int .i32 169, .int .i32 169]) (va (.agg #[.int .i32 174, .int .i32 174]) (va (.agg #[.int .i32 8252, .int .i32 8252]) (va (.agg #[.int .i32 8265, .int .i32 8265]) (va (.agg #[.int .i32 8482, .int .i32 8482]) (va (.agg #[.int .i32 8505, .int .i32 8505]) (va (.agg #[.int .i32 8596, .int .i32 8601]) (va (.agg #[.int .i32 8617, .int .i32 8618]) (va (.agg #[.int .i32 8986, .int .i32 8987]) (va (.agg #[.int .i32 9000, .int .i32 9000]) (va (.agg #[.int .i32 9096, .int .i32 9096]) (va (.agg #[.int .i32 9167, .int .i32 9167]) (va (.agg #[.int .i32 9193, .int .i32 9203]) (va (.agg #[.int .i32 9208, .int .i32 9210]) (va (.agg #[.int .i32 9410, .int .i32 9410]) (va (.agg #[.int .i32 9642, .int .i32 9643]) (va (.agg #[.int .i32 9654, .int .i32 9654]) (va (.agg #[.int .i32 9664, .int .i32 9664]) (va (.agg #[.int .i32 9723, .int .i32 9726]) (va (.agg #[.int .i32 9728, .int .i32 9733]) (va (.agg #[.int .i32 9735, .int .i32 9746]) (va (.agg #[.int .i32 9748, .int .i32 9861]) (va (.agg #[.int .i32 9872, .int .i32 9989]) (va (.agg #[.int .i32 9992, .int .i32 10002]) (va (.agg #[.int .i32 10004, .int .i32 10004]) (va (.agg #[.int .i32 10006, .int .i32 10006]) (va (.agg #[.int .i32 10013, .int .i32 10013]) (va (.agg #[.int .i32 10017, .int .i32 10017]) (va (.agg #[.int .i32 10024, .int .i32 10024]) (va (.agg #[.int .i32 10035, .int .i32 10036]) (va (.agg #[.int .i32 10052, .int .i32 10052]) (va (.agg #[.int .i32 10055, .int .i32 10055]) (va (.agg #[.int .i32 10060, .int .i32 10060]) (va (.agg #[.int .i32 10062, .int .i32 10062]) (va (.agg #[.int .i32 10067, .int .i32 10069]) (va (.agg #[.int .i32 10071, .int .i32 10071]) (va (.agg #[.int .i32 10083, .int .i32 10087]) (va (.agg #[.int .i32 10133, .int .i32 10135]) (va (.agg #[.int .i32 10145, .int .i32 10145]) (va (.agg #[.int .i32 10160, .int .i32 10160]) (va (.agg #[.int .i32 10175, .int .i32 10175]) (va (.agg #[.int .i32 10548, .int .i32 10549]) (va (.agg #[.int .i32 11013, .int .i32 11015]) (va (.agg #[.int .i32 11035, .int .i32 11036]) (va (.agg #[.int .i32 11088, .int .i32 11088]) (va (.agg #[.int .i32 11093, .int .i32 11093]) (va (.agg #[.int .i32 12336, .int .i32 12336]) (va (.agg #[.int .i32 12349, .int .i32 12349]) (va (.agg #[.int .i32 12951, .int .i32 12951]) (va (.agg #[.int .i32 12953, .int .i32 12953]) (va (.agg #[.int .i32 126976, .int .i32 127231]) (va (.agg #[.int .i32 127245, .int .i32 127247]) (va (.agg #[.int .i32 127279, .int .i32 127279]) (va (.agg #[.int .i32 127340, .int .i32 127345]) (va (.agg #[.int .i32 127358, .int .i32 127359]) (va (.agg #[.int .i32 127374, .int .i32 127374]) (va (.agg #[.int .i32 127377, .int .i32 127386]) (va (.agg #[.int .i32 127405, .int .i32 127461]) (va (.agg #[.int .i32 127489, .int .i32 127503]) (va (.agg #[.int .i32 127514, .int .i32 127514]) (va (.agg #[.int .i32 127535, .int .i32 127535]) (va (.agg #[.int .i32 127538, .int .i32 127546]) (va (.agg #[.int .i32 127548, .int .i32 127551]) (va (.agg #[.int .i32 127561, .int .i32 127994]) (va (.agg #[.int .i32 128000, .int .i32 128317]) (va (.agg #[.int .i32 128326, .int .i32 128591]) (va (.agg #[.int .i32 128640, .int .i32 128767]) (va (.agg #[.int .i32 128884, .int .i32 128895]) (va (.agg #[.int .i32 128981, .int .i32 129023]) (va (.agg #[.int .i32 129036, .int .i32 129039]) (va (.agg #[.int .i32 129096, .int .i32 129103]) (va (.agg #[.int .i32 129114, .int .i32 129119]) (va (.agg #[.int .i32 129160, .int .i32 129167]) (va (.agg #[.int .i32 129198, .int .i32 129279]) (va (.agg #[.int .i32 129292, .int .i32 129338]) (va (.agg #[.int .i32 129340, .int .i32 129349]) (va (.agg #[.int .i32 129351, .int .i32 129791]) (va (.agg #[.int .i32 130048, .int .i32 131069]) (me (Own.sl (R := RA2_i32) (E := 298) (ls := t_pict_table_81.map (fun x => [Value.int .i32 x.1, Value.int .i32 x.2])) (vs := (t_pict_table_81.map (fun x => [Value.int .i32 x.1, Value.int .i32 x.2])).flatten) (xs := t_pict_table_81) true O0 (Nat.succ_pos _) rfl (AllR.map _ (fun _ => rfl) _) (by kernel_rfl) (by kernel_rfl)) ?_)))))))))))))))))))))))))))))))))))))))))))))))))))))))))))))))))))))))))))))))))))
 rintro v5 c4 l4 ⟨u2, O1, h3⟩
 refine va (v5) (wln (W.ret ?_))
 obtain rfl := si H
 exact r1 ⟨_, c4, rfl, rfl, pt, v5, u2, O1, rfl, h3⟩
def f_pict_Is (p0 : Int) : Option (Bool) :=
 (f_pict_table).bind fun x_4 =>
 (f_sort_Search__pict_Is_1 (x_4.length : Int) x_4 p0).bind fun x_11 =>
 (andE (decide (x_11 < (x_4.length : Int))) ((idx x_4 x_11).bind fun x_22 =>
 some (decide (x_22.1 ≤ p0)))).bind fun d_18 =>
 some d_18
theorem c_pict_Is (O0 : Own c0 G F) (p0 : Int) {r : Bool} (H : f_pict_Is p0 = some r) :
    Calls Tryz.prog 228 #[.int .i32 p0] c0.w (Post c0 fun c v => Own c G (F) ∧ v = .bool r) := by
 unfold f_pict_Is at H
 refine en func228 rfl rfl (sr (me (bx 21 [.int .i32 p0] O0) ?_))
 rintro v5 c4 l4 ⟨b1, rfl, O2, m3⟩
 refine va (.bool false) (wln (sr (bn H fun x_4 h6 H => cl (c_pict_table O2 h6) ?_)))
 rintro v7 c14 l14 ⟨_, u8, O11, rfl, h9⟩
 refine me (al 296 [.slice none 0 0] O11) ?_
 rintro v19 c18 l18 ⟨b16, rfl, O17⟩
 obtain ⟨a20, a21, a22, rfl⟩ := ((h9.mono l18)).form
 refine md (sC 296 0 (.slice a20 a21 a22) [.slice a20 a21 a22] 0 O17 ⟨h9.m.one, trivial⟩) ?_
 rintro c24 l24 O23
 refine wln (sr (vx (le1 0 underlying296 (O23.on 0 rfl)) (vx (lnO 3 underlying296 h9.m) ?_)))
 obtain ⟨c27, h28, l27, O25, h26⟩ := O23.frz 1 rfl (h9.mono (l18.trans l24))
 refine WL.gh h28 ?_
 obtain ⟨c31, h32, l31, O29, m30⟩ := Own.frzB 0 O25 rfl
 refine WL.gh h32 ?_
 have O33 := O29.sD 2 [1]
 refine va (.func (.func 257) #[] #[.pointer (some ⟨b16, 0, none⟩), .pointer (some ⟨b1, 0, none⟩)]) (bn H fun x_11 h34 H => cl (c_sort_Search__pict_Is_1 O33 (x_4.length : Int) x_4 p0 m30 h26.m (mm m3) h34) ?_)
 rintro v40 c39 l39 ⟨O36, rfl⟩
 refine va (.int .i64 x_11) (wln (W.seq (bn H fun d_18 h41 H => W.join (Jn c39 fun c l => Own c G (es false RA2_i32 (.slice a20 a21 a22) 298 u8 x_4 :: F) ∧ l = [(2, .bool d_18)]) ?_ ?_)))
 ·clear H
  refine rD [] (Kp G0 []) O36 ?_
  intro c42 l42 O43
  have p44 : Kp G0 [] c42 := Kp.nil0
  refine ta 0 (.int .i64 x_11) (tx 1 (fun c' hle => l1 underlying296 ((mm m30) 0 _ rfl)) (tx 2 (fun c' hle => ln 3 underlying296 h26.m) (ta 3 (.bool (decide (x_11 < (x_4.length : Int)))) ?_)))
  rcases bo (decide (x_11 < (x_4.length : Int))) with h45 | h45
  ·have H46 := anT h45 h41
   refine bn H46 fun x_22 h47 H46 => AC.takeb 4 h45 rfl (by kernel_rfl) (by kernel_rfl) (fun c' hle => (by kernel_rfl)) (tx 5 (fun c' hle => l1 underlying296 ((mm m30) 0 _ rfl)) (ta 6 (.int .i64 x_11) ?_))
   obtain ⟨l_48, h49, m50⟩ := Sl.at (h26.mono (l31.trans (l39.trans l42))) (idx_get h47)
   obtain rfl := h49
   refine tx 7 (fun c' hle => ix underlying296 h26.m h47) (ta 8 (.pointer (some ⟨sb (.slice a20 a21 a22), so (.slice a20 a21 a22) + x_11.toNat * 2, none⟩)) (tx 9 (fun c' hle => l1 underlying21 ((mm m50) 0 _ rfl)) (tx 10 (fun c' hle => l1 underlying21 ((mm m3) 0 _ rfl)) (ta 11 (.bool (decide (x_22.1 ≤ p0))) ?_))))
   obtain rfl := si H46
   exact ta 12 (.bool (decide (x_22.1 ≤ p0))) (ta 13 (.bool (decide (x_22.1 ≤ p0))) (dn (nrm ⟨c42, _, _, rfl, pt, us, O43, rfl⟩)))
  obtain rfl := anF h45 h41
  exact AC.takeb 4 h45 rfl (by kernel_rfl) (by kernel_rfl) (fun c' hle => (by kernel_rfl)) (tp 5 (tp 6 (tp 7 (tp 8 (tp 9 (tp 10 (tp 11 (ta 12 (.bool false) (ta 13 (.bool false) (dn (nrm ⟨c42, _, _, rfl, pt, us, O43, rfl⟩)))))))))))
 rintro e_ w_ ⟨c51, g52, _, rfl, l51, rfl, O53, rfl⟩
 refine nrm (W.ret ?_)
 obtain rfl := si H
 have O57 := O53.sD 1 []
 exact r1 ⟨_, c51, rfl, rfl, pt, O57, rfl⟩
def f_conj_Of_1 (p0 : Int) (q0_0 : List (Int × Int × Int)) (q1_0 : Int) : Option (Bool) :=
 (idx q0_0 p0).bind fun x_5 =>
 some (decide (x_5.2.1 ≥ (w64 q1_0)))
theorem c_conj_Of_1 {bc0 : Nat} {bc1 : Nat} (O0 : Own c0 G F) (p0 : Int) (q0_0 : List (Int × Int × Int)) (q1_0 : Int) {r : Bool} (m1 : ∀ j u, ([v2] : List Value)[j]? = some u → Im c0 bc0 (0 + j) u) (h3 : Sl RA3_i64 c0 v2 q0_0) (m4 : ∀ j u, ([.int .i32 q1_0] : List Value)[j]? = some u → Im c0 bc1 (0 + j) u) (H : f_conj_Of_1 p0 q0_0 q1_0 = some r) :
    Calls Tryz.prog 259 #[.int .i64 p0, .pointer (some ⟨bc0, 0, none⟩), .pointer (some ⟨bc1, 0, none⟩)] c0.w (Post c0 fun c v => Own c G (F) ∧ v = .bool r) := by
 unfold f_conj_Of_1 at H
 refine en func259 rfl rfl (sr (va (.bool false) (wln (W.seq (rD [] (Kp G0 []) O0 ?_)))))
 intro c5 l5 O6
 have p7 : Kp G0 [] c5 := Kp.nil0
 refine tx 0 (fun c' hle => l1 underlying292 ((mm m1) 0 _ rfl)) (ta 1 (.int .i64 p0) (bn H fun x_5 h8 H => ?_))
 obtain ⟨l_9, h10, m11⟩ := Sl.at (h3.mono l5) (idx_get h8)
 obtain rfl := h10
 refine tx 2 (fun c' hle => ix underlying292 h3.m h8) (ta 3 (.pointer (some ⟨sb v2, so v2 + p0.toNat * 3 + 1, none⟩)) (tx 4 (fun c' hle => l1 underlying3 ((mm m11) 1 _ rfl)) (tx 5 (fun c' hle => l1 underlying21 ((mm m4) 0 _ rfl)) (ta 6 (.int .i64 (w64 q1_0)) (ta 7 (.bool (decide (x_5.2.1 ≥ (w64 q1_0)))) (ta 8 (.bool (decide (x_5.2.1 ≥ (w64 q1_0)))) (dn (nrm (W.ret ?_)))))))))
 obtain rfl := si H
 exact r1 ⟨_, c5, rfl, rfl, pt, O6, rfl⟩
def f_sort_Search__conj_Of_1 (p0 : Int) (p1_0_0 : List (Int × Int × Int)) (p1_1_0 : Int) : Option (Int) :=
 (iter (σ := Int × Int) (τ := Int) ((p0 - 0).toNat + 1) (fun s_7 =>
 if (decide (s_7.1 < s_7.2)) = true then
 (f_conj_Of_1 (w64 ((IntKind.u64.wrap (w64 (s_7.1 + s_7.2))).fdiv (2 ^ 1))) p1_0_0 p1_1_0).bind fun x_22 =>
 if (!x_22) = true then
 some (.inl ((w64 ((w64 ((IntKind.u64.wrap (w64 (s_7.1 + s_7.2))).fdiv (2 ^ 1))) + 1)), s_7.2))
 else
 some (.inl (s_7.1, (w64 ((IntKind.u64.wrap (w64 (s_7.1 + s_7.2))).fdiv (2 ^ 1)))))
 else
 some (.inr (s_7.1))) (0, p0)).bind fun o_7 =>
 some o_7
theorem c_sort_Search__conj_Of_1 {b1_0 : Nat} {b1_1 : Nat} (O0 : Own c0 G F) (p0 : Int) (p1_0_0 : List (Int × Int × Int)) (p1_1_0 : Int) {r : Int} (m1 : ∀ j u, ([v2] : List Value)[j]? = some u → Im c0 b1_0 (0 + j) u) (h3 : Sl RA3_i64 c0 v2 p1_0_0) (m4 : ∀ j u, ([.int .i32 p1_1_0] : List Value)[j]? = some u → Im c0 b1_1 (0 + j) u) (H : f_sort_Search__conj_Of_1 p0 p1_0_0 p1_1_0 = some r) :
    Calls Tryz.prog 253 #[.int .i64 p0, .func (.func 259) #[] #[.pointer (some ⟨b1_0, 0, none⟩), .pointer (some ⟨b1_1, 0, none⟩)]] c0.w (Post c0 fun c v => Own c G (F) ∧ v = .int .i64 r) := by
 unfold f_sort_Search__conj_Of_1 at H
 refine en func253 rfl rfl (sr (va (.int .i64 0) (wln (sr (va (.int .i64 p0) (va (.int .i64 0) (va (.int .i64 p0) (wln (W.seq (W.block (bn H fun o_7 h5 H6 => lp h5 (fun s_7 => Jn c0 fun c l => Own c G (F) ∧ l = [(1, .func (.func 259) #[] #[.pointer (some ⟨b1_0, 0, none⟩), .pointer (some ⟨b1_1, 0, none⟩)]), (5, .int .i64 s_7.1), (6, .int .i64 s_7.2)]) (fun o_7_ ex e w => ex = .exit 0 ∧ (Jn c0 fun c l => Own c G (F) ∧ l = [(5, .int .i64 o_7_)]) e w) ?_ ?_ ?_)))))))))))
 ·clear H6 h5
  intro s_7 xx_ ee_ ww_ H
  revert ee_ ww_
  rintro e_ w_ ⟨c7, g8, _, rfl, l7, rfl, O9, rfl⟩
  refine W.seq (sr (va (.int .i64 s_7.1) (va (.int .i64 s_7.2) (va (.bool (decide (s_7.1 < s_7.2))) (wln (cn H (fun h13 H => ?_) (fun h13 H => ?_)))))))
  ·refine W.skip (nrm (W.block (sr (va (.int .i64 s_7.1) (va (.int .i64 s_7.2) (va (.int .i64 (w64 (s_7.1 + s_7.2))) (va (.int .u64 (IntKind.u64.wrap (w64 (s_7.1 + s_7.2)))) (va (.int .u64 ((IntKind.u64.wrap (w64 (s_7.1 + s_7.2))).fdiv (2 ^ 1))) (va (.int .i64 (w64 ((IntKind.u64.wrap (w64 (s_7.1 + s_7.2))).fdiv (2 ^ 1)))) (va (.int .i64 (w64 ((IntKind.u64.wrap (w64 (s_7.1 + s_7.2))).fdiv (2 ^ 1)))) (wln (sr (va (.func (.func 259) #[] #[.pointer (some ⟨b1_0, 0, none⟩), .pointer (some ⟨b1_1, 0, none⟩)]) (va (.int .i64 (w64 ((IntKind.u64.wrap (w64 (s_7.1 + s_7.2))).fdiv (2 ^ 1)))) (bn H fun x_22 h14 H => cl (c_conj_Of_1 O9 (w64 ((IntKind.u64.wrap (w64 (s_7.1 + s_7.2))).fdiv (2 ^ 1))) p1_0_0 p1_1_0 (mm m1) h3.m (mm m4) h14) ?_)))))))))))))))
   rintro v20 c19 l19 ⟨O16, rfl⟩
   refine va (.bool (!x_22)) (wln (cn H (fun h21 H => ?_) (fun h21 H => ?_)))
   ·refine W.region (va (.int .i64 (w64 ((IntKind.u64.wrap (w64 (s_7.1 + s_7.2))).fdiv (2 ^ 1)))) (va (.int .i64 (w64 ((w64 ((IntKind.u64.wrap (w64 (s_7.1 + s_7.2))).fdiv (2 ^ 1))) + 1))) (va (.int .i64 (w64 ((w64 ((IntKind.u64.wrap (w64 (s_7.1 + s_7.2))).fdiv (2 ^ 1))) + 1))) (WL.nil (bkn ?_)))))
    obtain rfl := si H
    exact ⟨_, rfl, ⟨c19, _, _, rfl, pt, us, O16, rfl⟩⟩
   refine W.region (va (.int .i64 (w64 ((IntKind.u64.wrap (w64 (s_7.1 + s_7.2))).fdiv (2 ^ 1)))) (va (.int .i64 (w64 ((IntKind.u64.wrap (w64 (s_7.1 + s_7.2))).fdiv (2 ^ 1)))) (WL.nil (bkn ?_))))
   obtain rfl := si H
   exact ⟨_, rfl, ⟨c19, _, _, rfl, pt, us, O16, rfl⟩⟩
  refine W.exit (thx ?_)
  obtain rfl := si H
  exact ⟨_, rfl, rfl, ⟨c7, _, _, rfl, pt, us, O9, rfl⟩⟩
 ·exact ⟨c0, _, _, rfl, pt, us, O0, rfl⟩
 rintro _ e_ w_ ⟨rfl, c22, g23, _, rfl, l22, rfl, O24, rfl⟩
 refine bke (nrm (sr (va (.int .i64 o_7) (va (.int .i64 o_7) (wln (W.ret ?_))))))
 obtain rfl := si H6
 exact r1 ⟨_, c22, rfl, rfl, pt, O24, rfl⟩
def t_conj_table_53 : List (Int × Int × Int) := [(768, 879, 3), (1155, 1159, 3), (1425, 1469, 3), (1552, 1562, 3), (1611, 1631, 3), (2325, 2361, 1), (2364, 2364, 3), (2381, 2381, 2), (2385, 2388, 3), (2392, 2399, 1), (2424, 2431, 1), (2453, 2472, 1), (2474, 2480, 1), (2482, 2482, 1), (2486, 2489, 1), (2492, 2492, 3), (2509, 2509, 2), (2524, 2525, 1), (2527, 2527, 1), (2544, 2545, 1), (2709, 2728, 1), (2730, 2736, 1), (2738, 2739, 1), (2741, 2745, 1), (2748, 2748, 3), (2765, 2765, 2), (2809, 2809, 1), (2837, 2856, 1), (2858, 2864, 1), (2866, 2867, 1), (2869, 2873, 1), (2876, 2876, 3), (2893, 2893, 2), (2908, 2909, 1), (2911, 2911, 1), (2929, 2929, 1), (3093, 3112, 1), (3114, 3129, 1), (3132, 3132, 3), (3149, 3149, 2), (3160, 3162, 1), (3349, 3386, 1), (3405, 3405, 2), (6832, 6845, 3), (7616, 7679, 3), (8205, 8205, 3), (8400, 8412, 3), (12330, 12335, 3), (12441, 12442, 3), (65056, 65071, 3)]
def f_conj_table  : Option (List (Int × Int × Int)) :=
 some t_conj_table_53
theorem c_conj_table (O0 : Own c0 G F) {r : List (Int × Int × Int)} (H : f_conj_table  = some r) :
    Calls Tryz.prog 258 #[] c0.w (Post c0 fun c v => ∃ y1 y2, Own c G (es true RA3_i64 y1 295 y2 r :: F) ∧ v = y1 ∧ OA RA3_i64 c y1 y2 r) := by
 unfold f_conj_table at H
 refine en func258 rfl rfl (sr (va (.slice none 0 0) (wln (sr (va (.agg #[.int .i64 768, .int .i64 879, .int .i64 3]) (va (.agg #[.int .i64 1155, .int .i64 1159, .int .i64 3]) (va (.agg #[.int .i64 1425, .int .i64 1469, .int .i64 3]) (va (.agg #[.int .i64 1552, .int .i64 1562, .int .i64 3]) (va (.agg #[.int .i64 1611, .int .i64 1631, .int .i64 3]) (va (.agg #[.int .i64 2325, .int .i64 2361, .int .i64 1]) (va (.agg #[.int .i64 2364, .int .i64 2364, .int .i64 3]) (va (.agg #[.int .i64 2381, .int .i64 2381, .int .i64 2]) (va (.agg #[.int .i64 2385, .int .i64 2388, .int .i64 3]) (va (.agg #[.int .i64 2392, .int .i64 2399, .int .i64 1]) (va (.agg #[.int .i64 2424, .int .i64 2431, .int .i64 1]) (va (.agg #[.int .i64 2453, .int .i64 2472, .int .i64 1]) (va (.agg #[.int .i64 2474, .int .i64 2480, .int .i64 1]) (va (.agg #[.int .i64 2482, .int .i64 2482, .int .i64 1]) (va (.agg #[.int .i64 2486, .int .i64 2489, .int .i64 1]) (va (.agg #[.int .i64 2492, .int .i64 2492, .int .i64 3]) (va (.agg #[.int .i64 2509, .int .i64 2509, .int .i64 2]) (va (.agg #[.int .i64 2524, .int .i64 2525, .int .i64 1]) (va (.agg #[.int .i64 2527, .int .i64 2527, .int .i64 1]) (va (.agg #[.int .i64 2544, .int .i64 2545, .int .i64 1]) (va (.agg #[.int .i64 2709, .int .i64 2728, .int .i64 1]) (va (.agg #[.int .i64 2730, .int .i64 2736, .int .i64 1]) (va (.agg #[.int .i64 2738, .int .i64 2739, .int .i64 1]) (va (.agg #[.int .i64 2741, .int .i64 2745, .int .i64 1]) (va (.agg #[.int .i64 2748, .int .i64 2748, .int .i64 3]) (va (.agg #[.int .i64 2765, .int .i64 2765, .int .i64 2]) (va (.agg #[.int .i64 2809, .int .i64 2809, .int .i64 1]) (va (.agg #[.int .i64 2837, .int .i64 2856, .int .i64 1]) (va (.agg #[.int .i64 2858, .int .i64 2864, .int .i64 1]) (va (.agg #[.int .i64 2866, .int .i64 2867, .int .i64 1]) (va (.agg #[.int .i64 2869, .int .i64 2873, .int .i64 1]) (va (.agg #[.int .i64 2876, .int .i64 2876, .int .i64 3]) (va (.agg #[.int .i64 2893, .int .i64 2893, .int .i64 2]) (va (.agg #[.int .i64 2908, .int .i64 2909, .int .i64 1]) (va (.agg #[.int .i64 2911, .int .i64 2911, .int .i64 1]) (va (.agg #[.int .i64 2929, .int .i64 2929, .int .i64 1]) (va (.agg #[.int .i64 3093, .int .i64 3112, .int .i64 1]) (va (.agg #[.int .i64 3114, .int .i64 3129, .int .i64 1]) (va (.agg #[.int .i64 3132, .int .i64 3132, .int .i64 3]) (va (.agg #[.int .i64 3149, .int .i64 3149, .int .i64 2]) (va (.agg #[.int .i64 3160, .int .i64 3162, .int .i64 1]) (va (.agg #[.int .i64 3349, .int .i64 3386, .int .i64 1]) (va (.agg #[.int .i64 3405, .int .i64 3405, .int .i64 2]) (va (.agg #[.int .i64 6832, .int .i64 6845, .int .i64 3]) (va (.agg #[.int .i64 7616, .int .i64 7679, .int .i64 3]) (va (.agg #[.int .i64 8205, .int .i64 8205, .int .i64 3]) (va (.agg #[.int .i64 8400, .int .i64 8412, .int .i64 3]) (va (.agg #[.int .i64 12330, .int .i64 12335, .int .i64 3]) (va (.agg #[.int .i64 12441, .int .i64 12442, .int .i64 3]) (va (.agg #[.int .i64 65056, .int .i64 65071, .int .i64 3]) (me (Own.sl (R := RA3_i64) (E := 295) (ls := t_conj_table_53.map (fun x => [Value.int .i64 x.1, Value.int .i64 x.2.1, Value.int .i64 x.2.2])) (vs := (t_conj_table_53.map (fun x => [Value.int .i64 x.1, Value.int .i64 x.2.1, Value.int .i64 x.2.2])).flatten) (xs := t_conj_table_53) true O0 (Nat.succ_pos _) rfl (AllR.map _ (fun _ => rfl) _) (by kernel_rfl) (by kernel_rfl)) ?_)))))))))))))))))))))))))))))))))))))))))))))))))))))))
 rintro v5 c4 l4 ⟨u2, O1, h3⟩
 refine va (v5) (wln (W.ret ?_))
 obtain rfl := si H
 exact r1 ⟨_, c4, rfl, rfl, pt, v5, u2, O1, rfl, h3⟩
def f_conj_Of (p0 : Int) : Option (Int) :=
 (f_conj_table).bind fun x_4 =>
 (f_sort_Search__conj_Of_1 (x_4.length : Int) x_4 p0).bind fun x_11 =>
 (orE (x_11 == (x_4.length : Int)) ((idx x_4 x_11).bind fun x_22 =>
 some (decide (x_22.1 > (w64 p0))))).bind fun d_18 =>
 if d_18 = true then
 some 0
 else
 (idx x_4 x_11).bind fun x_33 =>
 some x_33.2.2
theorem c_conj_Of (O0 : Own c0 G F) (p0 : Int) {r : Int} (H : f_conj_Of p0 = some r) :
    Calls Tryz.prog 229 #[.int .i32 p0] c0.w (Post c0 fun c v => Own c G (F) ∧ v = .int .i64 r) := by
 unfold f_conj_Of at H
 refine en func229 rfl rfl (sr (me (bx 21 [.int .i32 p0] O0) ?_))
 rintro v5 c4 l4 ⟨b1, rfl, O2, m3⟩
 refine va (.int .i64 0) (wln (sr (bn H fun x_4 h6 H => cl (c_conj_table O2 h6) ?_)))
 rintro v7 c14 l14 ⟨_, u8, O11, rfl, h9⟩
 refine me (al 292 [.slice none 0 0] O11) ?_
 rintro v19 c18 l18 ⟨b16, rfl, O17⟩
 obtain ⟨a20, a21, a22, rfl⟩ := ((h9.mono l18)).form
 refine md (sC 292 0 (.slice a20 a21 a22) [.slice a20 a21 a22] 0 O17 ⟨h9.m.one, trivial⟩) ?_
 rintro c24 l24 O23
 refine wln (sr (vx (le1 0 underlying292 (O23.on 0 rfl)) (vx (lnO 3 underlying292 h9.m) ?_)))
 obtain ⟨c27, h28, l27, O25, h26⟩ := O23.frz 1 rfl (h9.mono (l18.trans l24))
 refine WL.gh h28 ?_
 obtain ⟨c31, h32, l31, O29, m30⟩ := Own.frzB 0 O25 rfl
 refine WL.gh h32 ?_
 have O33 := O29.sD 2 [1]
 refine va (.func (.func 259) #[] #[.pointer (some ⟨b16, 0, none⟩), .pointer (some ⟨b1, 0, none⟩)]) (bn H fun x_11 h34 H => cl (c_sort_Search__conj_Of_1 O33 (x_4.length : Int) x_4 p0 m30 h26.m (mm m3) h34) ?_)
 rintro v40 c39 l39 ⟨O36, rfl⟩
 refine va (.int .i64 x_11) (wln (W.seq (W.seq (bn H fun d_18 h41 H => W.join (Jn c39 fun c l => Own c G (es false RA3_i64 (.slice a20 a21 a22) 295 u8 x_4 :: F) ∧ l = [(3, .pointer (some ⟨b16, 0, none⟩)), (4, .int .i64 x_11), (23, .bool d_18)]) ?_ ?_))))
 ·clear H
  refine rD [] (Kp G0 []) O36 ?_
  intro c42 l42 O43
  have p44 : Kp G0 [] c42 := Kp.nil0
  refine ta 0 (.int .i64 x_11) (tx 1 (fun c' hle => l1 underlying292 ((mm m30) 0 _ rfl)) (tx 2 (fun c' hle => ln 3 underlying292 h26.m) (ta 3 (.bool (x_11 == (x_4.length : Int))) ?_)))
  rcases bo (x_11 == (x_4.length : Int)) with h45 | h45
  ·obtain rfl := orT h45 h41
   exact AC.takeb 4 h45 rfl (by kernel_rfl) (by kernel_rfl) (fun c' hle => (by kernel_rfl)) (tp 5 (tp 6 (tp 7 (tp 8 (tp 9 (tp 10 (tp 11 (tp 12 (ta 13 (.bool true) (dn (nrm ⟨c42, _, _, rfl, pt, us, O43, rfl⟩)))))))))))
  have H46 := orF h45 h41
  refine bn H46 fun x_22 h47 H46 => AC.takeb 4 h45 rfl (by kernel_rfl) (by kernel_rfl) (fun c' hle => (by kernel_rfl)) (tx 5 (fun c' hle => l1 underlying292 ((mm m30) 0 _ rfl)) (ta 6 (.int .i64 x_11) ?_))
  obtain ⟨l_48, h49, m50⟩ := Sl.at (h26.mono (l31.trans (l39.trans l42))) (idx_get h47)
  obtain rfl := h49
  refine tx 7 (fun c' hle => ix underlying292 h26.m h47) (ta 8 (.pointer (some ⟨sb (.slice a20 a21 a22), so (.slice a20 a21 a22) + x_11.toNat * 3, none⟩)) (tx 9 (fun c' hle => l1 underlying3 ((mm m50) 0 _ rfl)) (tx 10 (fun c' hle => l1 underlying21 ((mm m3) 0 _ rfl)) (ta 11 (.int .i64 (w64 p0)) (ta 12 (.bool (decide (x_22.1 > (w64 p0)))) ?_)))))
  obtain rfl := si H46
  exact ta 13 (.bool (decide (x_22.1 > (w64 p0)))) (dn (nrm ⟨c42, _, _, rfl, pt, us, O43, rfl⟩))
 rintro e_ w_ ⟨c51, g52, _, rfl, l51, rfl, O53, rfl⟩
 refine nrm (cn H (fun h57 H => ?_) (fun h57 H => ?_))
 ·refine sr (va (.int .i64 0) (wln (W.ret (thr ?_))))
  obtain rfl := si H
  have O58 := O53.sD 1 []
  exact r1 ⟨_, c51, rfl, rfl, pt, O58, rfl⟩
 refine W.skip (nrm (sr (vx (l1 underlying292 ((mm m30) 0 _ rfl)) (va (.int .i64 x_11) (bn H fun x_33 h59 H => ?_)))))
 obtain ⟨l_60, h61, m62⟩ := Sl.at (h26.mono (l31.trans (l39.trans l51))) (idx_get h59)
 obtain rfl := h61
 refine vx (ix underlying292 h26.m h59) (va (.pointer (some ⟨sb (.slice a20 a21 a22), so (.slice a20 a21 a22) + x_11.toNat * 3 + 2, none⟩)) (vx (l1 underlying3 (m62 2 _ rfl)) (va (.int .i64 x_33.2.2) (wln (W.ret ?_)))))
 obtain rfl := si H
 have O63 := O53.sD 1 []
 exact r1 ⟨_, c51, rfl, rfl, pt, O63, rfl⟩
def f_east_Of_1 (p0 : Int) (q0_0 : List (Int × Int × Int)) (q1_0 : Int) : Option (Bool) :=
 (idx q0_0 p0).bind fun x_5 =>
 some (decide (x_5.2.1 ≥ (w64 q1_0)))
theorem c_east_Of_1 {bc0 : Nat} {bc1 : Nat} (O0 : Own c0 G F) (p0 : Int) (q0_0 : List (Int × Int × Int)) (q1_0 : Int) {r : Bool} (m1 : ∀ j u, ([v2] : List Value)[j]? = some u → Im c0 bc0 (0 + j) u) (h3 : Sl RA3_i64 c0 v2 q0_0) (m4 : ∀ j u, ([.int .i32 q1_0] : List Value)[j]? = some u → Im c0 bc1 (0 + j) u) (H : f_east_Of_1 p0 q0_0 q1_0 = some r) :
    Calls Tryz.prog 261 #[.int .i64 p0, .pointer (some ⟨bc0, 0, none⟩), .pointer (some ⟨bc1, 0, none⟩)] c0.w (Post c0 fun c v => Own c G (F) ∧ v = .bool r) := by
 unfold f_east_Of_1 at H
 refine en func261 rfl rfl (sr (va (.bool false) (wln (W.seq (rD [] (Kp G0 []) O0 ?_)))))
 intro c5 l5 O6
 have p7 : Kp G0 [] c5 := Kp.nil0
 refine tx 0 (fun c' hle => l1 underlying292 ((mm m1) 0 _ rfl)) (ta 1 (.int .i64 p0) (bn H fun x_5 h8 H => ?_))
 obtain ⟨l_9, h10, m11⟩ := Sl.at (h3.mono l5) (idx_get h8)
 obtain rfl := h10
 refine tx 2 (fun c' hle => ix underlying292 h3.m h8) (ta 3 (.pointer (some ⟨sb v2, so v2 + p0.toNat * 3 + 1, none⟩)) (tx 4 (fun c' hle => l1 underlying3 ((mm m11) 1 _ rfl)) (tx 5 (fun c' hle => l1 underlying21 ((mm m4) 0 _ rfl)) (ta 6 (.int .i64 (w64 q1_0)) (ta 7 (.bool (decide (x_5.2.1 ≥ (w64 q1_0)))) (ta 8 (.bool (decide (x_5.2.1 ≥ (w64 q1_0)))) (dn (nrm (W.ret ?_)))))))))
 obtain rfl := si H
 exact r1 ⟨_, c5, rfl, rfl, pt, O6, rfl⟩
def f_sort_Search__east_Of_1 (p0 : Int) (p1_0_0 : List (Int × Int × Int)) (p1_1_0 : Int) : Option (Int) :=
 (iter (σ := Int × Int) (τ := Int) ((p0 - 0).toNat + 1) (fun s_7 =>
 if (decide (s_7.1 < s_7.2)) = true then
 (f_east_Of_1 (w64 ((IntKind.u64.wrap (w64 (s_7.1 + s_7.2))).fdiv (2 ^ 1))) p1_0_0 p1_1_0).bind fun x_22 =>
 if (!x_22) = true then
 some (.inl ((w64 ((w64 ((IntKind.u64.wrap (w64 (s_7.1 + s_7.2))).fdiv (2 ^ 1))) + 1)), s_7.2))
 else
 some (.inl (s_7.1, (w64 ((IntKind.u64.wrap (w64 (s_7.1 + s_7.2))).fdiv (2 ^ 1)))))
 else
 some (.inr (s_7.1))) (0, p0)).bind fun o_7 =>
 some o_7
theorem c_sort_Search__east_Of_1 {b1_0 : Nat} {b1_1 : Nat} (O0 : Own c0 G F) (p0 : Int) (p1_0_0 : List (Int × Int × Int)) (p1_1_0 : Int) {r : Int} (m1 : ∀ j u, ([v2] : List Value)[j]? = some u → Im c0 b1_0 (0 + j) u) (h3 : Sl RA3_i64 c0 v2 p1_0_0) (m4 : ∀ j u, ([.int .i32 p1_1_0] : List Value)[j]? = some u → Im c0 b1_1 (0 + j) u) (H : f_sort_Search__east_Of_1 p0 p1_0_0 p1_1_0 = some r) :
    Calls Tryz.prog 253 #[.int .i64 p0, .func (.func 261) #[] #[.pointer (some ⟨b1_0, 0, none⟩), .pointer (some ⟨b1_1, 0, none⟩)]] c0.w (Post c0 fun c v => Own c G (F) ∧ v = .int .i64 r) := by
 unfold f_sort_Search__east_Of_1 at H
 refine en func253 rfl rfl (sr (va (.int .i64 0) (wln (sr (va (.int .i64 p0) (va (.int .i64 0) (va (.int .i64 p0) (wln (W.seq (W.block (bn H fun o_7 h5 H6 => lp h5 (fun s_7 => Jn c0 fun c l => Own c G (F) ∧ l = [(1, .func (.func 261) #[] #[.pointer (some ⟨b1_0, 0, none⟩), .pointer (some ⟨b1_1, 0, none⟩)]), (5, .int .i64 s_7.1), (6, .int .i64 s_7.2)]) (fun o_7_ ex e w => ex = .exit 0 ∧ (Jn c0 fun c l => Own c G (F) ∧ l = [(5, .int .i64 o_7_)]) e w) ?_ ?_ ?_)))))))))))
 ·clear H6 h5
  intro s_7 xx_ ee_ ww_ H
  revert ee_ ww_
  rintro e_ w_ ⟨c7, g8, _, rfl, l7, rfl, O9, rfl⟩
  refine W.seq (sr (va (.int .i64 s_7.1) (va (.int .i64 s_7.2) (va (.bool (decide (s_7.1 < s_7.2))) (wln (cn H (fun h13 H => ?_) (fun h13 H => ?_)))))))
  ·refine W.skip (nrm (W.block (sr (va (.int .i64 s_7.1) (va (.int .i64 s_7.2) (va (.int .i64 (w64 (s_7.1 + s_7.2))) (va (.int .u64 (IntKind.u64.wrap (w64 (s_7.1 + s_7.2)))) (va (.int .u64 ((IntKind.u64.wrap (w64 (s_7.1 + s_7.2))).fdiv (2 ^ 1))) (va (.int .i64 (w64 ((IntKind.u64.wrap (w64 (s_7.1 + s_7.2))).fdiv (2 ^ 1)))) (va (.int .i64 (w64 ((IntKind.u64.wrap (w64 (s_7.1 + s_7.2))).fdiv (2 ^ 1)))) (wln (sr (va (.func (.func 261) #[] #[.pointer (some ⟨b1_0, 0, none⟩), .pointer (some ⟨b1_1, 0, none⟩)]) (va (.int .i64 (w64 ((IntKind.u64.wrap (w64 (s_7.1 + s_7.2))).fdiv (2 ^ 1)))) (bn H fun x_22 h14 H => cl (c_east_Of_1 O9 (w64 ((IntKind.u64.wrap (w64 (s_7.1 + s_7.2))).fdiv (2 ^ 1))) p1_0_0 p1_1_0 (mm m1) h3.m (mm m4) h14) ?_)))))))))))))))
   rintro v20 c19 l19 ⟨O16, rfl⟩
   refine va (.bool (!x_22)) (wln (cn H (fun h21 H => ?_) (fun h21 H => ?_)))
   ·refine W.region (va (.int .i64 (w64 ((IntKind.u64.wrap (w64 (s_7.1 + s_7.2))).fdiv (2 ^ 1)))) (va (.int .i64 (w64 ((w64 ((IntKind.u64.wrap (w64 (s_7.1 + s_7.2))).fdiv (2 ^ 1))) + 1))) (va (.int .i64 (w64 ((w64 ((IntKind.u64.wrap (w64 (s_7.1 + s_7.2))).fdiv (2 ^ 1))) + 1))) (WL.nil (bkn ?_)))))
    obtain rfl := si H
    exact ⟨_, rfl, ⟨c19, _, _, rfl, pt, us, O16, rfl⟩⟩
   refine W.region (va (.int .i64 (w64 ((IntKind.u64.wrap (w64 (s_7.1 + s_7.2))).fdiv (2 ^ 1)))) (va (.int .i64 (w64 ((IntKind.u64.wrap (w64 (s_7.1 + s_7.2))).fdiv (2 ^ 1)))) (WL.nil (bkn ?_))))
   obtain rfl := si H
   exact ⟨_, rfl, ⟨c19, _, _, rfl, pt, us, O16, rfl⟩⟩
  refine W.exit (thx ?_)
  obtain rfl := si H
  exact ⟨_, rfl, rfl, ⟨c7, _, _, rfl, pt, us, O9, rfl⟩⟩
 ·exact ⟨c0, _, _, rfl, pt, us, O0, rfl⟩
 rintro _ e_ w_ ⟨rfl, c22, g23, _, rfl, l22, rfl, O24, rfl⟩
 refine bke (nrm (sr (va (.int .i64 o_7) (va (.int .i64 o_7) (wln (W.ret ?_))))))
 obtain rfl := si H6
 exact r1 ⟨_, c22, rfl, rfl, pt, O24, rfl⟩
def t_east_table_122 : List (Int × Int × Int) := [(4352, 4447, 1), (8361, 8361, 3), (8986, 8987, 1), (9001, 9002, 1), (9193, 9196, 1), (9200, 9200, 1), (9203, 9203, 1), (9725, 9726, 1), (9748, 9749, 1), (9800, 9811, 1), (9855, 9855, 1), (9875, 9875, 1), (9889, 9889, 1), (9898, 9899, 1), (9917, 9918, 1), (9924, 9925, 1), (9934, 9934, 1), (9940, 9940, 1), (9962, 9962, 1), (9970, 9971, 1), (9973, 9973, 1), (9978, 9978, 1), (9981, 9981, 1), (9989, 9989, 1), (9994, 9995, 1), (10024, 10024, 1), (10060, 10060, 1), (10062, 10062, 1), (10067, 10069, 1), (10071, 10071, 1), (10133, 10135, 1), (10160, 10160, 1), (10175, 10175, 1), (11035, 11036, 1), (11088, 11088, 1), (11093, 11093, 1), (11904, 11929, 1), (11931, 12019, 1), (12032, 12245, 1), (12272, 12287, 1), (12288, 12288, 2), (12289, 12350, 1), (12353, 12438, 1), (12441, 12543, 1), (12549, 12591, 1), (12593, 12686, 1), (12688, 12771, 1), (12784, 12830, 1), (12832, 12871, 1), (12880, 19903, 1), (19968, 42124, 1), (42128, 42182, 1), (43360, 43388, 1), (44032, 55203, 1), (63744, 64255, 1), (65040, 65049, 1), (65072, 65106, 1), (65108, 65126, 1), (65128, 65131, 1), (65281, 65376, 2), (65377, 65470, 3), (65474, 65479, 3), (65482, 65487, 3), (65490, 65495, 3), (65498, 65500, 3), (65504, 65510, 2), (65512, 65518, 3), (94176, 94180, 1), (94208, 100343, 1), (100352, 101589, 1), (110592, 110882, 1), (126980, 126980, 1), (127183, 127183, 1), (127374, 127374, 1), (127377, 127386, 1), (127488, 127490, 1), (127504, 127547, 1), (127552, 127560, 1), (127568, 127569, 1), (127584, 127589, 1), (127744, 127776, 1), (127789, 127797, 1), (127799, 127868, 1), (127870, 127891, 1), (127904, 127946, 1), (127951, 127955, 1), (127968, 127984, 1), (127988, 127988, 1), (127992, 128062, 1), (128064, 128064, 1), (128066, 128252, 1), (128255, 128317, 1), (128331, 128334, 1), (128336, 128359, 1), (128378, 128378, 1), (128405, 128406, 1), (128420, 128420, 1), (128507, 128591, 1), (128640, 128709, 1), (128716, 128716, 1), (128720, 128722, 1), (128725, 128727, 1), (128732, 128735, 1), (128747, 128748, 1), (128756, 128764, 1), (128992, 129003, 1), (129008, 129008, 1), (129292, 129338, 1), (129340, 129349, 1), (129351, 129535, 1), (129648, 129660, 1), (129664, 129672, 1), (129680, 129725, 1), (129727, 129733, 1), (129742, 129755, 1), (129760, 129768, 1), (129776, 129784, 1), (131072, 196605, 1), (196608, 262141, 1)]
def f_east_table  : Option (List (Int × Int × Int)) :=
 some t_east_table_122
theorem c_east_table (O0 : Own c0 G F) {r : List (Int × Int × Int)} (H : f_east_table  = some r) :
    Calls Tryz.prog 260 #[] c0.w (Post c0 fun c v => ∃ y1 y2, Own c G (es true RA3_i64 y1 295 y2 r :: F) ∧ v = y1 ∧ OA RA3_i64 c y1 y2 r) := by
 unfold f_east_table at H
 refine en func260 rfl rfl (sr (va (.slice none 0 0) (wln (sr (va (.agg #[.int .i64 4352, .int .i64 4447, .int .i64 1]) (va (.agg #[.int .i64 8361, .int .i64 8361, .int .i64 3]) (va (.agg #[.int .i64 8986, .int .i64 8987, .int .i64 1]) (va (.agg #[.int .i64 9001, .int .i64 9002, .int .i64 1]) (va (.agg #[.int .i64 9193, .int .i64 9196, .int .i64 1]) (va (.agg #[.int .i64 9200, .int .i64 9200, .int .i64 1]) (va (.agg #[.int .i64 9203, .int .i64 9203, .int .i64 1]) (va (.agg #[.int .i64 9725, .int .i64 9726, .int .i64 1]) (va (.agg #[.int .i64 9748, .int .i64 9749, .int .i64 1]) (va (.agg #[.int .i64 9800, .int .i64 9811, .int .i64 1]) (va (.agg #[.int .i64 9855, .int .i64 9855, .int .i64 1]) (va (.agg #[.int .i64 9875, .int .i64 9875, .int .i64 1]) (va (.agg #[.int .i64 9889, .int .i64 9889, .int .i64 1]) (va (.agg #[.int .i64 9898, .int .i64 9899, .int .i64 1]) (va (.agg #[.int .i64 9917, .int .i64 9918, .int .i64 1]) (va (.agg #[.int .i64 9924, .int .i64 9925, .int .i64 1]) (va (.agg #[.int .i64 9934, .int .i64 9934, .int .i64 1]) (va (.agg #[.int .i64 9940, .int .i64 9940, .int .i64 1]) (va (.agg #[.int .i64 9962, .int .i64 9962, .int .i64 1]) (va (.agg #[.int .i64 9970, .int .i64 9971, .int .i64 1]) (va (.agg #[.int .i64 9973, .int .i64 9973, .int .i64 1]) (va (.agg #[.int .i64 9978, .int .i64 9978, .int .i64 1]) (va (.agg #[.int .i64 9981, .int .i64 9981, .int .i64 1]) (va (.agg #[.int .i64 9989, .int .i64 9989, .int .i64 1]) (va (.agg #[.int .i64 9994, .int .i64 9995, .int .i64 1]) (va (.agg #[.int .i64 10024, .int .i64 10024, .int .i64 1]) (va (.agg #[.int .i64 10060, .int .i64 10060, .int .i64 1]) (va (.agg #[.int .i64 10062, .int .i64 10062, .int .i64 1]) (va (.agg #[.int .i64 10067, .int .i64 10069, .int .i64 1]) (va (.agg #[.int .i64 10071, .int .i64 10071, .int .i64 1]) (va (.agg #[.int .i64 10133, .int .i64 10135, .int .i64 1]) (va (.agg #[.int .i64 10160, .int .i64 10160, .int .i64 1]) (va (.agg #[.int .i64 10175, .int .i64 10175, .int .i64 1]) (va (.agg #[.int .i64 11035, .int .i64 11036, .int .i64 1]) (va (.agg #[.int .i64 11088, .int .i64 11088, .int .i64 1]) (va (.agg #[.int .i64 11093, .int .i64 11093, .int .i64 1]) (va (.agg #[.int .i64 11904, .int .i64 11929, .int .i64 1]) (va (.agg #[.int .i64 11931, .int .i64 12019, .int .i64 1]) (va (.agg #[.int .i64 12032, .int .i64 12245, .int .i64 1]) (va (.agg #[.int .i64 12272, .int .i64 12287, .int .i64 1]) (va (.agg #[.int .i64 12288, .int .i64 12288, .int .i64 2]) (va (.agg #[.int .i64 12289, .int .i64 12350, .int .i64 1]) (va (.agg #[.int .i64 12353, .int .i64 12438, .int .i64 1]) (va (.agg #[.int .i64 12441, .int .i64 12543, .int .i64 1]) (va (.agg #[.int .i64 12549, .int .i64 12591, .int .i64 1]) (va (.agg #[.int .i64 12593, .int .i64 12686, .int .i64 1]) (va (.agg #[.int .i64 12688, .int .i64 12771, .int .i64 1]) (va (.agg #[.int .i64 12784, .int .i64 12830, .int .i64 1]) (va (.agg #[.int .i64 12832, .int .i64 12871, .int .i64 1]) (va (.agg #[.int .i64 12880, .int .i64 19903, .int .i64 1]) (va (.agg #[.int .i64 19968, .int .i64 42124, .int .i64 1]) (va (.agg #[.int .i64 42128, .int .i64 42182, .int .i64 1]) (va (.agg #[.int .i64 43360, .int .i64 43388, .int .i64 1]) (va (.agg #[.int .i64 44032, .int .i64 55203, .int .i64 1]) (va (.agg #[.int .i64 63744, .int .i64 64255, .int .i64 1]) (va (.agg #[.int .i64 65040, .int .i64 65049, .int .i64 1]) (va (.agg #[.int .i64 65072, .int .i64 65106, .int .i64 1]) (va (.agg #[.int .i64 65108, .int .i64 65126, .int .i64 1]) (va (.agg #[.int .i64 65128, .int .i64 65131, .int .i64 1]) (va (.agg #[.int .i64 65281, .int .i64 65376, .int .i64 2]) (va (.agg #[.int .i64 65377, .int .i64 65470, .int .i64 3]) (va (.agg #[.int .i64 65474, .int .i64 65479, .int .i64 3]) (va (.agg #[.int .i64 65482, .int .i64 65487, .int .i64 3]) (va (.agg #[.int .i64 65490, .int .i64 65495, .int .i64 3]) (va (.agg #[.int .i64 65498, .int .i64 65500, .int .i64 3]) (va (.agg #[.int .i64 65504, .int .i64 65510, .int .i64 2]) (va (.agg #[.int .i64 65512, .int .i64 65518, .int .i64 3]) (va (.agg #[.int .i64 94176, .int .i64 94180, .int .i64 1]) (va (.agg #[.int .i64 94208, .int .i64 100343, .int .i64 1]) (va (.agg #[.int .i64 100352, .int .i64 101589, .int .i64 1]) (va (.agg #[.int .i64 110592, .int .i64 110882, .int .i64 1]) (va (.agg #[.int .i64 126980, .int .i64 126980, .int .i64 1]) (va (.agg #[.int .i64 127183, .int .i64 127183, .int .i64 1]) (va (.agg #[.int .i64 127374, .int .i64 127374, .int .i64 1]) (va (.agg #[.int .i64 127377, .int .i64 127386, .int .i64 1]) (va (.agg #[.int .i64 127488, .int .i64 127490, .int .i64 1]) (va (.agg #[.int .i64 127504, .int .i64 127547, .int .i64 1]) (va (.agg #[.int .i64 127552, .int .i64 127560, .int .i64 1]) (va (.agg #[.int .i64 127568, .int .i64 127569, .int .i64 1]) (va (.agg #[.int .i64 127584, .int .i64 127589, .int .i64 1]) (va (.agg #[.int .i64 127744, .int .i64 127776, .int .i64 1]) (va (.agg #[.int .i64 127789, .int .i64 127797, .int .i64 1]) (va (.agg #[.int .i64 127799, .int .i64 127868, .int .i64 1]) (va (.agg #[.int .i64 127870, .int .i64 127891, .int .i64 1]) (va (.agg #[.int .i64 127904, .int .i64 127946, .int .i64 1]) (va (.agg #[.int .i64 127951, .int .i64 127955, .int .i64 1]) (va (.agg #[.int .i64 127968, .int .i64 127984, .int .i64 1]) (va (.agg #[.int .i64 127988, .int .i64 127988, .int .i64 1]) (va (.agg #[.int .i64 127992, .int .i64 128062, .int .i64 1]) (va (.agg #[.int .i64 128064, .int .i64 128064, .int .i64 1]) (va (.agg #[.int .i64 128066, .int .i64 128252, .int .i64 1]) (va (.agg #[.int .i64 128255, .int .i64 128317, .int .i64 1]) (va (.agg #[.int .i64 128331, .int .i64 128334, .int .i64 1]) (va (.agg #[.int .i64 128336, .int .i64 128359, .int .i64 1]) (va (.agg #[.int .i64 128378, .int .i64 128378, .int .i64 1]) (va (.agg #[.int .i64 128405, .int .i64 128406, .int .i64 1]) (va (.agg #[.int .i64 128420, .int .i64 128420, .int .i64 1]) (va (.agg #[.int .i64 128507, .int .i64 128591, .int .i64 1]) (va (.agg #[.int .i64 128640, .int .i64 128709, .int .i64 1]) (va (.agg #[.int .i64 128716, .int .i64 128716, .int .i64 1]) (va (.agg #[.int .i64 128720, .int .i64 128722, .int .i64 1]) (va (.agg #[.int .i64 128725, .int .i64 128727, .int .i64 1]) (va (.agg #[.int .i64 128732, .int .i64 128735, .int .i64 1]) (va (.agg #[.int .i64 128747, .int .i64 128748, .int .i64 1]) (va (.agg #[.int .i64 128756, .int .i64 128764, .int .i64 1]) (va (.agg #[.int .i64 128992, .int .i64 129003, .int .i64 1]) (va (.agg #[.int .i64 129008, .int .i64 129008, .int .i64 1]) (va (.agg #[.int .i64 129292, .int .i64 129338, .int .i64 1]) (va (.agg #[.int .i64 129340, .int .i64 129349, .int .i64 1]) (va (.agg #[.int .i64 129351, .int .i64 129535, .int .i64 1]) (va (.agg #[.int .i64 129648, .int .i64 129660, .int .i64 1]) (va (.agg #[.int .i64 129664, .int .i64 129672, .int .i64 1]) (va (.agg #[.int .i64 129680, .int .i64 129725, .int .i64 1]) (va (.agg #[.int .i64 129727, .int .i64 129733, .int .i64 1]) (va (.agg #[.int .i64 129742, .int .i64 129755, .int .i64 1]) (va (.agg #[.int .i64 129760, .int .i64 129768, .int .i64 1]) (va (.agg #[.int .i64 129776, .int .i64 129784, .int .i64 1]) (va (.agg #[.int .i64 131072, .int .i64 196605, .int .i64 1]) (va (.agg #[.int .i64 196608, .int .i64 262141, .int .i64 1]) (me (Own.sl (R := RA3_i64) (E := 295) (ls := t_east_table_122.map (fun x => [Value.int .i64 x.1, Value.int .i64 x.2.1, Value.int .i64 x.2.2])) (vs := (t_east_table_122.map (fun x => [Value.int .i64 x.1, Value.int .i64 x.2.1, Value.int .i64 x.2.2])).flatten) (xs := t_east_table_122) true O0 (Nat.succ_pos _) rfl (AllR.map _ (fun _ => rfl) _) (by kernel_rfl) (by kernel_rfl)) ?_))))))))))))))))))))))))))))))))))))))))))))))))))))))))))))))))))))))))))))))))))))))))))))))))))))))))))))))))))))))))))))
 rintro v5 c4 l4 ⟨u2, O1, h3⟩
 refine va (v5) (wln (W.ret ?_))
 obtain rfl := si H
 exact r1 ⟨_, c4, rfl, rfl, pt, v5, u2, O1, rfl, h3⟩
def f_east_Of (p0 : Int) : Option (Int) :=
 (f_east_table).bind fun x_4 =>
 (f_sort_Search__east_Of_1 (x_4.length : Int) x_4 p0).bind fun x_11 =>
 (orE (x_11 == (x_4.length : Int)) ((idx x_4 x_11).bind fun x_22 =>
 some (decide (x_22.1 > (w64 p0))))).bind fun d_18 =>
 if d_18 = true then
 some 0
 else
 (idx x_4 x_11).bind fun x_33 =>
 some x_33.2.2
theorem c_east_Of (O0 : Own c0 G F) (p0 : Int) {r : Int} (H : f_east_Of p0 = some r) :
    Calls Tryz.prog 230 #[.int .i32 p0] c0.w (Post c0 fun c v => Own c G (F) ∧ v = .int .i64 r) := by
 unfold f_east_Of at H
 refine en func230 rfl rfl (sr (me (bx 21 [.int .i32 p0] O0) ?_))
 rintro v5 c4 l4 ⟨b1, rfl, O2, m3⟩
 refine va (.int .i64 0) (wln (sr (bn H fun x_4 h6 H => cl (c_east_table O2 h6) ?_)))
 rintro v7 c14 l14 ⟨_, u8, O11, rfl, h9⟩
 refine me (al 292 [.slice none 0 0] O11) ?_
 rintro v19 c18 l18 ⟨b16, rfl, O17⟩
 obtain ⟨a20, a21, a22, rfl⟩ := ((h9.mono l18)).form
 refine md (sC 292 0 (.slice a20 a21 a22) [.slice a20 a21 a22] 0 O17 ⟨h9.m.one, trivial⟩) ?_
 rintro c24 l24 O23
 refine wln (sr (vx (le1 0 underlying292 (O23.on 0 rfl)) (vx (lnO 3 underlying292 h9.m) ?_)))
 obtain ⟨c27, h28, l27, O25, h26⟩ := O23.frz 1 rfl (h9.mono (l18.trans l24))
 refine WL.gh h28 ?_
 obtain ⟨c31, h32, l31, O29, m30⟩ := Own.frzB 0 O25 rfl
 refine WL.gh h32 ?_
 have O33 := O29.sD 2 [1]
 refine va (.func (.func 261) #[] #[.pointer (some ⟨b16, 0, none⟩), .pointer (some ⟨b1, 0, none⟩)]) (bn H fun x_11 h34 H => cl (c_sort_Search__east_Of_1 O33 (x_4.length : Int) x_4 p0 m30 h26.m (mm m3) h34) ?_)
 rintro v40 c39 l39 ⟨O36, rfl⟩
 refine va (.int .i64 x_11) (wln (W.seq (W.seq (bn H fun d_18 h41 H => W.join (Jn c39 fun c l => Own c G (es false RA3_i64 (.slice a20 a21 a22) 295 u8 x_4 :: F) ∧ l = [(3, .pointer (some ⟨b16, 0, none⟩)), (4, .int .i64 x_11), (23, .bool d_18)]) ?_ ?_))))
 ·clear H
  refine rD [] (Kp G0 []) O36 ?_
  intro c42 l42 O43
  have p44 : Kp G0 [] c42 := Kp.nil0
  refine ta 0 (.int .i64 x_11) (tx 1 (fun c' hle => l1 underlying292 ((mm m30) 0 _ rfl)) (tx 2 (fun c' hle => ln 3 underlying292 h26.m) (ta 3 (.bool (x_11 == (x_4.length : Int))) ?_)))
  rcases bo (x_11 == (x_4.length : Int)) with h45 | h45
  ·obtain rfl := orT h45 h41
   exact AC.takeb 4 h45 rfl (by kernel_rfl) (by kernel_rfl) (fun c' hle => (by kernel_rfl)) (tp 5 (tp 6 (tp 7 (tp 8 (tp 9 (tp 10 (tp 11 (tp 12 (ta 13 (.bool true) (dn (nrm ⟨c42, _, _, rfl, pt, us, O43, rfl⟩)))))))))))
  have H46 := orF h45 h41
  refine bn H46 fun x_22 h47 H46 => AC.takeb 4 h45 rfl (by kernel_rfl) (by kernel_rfl) (fun c' hle => (by kernel_rfl)) (tx 5 (fun c' hle => l1 underlying292 ((mm m30) 0 _ rfl)) (ta 6 (.int .i64 x_11) ?_))
  obtain ⟨l_48, h49, m50⟩ := Sl.at (h26.mono (l31.trans (l39.trans l42))) (idx_get h47)
  obtain rfl := h49
  refine tx 7 (fun c' hle => ix underlying292 h26.m h47) (ta 8 (.pointer (some ⟨sb (.slice a20 a21 a22), so (.slice a20 a21 a22) + x_11.toNat * 3, none⟩)) (tx 9 (fun c' hle => l1 underlying3 ((mm m50) 0 _ rfl)) (tx 10 (fun c' hle => l1 underlying21 ((mm m3) 0 _ rfl)) (ta 11 (.int .i64 (w64 p0)) (ta 12 (.bool (decide (x_22.1 > (w64 p0)))) ?_)))))
  obtain rfl := si H46
  exact ta 13 (.bool (decide (x_22.1 > (w64 p0)))) (dn (nrm ⟨c42, _, _, rfl, pt, us, O43, rfl⟩))
 rintro e_ w_ ⟨c51, g52, _, rfl, l51, rfl, O53, rfl⟩
 refine nrm (cn H (fun h57 H => ?_) (fun h57 H => ?_))
 ·refine sr (va (.int .i64 0) (wln (W.ret (thr ?_))))
  obtain rfl := si H
  have O58 := O53.sD 1 []
  exact r1 ⟨_, c51, rfl, rfl, pt, O58, rfl⟩
 refine W.skip (nrm (sr (vx (l1 underlying292 ((mm m30) 0 _ rfl)) (va (.int .i64 x_11) (bn H fun x_33 h59 H => ?_)))))
 obtain ⟨l_60, h61, m62⟩ := Sl.at (h26.mono (l31.trans (l39.trans l51))) (idx_get h59)
 obtain rfl := h61
 refine vx (ix underlying292 h26.m h59) (va (.pointer (some ⟨sb (.slice a20 a21 a22), so (.slice a20 a21 a22) + x_11.toNat * 3 + 2, none⟩)) (vx (l1 underlying3 (m62 2 _ rfl)) (va (.int .i64 x_33.2.2) (wln (W.ret ?_)))))
 obtain rfl := si H
 have O63 := O53.sD 1 []
 exact r1 ⟨_, c51, rfl, rfl, pt, O63, rfl⟩
def f_ucd_Of (p0 : Int) : Option (G_api_Prop) :=
 (f_gcb_Of p0).bind fun x_4 =>
 (f_pict_Is p0).bind fun x_6 =>
 (f_conj_Of p0).bind fun x_8 =>
 (f_east_Of p0).bind fun x_10 =>
 some (⟨x_4, x_6, x_8, x_10⟩ : G_api_Prop)
theorem c_ucd_Of (O0 : Own c0 G F) (p0 : Int) {r : G_api_Prop} (H : f_ucd_Of p0 = some r) :
    Calls Tryz.prog 182 #[.int .i32 p0] c0.w (Post c0 fun c v => Own c G (F) ∧ v = .agg #[.int .i64 r.Break, .bool r.Pict, .int .i64 r.Conj, .int .i64 r.East]) := by
 unfold f_ucd_Of at H
 refine en func182 rfl rfl (sr (me (al 33 [.int .i64 0, .bool false, .int .i64 0, .int .i64 0] O0) ?_))
 rintro v4 c3 l3 ⟨b1, rfl, O2⟩
 refine wln (sr (va (.int .i32 p0) (bn H fun x_4 h5 H => cl (c_gcb_Of O2 p0 h5) ?_)))
 rintro v11 c10 l10 ⟨O7, rfl⟩
 refine va (.int .i32 p0) (bn H fun x_6 h12 H => cl (c_pict_Is O7 p0 h12) ?_)
 rintro v18 c17 l17 ⟨O14, rfl⟩
 refine va (.int .i32 p0) (bn H fun x_8 h19 H => cl (c_conj_Of O14 p0 h19) ?_)
 rintro v25 c24 l24 ⟨O21, rfl⟩
 refine va (.int .i32 p0) (bn H fun x_10 h26 H => cl (c_east_Of O21 p0 h26) ?_)
 rintro v32 c31 l31 ⟨O28, rfl⟩
 refine va (.agg #[.int .i64 x_4, .bool x_6, .int .i64 x_8, .int .i64 x_10]) (md (sA 33 [.int .i64 x_4, .bool x_6, .int .i64 x_8, .int .i64 x_10] 0 O28 ⟨rfl, rfl, rfl, rfl, trivial⟩) ?_)
 rintro c34 l34 O33
 refine wln (W.ret ?_)
 obtain rfl := si H
 have O35 := O33.sD 1 []
 exact retC (c := c34) (vs := [.int .i64 x_4, .bool x_6, .int .i64 x_8, .int .i64 x_10]) rfl (by kernel_rfl) (by kernel_rfl) (by kernel_rfl) (O33.on 0 rfl _ rfl).1 ⟨_, c34, rfl, rfl, pt, O35, rfl⟩

end Go.Proofs.YthokmpbbkpjhbaaGreatDoor
