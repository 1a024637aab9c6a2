import Derived.Test.YthokmpbbkpjhbaaGreatDoorMq
import Derived.Test.YthokmpbbkpjhbaaGreatDoorProg
import Derived.Test.YthokmpbbkpjhbaaGreatDoorMy
import Derived.Test.YthokmpbbkpjhbaaGreatDoorMz
namespace Go.Proofs.YthokmpbbkpjhbaaGreatDoor
open Go Go.Lt
set_option maxRecDepth 10000
set_option linter.unusedVariables false
attribute [local irreducible] W WL AC
open Tryz
variable {c0 : Cx} {G : Gm} {F : List En} {sg : Sto} {v1 v2 v3 v4 v5 v6 v7 v8 v9 v10 v11 v12 v13 v14 v15 v16 v17 v18 v19 v20 v21 v22 v23 v24 v25 v26 v27 v28 v29 v30 v31 v32 v33 v34 v35 v36 v37 v38 v39 v40 v41 v42 v43 v44 v45 v46 v47 v48 v49 v50 v51 v52 v53 v54 v55 v56 v57 v58 v59 v60 : Value}
def f_linotyperef09_list1  : Option (List (Int × Int)) :=
 some ([(13, 13)] : List (Int × Int))
theorem c_linotyperef09_list1 (O0 : Own c0 G F) {r : List (Int × Int)} (H : f_linotyperef09_list1  = some r) :
    Calls Tryz.prog 131 #[] c0.w (Post c0 fun c v => ∃ y1 y2, Own c G (es true RA2_i64 y1 242 y2 r :: F) ∧ v = y1 ∧ OA RA2_i64 c y1 y2 r) := by
 unfold f_linotyperef09_list1 at H
 refine en func131 rfl rfl (sr (va (.slice none 0 0) (wln (sr (va (.agg #[.int .i64 13, .int .i64 13]) (me (sl RA2_i64 242 [[.int .i64 13, .int .i64 13]] ([(13, 13)] : List (Int × Int)) O0 ⟨rfl, trivial⟩) ?_))))))
 rintro v5 c4 l4 ⟨u2, O1, h3⟩
 refine va (v5) (wln (W.ret ?_))
 obtain rfl := si H
 exact r1 ⟨_, c4, rfl, rfl, pt, v5, u2, O1, rfl, h3⟩
def f_linotyperef09_list2  : Option (List (Int × Int)) :=
 some ([(10, 10)] : List (Int × Int))
theorem c_linotyperef09_list2 (O0 : Own c0 G F) {r : List (Int × Int)} (H : f_linotyperef09_list2  = some r) :
    Calls Tryz.prog 132 #[] c0.w (Post c0 fun c v => ∃ y1 y2, Own c G (es true RA2_i64 y1 242 y2 r :: F) ∧ v = y1 ∧ OA RA2_i64 c y1 y2 r) := by
 unfold f_linotyperef09_list2 at H
 refine en func132 rfl rfl (sr (va (.slice none 0 0) (wln (sr (va (.agg #[.int .i64 10, .int .i64 10]) (me (sl RA2_i64 242 [[.int .i64 10, .int .i64 10]] ([(10, 10)] : List (Int × Int)) O0 ⟨rfl, trivial⟩) ?_))))))
 rintro v5 c4 l4 ⟨u2, O1, h3⟩
 refine va (v5) (wln (W.ret ?_))
 obtain rfl := si H
 exact r1 ⟨_, c4, rfl, rfl, pt, v5, u2, O1, rfl, h3⟩
def f_linotyperef09_list3  : Option (List (Int × Int)) :=
 some ([(0, 9), (11, 12), (14, 31), (127, 159), (173, 173), (1564, 1564), (6158, 6158), (8203, 8203), (8206, 8207), (8232, 8238), (8288, 8303), (65279, 65279), (65520, 65531), (917504, 917535), (917632, 917759), (918000, 921599)] : List (Int × Int))
theorem c_linotyperef09_list3 (O0 : Own c0 G F) {r : List (Int × Int)} (H : f_linotyperef09_list3  = some r) :
    Calls Tryz.prog 133 #[] c0.w (Post c0 fun c v => ∃ y1 y2, Own c G (es true RA2_i64 y1 242 y2 r :: F) ∧ v = y1 ∧ OA RA2_i64 c y1 y2 r) := by
 unfold f_linotyperef09_list3 at H
 refine en func133 rfl rfl (sr (va (.slice none 0 0) (wln (sr (va (.agg #[.int .i64 0, .int .i64 9]) (va (.agg #[.int .i64 11, .int .i64 12]) (va (.agg #[.int .i64 14, .int .i64 31]) (va (.agg #[.int .i64 127, .int .i64 159]) (va (.agg #[.int .i64 173, .int .i64 173]) (va (.agg #[.int .i64 1564, .int .i64 1564]) (va (.agg #[.int .i64 6158, .int .i64 6158]) (va (.agg #[.int .i64 8203, .int .i64 8203]) (va (.agg #[.int .i64 8206, .int .i64 8207]) (va (.agg #[.int .i64 8232, .int .i64 8238]) (va (.agg #[.int .i64 8288, .int .i64 8303]) (va (.agg #[.int .i64 65279, .int .i64 65279]) (va (.agg #[.int .i64 65520, .int .i64 65531]) (va (.agg #[.int .i64 917504, .int .i64 917535]) (va (.agg #[.int .i64 917632, .int .i64 917759]) (va (.agg #[.int .i64 918000, .int .i64 921599]) (me (sl RA2_i64 242 [[.int .i64 0, .int .i64 9], [.int .i64 11, .int .i64 12], [.int .i64 14, .int .i64 31], [.int .i64 127, .int .i64 159], [.int .i64 173, .int .i64 173], [.int .i64 1564, .int .i64 1564], [.int .i64 6158, .int .i64 6158], [.int .i64 8203, .int .i64 8203], [.int .i64 8206, .int .i64 8207], [.int .i64 8232, .int .i64 8238], [.int .i64 8288, .int .i64 8303], [.int .i64 65279, .int .i64 65279], [.int .i64 65520, .int .i64 65531], [.int .i64 917504, .int .i64 917535], [.int .i64 917632, .int .i64 917759], [.int .i64 918000, .int .i64 921599]] ([(0, 9), (11, 12), (14, 31), (127, 159), (173, 173), (1564, 1564), (6158, 6158), (8203, 8203), (8206, 8207), (8232, 8238), (8288, 8303), (65279, 65279), (65520, 65531), (917504, 917535), (917632, 917759), (918000, 921599)] : List (Int × Int)) O0 ⟨rfl, rfl, rfl, rfl, rfl, rfl, rfl, rfl, rfl, rfl, rfl, rfl, rfl, rfl, rfl, rfl, trivial⟩) ?_)))))))))))))))))))))
 rintro v5 c4 l4 ⟨u2, O1, h3⟩
 refine va (v5) (wln (W.ret ?_))
 obtain rfl := si H
 exact r1 ⟨_, c4, rfl, rfl, pt, v5, u2, O1, rfl, h3⟩
def t_linotyperef09_list4_80 : List (Int × Int) := [(768, 879), (1155, 1161), (1425, 1469), (1471, 1471), (1473, 1474), (1476, 1477), (1479, 1479), (1552, 1562), (1611, 1631), (1648, 1648), (1750, 1756), (1759, 1764), (1767, 1768), (1770, 1773), (1809, 1809), (1840, 1866), (1958, 1968), (2027, 2035), (2070, 2073), (2075, 2083), (2259, 2273), (2275, 2306), (2362, 2362), (2364, 2364), (2369, 2376), (2381, 2381), (2385, 2391), (2402, 2403), (2433, 2433), (2492, 2492), (2494, 2494), (2497, 2500), (2509, 2509), (2519, 2519), (2530, 2531), (2561, 2562), (2620, 2620), (2625, 2626), (2631, 2632), (2635, 2637), (2748, 2748), (2753, 2757), (2765, 2765), (2876, 2876), (2878, 2879), (2881, 2884), (2893, 2893), (2902, 2903), (3132, 3132), (3134, 3136), (3142, 3144), (3146, 3149), (3276, 3277), (3390, 3390), (3393, 3396), (3405, 3405), (3633, 3633), (3636, 3642), (3655, 3662), (3761, 3761), (3764, 3772), (3864, 3865), (3953, 3966), (4957, 4959), (6832, 6862), (7616, 7679), (8204, 8204), (8400, 8432), (12330, 12335), (12441, 12442), (42607, 42610), (64286, 64286), (65024, 65039), (65056, 65071), (127995, 127999), (917536, 917631), (917760, 917999)]
def f_linotyperef09_list4  : Option (List (Int × Int)) :=
 some t_linotyperef09_list4_80
theorem c_linotyperef09_list4 (O0 : Own c0 G F) {r : List (Int × Int)} (H : f_linotyperef09_list4  = some r) :
    Calls Tryz.prog 134 #[] c0.w (Post c0 fun c v => ∃ y1 y2, Own c G (es true RA2_i64 y1 242 y2 r :: F) ∧ v = y1 ∧ OA RA2_i64 c y1 y2 r) := by
 unfold f_linotyperef09_list4 at H
 refine en func134 rfl rfl (sr (va (.slice none 0 0) (wln (sr (va (.agg #[.int .i64 768, .int .i64 879]) (va (.agg #[.int .i64 1155, .int .i64 1161]) (va (.agg #[.int .i64 1425, .int .i64 1469]) (va (.agg #[.int .i64 1471, .int .i64 1471]) (va (.agg #[.int .i64 1473, .int .i64 1474]) (va (.agg #[.int .i64 1476, .int .i64 1477]) (va (.agg #[.int .i64 1479, .int .i64 1479]) (va (.agg #[.int .i64 1552, .int .i64 1562]) (va (.agg #[.int .i64 1611, .int .i64 1631]) (va (.agg #[.int .i64 1648, .int .i64 1648]) (va (.agg #[.int .i64 1750, .int .i64 1756]) (va (.agg #[.int .i64 1759, .int .i64 1764]) (va (.agg #[.int .i64 1767, .int .i64 1768]) (va (.agg #[.int .i64 1770, .int .i64 1773]) (va (.agg #[.int .i64 1809, .int .i64 1809]) (va (.agg #[.int .i64 1840, .int .i64 1866]) (va (.agg #[.int .i64 1958, .int .i64 1968]) (va (.agg #[.int .i64 2027, .int .i64 2035]) (va (.agg #[.int .i64 2070, .int .i64 2073]) (va (.agg #[.int .i64 2075, .int .i64 2083]) (va (.agg #[.int .i64 2259, .int .i64 2273]) (va (.agg #[.int .i64 2275, .int .i64 2306]) (va (.agg #[.int .i64 2362, .int .i64 2362]) (va (.agg #[.int .i64 2364, .int .i64 2364]) (va (.agg #[.int .i64 2369, .int .i64 2376]) (va (.agg #[.int .i64 2381, .int .i64 2381]) (va (.agg #[.int .i64 2385, .int .i64 2391]) (va (.agg #[.int .i64 2402, .int .i64 2403]) (va (.agg #[.int .i64 2433, .int .i64 2433]) (va (.agg #[.int .i64 2492, .int .i64 2492]) (va (.agg #[.int .i64 2494, .int .i64 2494]) (va (.agg #[.int .i64 2497, .int .i64 2500]) (va (.agg #[.int .i64 2509, .int .i64 2509]) (va (.agg #[.int .i64 2519, .int .i64 2519]) (va (.agg #[.int .i64 2530, .int .i64 2531]) (va (.agg #[.int .i64 2561, .int .i64 2562]) (va (.agg #[.int .i64 2620, .int .i64 2620]) (va (.agg #[.int .i64 2625, .int .i64 2626]) (va (.agg #[.int .i64 2631, .int .i64 2632]) (va (.agg #[.int .i64 2635, .int .i64 2637]) (va (.agg #[.int .i64 2748, .int .i64 2748]) (va (.agg #[.int .i64 2753, .int .i64 2757]) (va (.agg #[.int .i64 2765, .int .i64 2765]) (va (.agg #[.int .i64 2876, .int .i64 2876]) (va (.agg #[.int .i64 2878, .int .i64 2879]) (va (.agg #[.int .i64 2881, .int .i64 2884]) (va (.agg #[.int .i64 2893, .int .i64 2893]) (va (.agg #[.int .i64 2902, .int .i64 2903]) (va (.agg #[.int .i64 3132, .int .i64 3132]) (va (.agg #[.int .i64 3134, .int .i64 3136]) (va (.agg #[.int .i64 3142, .int .i64 3144]) (va (.agg #[.int .i64 3146, .int .i64 3149]) (va (.agg #[.int .i64 3276, .int .i64 3277]) (va (.agg #[.int .i64 3390, .int .i64 3390]) (va (.agg #[.int .i64 3393, .int .i64 3396]) (va (.agg #[.int .i64 3405, .int .i64 3405]) (va (.agg #[.int .i64 3633, .int .i64 3633]) (va (.agg #[.int .i64 3636, .int .i64 3642]) (va (.agg #[.int .i64 3655, .int .i64 3662]) (va (.agg #[.int .i64 3761, .int .i64 3761]) (va (.agg #[.int .i64 3764, .int .i64 3772]) (va (.agg #[.int .i64 3864, .int .i64 3865]) (va (.agg #[.int .i64 3953, .int .i64 3966]) (va (.agg #[.int .i64 4957, .int .i64 4959]) (va (.agg #[.int .i64 6832, .int .i64 6862]) (va (.agg #[.int .i64 7616, .int .i64 7679]) (va (.agg #[.int .i64 8204, .int .i64 8204]) (va (.agg #[.int .i64 8400, .int .i64 8432]) (va (.agg #[.int .i64 12330, .int .i64 12335]) (va (.agg #[.int .i64 12441, .int .i64 12442]) (va (.agg #[.int .i64 42607, .int .i64 42610]) (va (.agg #[.int .i64 64286, .int .i64 64286]) (va (.agg #[.int .i64 65024, .int .i64 65039]) (va (.agg #[.int .i64 65056, .int .i64 65071]) (va (.agg #[.int .i64 127995, .int .i64 127999]) (va (.agg #[.int .i64 917536, .int .i64 917631]) (va (.agg #[.int .i64 917760, .int .i64 917999]) (me (Own.sl (R := RA2_i64) (E := 242) (ls := t_linotyperef09_list4_80.map (fun x => [Value.int .i64 x.1, Value.int .i64 x.2])) (vs := (t_linotyperef09_list4_80.map (fun x => [Value.int .i64 x.1, Value.int .i64 x.2])).flatten) (xs := t_linotyperef09_list4_80) true O0 (Nat.succ_pos _) rfl (AllR.map _ (fun _ => rfl) _) (by kernel_rfl) (by kernel_rfl)) ?_))))))))))))))))))))))))))))))))))))))))))))))))))))))))))))))))))))))))))))))))))
 rintro v5 c4 l4 ⟨u2, O1, h3⟩
 refine va (v5) (wln (W.ret ?_))
 obtain rfl := si H
 exact r1 ⟨_, c4, rfl, rfl, pt, v5, u2, O1, rfl, h3⟩
def f_linotyperef09_list5  : Option (List (Int × Int)) :=
 some ([(8205, 8205)] : List (Int × Int))
theorem c_linotyperef09_list5 (O0 : Own c0 G F) {r : List (Int × Int)} (H : f_linotyperef09_list5  = some r) :
    Calls Tryz.prog 135 #[] c0.w (Post c0 fun c v => ∃ y1 y2, Own c G (es true RA2_i64 y1 242 y2 r :: F) ∧ v = y1 ∧ OA RA2_i64 c y1 y2 r) := by
 unfold f_linotyperef09_list5 at H
 refine en func135 rfl rfl (sr (va (.slice none 0 0) (wln (sr (va (.agg #[.int .i64 8205, .int .i64 8205]) (me (sl RA2_i64 242 [[.int .i64 8205, .int .i64 8205]] ([(8205, 8205)] : List (Int × Int)) O0 ⟨rfl, trivial⟩) ?_))))))
 rintro v5 c4 l4 ⟨u2, O1, h3⟩
 refine va (v5) (wln (W.ret ?_))
 obtain rfl := si H
 exact r1 ⟨_, c4, rfl, rfl, pt, v5, u2, O1, rfl, h3⟩
def f_linotyperef09_list6  : Option (List (Int × Int)) :=
 some ([(127462, 127487)] : List (Int × Int))
theorem c_linotyperef09_list6 (O0 : Own c0 G F) {r : List (Int × Int)} (H : f_linotyperef09_list6  = some r) :
    Calls Tryz.prog 136 #[] c0.w (Post c0 fun c v => ∃ y1 y2, Own c G (es true RA2_i64 y1 242 y2 r :: F) ∧ v = y1 ∧ OA RA2_i64 c y1 y2 r) := by
 unfold f_linotyperef09_list6 at H
 refine en func136 rfl rfl (sr (va (.slice none 0 0) (wln (sr (va (.agg #[.int .i64 127462, .int .i64 127487]) (me (sl RA2_i64 242 [[.int .i64 127462, .int .i64 127487]] ([(127462, 127487)] : List (Int × Int)) O0 ⟨rfl, trivial⟩) ?_))))))
 rintro v5 c4 l4 ⟨u2, O1, h3⟩
 refine va (v5) (wln (W.ret ?_))
 obtain rfl := si H
 exact r1 ⟨_, c4, rfl, rfl, pt, v5, u2, O1, rfl, h3⟩
def f_linotyperef09_list7  : Option (List (Int × Int)) :=
 some ([(1536, 1541), (1757, 1757), (1807, 1807), (2192, 2193), (2274, 2274), (3406, 3406), (69821, 69821), (69837, 69837)] : List (Int × Int))
theorem c_linotyperef09_list7 (O0 : Own c0 G F) {r : List (Int × Int)} (H : f_linotyperef09_list7  = some r) :
    Calls Tryz.prog 137 #[] c0.w (Post c0 fun c v => ∃ y1 y2, Own c G (es true RA2_i64 y1 242 y2 r :: F) ∧ v = y1 ∧ OA RA2_i64 c y1 y2 r) := by
 unfold f_linotyperef09_list7 at H
 refine en func137 rfl rfl (sr (va (.slice none 0 0) (wln (sr (va (.agg #[.int .i64 1536, .int .i64 1541]) (va (.agg #[.int .i64 1757, .int .i64 1757]) (va (.agg #[.int .i64 1807, .int .i64 1807]) (va (.agg #[.int .i64 2192, .int .i64 2193]) (va (.agg #[.int .i64 2274, .int .i64 2274]) (va (.agg #[.int .i64 3406, .int .i64 3406]) (va (.agg #[.int .i64 69821, .int .i64 69821]) (va (.agg #[.int .i64 69837, .int .i64 69837]) (me (sl RA2_i64 242 [[.int .i64 1536, .int .i64 1541], [.int .i64 1757, .int .i64 1757], [.int .i64 1807, .int .i64 1807], [.int .i64 2192, .int .i64 2193], [.int .i64 2274, .int .i64 2274], [.int .i64 3406, .int .i64 3406], [.int .i64 69821, .int .i64 69821], [.int .i64 69837, .int .i64 69837]] ([(1536, 1541), (1757, 1757), (1807, 1807), (2192, 2193), (2274, 2274), (3406, 3406), (69821, 69821), (69837, 69837)] : List (Int × Int)) O0 ⟨rfl, rfl, rfl, rfl, rfl, rfl, rfl, rfl, trivial⟩) ?_)))))))))))))
 rintro v5 c4 l4 ⟨u2, O1, h3⟩
 refine va (v5) (wln (W.ret ?_))
 obtain rfl := si H
 exact r1 ⟨_, c4, rfl, rfl, pt, v5, u2, O1, rfl, h3⟩
def t_linotyperef09_list8_29 : List (Int × Int) := [(2307, 2307), (2363, 2363), (2366, 2368), (2377, 2380), (2382, 2383), (2434, 2435), (2495, 2496), (2503, 2504), (2507, 2508), (2563, 2563), (2622, 2624), (2691, 2691), (2750, 2752), (2761, 2761), (2818, 2819), (2880, 2880), (2887, 2888), (3073, 3075), (3137, 3140), (3330, 3331), (3391, 3392), (3398, 3400), (3635, 3635), (3763, 3763), (3902, 3903), (4155, 4156)]
def f_linotyperef09_list8  : Option (List (Int × Int)) :=
 some t_linotyperef09_list8_29
theorem c_linotyperef09_list8 (O0 : Own c0 G F) {r : List (Int × Int)} (H : f_linotyperef09_list8  = some r) :
    Calls Tryz.prog 138 #[] c0.w (Post c0 fun c v => ∃ y1 y2, Own c G (es true RA2_i64 y1 242 y2 r :: F) ∧ v = y1 ∧ OA RA2_i64 c y1 y2 r) := by
 unfold f_linotyperef09_list8 at H
 refine en func138 rfl rfl (sr (va (.slice none 0 0) (wln (sr (va (.agg #[.int .i64 2307, .int .i64 2307]) (va (.agg #[.int .i64 2363, .int .i64 2363]) (va (.agg #[.int .i64 2366, .int .i64 2368]) (va (.agg #[.int .i64 2377, .int .i64 2380]) (va (.agg #[.int .i64 2382, .int .i64 2383]) (va (.agg #[.int .i64 2434, .int .i64 2435]) (va (.agg #[.int .i64 2495, .int .i64 2496]) (va (.agg #[.int .i64 2503, .int .i64 2504]) (va (.agg #[.int .i64 2507, .int .i64 2508]) (va (.agg #[.int .i64 2563, .int .i64 2563]) (va (.agg #[.int .i64 2622, .int .i64 2624]) (va (.agg #[.int .i64 2691, .int .i64 2691]) (va (.agg #[.int .i64 2750, .int .i64 2752]) (va (.agg #[.int .i64 2761, .int .i64 2761]) (va (.agg #[.int .i64 2818, .int .i64 2819]) (va (.agg #[.int .i64 2880, .int .i64 2880]) (va (.agg #[.int .i64 2887, .int .i64 2888]) (va (.agg #[.int .i64 3073, .int .i64 3075]) (va (.agg #[.int .i64 3137, .int .i64 3140]) (va (.agg #[.int .i64 3330, .int .i64 3331]) (va (.agg #[.int .i64 3391, .int .i64 3392]) (va (.agg #[.int .i64 3398, .int .i64 3400]) (va (.agg #[.int .i64 3635, .int .i64 3635]) (va (.agg #[.int .i64 3763, .int .i64 3763]) (va (.agg #[.int .i64 3902, .int .i64 3903]) (va (.agg #[.int .i64 4155, .int .i64 4156]) (me (Own.sl (R := RA2_i64) (E := 242) (ls := t_linotyperef09_list8_29.map (fun x => [Value.int .i64 x.1, Value.int .i64 x.2])) (vs := (t_linotyperef09_list8_29.map (fun x => [Value.int .i64 x.1, Value.int .i64 x.2])).flatten) (xs := t_linotyperef09_list8_29) true O0 (Nat.succ_pos _) rfl (AllR.map _ (fun _ => rfl) _) (by kernel_rfl) (by kernel_rfl)) ?_)))))))))))))))))))))))))))))))
 rintro v5 c4 l4 ⟨u2, O1, h3⟩
 refine va (v5) (wln (W.ret ?_))
 obtain rfl := si H
 exact r1 ⟨_, c4, rfl, rfl, pt, v5, u2, O1, rfl, h3⟩
def f_linotyperef09_In (p0 : List (Int × Int)) (p1 : Int) : Option (Bool) :=
 (iter (σ := Int) (τ := Bool ⊕ Unit) (((p0.length : Int) - 0).toNat + 1) (fun s_5 =>
 if (decide (s_5 < (p0.length : Int))) = true then
 (idx p0 s_5).bind fun x_15 =>
 (andE (decide ((w64 p1) ≥ x_15.1)) ((idx p0 s_5).bind fun x_25 =>
 some (decide ((w64 p1) ≤ x_25.2)))).bind fun d_19 =>
 if d_19 = true then
 some (.inr (.inl true))
 else
 some (.inl ((w64 (s_5 + 1))))
 else
 some (.inr (.inr ()))) (0)).bind fun o_5 =>
 match o_5 with
 | .inl o_5 =>
 some o_5
 | .inr o_5 =>
 some false
theorem c_linotyperef09_In (O0 : Own c0 G F) (p0 : List (Int × Int)) (p1 : Int) {r : Bool} (h2 : Sl RA2_i64 c0 v1 p0) (H : f_linotyperef09_In p0 p1 = some r) :
    Calls Tryz.prog 139 #[v1, .int .i32 p1] c0.w (Post c0 fun c v => Own c G (F) ∧ v = .bool r) := by
 unfold f_linotyperef09_In at H
 refine en func139 rfl rfl (sr (va (.bool false) (wln (W.seq (sr (va (.int .i64 0) (wln (W.block (bn H fun o_5 h3 H4 => lp h3 (fun s_5 => Jn c0 fun c l => Own c G (F) ∧ l = [(0, v1), (1, .int .i32 p1), (5, .int .i64 s_5)]) (fun t => match t with | .inl x_ => (fun rr_ ex e w => ex = .ret ∧ (Jn c0 fun c l => Own c G (F) ∧ l = [(4, .bool rr_)]) e w) x_ | .inr x_ => (fun o_5_ ex e w => ex = .exit 0 ∧ (Jn c0 fun c l => Own c G (F) ∧ l = []) e w) x_) ?_ ?_ ?_)))))))))
 ·clear H4 h3
  intro s_5 xx_ ee_ ww_ H
  revert ee_ ww_
  rintro e_ w_ ⟨c5, g6, _, rfl, l5, rfl, O7, rfl⟩
  refine W.seq (sr (va (.int .i64 s_5) (va (v1) (vx (ln 3 underlying189 h2.m) (va (.bool (decide (s_5 < (p0.length : Int)))) (wln (cn H (fun h11 H => ?_) (fun h11 H => ?_))))))))
  ·refine W.skip (nrm (W.seq (W.block (W.seq (bn H fun x_15 h12 H => bn H fun d_19 h13 H => W.join (Jn c5 fun c l => Own c G (F) ∧ l = [(0, v1), (1, .int .i32 p1), (5, .int .i64 s_5), (29, .bool d_19)]) ?_ ?_)))))
   ·clear H
    refine W.region (va (.int .i32 p1) (va (.int .i64 (w64 p1)) (va (v1) (va (.int .i64 s_5) ?_))))
    obtain ⟨l_14, h15, m16⟩ := Sl.at (h2.mono l5) (idx_get h12)
    obtain rfl := h15
    refine vx (ix underlying189 h2.m h12) (va (.pointer (some ⟨sb v1, so v1 + s_5.toNat * 2, none⟩)) (vx (l1 underlying3 (m16 0 _ rfl)) (va (.bool (decide ((w64 p1) ≥ x_15.1))) ?_)))
    rcases bo (decide ((w64 p1) ≥ x_15.1)) with h17 | h17
    ·have H18 := anT h17 h13
     refine vb h17 (wn (va (.int .i32 p1) (wn (va (.int .i64 (w64 p1)) (wn (va (v1) (wn (va (.int .i64 s_5) (wn (bn H18 fun x_25 h19 H18 => ?_))))))))))
     obtain ⟨l_20, h21, m22⟩ := Sl.at (h2.mono l5) (idx_get h19)
     obtain rfl := h21
     refine vx (ix underlying189 h2.m h19) (wn (va (.pointer (some ⟨sb v1, so v1 + s_5.toNat * 2 + 1, none⟩)) (wn (vx (l1 underlying3 (m22 1 _ rfl)) (wn (va (.bool (decide ((w64 p1) ≤ x_25.2))) ?_))))))
     obtain rfl := si H18
     exact va (.bool (decide ((w64 p1) ≤ x_25.2))) (wln ⟨c5, _, _, rfl, pt, us, O7, rfl⟩)
    obtain rfl := anF h17 h13
    exact vb h17 (ps (ps (ps (ps (ps (ps (ps (ps (va (.bool false) (wln ⟨c5, _, _, rfl, pt, us, O7, rfl⟩))))))))))
   rintro e_ w_ ⟨c23, g24, _, rfl, l23, rfl, O25, rfl⟩
   refine nrm (cn H (fun h29 H => ?_) (fun h29 H => ?_))
   ·refine sr (va (.bool true) (wln (W.ret (bkr (thr ?_)))))
    obtain rfl := si H
    exact ⟨_, rfl, ⟨rfl, ⟨c23, _, _, rfl, pt, us, O25, rfl⟩⟩⟩
   refine W.skip (bkn (nrm (W.region (va (.int .i64 s_5) (va (.int .i64 (w64 (s_5 + 1))) (va (.int .i64 (w64 (s_5 + 1))) (WL.nil ?_)))))))
   obtain rfl := si H
   exact ⟨_, rfl, ⟨c23, _, _, rfl, pt, us, O25, rfl⟩⟩
  refine W.exit (thx ?_)
  obtain rfl := si H
  exact ⟨_, rfl, rfl, ⟨c5, _, _, rfl, pt, us, O7, rfl⟩⟩
 ·exact ⟨c0, _, _, rfl, pt, us, O0, rfl⟩
 rcases o_5 with o_5 | o_5
 ·intro ex_; revert ex_
  rintro _ e_ w_ ⟨rfl, c30, g31, _, rfl, l30, rfl, O32, rfl⟩
  refine bkr (thr ?_)
  obtain rfl := si H4
  exact r1 ⟨_, c30, rfl, rfl, pt, O32, rfl⟩
 rintro _ e_ w_ ⟨rfl, c36, g37, _, rfl, l36, rfl, O38, rfl⟩
 refine bke (nrm (sr (va (.bool false) (wln (W.ret ?_)))))
 obtain rfl := si H4
 exact r1 ⟨_, c36, rfl, rfl, pt, O38, rfl⟩
def f_linotyperef08_Split (p0 : Int) : Option (Int × Int × Int) :=
 (orE (decide ((w64 p0) < 44032)) (some (decide ((w64 p0) > 55203)))).bind fun d_11 =>
 if d_11 = true then
 some (0, 0, 0)
 else
 (iter (σ := Int × Int) (τ := (Int × Int × Int) ⊕ Unit) (((4370 : Int) - 4352).toNat + 2) (fun s_24 =>
 if (decide (s_24.2 ≤ 4370)) = true then
 (iter (σ := Int × Int) (τ := (Int × Int × Int) ⊕ Int) (((4469 : Int) - 4449).toNat + 2) (fun s_30 =>
 if (decide (s_30.2 ≤ 4469)) = true then
 if (decide ((w64 p0) < (w64 (s_30.1 + 28)))) = true then
 (if ((w64 ((w64 (4519 + (w64 p0))) - s_30.1)) == 4519) = true then
 (some (0) : Option (Int))
 else
 (some ((w64 ((w64 (4519 + (w64 p0))) - s_30.1))) : Option (Int))).bind fun z_45 =>
 some (.inr (.inl (s_24.2, s_30.2, z_45)))
 else
 some (.inl ((w64 (s_30.1 + 28)), (w64 (s_30.2 + 1))))
 else
 some (.inr (.inr (s_30.1)))) (s_24.1, 4449)).bind fun o_30 =>
 match o_30 with
 | .inl o_30 =>
 some (.inr (.inl o_30))
 | .inr o_30 =>
 some (.inl (o_30, (w64 (s_24.2 + 1))))
 else
 some (.inr (.inr ()))) (44032, 4352)).bind fun o_24 =>
 match o_24 with
 | .inl o_24 =>
 some o_24
 | .inr o_24 =>
 some (0, 0, 0)
theorem c_linotyperef08_Split (O0 : Own c0 G F) (p0 : Int) {r : Int × Int × Int} (H : f_linotyperef08_Split p0 = some r) :
    Calls Tryz.prog 201 #[.int .i32 p0] c0.w (Post c0 fun c v => Own c G (F) ∧ v = .tuple #[.int .i64 r.1, .int .i64 r.2.1, .int .i64 r.2.2]) := by
 unfold f_linotyperef08_Split at H
 refine en func201 rfl rfl (sr (va (.int .i64 0) (va (.int .i64 0) (va (.int .i64 0) (wln (sr (va (.int .i32 p0) (va (.int .i64 (w64 p0)) (va (.int .i64 (w64 p0)) (wln (W.seq (W.seq (bn H fun d_11 h1 H => W.join (Jn c0 fun c l => Own c G (F) ∧ l = [(5, .int .i64 (w64 p0)), (17, .bool d_11)]) ?_ ?_)))))))))))))
 ·clear H
  refine W.region (va (.int .i64 (w64 p0)) (va (.bool (decide ((w64 p0) < 44032))) ?_))
  rcases bo (decide ((w64 p0) < 44032)) with h2 | h2
  ·obtain rfl := orT h2 h1
   exact vb h2 (ps (ps (va (.bool true) (wln ⟨c0, _, _, rfl, pt, us, O0, rfl⟩))))
  have H3 := orF h2 h1
  refine vb h2 (wn (va (.int .i64 (w64 p0)) (wn (va (.bool (decide ((w64 p0) > 55203))) ?_))))
  obtain rfl := si H3
  exact va (.bool (decide ((w64 p0) > 55203))) (wln ⟨c0, _, _, rfl, pt, us, O0, rfl⟩)
 rintro e_ w_ ⟨c4, g5, _, rfl, l4, rfl, O6, rfl⟩
 refine nrm (cn H (fun h10 H => ?_) (fun h10 H => ?_))
 ·refine sr (va (.int .i64 0) (va (.int .i64 0) (va (.int .i64 0) (wln (W.ret (thr ?_))))))
  obtain rfl := si H
  exact r3 ⟨_, c4, rfl, rfl, pt, O6, rfl⟩
 refine W.skip (nrm (sr (va (.int .i64 44032) (wln (W.seq (sr (va (.int .i64 4352) (wln (W.block (bn H fun o_24 h11 H12 => lp h11 (fun s_24 => Jn c4 fun c l => Own c G (F) ∧ l = [(5, .int .i64 (w64 p0)), (6, .int .i64 s_24.1), (7, .int .i64 s_24.2)]) (fun t => match t with | .inl x_ => (fun rr_ ex e w => ex = .ret ∧ (Jn c4 fun c l => Own c G (F) ∧ l = [(2, .int .i64 rr_.1), (3, .int .i64 rr_.2.1), (4, .int .i64 rr_.2.2)]) e w) x_ | .inr x_ => (fun o_24_ ex e w => ex = .exit 0 ∧ (Jn c4 fun c l => Own c G (F) ∧ l = []) e w) x_) ?_ ?_ ?_))))))))))
 ·clear H12 h11
  intro s_24 xx_ ee_ ww_ H
  revert ee_ ww_
  rintro e_ w_ ⟨c13, g14, _, rfl, l13, rfl, O15, rfl⟩
  refine W.seq (sr (va (.int .i64 s_24.2) (va (.bool (decide (s_24.2 ≤ 4370))) (wln (cn H (fun h19 H => ?_) (fun h19 H => ?_))))))
  ·refine W.skip (nrm (W.seq (W.block (sr (va (.int .i64 4449) (wln (W.block (bn H fun o_30 h20 H21 => lp h20 (fun s_30 => Jn c13 fun c l => Own c G (F) ∧ l = [(5, .int .i64 (w64 p0)), (6, .int .i64 s_30.1), (7, .int .i64 s_24.2), (8, .int .i64 s_30.2)]) (fun t => match t with | .inl x_ => (fun rr_ ex e w => ex = .ret ∧ (Jn c13 fun c l => Own c G (F) ∧ l = [(2, .int .i64 rr_.1), (3, .int .i64 rr_.2.1), (4, .int .i64 rr_.2.2)]) e w) x_ | .inr x_ => (fun o_30_ ex e w => ex = .exit 2 ∧ (Jn c13 fun c l => Own c G (F) ∧ l = [(5, .int .i64 (w64 p0)), (6, .int .i64 o_30_), (7, .int .i64 s_24.2)]) e w) x_) ?_ ?_ ?_))))))))
   ·clear H21 h20
    intro s_30 xx_ ee_ ww_ H
    revert ee_ ww_
    rintro e_ w_ ⟨c22, g23, _, rfl, l22, rfl, O24, rfl⟩
    refine W.seq (sr (va (.int .i64 s_30.2) (va (.bool (decide (s_30.2 ≤ 4469))) (wln (cn H (fun h28 H => ?_) (fun h28 H => ?_))))))
    ·refine W.skip (nrm (W.seq (W.block (W.seq (sr (va (.int .i64 (w64 p0)) (va (.int .i64 s_30.1) (va (.int .i64 (w64 (s_30.1 + 28))) (va (.bool (decide ((w64 p0) < (w64 (s_30.1 + 28))))) (wln (cn H (fun h29 H => ?_) (fun h29 H => ?_))))))))))))
     ·refine sr (va (.int .i64 (w64 p0)) (va (.int .i64 (w64 (4519 + (w64 p0)))) (va (.int .i64 s_30.1) (va (.int .i64 (w64 ((w64 (4519 + (w64 p0))) - s_30.1))) (va (.int .i64 (w64 ((w64 (4519 + (w64 p0))) - s_30.1))) (wln (bn H fun z_45 H30 H31 => W.seqJ (Jn c22 fun c l => Own c G (F) ∧ l = [(7, .int .i64 s_24.2), (8, .int .i64 s_30.2), (9, .int .i64 z_45)]) ?_ ?_)))))))
      ·refine sr (va (.int .i64 (w64 ((w64 (4519 + (w64 p0))) - s_30.1))) (va (.bool ((w64 ((w64 (4519 + (w64 p0))) - s_30.1)) == 4519)) (wln (cn H30 (fun h32 H30 => ?_) (fun h32 H30 => ?_)))))
       ·refine W.region (va (.int .i64 0) (wln ?_))
        obtain rfl := si H30
        exact ⟨c22, _, _, rfl, pt, us, O24, rfl⟩
       refine W.skip (nrm ?_)
       obtain rfl := si H30
       exact ⟨c22, _, _, rfl, pt, us, O24, rfl⟩
      rintro e_ w_ ⟨c33, g34, _, rfl, l33, rfl, O35, rfl⟩
      refine sr (va (.int .i64 s_24.2) (va (.int .i64 s_30.2) (va (.int .i64 z_45) (va (.int .i64 s_24.2) (va (.int .i64 s_30.2) (va (.int .i64 z_45) (wln (W.ret (thr (bkr (thr ?_)))))))))))
      obtain rfl := si H31
      exact ⟨_, rfl, ⟨rfl, ⟨c33, _, _, rfl, pt, us, O35, rfl⟩⟩⟩
     refine W.skip (nrm (W.region (va (.int .i64 s_30.1) (va (.int .i64 (w64 (s_30.1 + 28))) (va (.int .i64 (w64 (s_30.1 + 28))) (WL.nil (bkn (nrm (W.region (va (.int .i64 s_30.2) (va (.int .i64 (w64 (s_30.2 + 1))) (va (.int .i64 (w64 (s_30.2 + 1))) (WL.nil ?_)))))))))))))
     obtain rfl := si H
     exact ⟨_, rfl, ⟨c22, _, _, rfl, pt, us, O24, rfl⟩⟩
    refine W.exit (thx ?_)
    obtain rfl := si H
    exact ⟨_, rfl, rfl, ⟨c22, _, _, rfl, pt, us, O24, rfl⟩⟩
   ·exact ⟨c13, _, _, rfl, pt, us, O15, rfl⟩
   rcases o_30 with o_30 | o_30
   ·intro ex_; revert ex_
    rintro _ e_ w_ ⟨rfl, c39, g40, _, rfl, l39, rfl, O41, rfl⟩
    refine bkr (bkr (thr ?_))
    obtain rfl := si H21
    exact ⟨_, rfl, ⟨rfl, ⟨c39, _, _, rfl, pt, us, O41, rfl⟩⟩⟩
   rintro _ e_ w_ ⟨rfl, c45, g46, _, rfl, l45, rfl, O47, rfl⟩
   refine bke (bkn (nrm (W.region (va (.int .i64 s_24.2) (va (.int .i64 (w64 (s_24.2 + 1))) (va (.int .i64 (w64 (s_24.2 + 1))) (WL.nil ?_)))))))
   obtain rfl := si H21
   exact ⟨_, rfl, ⟨c45, _, _, rfl, pt, us, O47, rfl⟩⟩
  refine W.exit (thx ?_)
  obtain rfl := si H
  exact ⟨_, rfl, rfl, ⟨c13, _, _, rfl, pt, us, O15, rfl⟩⟩
 ·exact ⟨c4, _, _, rfl, pt, us, O6, rfl⟩
 rcases o_24 with o_24 | o_24
 ·intro ex_; revert ex_
  rintro _ e_ w_ ⟨rfl, c51, g52, _, rfl, l51, rfl, O53, rfl⟩
  refine bkr (thr ?_)
  obtain rfl := si H12
  exact r3 ⟨_, c51, rfl, rfl, pt, O53, rfl⟩
 rintro _ e_ w_ ⟨rfl, c57, g58, _, rfl, l57, rfl, O59, rfl⟩
 refine bke (nrm (sr (va (.int .i64 0) (va (.int .i64 0) (va (.int .i64 0) (wln (W.ret ?_)))))))
 obtain rfl := si H12
 exact r3 ⟨_, c57, rfl, rfl, pt, O59, rfl⟩
def f_linotyperef08_Class (p0 : Int) : Option (Int) :=
 (andE (decide ((w64 p0) ≥ 4352)) (some (decide ((w64 p0) ≤ 4447)))).bind fun d_9 =>
 (orE d_9 ((andE (decide ((w64 p0) ≥ 43360)) (some (decide ((w64 p0) ≤ 43388)))).bind fun d_17 =>
 some d_17)).bind fun d_13 =>
 if d_13 = true then
 some 9
 else
 (andE (decide ((w64 p0) ≥ 4448)) (some (decide ((w64 p0) ≤ 4519)))).bind fun d_26 =>
 (orE d_26 ((andE (decide ((w64 p0) ≥ 55216)) (some (decide ((w64 p0) ≤ 55238)))).bind fun d_34 =>
 some d_34)).bind fun d_30 =>
 if d_30 = true then
 some 10
 else
 (andE (decide ((w64 p0) ≥ 4520)) (some (decide ((w64 p0) ≤ 4607)))).bind fun d_43 =>
 (orE d_43 ((andE (decide ((w64 p0) ≥ 55243)) (some (decide ((w64 p0) ≤ 55291)))).bind fun d_51 =>
 some d_51)).bind fun d_47 =>
 if d_47 = true then
 some 11
 else
 (f_linotyperef08_Split p0).bind fun x_59 =>
 if (x_59.1 == 0) = true then
 some 0
 else
 if (x_59.2.2 == 0) = true then
 some 12
 else
 some 13
theorem c_linotyperef08_Class (O0 : Own c0 G F) (p0 : Int) {r : Int} (H : f_linotyperef08_Class p0 = some r) :
    Calls Tryz.prog 140 #[.int .i32 p0] c0.w (Post c0 fun c v => Own c G (F) ∧ v = .int .i64 r) := by
 unfold f_linotyperef08_Class at H
 refine en func140 rfl rfl (sr (va (.int .i64 0) (wln (sr (va (.int .i32 p0) (va (.int .i64 (w64 p0)) (va (.int .i64 (w64 p0)) (wln (W.seq (W.seq (bn H fun d_9 h1 H => bn H fun d_13 h2 H => W.join (Jn c0 fun c l => Own c G (F) ∧ l = [(0, .int .i32 p0), (3, .int .i64 (w64 p0)), (22, .bool d_13)]) ?_ ?_)))))))))))
 ·clear H
  refine W.region (va (.int .i64 (w64 p0)) (va (.bool (decide ((w64 p0) ≥ 4352))) ?_))
  rcases bo (decide ((w64 p0) ≥ 4352)) with h3 | h3
  ·have H4 := anT h3 h1
   refine vb h3 (wn (va (.int .i64 (w64 p0)) (wn (va (.bool (decide ((w64 p0) ≤ 4447))) ?_))))
   obtain rfl := si H4
   refine va (.bool (decide ((w64 p0) ≤ 4447))) ?_
   rcases bo (decide ((w64 p0) ≤ 4447)) with h5 | h5
   ·obtain rfl := orT h5 h2
    exact vb h5 (ps (ps (ps (ps (ps (ps (va (.bool true) (wln ⟨c0, _, _, rfl, pt, us, O0, rfl⟩))))))))
   have H6 := orF h5 h2
   refine vb h5 (wn (va (.int .i64 (w64 p0)) (wn (va (.bool (decide ((w64 p0) ≥ 43360))) (wn (bn H6 fun d_17 h7 H6 => ?_))))))
   rcases bo (decide ((w64 p0) ≥ 43360)) with h8 | h8
   ·have H9 := anT h8 h7
    refine vb h8 (wn (va (.int .i64 (w64 p0)) (wn (va (.bool (decide ((w64 p0) ≤ 43388))) (wn ?_)))))
    obtain rfl := si H9
    refine va (.bool (decide ((w64 p0) ≤ 43388))) ?_
    obtain rfl := si H6
    exact va (.bool (decide ((w64 p0) ≤ 43388))) (wln ⟨c0, _, _, rfl, pt, us, O0, rfl⟩)
   obtain rfl := anF h8 h7
   refine vb h8 (ps (ps (wn (va (.bool false) ?_))))
   obtain rfl := si H6
   exact va (.bool false) (wln ⟨c0, _, _, rfl, pt, us, O0, rfl⟩)
  obtain rfl := anF h3 h1
  refine vb h3 (ps (ps (va (.bool false) ?_)))
  have h10 : false = false := rfl
  have H11 := orF h10 h2
  refine vb h10 (wn (va (.int .i64 (w64 p0)) (wn (va (.bool (decide ((w64 p0) ≥ 43360))) (wn (bn H11 fun d_17 h12 H11 => ?_))))))
  rcases bo (decide ((w64 p0) ≥ 43360)) with h13 | h13
  ·have H14 := anT h13 h12
   refine vb h13 (wn (va (.int .i64 (w64 p0)) (wn (va (.bool (decide ((w64 p0) ≤ 43388))) (wn ?_)))))
   obtain rfl := si H14
   refine va (.bool (decide ((w64 p0) ≤ 43388))) ?_
   obtain rfl := si H11
   exact va (.bool (decide ((w64 p0) ≤ 43388))) (wln ⟨c0, _, _, rfl, pt, us, O0, rfl⟩)
  obtain rfl := anF h13 h12
  refine vb h13 (ps (ps (wn (va (.bool false) ?_))))
  obtain rfl := si H11
  exact va (.bool false) (wln ⟨c0, _, _, rfl, pt, us, O0, rfl⟩)
 rintro e_ w_ ⟨c15, g16, _, rfl, l15, rfl, O17, rfl⟩
 refine nrm (cn H (fun h21 H => ?_) (fun h21 H => ?_))
 ·refine sr (va (.int .i64 9) (wln (W.ret (thr ?_))))
  obtain rfl := si H
  exact r1 ⟨_, c15, rfl, rfl, pt, O17, rfl⟩
 refine W.skip (nrm (W.seq (W.seq (bn H fun d_26 h22 H => bn H fun d_30 h23 H => W.join (Jn c15 fun c l => Own c G (F) ∧ l = [(0, .int .i32 p0), (3, .int .i64 (w64 p0)), (36, .bool d_30)]) ?_ ?_))))
 ·clear H
  refine W.region (va (.int .i64 (w64 p0)) (va (.bool (decide ((w64 p0) ≥ 4448))) ?_))
  rcases bo (decide ((w64 p0) ≥ 4448)) with h24 | h24
  ·have H25 := anT h24 h22
   refine vb h24 (wn (va (.int .i64 (w64 p0)) (wn (va (.bool (decide ((w64 p0) ≤ 4519))) ?_))))
   obtain rfl := si H25
   refine va (.bool (decide ((w64 p0) ≤ 4519))) ?_
   rcases bo (decide ((w64 p0) ≤ 4519)) with h26 | h26
   ·obtain rfl := orT h26 h23
    exact vb h26 (ps (ps (ps (ps (ps (ps (va (.bool true) (wln ⟨c15, _, _, rfl, pt, us, O17, rfl⟩))))))))
   have H27 := orF h26 h23
   refine vb h26 (wn (va (.int .i64 (w64 p0)) (wn (va (.bool (decide ((w64 p0) ≥ 55216))) (wn (bn H27 fun d_34 h28 H27 => ?_))))))
   rcases bo (decide ((w64 p0) ≥ 55216)) with h29 | h29
   ·have H30 := anT h29 h28
    refine vb h29 (wn (va (.int .i64 (w64 p0)) (wn (va (.bool (decide ((w64 p0) ≤ 55238))) (wn ?_)))))
    obtain rfl := si H30
    refine va (.bool (decide ((w64 p0) ≤ 55238))) ?_
    obtain rfl := si H27
    exact va (.bool (decide ((w64 p0) ≤ 55238))) (wln ⟨c15, _, _, rfl, pt, us, O17, rfl⟩)
   obtain rfl := anF h29 h28
   refine vb h29 (ps (ps (wn (va (.bool false) ?_))))
   obtain rfl := si H27
   exact va (.bool false) (wln ⟨c15, _, _, rfl, pt, us, O17, rfl⟩)
  obtain rfl := anF h24 h22
  refine vb h24 (ps (ps (va (.bool false) ?_)))
  have h31 : false = false := rfl
  have H32 := orF h31 h23
  refine vb h31 (wn (va (.int .i64 (w64 p0)) (wn (va (.bool (decide ((w64 p0) ≥ 55216))) (wn (bn H32 fun d_34 h33 H32 => ?_))))))
  rcases bo (decide ((w64 p0) ≥ 55216)) with h34 | h34
  ·have H35 := anT h34 h33
   refine vb h34 (wn (va (.int .i64 (w64 p0)) (wn (va (.bool (decide ((w64 p0) ≤ 55238))) (wn ?_)))))
   obtain rfl := si H35
   refine va (.bool (decide ((w64 p0) ≤ 55238))) ?_
   obtain rfl := si H32
   exact va (.bool (decide ((w64 p0) ≤ 55238))) (wln ⟨c15, _, _, rfl, pt, us, O17, rfl⟩)
  obtain rfl := anF h34 h33
  refine vb h34 (ps (ps (wn (va (.bool false) ?_))))
  obtain rfl := si H32
  exact va (.bool false) (wln ⟨c15, _, _, rfl, pt, us, O17, rfl⟩)
 rintro e_ w_ ⟨c36, g37, _, rfl, l36, rfl, O38, rfl⟩
 refine nrm (cn H (fun h42 H => ?_) (fun h42 H => ?_))
 ·refine sr (va (.int .i64 10) (wln (W.ret (thr ?_))))
  obtain rfl := si H
  exact r1 ⟨_, c36, rfl, rfl, pt, O38, rfl⟩
 refine W.skip (nrm (W.seq (W.seq (bn H fun d_43 h43 H => bn H fun d_47 h44 H => W.join (Jn c36 fun c l => Own c G (F) ∧ l = [(0, .int .i32 p0), (50, .bool d_47)]) ?_ ?_))))
 ·clear H
  refine W.region (va (.int .i64 (w64 p0)) (va (.bool (decide ((w64 p0) ≥ 4520))) ?_))
  rcases bo (decide ((w64 p0) ≥ 4520)) with h45 | h45
  ·have H46 := anT h45 h43
   refine vb h45 (wn (va (.int .i64 (w64 p0)) (wn (va (.bool (decide ((w64 p0) ≤ 4607))) ?_))))
   obtain rfl := si H46
   refine va (.bool (decide ((w64 p0) ≤ 4607))) ?_
   rcases bo (decide ((w64 p0) ≤ 4607)) with h47 | h47
   ·obtain rfl := orT h47 h44
    exact vb h47 (ps (ps (ps (ps (ps (ps (va (.bool true) (wln ⟨c36, _, _, rfl, pt, us, O38, rfl⟩))))))))
   have H48 := orF h47 h44
   refine vb h47 (wn (va (.int .i64 (w64 p0)) (wn (va (.bool (decide ((w64 p0) ≥ 55243))) (wn (bn H48 fun d_51 h49 H48 => ?_))))))
   rcases bo (decide ((w64 p0) ≥ 55243)) with h50 | h50
   ·have H51 := anT h50 h49
    refine vb h50 (wn (va (.int .i64 (w64 p0)) (wn (va (.bool (decide ((w64 p0) ≤ 55291))) (wn ?_)))))
    obtain rfl := si H51
    refine va (.bool (decide ((w64 p0) ≤ 55291))) ?_
    obtain rfl := si H48
    exact va (.bool (decide ((w64 p0) ≤ 55291))) (wln ⟨c36, _, _, rfl, pt, us, O38, rfl⟩)
   obtain rfl := anF h50 h49
   refine vb h50 (ps (ps (wn (va (.bool false) ?_))))
   obtain rfl := si H48
   exact va (.bool false) (wln ⟨c36, _, _, rfl, pt, us, O38, rfl⟩)
  obtain rfl := anF h45 h43
  refine vb h45 (ps (ps (va (.bool false) ?_)))
  have h52 : false = false := rfl
  have H53 := orF h52 h44
  refine vb h52 (wn (va (.int .i64 (w64 p0)) (wn (va (.bool (decide ((w64 p0) ≥ 55243))) (wn (bn H53 fun d_51 h54 H53 => ?_))))))
  rcases bo (decide ((w64 p0) ≥ 55243)) with h55 | h55
  ·have H56 := anT h55 h54
   refine vb h55 (wn (va (.int .i64 (w64 p0)) (wn (va (.bool (decide ((w64 p0) ≤ 55291))) (wn ?_)))))
   obtain rfl := si H56
   refine va (.bool (decide ((w64 p0) ≤ 55291))) ?_
   obtain rfl := si H53
   exact va (.bool (decide ((w64 p0) ≤ 55291))) (wln ⟨c36, _, _, rfl, pt, us, O38, rfl⟩)
  obtain rfl := anF h55 h54
  refine vb h55 (ps (ps (wn (va (.bool false) ?_))))
  obtain rfl := si H53
  exact va (.bool false) (wln ⟨c36, _, _, rfl, pt, us, O38, rfl⟩)
 rintro e_ w_ ⟨c57, g58, _, rfl, l57, rfl, O59, rfl⟩
 refine nrm (cn H (fun h63 H => ?_) (fun h63 H => ?_))
 ·refine sr (va (.int .i64 11) (wln (W.ret (thr ?_))))
  obtain rfl := si H
  exact r1 ⟨_, c57, rfl, rfl, pt, O59, rfl⟩
 refine W.skip (nrm (sr (va (.int .i32 p0) (bn H fun x_59 h64 H => cl (c_linotyperef08_Split O59 p0 h64) ?_))))
 rintro v70 c69 l69 ⟨O66, rfl⟩
 refine va (.tuple #[.int .i64 x_59.1, .int .i64 x_59.2.1, .int .i64 x_59.2.2]) (va (.int .i64 x_59.1) (va (.int .i64 x_59.2.1) (va (.int .i64 x_59.2.2) (va (.int .i64 x_59.1) (va (.int .i64 x_59.2.1) (va (.int .i64 x_59.2.2) (wln (W.seq (sr (va (.int .i64 x_59.1) (va (.bool (x_59.1 == 0)) (wln (cn H (fun h71 H => ?_) (fun h71 H => ?_))))))))))))))
 ·refine sr (va (.int .i64 0) (wln (W.ret (thr ?_))))
  obtain rfl := si H
  exact r1 ⟨_, c69, rfl, rfl, pt, O66, rfl⟩
 refine W.skip (nrm (W.seq (sr (va (.int .i64 x_59.2.2) (va (.bool (x_59.2.2 == 0)) (wln (cn H (fun h72 H => ?_) (fun h72 H => ?_))))))))
 ·refine sr (va (.int .i64 12) (wln (W.ret (thr ?_))))
  obtain rfl := si H
  exact r1 ⟨_, c69, rfl, rfl, pt, O66, rfl⟩
 refine W.skip (nrm (sr (va (.int .i64 13) (wln (W.ret ?_)))))
 obtain rfl := si H
 exact r1 ⟨_, c69, rfl, rfl, pt, O66, rfl⟩
def f_linotyperef09_Of (p0 : Int) : Option (Int) :=
 (f_linotyperef09_list1).bind fun x_3 =>
 (f_linotyperef09_list2).bind fun x_4 =>
 (f_linotyperef09_list3).bind fun x_5 =>
 (f_linotyperef09_list4).bind fun x_6 =>
 (f_linotyperef09_list5).bind fun x_7 =>
 (f_linotyperef09_list6).bind fun x_8 =>
 (f_linotyperef09_list7).bind fun x_9 =>
 (f_linotyperef09_list8).bind fun x_10 =>
 (iter (σ := Int) (τ := Int ⊕ Unit) (((([x_3, x_4, x_5, x_6, x_7, x_8, x_9, x_10] : List (List (Int × Int))).length : Int) - 0).toNat + 1) (fun s_16 =>
 if (decide (s_16 < (([x_3, x_4, x_5, x_6, x_7, x_8, x_9, x_10] : List (List (Int × Int))).length : Int))) = true then
 (idx ([x_3, x_4, x_5, x_6, x_7, x_8, x_9, x_10] : List (List (Int × Int))) s_16).bind fun x_24 =>
 (f_linotyperef09_In x_24 p0).bind fun x_27 =>
 if x_27 = true then
 some (.inr (.inl (w64 (s_16 + 1))))
 else
 some (.inl ((w64 (s_16 + 1))))
 else
 some (.inr (.inr ()))) (0)).bind fun o_16 =>
 match o_16 with
 | .inl o_16 =>
 some o_16
 | .inr o_16 =>
 (f_linotyperef08_Class p0).bind fun x_38 =>
 some x_38
theorem c_linotyperef09_Of (O0 : Own c0 G F) (p0 : Int) {r : Int} (H : f_linotyperef09_Of p0 = some r) :
    Calls Tryz.prog 74 #[.int .i32 p0] c0.w (Post c0 fun c v => Own c G (F) ∧ v = .int .i64 r) := by
 unfold f_linotyperef09_Of at H
 refine en func74 rfl rfl (sr (va (.int .i64 0) (wln (sr (bn H fun x_3 h1 H => cl (c_linotyperef09_list1 O0 h1) ?_)))))
 rintro v2 c9 l9 ⟨_, u3, O6, rfl, h4⟩
 refine bn H fun x_4 h11 H => cl (c_linotyperef09_list2 O6 h11) ?_
 rintro v12 c19 l19 ⟨_, u13, O16, rfl, h14⟩
 refine bn H fun x_5 h21 H => cl (c_linotyperef09_list3 O16 h21) ?_
 rintro v22 c29 l29 ⟨_, u23, O26, rfl, h24⟩
 refine bn H fun x_6 h31 H => cl (c_linotyperef09_list4 O26 h31) ?_
 rintro v32 c39 l39 ⟨_, u33, O36, rfl, h34⟩
 refine bn H fun x_7 h41 H => cl (c_linotyperef09_list5 O36 h41) ?_
 rintro v42 c49 l49 ⟨_, u43, O46, rfl, h44⟩
 refine bn H fun x_8 h51 H => cl (c_linotyperef09_list6 O46 h51) ?_
 rintro v52 c59 l59 ⟨_, u53, O56, rfl, h54⟩
 refine bn H fun x_9 h61 H => cl (c_linotyperef09_list7 O56 h61) ?_
 rintro v62 c69 l69 ⟨_, u63, O66, rfl, h64⟩
 refine bn H fun x_10 h71 H => cl (c_linotyperef09_list8 O66 h71) ?_
 rintro v72 c79 l79 ⟨_, u73, O76, rfl, h74⟩
 obtain ⟨c83, h84, l83, O81, h82⟩ := O76.frz 7 rfl (h4.mono (l19.trans (l29.trans (l39.trans (l49.trans (l59.trans (l69.trans l79)))))))
 refine WL.gh h84 ?_
 obtain ⟨c87, h88, l87, O85, h86⟩ := O81.frz 6 rfl (h14.mono (l29.trans (l39.trans (l49.trans (l59.trans (l69.trans (l79.trans l83)))))))
 refine WL.gh h88 ?_
 obtain ⟨c91, h92, l91, O89, h90⟩ := O85.frz 5 rfl (h24.mono (l39.trans (l49.trans (l59.trans (l69.trans (l79.trans (l83.trans l87)))))))
 refine WL.gh h92 ?_
 obtain ⟨c95, h96, l95, O93, h94⟩ := O89.frz 4 rfl (h34.mono (l49.trans (l59.trans (l69.trans (l79.trans (l83.trans (l87.trans l91)))))))
 refine WL.gh h96 ?_
 obtain ⟨c99, h100, l99, O97, h98⟩ := O93.frz 3 rfl (h44.mono (l59.trans (l69.trans (l79.trans (l83.trans (l87.trans (l91.trans l95)))))))
 refine WL.gh h100 ?_
 obtain ⟨c103, h104, l103, O101, h102⟩ := O97.frz 2 rfl (h54.mono (l69.trans (l79.trans (l83.trans (l87.trans (l91.trans (l95.trans l99)))))))
 refine WL.gh h104 ?_
 obtain ⟨c107, h108, l107, O105, h106⟩ := O101.frz 1 rfl (h64.mono (l79.trans (l83.trans (l87.trans (l91.trans (l95.trans (l99.trans l103)))))))
 refine WL.gh h108 ?_
 obtain ⟨c111, h112, l111, O109, h110⟩ := O105.frz 0 rfl (h74.mono (l83.trans (l87.trans (l91.trans (l95.trans (l99.trans (l103.trans l107)))))))
 refine WL.gh h112 ?_
 obtain ⟨a113, a114, a115, rfl⟩ := ((h82.mono (l87.trans (l91.trans (l95.trans (l99.trans (l103.trans (l107.trans l111)))))))).form
 obtain ⟨a116, a117, a118, rfl⟩ := ((h86.mono (l91.trans (l95.trans (l99.trans (l103.trans (l107.trans l111))))))).form
 obtain ⟨a119, a120, a121, rfl⟩ := ((h90.mono (l95.trans (l99.trans (l103.trans (l107.trans l111)))))).form
 obtain ⟨a122, a123, a124, rfl⟩ := ((h94.mono (l99.trans (l103.trans (l107.trans l111))))).form
 obtain ⟨a125, a126, a127, rfl⟩ := ((h98.mono (l103.trans (l107.trans l111)))).form
 obtain ⟨a128, a129, a130, rfl⟩ := ((h102.mono (l107.trans l111))).form
 obtain ⟨a131, a132, a133, rfl⟩ := ((h106.mono l111)).form
 obtain ⟨a134, a135, a136, rfl⟩ := (h110).form
 refine me (sl (RL RA2_i64) 189 [[.slice a113 a114 a115], [.slice a116 a117 a118], [.slice a119 a120 a121], [.slice a122 a123 a124], [.slice a125 a126 a127], [.slice a128 a129 a130], [.slice a131 a132 a133], [.slice a134 a135 a136]] ([x_3, x_4, x_5, x_6, x_7, x_8, x_9, x_10] : List (List (Int × Int))) O109 ⟨⟨(.slice a113 a114 a115), rfl, h82.m⟩, ⟨(.slice a116 a117 a118), rfl, h86.m⟩, ⟨(.slice a119 a120 a121), rfl, h90.m⟩, ⟨(.slice a122 a123 a124), rfl, h94.m⟩, ⟨(.slice a125 a126 a127), rfl, h98.m⟩, ⟨(.slice a128 a129 a130), rfl, h102.m⟩, ⟨(.slice a131 a132 a133), rfl, h106.m⟩, ⟨(.slice a134 a135 a136), rfl, h110⟩, trivial⟩) ?_
 rintro v141 c140 l140 ⟨u138, O137, h139⟩
 refine va (v141) (wln (W.seq (sr (va (.int .i64 0) (wln (W.block (bn H fun o_16 h142 H143 => lp h142 (fun s_16 => Jn c140 fun c l => Own c G (es true (RL RA2_i64) v141 189 u138 ([x_3, x_4, x_5, x_6, x_7, x_8, x_9, x_10] : List (List (Int × Int))) :: es false RA2_i64 (.slice a134 a135 a136) 242 u73 x_10 :: es false RA2_i64 (.slice a131 a132 a133) 242 u63 x_9 :: es false RA2_i64 (.slice a128 a129 a130) 242 u53 x_8 :: es false RA2_i64 (.slice a125 a126 a127) 242 u43 x_7 :: es false RA2_i64 (.slice a122 a123 a124) 242 u33 x_6 :: es false RA2_i64 (.slice a119 a120 a121) 242 u23 x_5 :: es false RA2_i64 (.slice a116 a117 a118) 242 u13 x_4 :: es false RA2_i64 (.slice a113 a114 a115) 242 u3 x_3 :: F) ∧ l = [(0, .int .i32 p0), (3, v141), (4, .int .i64 s_16)]) (fun t => match t with | .inl x_ => (fun rr_ ex e w => ex = .ret ∧ (Jn c140 fun c l => Own c G (F) ∧ l = [(2, .int .i64 rr_)]) e w) x_ | .inr x_ => (fun o_16_ ex e w => ex = .exit 0 ∧ (Jn c140 fun c l => Own c G (es true (RL RA2_i64) v141 189 u138 ([x_3, x_4, x_5, x_6, x_7, x_8, x_9, x_10] : List (List (Int × Int))) :: es false RA2_i64 (.slice a134 a135 a136) 242 u73 x_10 :: es false RA2_i64 (.slice a131 a132 a133) 242 u63 x_9 :: es false RA2_i64 (.slice a128 a129 a130) 242 u53 x_8 :: es false RA2_i64 (.slice a125 a126 a127) 242 u43 x_7 :: es false RA2_i64 (.slice a122 a123 a124) 242 u33 x_6 :: es false RA2_i64 (.slice a119 a120 a121) 242 u23 x_5 :: es false RA2_i64 (.slice a116 a117 a118) 242 u13 x_4 :: es false RA2_i64 (.slice a113 a114 a115) 242 u3 x_3 :: F) ∧ l = [(0, .int .i32 p0)]) e w) x_) ?_ ?_ ?_)))))))
 ·clear H143 h142
  intro s_16 xx_ ee_ ww_ H
  revert ee_ ww_
  rintro e_ w_ ⟨c144, g145, _, rfl, l144, rfl, O146, rfl⟩
  refine W.seq (sr (va (.int .i64 s_16) (va (v141) (vx (lnO 3 underlying191 h139.m) (va (.bool (decide (s_16 < (([x_3, x_4, x_5, x_6, x_7, x_8, x_9, x_10] : List (List (Int × Int))).length : Int)))) (wln (cn H (fun h150 H => ?_) (fun h150 H => ?_))))))))
  ·refine W.skip (nrm (W.seq (W.block (sr (va (v141) (va (.int .i64 s_16) (bn H fun x_24 h151 H => vx (ixO underlying191 h139.m h151) ?_)))))))
   obtain ⟨l_152, h153, m154⟩ := OA.at (h139.mono l144) h151
   obtain ⟨v155, rfl, h156⟩ := h153
   refine vr v155 (rx (by kernel_rfl) (ldE1 underlying189 rfl (O146.on 0 rfl) (h139.m.blk h151) (at1 (j := 0) m154 rfl))) (va (.int .i32 p0) (bn H fun x_27 h157 H => cl (c_linotyperef09_In O146 x_24 p0 h156 h157) ?_))
   rintro v163 c162 l162 ⟨O159, rfl⟩
   refine wln (cn H (fun h164 H => ?_) (fun h164 H => ?_))
   ·refine sr (va (.int .i64 s_16) (va (.int .i64 (w64 (s_16 + 1))) (va (.int .i64 (w64 (s_16 + 1))) (wln (W.ret (bkr (thr ?_)))))))
    obtain rfl := si H
    refine ⟨_, rfl, ⟨rfl, ?_⟩⟩
    have O165 := O159.sD 9 []
    exact ⟨c162, _, _, rfl, pt, us, O165, rfl⟩
   refine W.skip (bkn (nrm (W.region (va (.int .i64 s_16) (va (.int .i64 (w64 (s_16 + 1))) (va (.int .i64 (w64 (s_16 + 1))) (WL.nil ?_)))))))
   obtain rfl := si H
   exact ⟨_, rfl, ⟨c162, _, _, rfl, pt, us, O159, rfl⟩⟩
  refine W.exit (thx ?_)
  obtain rfl := si H
  exact ⟨_, rfl, rfl, ⟨c144, _, _, rfl, pt, us, O146, rfl⟩⟩
 ·exact ⟨c140, _, _, rfl, pt, us, O137, rfl⟩
 rcases o_16 with o_16 | o_16
 ·intro ex_; revert ex_
  rintro _ e_ w_ ⟨rfl, c166, g167, _, rfl, l166, rfl, O168, rfl⟩
  refine bkr (thr ?_)
  obtain rfl := si H143
  exact r1 ⟨_, c166, rfl, rfl, pt, O168, rfl⟩
 rintro _ e_ w_ ⟨rfl, c172, g173, _, rfl, l172, rfl, O174, rfl⟩
 refine bke (nrm (sr (va (.int .i32 p0) (bn H143 fun x_38 h178 H143 => cl (c_linotyperef08_Class O174 p0 h178) ?_))))
 rintro v184 c183 l183 ⟨O180, rfl⟩
 refine va (.int .i64 x_38) (wln (W.ret ?_))
 obtain rfl := si H143
 have O185 := O180.sD 9 []
 exact r1 ⟨_, c183, rfl, rfl, pt, O185, rfl⟩
def t_linotyperef10_list_81 : List (Int × Int) := [(169, 169), (174, 174), (8252, 8252), (8265, 8265), (8482, 8482), (8505, 8505), (8596, 8601), (8617, 8618), (8986, 8987), (9000, 9000), (9096, 9096), (9167, 9167), (9193, 9203), (9208, 9210), (9410, 9410), (9642, 9643), (9654, 9654), (9664, 9664), (9723, 9726), (9728, 9733), (9735, 9746), (9748, 9861), (9872, 9989), (9992, 10002), (10004, 10004), (10006, 10006), (10013, 10013), (10017, 10017), (10024, 10024), (10035, 10036), (10052, 10052), (10055, 10055), (10060, 10060), (10062, 10062), (10067, 10069), (10071, 10071), (10083, 10087), (10133, 10135), (10145, 10145), (10160, 10160), (10175, 10175), (10548, 10549), (11013, 11015), (11035, 11036), (11088, 11088), (11093, 11093), (12336, 12336), (12349, 12349), (12951, 12951), (12953, 12953), (126976, 127231), (127245, 127247), (127279, 127279), (127340, 127345), (127358, 127359), (127374, 127374), (127377, 127386), (127405, 127461), (127489, 127503), (127514, 127514), (127535, 127535), (127538, 127546), (127548, 127551), (127561, 127994), (128000, 128317), (128326, 128591), (128640, 128767), (128884, 128895), (128981, 129023), (129036, 129039), (129096, 129103), (129114, 129119), (129160, 129167), (129198, 129279), (129292, 129338), (129340, 129349), (129351, 129791), (130048, 131069)]
def f_linotyperef10_list  : Option (List (Int × Int)) :=
 some t_linotyperef10_list_81
theorem c_linotyperef10_list (O0 : Own c0 G F) {r : List (Int × Int)} (H : f_linotyperef10_list  = some r) :
    Calls Tryz.prog 141 #[] c0.w (Post c0 fun c v => ∃ y1 y2, Own c G (es true RA2_i64 y1 242 y2 r :: F) ∧ v = y1 ∧ OA RA2_i64 c y1 y2 r) := by
 unfold f_linotyperef10_list at H
 refine en func141 rfl rfl (sr (va (.slice none 0 0) (wln (sr (va (.agg #[.int .i64 169, .int .i64 169]) (va (.agg #[.int .i64 174, .int .i64 174]) (va (.agg #[.int .i64 8252, .int .i64 8252]) (va (.agg #[.int .i64 8265, .int .i64 8265]) (va (.agg #[.int .i64 8482, .int .i64 8482]) (va (.agg #[.int .i64 8505, .int .i64 8505]) (va (.agg #[.int .i64 8596, .int .i64 8601]) (va (.agg #[.int .i64 8617, .int .i64 8618]) (va (.agg #[.int .i64 8986, .int .i64 8987]) (va (.agg #[.int .i64 9000, .int .i64 9000]) (va (.agg #[.int .i64 9096, .int .i64 9096]) (va (.agg #[.int .i64 9167, .int .i64 9167]) (va (.agg #[.int .i64 9193, .int .i64 9203]) (va (.agg #[.int .i64 9208, .int .i64 9210]) (va (.agg #[.int .i64 9410, .int .i64 9410]) (va (.agg #[.int .i64 9642, .int .i64 9643]) (va (.agg #[.int .i64 9654, .int .i64 9654]) (va (.agg #[.int .i64 9664, .int .i64 9664]) (va (.agg #[.int .i64 9723, .int .i64 9726]) (va (.agg #[.int .i64 9728, .int .i64 9733]) (va (.agg #[.int .i64 9735, .int .i64 9746]) (va (.agg #[.int .i64 9748, .int .i64 9861]) (va (.agg #[.int .i64 9872, .int .i64 9989]) (va (.agg #[.int .i64 9992, .int .i64 10002]) (va (.agg #[.int .i64 10004, .int .i64 10004]) (va (.agg #[.int .i64 10006, .int .i64 10006]) (va (.agg #[.int .i64 10013, .int .i64 10013]) (va (.agg #[.int .i64 10017, .int .i64 10017]) (va (.agg #[.int .i64 10024, .int .i64 10024]) (va (.agg #[.int .i64 10035, .int .i64 10036]) (va (.agg #[.int .i64 10052, .int .i64 10052]) (va (.agg #[.int .i64 10055, .int .i64 10055]) (va (.agg #[.int .i64 10060, .int .i64 10060]) (va (.agg #[.int .i64 10062, .int .i64 10062]) (va (.agg #[.int .i64 10067, .int .i64 10069]) (va (.agg #[.int .i64 10071, .int .i64 10071]) (va (.agg #[.int .i64 10083, .int .i64 10087]) (va (.agg #[.int .i64 10133, .int .i64 10135]) (va (.agg #[.int .i64 10145, .int .i64 10145]) (va (.agg #[.int .i64 10160, .int .i64 10160]) (va (.agg #[.int .i64 10175, .int .i64 10175]) (va (.agg #[.int .i64 10548, .int .i64 10549]) (va (.agg #[.int .i64 11013, .int .i64 11015]) (va (.agg #[.int .i64 11035, .int .i64 11036]) (va (.agg #[.int .i64 11088, .int .i64 11088]) (va (.agg #[.int .i64 11093, .int .i64 11093]) (va (.agg #[.int .i64 12336, .int .i64 12336]) (va (.agg #[.int .i64 12349, .int .i64 12349]) (va (.agg #[.int .i64 12951, .int .i64 12951]) (va (.agg #[.int .i64 12953, .int .i64 12953]) (va (.agg #[.int .i64 126976, .int .i64 127231]) (va (.agg #[.int .i64 127245, .int .i64 127247]) (va (.agg #[.int .i64 127279, .int .i64 127279]) (va (.agg #[.int .i64 127340, .int .i64 127345]) (va (.agg #[.int .i64 127358, .int .i64 127359]) (va (.agg #[.int .i64 127374, .int .i64 127374]) (va (.agg #[.int .i64 127377, .int .i64 127386]) (va (.agg #[.int .i64 127405, .int .i64 127461]) (va (.agg #[.int .i64 127489, .int .i64 127503]) (va (.agg #[.int .i64 127514, .int .i64 127514]) (va (.agg #[.int .i64 127535, .int .i64 127535]) (va (.agg #[.int .i64 127538, .int .i64 127546]) (va (.agg #[.int .i64 127548, .int .i64 127551]) (va (.agg #[.int .i64 127561, .int .i64 127994]) (va (.agg #[.int .i64 128000, .int .i64 128317]) (va (.agg #[.int .i64 128326, .int .i64 128591]) (va (.agg #[.int .i64 128640, .int .i64 128767]) (va (.agg #[.int .i64 128884, .int .i64 128895]) (va (.agg #[.int .i64 128981, .int .i64 129023]) (va (.agg #[.int .i64 129036, .int .i64 129039]) (va (.agg #[.int .i64 129096, .int .i64 129103]) (va (.agg #[.int .i64 129114, .int .i64 129119]) (va (.agg #[.int .i64 129160, .int .i64 129167]) (va (.agg #[.int .i64 129198, .int .i64 129279]) (va (.agg #[.int .i64 129292, .int .i64 129338]) (va (.agg #[.int .i64 129340, .int .i64 129349]) (va (.agg #[.int .i64 129351, .int .i64 129791]) (va (.agg #[.int .i64 130048, .int .i64 131069]) (me (Own.sl (R := RA2_i64) (E := 242) (ls := t_linotyperef10_list_81.map (fun x => [Value.int .i64 x.1, Value.int .i64 x.2])) (vs := (t_linotyperef10_list_81.map (fun x => [Value.int .i64 x.1, Value.int .i64 x.2])).flatten) (xs := t_linotyperef10_list_81) true O0 (Nat.succ_pos _) rfl (AllR.map _ (fun _ => rfl) _) (by kernel_rfl) (by kernel_rfl)) ?_)))))))))))))))))))))))))))))))))))))))))))))))))))))))))))))))))))))))))))))))))))
 rintro v5 c4 l4 ⟨u2, O1, h3⟩
 refine va (v5) (wln (W.ret ?_))
 obtain rfl := si H
 exact r1 ⟨_, c4, rfl, rfl, pt, v5, u2, O1, rfl, h3⟩
def f_linotyperef10_Is (p0 : Int) : Option (Bool) :=
 (f_linotyperef10_list).bind fun x_3 =>
 (f_linotyperef09_In x_3 p0).bind fun x_5 =>
 some x_5
theorem c_linotyperef10_Is (O0 : Own c0 G F) (p0 : Int) {r : Bool} (H : f_linotyperef10_Is p0 = some r) :
    Calls Tryz.prog 75 #[.int .i32 p0] c0.w (Post c0 fun c v => Own c G (F) ∧ v = .bool r) := by
 unfold f_linotyperef10_Is at H
 refine en func75 rfl rfl (sr (va (.bool false) (wln (sr (bn H fun x_3 h1 H => cl (c_linotyperef10_list O0 h1) ?_)))))
 rintro v2 c9 l9 ⟨_, u3, O6, rfl, h4⟩
 refine va (.int .i32 p0) ?_
 obtain ⟨c13, h14, l13, O11, h12⟩ := O6.frz 0 rfl h4
 refine WL.gh h14 (bn H fun x_5 h15 H => cl (c_linotyperef09_In O11 x_3 p0 h12 h15) ?_)
 rintro v21 c20 l20 ⟨O17, rfl⟩
 refine va (.bool x_5) (wln (W.ret ?_))
 obtain rfl := si H
 have O22 := O17.sD 1 []
 exact r1 ⟨_, c20, rfl, rfl, pt, O22, rfl⟩
def t_linotyperef11_list1_29 : List (Int × Int) := [(2325, 2361), (2392, 2399), (2424, 2431), (2453, 2472), (2474, 2480), (2482, 2482), (2486, 2489), (2524, 2525), (2527, 2527), (2544, 2545), (2709, 2728), (2730, 2736), (2738, 2739), (2741, 2745), (2809, 2809), (2837, 2856), (2858, 2864), (2866, 2867), (2869, 2873), (2908, 2909), (2911, 2911), (2929, 2929), (3093, 3112), (3114, 3129), (3160, 3162), (3349, 3386)]
def f_linotyperef11_list1  : Option (List (Int × Int)) :=
 some t_linotyperef11_list1_29
theorem c_linotyperef11_list1 (O0 : Own c0 G F) {r : List (Int × Int)} (H : f_linotyperef11_list1  = some r) :
    Calls Tryz.prog 142 #[] c0.w (Post c0 fun c v => ∃ y1 y2, Own c G (es true RA2_i64 y1 242 y2 r :: F) ∧ v = y1 ∧ OA RA2_i64 c y1 y2 r) := by
 unfold f_linotyperef11_list1 at H
 refine en func142 rfl rfl (sr (va (.slice none 0 0) (wln (sr (va (.agg #[.int .i64 2325, .int .i64 2361]) (va (.agg #[.int .i64 2392, .int .i64 2399]) (va (.agg #[.int .i64 2424, .int .i64 2431]) (va (.agg #[.int .i64 2453, .int .i64 2472]) (va (.agg #[.int .i64 2474, .int .i64 2480]) (va (.agg #[.int .i64 2482, .int .i64 2482]) (va (.agg #[.int .i64 2486, .int .i64 2489]) (va (.agg #[.int .i64 2524, .int .i64 2525]) (va (.agg #[.int .i64 2527, .int .i64 2527]) (va (.agg #[.int .i64 2544, .int .i64 2545]) (va (.agg #[.int .i64 2709, .int .i64 2728]) (va (.agg #[.int .i64 2730, .int .i64 2736]) (va (.agg #[.int .i64 2738, .int .i64 2739]) (va (.agg #[.int .i64 2741, .int .i64 2745]) (va (.agg #[.int .i64 2809, .int .i64 2809]) (va (.agg #[.int .i64 2837, .int .i64 2856]) (va (.agg #[.int .i64 2858, .int .i64 2864]) (va (.agg #[.int .i64 2866, .int .i64 2867]) (va (.agg #[.int .i64 2869, .int .i64 2873]) (va (.agg #[.int .i64 2908, .int .i64 2909]) (va (.agg #[.int .i64 2911, .int .i64 2911]) (va (.agg #[.int .i64 2929, .int .i64 2929]) (va (.agg #[.int .i64 3093, .int .i64 3112]) (va (.agg #[.int .i64 3114, .int .i64 3129]) (va (.agg #[.int .i64 3160, .int .i64 3162]) (va (.agg #[.int .i64 3349, .int .i64 3386]) (me (Own.sl (R := RA2_i64) (E := 242) (ls := t_linotyperef11_list1_29.map (fun x => [Value.int .i64 x.1, Value.int .i64 x.2])) (vs := (t_linotyperef11_list1_29.map (fun x => [Value.int .i64 x.1, Value.int .i64 x.2])).flatten) (xs := t_linotyperef11_list1_29) true O0 (Nat.succ_pos _) rfl (AllR.map _ (fun _ => rfl) _) (by kernel_rfl) (by kernel_rfl)) ?_)))))))))))))))))))))))))))))))
 rintro v5 c4 l4 ⟨u2, O1, h3⟩
 refine va (v5) (wln (W.ret ?_))
 obtain rfl := si H
 exact r1 ⟨_, c4, rfl, rfl, pt, v5, u2, O1, rfl, h3⟩
def f_linotyperef11_list2  : Option (List (Int × Int)) :=
 some ([(2381, 2381), (2509, 2509), (2765, 2765), (2893, 2893), (3149, 3149), (3405, 3405)] : List (Int × Int))
theorem c_linotyperef11_list2 (O0 : Own c0 G F) {r : List (Int × Int)} (H : f_linotyperef11_list2  = some r) :
    Calls Tryz.prog 143 #[] c0.w (Post c0 fun c v => ∃ y1 y2, Own c G (es true RA2_i64 y1 242 y2 r :: F) ∧ v = y1 ∧ OA RA2_i64 c y1 y2 r) := by
 unfold f_linotyperef11_list2 at H
 refine en func143 rfl rfl (sr (va (.slice none 0 0) (wln (sr (va (.agg #[.int .i64 2381, .int .i64 2381]) (va (.agg #[.int .i64 2509, .int .i64 2509]) (va (.agg #[.int .i64 2765, .int .i64 2765]) (va (.agg #[.int .i64 2893, .int .i64 2893]) (va (.agg #[.int .i64 3149, .int .i64 3149]) (va (.agg #[.int .i64 3405, .int .i64 3405]) (me (sl RA2_i64 242 [[.int .i64 2381, .int .i64 2381], [.int .i64 2509, .int .i64 2509], [.int .i64 2765, .int .i64 2765], [.int .i64 2893, .int .i64 2893], [.int .i64 3149, .int .i64 3149], [.int .i64 3405, .int .i64 3405]] ([(2381, 2381), (2509, 2509), (2765, 2765), (2893, 2893), (3149, 3149), (3405, 3405)] : List (Int × Int)) O0 ⟨rfl, rfl, rfl, rfl, rfl, rfl, trivial⟩) ?_)))))))))))
 rintro v5 c4 l4 ⟨u2, O1, h3⟩
 refine va (v5) (wln (W.ret ?_))
 obtain rfl := si H
 exact r1 ⟨_, c4, rfl, rfl, pt, v5, u2, O1, rfl, h3⟩
def f_linotyperef11_list3  : Option (List (Int × Int)) :=
 some ([(768, 879), (1155, 1159), (1425, 1469), (1552, 1562), (1611, 1631), (2364, 2364), (2385, 2388), (2492, 2492), (2748, 2748), (2876, 2876), (3132, 3132), (6832, 6845), (7616, 7679), (8205, 8205), (8400, 8412), (12330, 12335), (12441, 12442), (65056, 65071)] : List (Int × Int))
theorem c_linotyperef11_list3 (O0 : Own c0 G F) {r : List (Int × Int)} (H : f_linotyperef11_list3  = some r) :
    Calls Tryz.prog 144 #[] c0.w (Post c0 fun c v => ∃ y1 y2, Own c G (es true RA2_i64 y1 242 y2 r :: F) ∧ v = y1 ∧ OA RA2_i64 c y1 y2 r) := by
 unfold f_linotyperef11_list3 at H
 refine en func144 rfl rfl (sr (va (.slice none 0 0) (wln (sr (va (.agg #[.int .i64 768, .int .i64 879]) (va (.agg #[.int .i64 1155, .int .i64 1159]) (va (.agg #[.int .i64 1425, .int .i64 1469]) (va (.agg #[.int .i64 1552, .int .i64 1562]) (va (.agg #[.int .i64 1611, .int .i64 1631]) (va (.agg #[.int .i64 2364, .int .i64 2364]) (va (.agg #[.int .i64 2385, .int .i64 2388]) (va (.agg #[.int .i64 2492, .int .i64 2492]) (va (.agg #[.int .i64 2748, .int .i64 2748]) (va (.agg #[.int .i64 2876, .int .i64 2876]) (va (.agg #[.int .i64 3132, .int .i64 3132]) (va (.agg #[.int .i64 6832, .int .i64 6845]) (va (.agg #[.int .i64 7616, .int .i64 7679]) (va (.agg #[.int .i64 8205, .int .i64 8205]) (va (.agg #[.int .i64 8400, .int .i64 8412]) (va (.agg #[.int .i64 12330, .int .i64 12335]) (va (.agg #[.int .i64 12441, .int .i64 12442]) (va (.agg #[.int .i64 65056, .int .i64 65071]) (me (sl RA2_i64 242 [[.int .i64 768, .int .i64 879], [.int .i64 1155, .int .i64 1159], [.int .i64 1425, .int .i64 1469], [.int .i64 1552, .int .i64 1562], [.int .i64 1611, .int .i64 1631], [.int .i64 2364, .int .i64 2364], [.int .i64 2385, .int .i64 2388], [.int .i64 2492, .int .i64 2492], [.int .i64 2748, .int .i64 2748], [.int .i64 2876, .int .i64 2876], [.int .i64 3132, .int .i64 3132], [.int .i64 6832, .int .i64 6845], [.int .i64 7616, .int .i64 7679], [.int .i64 8205, .int .i64 8205], [.int .i64 8400, .int .i64 8412], [.int .i64 12330, .int .i64 12335], [.int .i64 12441, .int .i64 12442], [.int .i64 65056, .int .i64 65071]] ([(768, 879), (1155, 1159), (1425, 1469), (1552, 1562), (1611, 1631), (2364, 2364), (2385, 2388), (2492, 2492), (2748, 2748), (2876, 2876), (3132, 3132), (6832, 6845), (7616, 7679), (8205, 8205), (8400, 8412), (12330, 12335), (12441, 12442), (65056, 65071)] : List (Int × Int)) O0 ⟨rfl, rfl, rfl, rfl, rfl, rfl, rfl, rfl, rfl, rfl, rfl, rfl, rfl, rfl, rfl, rfl, rfl, rfl, trivial⟩) ?_)))))))))))))))))))))))
 rintro v5 c4 l4 ⟨u2, O1, h3⟩
 refine va (v5) (wln (W.ret ?_))
 obtain rfl := si H
 exact r1 ⟨_, c4, rfl, rfl, pt, v5, u2, O1, rfl, h3⟩
def f_linotyperef11_Of (p0 : Int) : Option (Int) :=
 (f_linotyperef11_list1).bind fun x_3 =>
 (f_linotyperef11_list2).bind fun x_4 =>
 (f_linotyperef11_list3).bind fun x_5 =>
 (iter (σ := Int) (τ := Int ⊕ Unit) (((([x_3, x_4, x_5] : List (List (Int × Int))).length : Int) - 0).toNat + 1) (fun s_11 =>
 if (decide (s_11 < (([x_3, x_4, x_5] : List (List (Int × Int))).length : Int))) = true then
 (idx ([x_3, x_4, x_5] : List (List (Int × Int))) s_11).bind fun x_19 =>
 (f_linotyperef09_In x_19 p0).bind fun x_22 =>
 if x_22 = true then
 some (.inr (.inl (w64 (s_11 + 1))))
 else
 some (.inl ((w64 (s_11 + 1))))
 else
 some (.inr (.inr ()))) (0)).bind fun o_11 =>
 match o_11 with
 | .inl o_11 =>
 some o_11
 | .inr o_11 =>
 some 0
theorem c_linotyperef11_Of (O0 : Own c0 G F) (p0 : Int) {r : Int} (H : f_linotyperef11_Of p0 = some r) :
    Calls Tryz.prog 76 #[.int .i32 p0] c0.w (Post c0 fun c v => Own c G (F) ∧ v = .int .i64 r) := by
 unfold f_linotyperef11_Of at H
 refine en func76 rfl rfl (sr (va (.int .i64 0) (wln (sr (bn H fun x_3 h1 H => cl (c_linotyperef11_list1 O0 h1) ?_)))))
 rintro v2 c9 l9 ⟨_, u3, O6, rfl, h4⟩
 refine bn H fun x_4 h11 H => cl (c_linotyperef11_list2 O6 h11) ?_
 rintro v12 c19 l19 ⟨_, u13, O16, rfl, h14⟩
 refine bn H fun x_5 h21 H => cl (c_linotyperef11_list3 O16 h21) ?_
 rintro v22 c29 l29 ⟨_, u23, O26, rfl, h24⟩
 obtain ⟨c33, h34, l33, O31, h32⟩ := O26.frz 2 rfl (h4.mono (l19.trans l29))
 refine WL.gh h34 ?_
 obtain ⟨c37, h38, l37, O35, h36⟩ := O31.frz 1 rfl (h14.mono (l29.trans l33))
 refine WL.gh h38 ?_
 obtain ⟨c41, h42, l41, O39, h40⟩ := O35.frz 0 rfl (h24.mono (l33.trans l37))
 refine WL.gh h42 ?_
 obtain ⟨a43, a44, a45, rfl⟩ := ((h32.mono (l37.trans l41))).form
 obtain ⟨a46, a47, a48, rfl⟩ := ((h36.mono l41)).form
 obtain ⟨a49, a50, a51, rfl⟩ := (h40).form
 refine me (sl (RL RA2_i64) 189 [[.slice a43 a44 a45], [.slice a46 a47 a48], [.slice a49 a50 a51]] ([x_3, x_4, x_5] : List (List (Int × Int))) O39 ⟨⟨(.slice a43 a44 a45), rfl, h32.m⟩, ⟨(.slice a46 a47 a48), rfl, h36.m⟩, ⟨(.slice a49 a50 a51), rfl, h40⟩, trivial⟩) ?_
 rintro v56 c55 l55 ⟨u53, O52, h54⟩
 refine va (v56) (wln (W.seq (sr (va (.int .i64 0) (wln (W.block (bn H fun o_11 h57 H58 => lp h57 (fun s_11 => Jn c55 fun c l => Own c G (es true (RL RA2_i64) v56 189 u53 ([x_3, x_4, x_5] : List (List (Int × Int))) :: es false RA2_i64 (.slice a49 a50 a51) 242 u23 x_5 :: es false RA2_i64 (.slice a46 a47 a48) 242 u13 x_4 :: es false RA2_i64 (.slice a43 a44 a45) 242 u3 x_3 :: F) ∧ l = [(0, .int .i32 p0), (3, v56), (4, .int .i64 s_11)]) (fun t => match t with | .inl x_ => (fun rr_ ex e w => ex = .ret ∧ (Jn c55 fun c l => Own c G (F) ∧ l = [(2, .int .i64 rr_)]) e w) x_ | .inr x_ => (fun o_11_ ex e w => ex = .exit 0 ∧ (Jn c55 fun c l => Own c G (es true (RL RA2_i64) v56 189 u53 ([x_3, x_4, x_5] : List (List (Int × Int))) :: es false RA2_i64 (.slice a49 a50 a51) 242 u23 x_5 :: es false RA2_i64 (.slice a46 a47 a48) 242 u13 x_4 :: es false RA2_i64 (.slice a43 a44 a45) 242 u3 x_3 :: F) ∧ l = []) e w) x_) ?_ ?_ ?_)))))))
 ·clear H58 h57
  intro s_11 xx_ ee_ ww_ H
  revert ee_ ww_
  rintro e_ w_ ⟨c59, g60, _, rfl, l59, rfl, O61, rfl⟩
  refine W.seq (sr (va (.int .i64 s_11) (va (v56) (vx (lnO 3 underlying191 h54.m) (va (.bool (decide (s_11 < (([x_3, x_4, x_5] : List (List (Int × Int))).length : Int)))) (wln (cn H (fun h65 H => ?_) (fun h65 H => ?_))))))))
  ·refine W.skip (nrm (W.seq (W.block (sr (va (v56) (va (.int .i64 s_11) (bn H fun x_19 h66 H => vx (ixO underlying191 h54.m h66) ?_)))))))
   obtain ⟨l_67, h68, m69⟩ := OA.at (h54.mono l59) h66
   obtain ⟨v70, rfl, h71⟩ := h68
   refine vr v70 (rx (by kernel_rfl) (ldE1 underlying189 rfl (O61.on 0 rfl) (h54.m.blk h66) (at1 (j := 0) m69 rfl))) (va (.int .i32 p0) (bn H fun x_22 h72 H => cl (c_linotyperef09_In O61 x_19 p0 h71 h72) ?_))
   rintro v78 c77 l77 ⟨O74, rfl⟩
   refine wln (cn H (fun h79 H => ?_) (fun h79 H => ?_))
   ·refine sr (va (.int .i64 s_11) (va (.int .i64 (w64 (s_11 + 1))) (va (.int .i64 (w64 (s_11 + 1))) (wln (W.ret (bkr (thr ?_)))))))
    obtain rfl := si H
    refine ⟨_, rfl, ⟨rfl, ?_⟩⟩
    have O80 := O74.sD 4 []
    exact ⟨c77, _, _, rfl, pt, us, O80, rfl⟩
   refine W.skip (bkn (nrm (W.region (va (.int .i64 s_11) (va (.int .i64 (w64 (s_11 + 1))) (va (.int .i64 (w64 (s_11 + 1))) (WL.nil ?_)))))))
   obtain rfl := si H
   exact ⟨_, rfl, ⟨c77, _, _, rfl, pt, us, O74, rfl⟩⟩
  refine W.exit (thx ?_)
  obtain rfl := si H
  exact ⟨_, rfl, rfl, ⟨c59, _, _, rfl, pt, us, O61, rfl⟩⟩
 ·exact ⟨c55, _, _, rfl, pt, us, O52, rfl⟩
 rcases o_11 with o_11 | o_11
 ·intro ex_; revert ex_
  rintro _ e_ w_ ⟨rfl, c81, g82, _, rfl, l81, rfl, O83, rfl⟩
  refine bkr (thr ?_)
  obtain rfl := si H58
  exact r1 ⟨_, c81, rfl, rfl, pt, O83, rfl⟩
 rintro _ e_ w_ ⟨rfl, c87, g88, _, rfl, l87, rfl, O89, rfl⟩
 refine bke (nrm (sr (va (.int .i64 0) (wln (W.ret ?_)))))
 obtain rfl := si H58
 have O93 := O89.sD 4 []
 exact r1 ⟨_, c87, rfl, rfl, pt, O93, rfl⟩
def t_linotyperef12_list1_112 : List (Int × Int) := [(4352, 4447), (8986, 8987), (9001, 9002), (9193, 9196), (9200, 9200), (9203, 9203), (9725, 9726), (9748, 9749), (9800, 9811), (9855, 9855), (9875, 9875), (9889, 9889), (9898, 9899), (9917, 9918), (9924, 9925), (9934, 9934), (9940, 9940), (9962, 9962), (9970, 9971), (9973, 9973), (9978, 9978), (9981, 9981), (9989, 9989), (9994, 9995), (10024, 10024), (10060, 10060), (10062, 10062), (10067, 10069), (10071, 10071), (10133, 10135), (10160, 10160), (10175, 10175), (11035, 11036), (11088, 11088), (11093, 11093), (11904, 11929), (11931, 12019), (12032, 12245), (12272, 12287), (12289, 12350), (12353, 12438), (12441, 12543), (12549, 12591), (12593, 12686), (12688, 12771), (12784, 12830), (12832, 12871), (12880, 19903), (19968, 42124), (42128, 42182), (43360, 43388), (44032, 55203), (63744, 64255), (65040, 65049), (65072, 65106), (65108, 65126), (65128, 65131), (94176, 94180), (94208, 100343), (100352, 101589), (110592, 110882), (126980, 126980), (127183, 127183), (127374, 127374), (127377, 127386), (127488, 127490), (127504, 127547), (127552, 127560), (127568, 127569), (127584, 127589), (127744, 127776), (127789, 127797), (127799, 127868), (127870, 127891), (127904, 127946), (127951, 127955), (127968, 127984), (127988, 127988), (127992, 128062), (128064, 128064), (128066, 128252), (128255, 128317), (128331, 128334), (128336, 128359), (128378, 128378), (128405, 128406), (128420, 128420), (128507, 128591), (128640, 128709), (128716, 128716), (128720, 128722), (128725, 128727), (128732, 128735), (128747, 128748), (128756, 128764), (128992, 129003), (129008, 129008), (129292, 129338), (129340, 129349), (129351, 129535), (129648, 129660), (129664, 129672), (129680, 129725), (129727, 129733), (129742, 129755), (129760, 129768), (129776, 129784), (131072, 196605), (196608, 262141)]
def f_linotyperef12_list1  : Option (List (Int × Int)) :=
 some t_linotyperef12_list1_112
theorem c_linotyperef12_list1 (O0 : Own c0 G F) {r : List (Int × Int)} (H : f_linotyperef12_list1  = some r) :
    Calls Tryz.prog 145 #[] c0.w (Post c0 fun c v => ∃ y1 y2, Own c G (es true RA2_i64 y1 242 y2 r :: F) ∧ v = y1 ∧ OA RA2_i64 c y1 y2 r) := by
 unfold f_linotyperef12_list1 at H
 refine en func145 rfl rfl (sr (va (.slice none 0 0) (wln (sr (va (.agg #[.int .i64 4352, .int .i64 4447]) (va (.agg #[.int .i64 8986, .int .i64 8987]) (va (.agg #[.int .i64 9001, .int .i64 9002]) (va (.agg #[.int .i64 9193, .int .i64 9196]) (va (.agg #[.int .i64 9200, .int .i64 9200]) (va (.agg #[.int .i64 9203, .int .i64 9203]) (va (.agg #[.int .i64 9725, .int .i64 9726]) (va (.agg #[.int .i64 9748, .int .i64 9749]) (va (.agg #[.int .i64 9800, .int .i64 9811]) (va (.agg #[.int .i64 9855, .int .i64 9855]) (va (.agg #[.int .i64 9875, .int .i64 9875]) (va (.agg #[.int .i64 9889, .int .i64 9889]) (va (.agg #[.int .i64 9898, .int .i64 9899]) (va (.agg #[.int .i64 9917, .int .i64 9918]) (va (.agg #[.int .i64 9924, .int .i64 9925]) (va (.agg #[.int .i64 9934, .int .i64 9934]) (va (.agg #[.int .i64 9940, .int .i64 9940]) (va (.agg #[.int .i64 9962, .int .i64 9962]) (va (.agg #[.int .i64 9970, .int .i64 9971]) (va (.agg #[.int .i64 9973, .int .i64 9973]) (va (.agg #[.int .i64 9978, .int .i64 9978]) (va (.agg #[.int .i64 9981, .int .i64 9981]) (va (.agg #[.int .i64 9989, .int .i64 9989]) (va (.agg #[.int .i64 9994, .int .i64 9995]) (va (.agg #[.int .i64 10024, .int .i64 10024]) (va (.agg #[.int .i64 10060, .int .i64 10060]) (va (.agg #[.int .i64 10062, .int .i64 10062]) (va (.agg #[.int .i64 10067, .int .i64 10069]) (va (.agg #[.int .i64 10071, .int .i64 10071]) (va (.agg #[.int .i64 10133, .int .i64 10135]) (va (.agg #[.int .i64 10160, .int .i64 10160]) (va (.agg #[.int .i64 10175, .int .i64 10175]) (va (.agg #[.int .i64 11035, .int .i64 11036]) (va (.agg #[.int .i64 11088, .int .i64 11088]) (va (.agg #[.int .i64 11093, .int .i64 11093]) (va (.agg #[.int .i64 11904, .int .i64 11929]) (va (.agg #[.int .i64 11931, .int .i64 12019]) (va (.agg #[.int .i64 12032, .int .i64 12245]) (va (.agg #[.int .i64 12272, .int .i64 12287]) (va (.agg #[.int .i64 12289, .int .i64 12350]) (va (.agg #[.int .i64 12353, .int .i64 12438]) (va (.agg #[.int .i64 12441, .int .i64 12543]) (va (.agg #[.int .i64 12549, .int .i64 12591]) (va (.agg #[.int .i64 12593, .int .i64 12686]) (va (.agg #[.int .i64 12688, .int .i64 12771]) (va (.agg #[.int .i64 12784, .int .i64 12830]) (va (.agg #[.int .i64 12832, .int .i64 12871]) (va (.agg #[.int .i64 12880, .int .i64 19903]) (va (.agg #[.int .i64 19968, .int .i64 42124]) (va (.agg #[.int .i64 42128, .int .i64 42182]) (va (.agg #[.int .i64 43360, .int .i64 43388]) (va (.agg #[.int .i64 44032, .int .i64 55203]) (va (.agg #[.int .i64 63744, .int .i64 64255]) (va (.agg #[.int .i64 65040, .int .i64 65049]) (va (.agg #[.int .i64 65072, .int .i64 65106]) (va (.agg #[.int .i64 65108, .int .i64 65126]) (va (.agg #[.int .i64 65128, .int .i64 65131]) (va (.agg #[.int .i64 94176, .int .i64 94180]) (va (.agg #[.int .i64 94208, .int .i64 100343]) (va (.agg #[.int .i64 100352, .int .i64 101589]) (va (.agg #[.int .i64 110592, .int .i64 110882]) (va (.agg #[.int .i64 126980, .int .i64 126980]) (va (.agg #[.int .i64 127183, .int .i64 127183]) (va (.agg #[.int .i64 127374, .int .i64 127374]) (va (.agg #[.int .i64 127377, .int .i64 127386]) (va (.agg #[.int .i64 127488, .int .i64 127490]) (va (.agg #[.int .i64 127504, .int .i64 127547]) (va (.agg #[.int .i64 127552, .int .i64 127560]) (va (.agg #[.int .i64 127568, .int .i64 127569]) (va (.agg #[.int .i64 127584, .int .i64 127589]) (va (.agg #[.int .i64 127744, .int .i64 127776]) (va (.agg #[.int .i64 127789, .int .i64 127797]) (va (.agg #[.int .i64 127799, .int .i64 127868]) (va (.agg #[.int .i64 127870, .int .i64 127891]) (va (.agg #[.int .i64 127904, .int .i64 127946]) (va (.agg #[.int .i64 127951, .int .i64 127955]) (va (.agg #[.int .i64 127968, .int .i64 127984]) (va (.agg #[.int .i64 127988, .int .i64 127988]) (va (.agg #[.int .i64 127992, .int .i64 128062]) (va (.agg #[.int .i64 128064, .int .i64 128064]) (va (.agg #[.int .i64 128066, .int .i64 128252]) (va (.agg #[.int .i64 128255, .int .i64 128317]) (va (.agg #[.int .i64 128331, .int .i64 128334]) (va (.agg #[.int .i64 128336, .int .i64 128359]) (va (.agg #[.int .i64 128378, .int .i64 128378]) (va (.agg #[.int .i64 128405, .int .i64 128406]) (va (.agg #[.int .i64 128420, .int .i64 128420]) (va (.agg #[.int .i64 128507, .int .i64 128591]) (va (.agg #[.int .i64 128640, .int .i64 128709]) (va (.agg #[.int .i64 128716, .int .i64 128716]) (va (.agg #[.int .i64 128720, .int .i64 128722]) (va (.agg #[.int .i64 128725, .int .i64 128727]) (va (.agg #[.int .i64 128732, .int .i64 128735]) (va (.agg #[.int .i64 128747, .int .i64 128748]) (va (.agg #[.int .i64 128756, .int .i64 128764]) (va (.agg #[.int .i64 128992, .int .i64 129003]) (va (.agg #[.int .i64 129008, .int .i64 129008]) (va (.agg #[.int .i64 129292, .int .i64 129338]) (va (.agg #[.int .i64 129340, .int .i64 129349]) (va (.agg #[.int .i64 129351, .int .i64 129535]) (va (.agg #[.int .i64 129648, .int .i64 129660]) (va (.agg #[.int .i64 129664, .int .i64 129672]) (va (.agg #[.int .i64 129680, .int .i64 129725]) (va (.agg #[.int .i64 129727, .int .i64 129733]) (va (.agg #[.int .i64 129742, .int .i64 129755]) (va (.agg #[.int .i64 129760, .int .i64 129768]) (va (.agg #[.int .i64 129776, .int .i64 129784]) (va (.agg #[.int .i64 131072, .int .i64 196605]) (va (.agg #[.int .i64 196608, .int .i64 262141]) (me (Own.sl (R := RA2_i64) (E := 242) (ls := t_linotyperef12_list1_112.map (fun x => [Value.int .i64 x.1, Value.int .i64 x.2])) (vs := (t_linotyperef12_list1_112.map (fun x => [Value.int .i64 x.1, Value.int .i64 x.2])).flatten) (xs := t_linotyperef12_list1_112) true O0 (Nat.succ_pos _) rfl (AllR.map _ (fun _ => rfl) _) (by kernel_rfl) (by kernel_rfl)) ?_))))))))))))))))))))))))))))))))))))))))))))))))))))))))))))))))))))))))))))))))))))))))))))))))))))))))))))))))))
 rintro v5 c4 l4 ⟨u2, O1, h3⟩
 refine va (v5) (wln (W.ret ?_))
 obtain rfl := si H
 exact r1 ⟨_, c4, rfl, rfl, pt, v5, u2, O1, rfl, h3⟩
def f_linotyperef12_list2  : Option (List (Int × Int)) :=
 some ([(12288, 12288), (65281, 65376), (65504, 65510)] : List (Int × Int))
theorem c_linotyperef12_list2 (O0 : Own c0 G F) {r : List (Int × Int)} (H : f_linotyperef12_list2  = some r) :
    Calls Tryz.prog 146 #[] c0.w (Post c0 fun c v => ∃ y1 y2, Own c G (es true RA2_i64 y1 242 y2 r :: F) ∧ v = y1 ∧ OA RA2_i64 c y1 y2 r) := by
 unfold f_linotyperef12_list2 at H
 refine en func146 rfl rfl (sr (va (.slice none 0 0) (wln (sr (va (.agg #[.int .i64 12288, .int .i64 12288]) (va (.agg #[.int .i64 65281, .int .i64 65376]) (va (.agg #[.int .i64 65504, .int .i64 65510]) (me (sl RA2_i64 242 [[.int .i64 12288, .int .i64 12288], [.int .i64 65281, .int .i64 65376], [.int .i64 65504, .int .i64 65510]] ([(12288, 12288), (65281, 65376), (65504, 65510)] : List (Int × Int)) O0 ⟨rfl, rfl, rfl, trivial⟩) ?_))))))))
 rintro v5 c4 l4 ⟨u2, O1, h3⟩
 refine va (v5) (wln (W.ret ?_))
 obtain rfl := si H
 exact r1 ⟨_, c4, rfl, rfl, pt, v5, u2, O1, rfl, h3⟩
def f_linotyperef12_list3  : Option (List (Int × Int)) :=
 some ([(8361, 8361), (65377, 65470), (65474, 65479), (65482, 65487), (65490, 65495), (65498, 65500), (65512, 65518)] : List (Int × Int))
theorem c_linotyperef12_list3 (O0 : Own c0 G F) {r : List (Int × Int)} (H : f_linotyperef12_list3  = some r) :
    Calls Tryz.prog 147 #[] c0.w (Post c0 fun c v => ∃ y1 y2, Own c G (es true RA2_i64 y1 242 y2 r :: F) ∧ v = y1 ∧ OA RA2_i64 c y1 y2 r) := by
 unfold f_linotyperef12_list3 at H
 refine en func147 rfl rfl (sr (va (.slice none 0 0) (wln (sr (va (.agg #[.int .i64 8361, .int .i64 8361]) (va (.agg #[.int .i64 65377, .int .i64 65470]) (va (.agg #[.int .i64 65474, .int .i64 65479]) (va (.agg #[.int .i64 65482, .int .i64 65487]) (va (.agg #[.int .i64 65490, .int .i64 65495]) (va (.agg #[.int .i64 65498, .int .i64 65500]) (va (.agg #[.int .i64 65512, .int .i64 65518]) (me (sl RA2_i64 242 [[.int .i64 8361, .int .i64 8361], [.int .i64 65377, .int .i64 65470], [.int .i64 65474, .int .i64 65479], [.int .i64 65482, .int .i64 65487], [.int .i64 65490, .int .i64 65495], [.int .i64 65498, .int .i64 65500], [.int .i64 65512, .int .i64 65518]] ([(8361, 8361), (65377, 65470), (65474, 65479), (65482, 65487), (65490, 65495), (65498, 65500), (65512, 65518)] : List (Int × Int)) O0 ⟨rfl, rfl, rfl, rfl, rfl, rfl, rfl, trivial⟩) ?_))))))))))))
 rintro v5 c4 l4 ⟨u2, O1, h3⟩
 refine va (v5) (wln (W.ret ?_))
 obtain rfl := si H
 exact r1 ⟨_, c4, rfl, rfl, pt, v5, u2, O1, rfl, h3⟩
def f_linotyperef12_Of (p0 : Int) : Option (Int) :=
 (f_linotyperef12_list1).bind fun x_3 =>
 (f_linotyperef12_list2).bind fun x_4 =>
 (f_linotyperef12_list3).bind fun x_5 =>
 (iter (σ := Int) (τ := Int ⊕ Unit) (((([x_3, x_4, x_5] : List (List (Int × Int))).length : Int) - 0).toNat + 1) (fun s_11 =>
 if (decide (s_11 < (([x_3, x_4, x_5] : List (List (Int × Int))).length : Int))) = true then
 (idx ([x_3, x_4, x_5] : List (List (Int × Int))) s_11).bind fun x_19 =>
 (f_linotyperef09_In x_19 p0).bind fun x_22 =>
 if x_22 = true then
 some (.inr (.inl (w64 (s_11 + 1))))
 else
 some (.inl ((w64 (s_11 + 1))))
 else
 some (.inr (.inr ()))) (0)).bind fun o_11 =>
 match o_11 with
 | .inl o_11 =>
 some o_11
 | .inr o_11 =>
 some 0
theorem c_linotyperef12_Of (O0 : Own c0 G F) (p0 : Int) {r : Int} (H : f_linotyperef12_Of p0 = some r) :
    Calls Tryz.prog 77 #[.int .i32 p0] c0.w (Post c0 fun c v => Own c G (F) ∧ v = .int .i64 r) := by
 unfold f_linotyperef12_Of at H
 refine en func77 rfl rfl (sr (va (.int .i64 0) (wln (sr (bn H fun x_3 h1 H => cl (c_linotyperef12_list1 O0 h1) ?_)))))
 rintro v2 c9 l9 ⟨_, u3, O6, rfl, h4⟩
 refine bn H fun x_4 h11 H => cl (c_linotyperef12_list2 O6 h11) ?_
 rintro v12 c19 l19 ⟨_, u13, O16, rfl, h14⟩
 refine bn H fun x_5 h21 H => cl (c_linotyperef12_list3 O16 h21) ?_
 rintro v22 c29 l29 ⟨_, u23, O26, rfl, h24⟩
 obtain ⟨c33, h34, l33, O31, h32⟩ := O26.frz 2 rfl (h4.mono (l19.trans l29))
 refine WL.gh h34 ?_
 obtain ⟨c37, h38, l37, O35, h36⟩ := O31.frz 1 rfl (h14.mono (l29.trans l33))
 refine WL.gh h38 ?_
 obtain ⟨c41, h42, l41, O39, h40⟩ := O35.frz 0 rfl (h24.mono (l33.trans l37))
 refine WL.gh h42 ?_
 obtain ⟨a43, a44, a45, rfl⟩ := ((h32.mono (l37.trans l41))).form
 obtain ⟨a46, a47, a48, rfl⟩ := ((h36.mono l41)).form
 obtain ⟨a49, a50, a51, rfl⟩ := (h40).form
 refine me (sl (RL RA2_i64) 189 [[.slice a43 a44 a45], [.slice a46 a47 a48], [.slice a49 a50 a51]] ([x_3, x_4, x_5] : List (List (Int × Int))) O39 ⟨⟨(.slice a43 a44 a45), rfl, h32.m⟩, ⟨(.slice a46 a47 a48), rfl, h36.m⟩, ⟨(.slice a49 a50 a51), rfl, h40⟩, trivial⟩) ?_
 rintro v56 c55 l55 ⟨u53, O52, h54⟩
 refine va (v56) (wln (W.seq (sr (va (.int .i64 0) (wln (W.block (bn H fun o_11 h57 H58 => lp h57 (fun s_11 => Jn c55 fun c l => Own c G (es true (RL RA2_i64) v56 189 u53 ([x_3, x_4, x_5] : List (List (Int × Int))) :: es false RA2_i64 (.slice a49 a50 a51) 242 u23 x_5 :: es false RA2_i64 (.slice a46 a47 a48) 242 u13 x_4 :: es false RA2_i64 (.slice a43 a44 a45) 242 u3 x_3 :: F) ∧ l = [(0, .int .i32 p0), (3, v56), (4, .int .i64 s_11)]) (fun t => match t with | .inl x_ => (fun rr_ ex e w => ex = .ret ∧ (Jn c55 fun c l => Own c G (F) ∧ l = [(2, .int .i64 rr_)]) e w) x_ | .inr x_ => (fun o_11_ ex e w => ex = .exit 0 ∧ (Jn c55 fun c l => Own c G (es true (RL RA2_i64) v56 189 u53 ([x_3, x_4, x_5] : List (List (Int × Int))) :: es false RA2_i64 (.slice a49 a50 a51) 242 u23 x_5 :: es false RA2_i64 (.slice a46 a47 a48) 242 u13 x_4 :: es false RA2_i64 (.slice a43 a44 a45) 242 u3 x_3 :: F) ∧ l = []) e w) x_) ?_ ?_ ?_)))))))
 ·clear H58 h57
  intro s_11 xx_ ee_ ww_ H
  revert ee_ ww_
  rintro e_ w_ ⟨c59, g60, _, rfl, l59, rfl, O61, rfl⟩
  refine W.seq (sr (va (.int .i64 s_11) (va (v56) (vx (lnO 3 underlying191 h54.m) (va (.bool (decide (s_11 < (([x_3, x_4, x_5] : List (List (Int × Int))).length : Int)))) (wln (cn H (fun h65 H => ?_) (fun h65 H => ?_))))))))
  ·refine W.skip (nrm (W.seq (W.block (sr (va (v56) (va (.int .i64 s_11) (bn H fun x_19 h66 H => vx (ixO underlying191 h54.m h66) ?_)))))))
   obtain ⟨l_67, h68, m69⟩ := OA.at (h54.mono l59) h66
   obtain ⟨v70, rfl, h71⟩ := h68
   refine vr v70 (rx (by kernel_rfl) (ldE1 underlying189 rfl (O61.on 0 rfl) (h54.m.blk h66) (at1 (j := 0) m69 rfl))) (va (.int .i32 p0) (bn H fun x_22 h72 H => cl (c_linotyperef09_In O61 x_19 p0 h71 h72) ?_))
   rintro v78 c77 l77 ⟨O74, rfl⟩
   refine wln (cn H (fun h79 H => ?_) (fun h79 H => ?_))
   ·refine sr (va (.int .i64 s_11) (va (.int .i64 (w64 (s_11 + 1))) (va (.int .i64 (w64 (s_11 + 1))) (wln (W.ret (bkr (thr ?_)))))))
    obtain rfl := si H
    refine ⟨_, rfl, ⟨rfl, ?_⟩⟩
    have O80 := O74.sD 4 []
    exact ⟨c77, _, _, rfl, pt, us, O80, rfl⟩
   refine W.skip (bkn (nrm (W.region (va (.int .i64 s_11) (va (.int .i64 (w64 (s_11 + 1))) (va (.int .i64 (w64 (s_11 + 1))) (WL.nil ?_)))))))
   obtain rfl := si H
   exact ⟨_, rfl, ⟨c77, _, _, rfl, pt, us, O74, rfl⟩⟩
  refine W.exit (thx ?_)
  obtain rfl := si H
  exact ⟨_, rfl, rfl, ⟨c59, _, _, rfl, pt, us, O61, rfl⟩⟩
 ·exact ⟨c55, _, _, rfl, pt, us, O52, rfl⟩
 rcases o_11 with o_11 | o_11
 ·intro ex_; revert ex_
  rintro _ e_ w_ ⟨rfl, c81, g82, _, rfl, l81, rfl, O83, rfl⟩
  refine bkr (thr ?_)
  obtain rfl := si H58
  exact r1 ⟨_, c81, rfl, rfl, pt, O83, rfl⟩
 rintro _ e_ w_ ⟨rfl, c87, g88, _, rfl, l87, rfl, O89, rfl⟩
 refine bke (nrm (sr (va (.int .i64 0) (wln (W.ret ?_)))))
 obtain rfl := si H58
 have O93 := O89.sD 4 []
 exact r1 ⟨_, c87, rfl, rfl, pt, O93, rfl⟩
def f_linotyperef13_Of (p0 : Int) : Option (G_api_Prop) :=
 (f_linotyperef09_Of p0).bind fun x_4 =>
 (f_linotyperef10_Is p0).bind fun x_6 =>
 (f_linotyperef11_Of p0).bind fun x_8 =>
 (f_linotyperef12_Of p0).bind fun x_10 =>
 some (⟨x_4, x_6, x_8, x_10⟩ : G_api_Prop)
theorem c_linotyperef13_Of (O0 : Own c0 G F) (p0 : Int) {r : G_api_Prop} (H : f_linotyperef13_Of p0 = some r) :
    Calls Tryz.prog 15 #[.int .i32 p0] c0.w (Post c0 fun c v => Own c G (F) ∧ v = .agg #[.int .i64 r.Break, .bool r.Pict, .int .i64 r.Conj, .int .i64 r.East]) := by
 unfold f_linotyperef13_Of at H
 refine en func15 rfl rfl (sr (me (al 33 [.int .i64 0, .bool false, .int .i64 0, .int .i64 0] O0) ?_))
 rintro v4 c3 l3 ⟨b1, rfl, O2⟩
 refine wln (sr (va (.int .i32 p0) (bn H fun x_4 h5 H => cl (c_linotyperef09_Of O2 p0 h5) ?_)))
 rintro v11 c10 l10 ⟨O7, rfl⟩
 refine va (.int .i32 p0) (bn H fun x_6 h12 H => cl (c_linotyperef10_Is O7 p0 h12) ?_)
 rintro v18 c17 l17 ⟨O14, rfl⟩
 refine va (.int .i32 p0) (bn H fun x_8 h19 H => cl (c_linotyperef11_Of O14 p0 h19) ?_)
 rintro v25 c24 l24 ⟨O21, rfl⟩
 refine va (.int .i32 p0) (bn H fun x_10 h26 H => cl (c_linotyperef12_Of O21 p0 h26) ?_)
 rintro v32 c31 l31 ⟨O28, rfl⟩
 refine va (.agg #[.int .i64 x_4, .bool x_6, .int .i64 x_8, .int .i64 x_10]) (md (sA 33 [.int .i64 x_4, .bool x_6, .int .i64 x_8, .int .i64 x_10] 0 O28 ⟨rfl, rfl, rfl, rfl, trivial⟩) ?_)
 rintro c34 l34 O33
 refine wln (W.ret ?_)
 obtain rfl := si H
 have O35 := O33.sD 1 []
 exact retC (c := c34) (vs := [.int .i64 x_4, .bool x_6, .int .i64 x_8, .int .i64 x_10]) rfl (by kernel_rfl) (by kernel_rfl) (by kernel_rfl) (O33.on 0 rfl _ rfl).1 ⟨_, c34, rfl, rfl, pt, O35, rfl⟩

end Go.Proofs.YthokmpbbkpjhbaaGreatDoor
