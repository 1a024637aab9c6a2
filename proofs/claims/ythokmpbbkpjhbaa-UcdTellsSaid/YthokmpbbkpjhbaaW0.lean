import Derived.Test.YthokmpbbkpjhbaaMp
import Derived.Test.YthokmpbbkpjhbaaProg
import Derived.Test.YthokmpbbkpjhbaaMy
import Derived.Test.YthokmpbbkpjhbaaMz
namespace Go.Proofs.Ythokmpbbkpjhbaa
open Go Go.Lt
set_option maxRecDepth 10000
set_option linter.unusedVariables false
attribute [local irreducible] W WL AC
def f_linotyperef09_list1  : Option (List (Int × Int)) :=
  some ([(13, 13)] : List (Int × Int))
theorem c_linotyperef09_list1 {c0 : Cx} {G : Gm} {F : List En} (O0 : Own c0 G F) {r : List (Int × Int)} (H : f_linotyperef09_list1  = some r) :
    Calls Try.prog 29 #[] c0.w (Post c0 fun c v => ∃ y1 : Value, ∃ y2 : List Value, Own c G (es true RA2_i64 y1 45 y2 r :: F) ∧ v = y1 ∧ OA RA2_i64 c y1 y2 r) := by
  unfold f_linotyperef09_list1 at H
  refine enter (l := []) Try.func29 rfl rfl rfl ?_
  refine sr ?_
  refine va (.slice none 0 0) ?_
  refine wln ?_
  refine sr ?_
  refine va (.agg #[.int .i64 13, .int .i64 13]) ?_
  refine WL.mem rfl (Own.sl (R := RA2_i64) (E := 45) (ls := [[.int .i64 13, .int .i64 13]]) (vs := [.int .i64 13, .int .i64 13]) (xs := ([(13, 13)] : List (Int × Int))) true O0 (Nat.succ_pos _) rfl ⟨rfl, trivial⟩ (by kernel_rfl) (by kernel_rfl)) ?_
  rintro v5 c4 l4 ⟨u2, O1, h3⟩
  refine va (v5) ?_
  refine wln ?_
  refine W.ret ?_
  obtain rfl := Option.some.inj H
  exact ret1 (v := v5) rfl (by kernel_rfl) ⟨_, c4, rfl, rfl, l4, v5, u2, O1, rfl, h3⟩

def f_linotyperef09_list2  : Option (List (Int × Int)) :=
  some ([(10, 10)] : List (Int × Int))
theorem c_linotyperef09_list2 {c0 : Cx} {G : Gm} {F : List En} (O0 : Own c0 G F) {r : List (Int × Int)} (H : f_linotyperef09_list2  = some r) :
    Calls Try.prog 30 #[] c0.w (Post c0 fun c v => ∃ y1 : Value, ∃ y2 : List Value, Own c G (es true RA2_i64 y1 45 y2 r :: F) ∧ v = y1 ∧ OA RA2_i64 c y1 y2 r) := by
  unfold f_linotyperef09_list2 at H
  refine enter (l := []) Try.func30 rfl rfl rfl ?_
  refine sr ?_
  refine va (.slice none 0 0) ?_
  refine wln ?_
  refine sr ?_
  refine va (.agg #[.int .i64 10, .int .i64 10]) ?_
  refine WL.mem rfl (Own.sl (R := RA2_i64) (E := 45) (ls := [[.int .i64 10, .int .i64 10]]) (vs := [.int .i64 10, .int .i64 10]) (xs := ([(10, 10)] : List (Int × Int))) true O0 (Nat.succ_pos _) rfl ⟨rfl, trivial⟩ (by kernel_rfl) (by kernel_rfl)) ?_
  rintro v5 c4 l4 ⟨u2, O1, h3⟩
  refine va (v5) ?_
  refine wln ?_
  refine W.ret ?_
  obtain rfl := Option.some.inj H
  exact ret1 (v := v5) rfl (by kernel_rfl) ⟨_, c4, rfl, rfl, l4, v5, u2, O1, rfl, h3⟩

def f_linotyperef09_list3  : Option (List (Int × Int)) :=
  some ([(0, 9), (11, 12), (14, 31), (127, 159), (173, 173), (1564, 1564), (6158, 6158), (8203, 8203), (8206, 8207), (8232, 8238), (8288, 8303), (65279, 65279), (65520, 65531), (917504, 917535), (917632, 917759), (918000, 921599)] : List (Int × Int))
theorem c_linotyperef09_list3 {c0 : Cx} {G : Gm} {F : List En} (O0 : Own c0 G F) {r : List (Int × Int)} (H : f_linotyperef09_list3  = some r) :
    Calls Try.prog 31 #[] c0.w (Post c0 fun c v => ∃ y1 : Value, ∃ y2 : List Value, Own c G (es true RA2_i64 y1 45 y2 r :: F) ∧ v = y1 ∧ OA RA2_i64 c y1 y2 r) := by
  unfold f_linotyperef09_list3 at H
  refine enter (l := []) Try.func31 rfl rfl rfl ?_
  refine sr ?_
  refine va (.slice none 0 0) ?_
  refine wln ?_
  refine sr ?_
  refine va (.agg #[.int .i64 0, .int .i64 9]) ?_
  refine va (.agg #[.int .i64 11, .int .i64 12]) ?_
  refine va (.agg #[.int .i64 14, .int .i64 31]) ?_
  refine va (.agg #[.int .i64 127, .int .i64 159]) ?_
  refine va (.agg #[.int .i64 173, .int .i64 173]) ?_
  refine va (.agg #[.int .i64 1564, .int .i64 1564]) ?_
  refine va (.agg #[.int .i64 6158, .int .i64 6158]) ?_
  refine va (.agg #[.int .i64 8203, .int .i64 8203]) ?_
  refine va (.agg #[.int .i64 8206, .int .i64 8207]) ?_
  refine va (.agg #[.int .i64 8232, .int .i64 8238]) ?_
  refine va (.agg #[.int .i64 8288, .int .i64 8303]) ?_
  refine va (.agg #[.int .i64 65279, .int .i64 65279]) ?_
  refine va (.agg #[.int .i64 65520, .int .i64 65531]) ?_
  refine va (.agg #[.int .i64 917504, .int .i64 917535]) ?_
  refine va (.agg #[.int .i64 917632, .int .i64 917759]) ?_
  refine va (.agg #[.int .i64 918000, .int .i64 921599]) ?_
  refine WL.mem rfl (Own.sl (R := RA2_i64) (E := 45) (ls := [[.int .i64 0, .int .i64 9], [.int .i64 11, .int .i64 12], [.int .i64 14, .int .i64 31], [.int .i64 127, .int .i64 159], [.int .i64 173, .int .i64 173], [.int .i64 1564, .int .i64 1564], [.int .i64 6158, .int .i64 6158], [.int .i64 8203, .int .i64 8203], [.int .i64 8206, .int .i64 8207], [.int .i64 8232, .int .i64 8238], [.int .i64 8288, .int .i64 8303], [.int .i64 65279, .int .i64 65279], [.int .i64 65520, .int .i64 65531], [.int .i64 917504, .int .i64 917535], [.int .i64 917632, .int .i64 917759], [.int .i64 918000, .int .i64 921599]]) (vs := [.int .i64 0, .int .i64 9, .int .i64 11, .int .i64 12, .int .i64 14, .int .i64 31, .int .i64 127, .int .i64 159, .int .i64 173, .int .i64 173, .int .i64 1564, .int .i64 1564, .int .i64 6158, .int .i64 6158, .int .i64 8203, .int .i64 8203, .int .i64 8206, .int .i64 8207, .int .i64 8232, .int .i64 8238, .int .i64 8288, .int .i64 8303, .int .i64 65279, .int .i64 65279, .int .i64 65520, .int .i64 65531, .int .i64 917504, .int .i64 917535, .int .i64 917632, .int .i64 917759, .int .i64 918000, .int .i64 921599]) (xs := ([(0, 9), (11, 12), (14, 31), (127, 159), (173, 173), (1564, 1564), (6158, 6158), (8203, 8203), (8206, 8207), (8232, 8238), (8288, 8303), (65279, 65279), (65520, 65531), (917504, 917535), (917632, 917759), (918000, 921599)] : List (Int × Int))) true O0 (Nat.succ_pos _) rfl ⟨rfl, rfl, rfl, rfl, rfl, rfl, rfl, rfl, rfl, rfl, rfl, rfl, rfl, rfl, rfl, rfl, trivial⟩ (by kernel_rfl) (by kernel_rfl)) ?_
  rintro v5 c4 l4 ⟨u2, O1, h3⟩
  refine va (v5) ?_
  refine wln ?_
  refine W.ret ?_
  obtain rfl := Option.some.inj H
  exact ret1 (v := v5) rfl (by kernel_rfl) ⟨_, c4, rfl, rfl, l4, v5, u2, O1, rfl, h3⟩

def t_linotyperef09_list4_80 : List (Int × Int) := [(768, 879), (1155, 1161), (1425, 1469), (1471, 1471), (1473, 1474), (1476, 1477), (1479, 1479), (1552, 1562), (1611, 1631), (1648, 1648), (1750, 1756), (1759, 1764), (1767, 1768), (1770, 1773), (1809, 1809), (1840, 1866), (1958, 1968), (2027, 2035), (2070, 2073), (2075, 2083), (2259, 2273), (2275, 2306), (2362, 2362), (2364, 2364), (2369, 2376), (2381, 2381), (2385, 2391), (2402, 2403), (2433, 2433), (2492, 2492), (2494, 2494), (2497, 2500), (2509, 2509), (2519, 2519), (2530, 2531), (2561, 2562), (2620, 2620), (2625, 2626), (2631, 2632), (2635, 2637), (2748, 2748), (2753, 2757), (2765, 2765), (2876, 2876), (2878, 2879), (2881, 2884), (2893, 2893), (2902, 2903), (3132, 3132), (3134, 3136), (3142, 3144), (3146, 3149), (3276, 3277), (3390, 3390), (3393, 3396), (3405, 3405), (3633, 3633), (3636, 3642), (3655, 3662), (3761, 3761), (3764, 3772), (3864, 3865), (3953, 3966), (4957, 4959), (6832, 6862), (7616, 7679), (8204, 8204), (8400, 8432), (12330, 12335), (12441, 12442), (42607, 42610), (64286, 64286), (65024, 65039), (65056, 65071), (127995, 127999), (917536, 917631), (917760, 917999)]
def f_linotyperef09_list4  : Option (List (Int × Int)) :=
  some t_linotyperef09_list4_80
theorem c_linotyperef09_list4 {c0 : Cx} {G : Gm} {F : List En} (O0 : Own c0 G F) {r : List (Int × Int)} (H : f_linotyperef09_list4  = some r) :
    Calls Try.prog 32 #[] c0.w (Post c0 fun c v => ∃ y1 : Value, ∃ y2 : List Value, Own c G (es true RA2_i64 y1 45 y2 r :: F) ∧ v = y1 ∧ OA RA2_i64 c y1 y2 r) := by
  unfold f_linotyperef09_list4 at H
  refine enter (l := []) Try.func32 rfl rfl rfl ?_
  refine sr ?_
  refine va (.slice none 0 0) ?_
  refine wln ?_
  refine sr ?_
  refine va (.agg #[.int .i64 768, .int .i64 879]) ?_
  refine va (.agg #[.int .i64 1155, .int .i64 1161]) ?_
  refine va (.agg #[.int .i64 1425, .int .i64 1469]) ?_
  refine va (.agg #[.int .i64 1471, .int .i64 1471]) ?_
  refine va (.agg #[.int .i64 1473, .int .i64 1474]) ?_
  refine va (.agg #[.int .i64 1476, .int .i64 1477]) ?_
  refine va (.agg #[.int .i64 1479, .int .i64 1479]) ?_
  refine va (.agg #[.int .i64 1552, .int .i64 1562]) ?_
  refine va (.agg #[.int .i64 1611, .int .i64 1631]) ?_
  refine va (.agg #[.int .i64 1648, .int .i64 1648]) ?_
  refine va (.agg #[.int .i64 1750, .int .i64 1756]) ?_
  refine va (.agg #[.int .i64 1759, .int .i64 1764]) ?_
  refine va (.agg #[.int .i64 1767, .int .i64 1768]) ?_
  refine va (.agg #[.int .i64 1770, .int .i64 1773]) ?_
  refine va (.agg #[.int .i64 1809, .int .i64 1809]) ?_
  refine va (.agg #[.int .i64 1840, .int .i64 1866]) ?_
  refine va (.agg #[.int .i64 1958, .int .i64 1968]) ?_
  refine va (.agg #[.int .i64 2027, .int .i64 2035]) ?_
  refine va (.agg #[.int .i64 2070, .int .i64 2073]) ?_
  refine va (.agg #[.int .i64 2075, .int .i64 2083]) ?_
  refine va (.agg #[.int .i64 2259, .int .i64 2273]) ?_
  refine va (.agg #[.int .i64 2275, .int .i64 2306]) ?_
  refine va (.agg #[.int .i64 2362, .int .i64 2362]) ?_
  refine va (.agg #[.int .i64 2364, .int .i64 2364]) ?_
  refine va (.agg #[.int .i64 2369, .int .i64 2376]) ?_
  refine va (.agg #[.int .i64 2381, .int .i64 2381]) ?_
  refine va (.agg #[.int .i64 2385, .int .i64 2391]) ?_
  refine va (.agg #[.int .i64 2402, .int .i64 2403]) ?_
  refine va (.agg #[.int .i64 2433, .int .i64 2433]) ?_
  refine va (.agg #[.int .i64 2492, .int .i64 2492]) ?_
  refine va (.agg #[.int .i64 2494, .int .i64 2494]) ?_
  refine va (.agg #[.int .i64 2497, .int .i64 2500]) ?_
  refine va (.agg #[.int .i64 2509, .int .i64 2509]) ?_
  refine va (.agg #[.int .i64 2519, .int .i64 2519]) ?_
  refine va (.agg #[.int .i64 2530, .int .i64 2531]) ?_
  refine va (.agg #[.int .i64 2561, .int .i64 2562]) ?_
  refine va (.agg #[.int .i64 2620, .int .i64 2620]) ?_
  refine va (.agg #[.int .i64 2625, .int .i64 2626]) ?_
  refine va (.agg #[.int .i64 2631, .int .i64 2632]) ?_
  refine va (.agg #[.int .i64 2635, .int .i64 2637]) ?_
  refine va (.agg #[.int .i64 2748, .int .i64 2748]) ?_
  refine va (.agg #[.int .i64 2753, .int .i64 2757]) ?_
  refine va (.agg #[.int .i64 2765, .int .i64 2765]) ?_
  refine va (.agg #[.int .i64 2876, .int .i64 2876]) ?_
  refine va (.agg #[.int .i64 2878, .int .i64 2879]) ?_
  refine va (.agg #[.int .i64 2881, .int .i64 2884]) ?_
  refine va (.agg #[.int .i64 2893, .int .i64 2893]) ?_
  refine va (.agg #[.int .i64 2902, .int .i64 2903]) ?_
  refine va (.agg #[.int .i64 3132, .int .i64 3132]) ?_
  refine va (.agg #[.int .i64 3134, .int .i64 3136]) ?_
  refine va (.agg #[.int .i64 3142, .int .i64 3144]) ?_
  refine va (.agg #[.int .i64 3146, .int .i64 3149]) ?_
  refine va (.agg #[.int .i64 3276, .int .i64 3277]) ?_
  refine va (.agg #[.int .i64 3390, .int .i64 3390]) ?_
  refine va (.agg #[.int .i64 3393, .int .i64 3396]) ?_
  refine va (.agg #[.int .i64 3405, .int .i64 3405]) ?_
  refine va (.agg #[.int .i64 3633, .int .i64 3633]) ?_
  refine va (.agg #[.int .i64 3636, .int .i64 3642]) ?_
  refine va (.agg #[.int .i64 3655, .int .i64 3662]) ?_
  refine va (.agg #[.int .i64 3761, .int .i64 3761]) ?_
  refine va (.agg #[.int .i64 3764, .int .i64 3772]) ?_
  refine va (.agg #[.int .i64 3864, .int .i64 3865]) ?_
  refine va (.agg #[.int .i64 3953, .int .i64 3966]) ?_
  refine va (.agg #[.int .i64 4957, .int .i64 4959]) ?_
  refine va (.agg #[.int .i64 6832, .int .i64 6862]) ?_
  refine va (.agg #[.int .i64 7616, .int .i64 7679]) ?_
  refine va (.agg #[.int .i64 8204, .int .i64 8204]) ?_
  refine va (.agg #[.int .i64 8400, .int .i64 8432]) ?_
  refine va (.agg #[.int .i64 12330, .int .i64 12335]) ?_
  refine va (.agg #[.int .i64 12441, .int .i64 12442]) ?_
  refine va (.agg #[.int .i64 42607, .int .i64 42610]) ?_
  refine va (.agg #[.int .i64 64286, .int .i64 64286]) ?_
  refine va (.agg #[.int .i64 65024, .int .i64 65039]) ?_
  refine va (.agg #[.int .i64 65056, .int .i64 65071]) ?_
  refine va (.agg #[.int .i64 127995, .int .i64 127999]) ?_
  refine va (.agg #[.int .i64 917536, .int .i64 917631]) ?_
  refine va (.agg #[.int .i64 917760, .int .i64 917999]) ?_
  refine WL.mem rfl (Own.sl (R := RA2_i64) (E := 45) (ls := t_linotyperef09_list4_80.map (fun x => [Value.int .i64 x.1, Value.int .i64 x.2])) (vs := (t_linotyperef09_list4_80.map (fun x => [Value.int .i64 x.1, Value.int .i64 x.2])).flatten) (xs := t_linotyperef09_list4_80) true O0 (Nat.succ_pos _) rfl (AllR.map _ (fun _ => rfl) _) (by kernel_rfl) (by kernel_rfl)) ?_
  rintro v5 c4 l4 ⟨u2, O1, h3⟩
  refine va (v5) ?_
  refine wln ?_
  refine W.ret ?_
  obtain rfl := Option.some.inj H
  exact ret1 (v := v5) rfl (by kernel_rfl) ⟨_, c4, rfl, rfl, l4, v5, u2, O1, rfl, h3⟩

def f_linotyperef09_list5  : Option (List (Int × Int)) :=
  some ([(8205, 8205)] : List (Int × Int))
theorem c_linotyperef09_list5 {c0 : Cx} {G : Gm} {F : List En} (O0 : Own c0 G F) {r : List (Int × Int)} (H : f_linotyperef09_list5  = some r) :
    Calls Try.prog 33 #[] c0.w (Post c0 fun c v => ∃ y1 : Value, ∃ y2 : List Value, Own c G (es true RA2_i64 y1 45 y2 r :: F) ∧ v = y1 ∧ OA RA2_i64 c y1 y2 r) := by
  unfold f_linotyperef09_list5 at H
  refine enter (l := []) Try.func33 rfl rfl rfl ?_
  refine sr ?_
  refine va (.slice none 0 0) ?_
  refine wln ?_
  refine sr ?_
  refine va (.agg #[.int .i64 8205, .int .i64 8205]) ?_
  refine WL.mem rfl (Own.sl (R := RA2_i64) (E := 45) (ls := [[.int .i64 8205, .int .i64 8205]]) (vs := [.int .i64 8205, .int .i64 8205]) (xs := ([(8205, 8205)] : List (Int × Int))) true O0 (Nat.succ_pos _) rfl ⟨rfl, trivial⟩ (by kernel_rfl) (by kernel_rfl)) ?_
  rintro v5 c4 l4 ⟨u2, O1, h3⟩
  refine va (v5) ?_
  refine wln ?_
  refine W.ret ?_
  obtain rfl := Option.some.inj H
  exact ret1 (v := v5) rfl (by kernel_rfl) ⟨_, c4, rfl, rfl, l4, v5, u2, O1, rfl, h3⟩

def f_linotyperef09_list6  : Option (List (Int × Int)) :=
  some ([(127462, 127487)] : List (Int × Int))
theorem c_linotyperef09_list6 {c0 : Cx} {G : Gm} {F : List En} (O0 : Own c0 G F) {r : List (Int × Int)} (H : f_linotyperef09_list6  = some r) :
    Calls Try.prog 34 #[] c0.w (Post c0 fun c v => ∃ y1 : Value, ∃ y2 : List Value, Own c G (es true RA2_i64 y1 45 y2 r :: F) ∧ v = y1 ∧ OA RA2_i64 c y1 y2 r) := by
  unfold f_linotyperef09_list6 at H
  refine enter (l := []) Try.func34 rfl rfl rfl ?_
  refine sr ?_
  refine va (.slice none 0 0) ?_
  refine wln ?_
  refine sr ?_
  refine va (.agg #[.int .i64 127462, .int .i64 127487]) ?_
  refine WL.mem rfl (Own.sl (R := RA2_i64) (E := 45) (ls := [[.int .i64 127462, .int .i64 127487]]) (vs := [.int .i64 127462, .int .i64 127487]) (xs := ([(127462, 127487)] : List (Int × Int))) true O0 (Nat.succ_pos _) rfl ⟨rfl, trivial⟩ (by kernel_rfl) (by kernel_rfl)) ?_
  rintro v5 c4 l4 ⟨u2, O1, h3⟩
  refine va (v5) ?_
  refine wln ?_
  refine W.ret ?_
  obtain rfl := Option.some.inj H
  exact ret1 (v := v5) rfl (by kernel_rfl) ⟨_, c4, rfl, rfl, l4, v5, u2, O1, rfl, h3⟩

def f_linotyperef09_list7  : Option (List (Int × Int)) :=
  some ([(1536, 1541), (1757, 1757), (1807, 1807), (2192, 2193), (2274, 2274), (3406, 3406), (69821, 69821), (69837, 69837)] : List (Int × Int))
theorem c_linotyperef09_list7 {c0 : Cx} {G : Gm} {F : List En} (O0 : Own c0 G F) {r : List (Int × Int)} (H : f_linotyperef09_list7  = some r) :
    Calls Try.prog 35 #[] c0.w (Post c0 fun c v => ∃ y1 : Value, ∃ y2 : List Value, Own c G (es true RA2_i64 y1 45 y2 r :: F) ∧ v = y1 ∧ OA RA2_i64 c y1 y2 r) := by
  unfold f_linotyperef09_list7 at H
  refine enter (l := []) Try.func35 rfl rfl rfl ?_
  refine sr ?_
  refine va (.slice none 0 0) ?_
  refine wln ?_
  refine sr ?_
  refine va (.agg #[.int .i64 1536, .int .i64 1541]) ?_
  refine va (.agg #[.int .i64 1757, .int .i64 1757]) ?_
  refine va (.agg #[.int .i64 1807, .int .i64 1807]) ?_
  refine va (.agg #[.int .i64 2192, .int .i64 2193]) ?_
  refine va (.agg #[.int .i64 2274, .int .i64 2274]) ?_
  refine va (.agg #[.int .i64 3406, .int .i64 3406]) ?_
  refine va (.agg #[.int .i64 69821, .int .i64 69821]) ?_
  refine va (.agg #[.int .i64 69837, .int .i64 69837]) ?_
  refine WL.mem rfl (Own.sl (R := RA2_i64) (E := 45) (ls := [[.int .i64 1536, .int .i64 1541], [.int .i64 1757, .int .i64 1757], [.int .i64 1807, .int .i64 1807], [.int .i64 2192, .int .i64 2193], [.int .i64 2274, .int .i64 2274], [.int .i64 3406, .int .i64 3406], [.int .i64 69821, .int .i64 69821], [.int .i64 69837, .int .i64 69837]]) (vs := [.int .i64 1536, .int .i64 1541, .int .i64 1757, .int .i64 1757, .int .i64 1807, .int .i64 1807, .int .i64 2192, .int .i64 2193, .int .i64 2274, .int .i64 2274, .int .i64 3406, .int .i64 3406, .int .i64 69821, .int .i64 69821, .int .i64 69837, .int .i64 69837]) (xs := ([(1536, 1541), (1757, 1757), (1807, 1807), (2192, 2193), (2274, 2274), (3406, 3406), (69821, 69821), (69837, 69837)] : List (Int × Int))) true O0 (Nat.succ_pos _) rfl ⟨rfl, rfl, rfl, rfl, rfl, rfl, rfl, rfl, trivial⟩ (by kernel_rfl) (by kernel_rfl)) ?_
  rintro v5 c4 l4 ⟨u2, O1, h3⟩
  refine va (v5) ?_
  refine wln ?_
  refine W.ret ?_
  obtain rfl := Option.some.inj H
  exact ret1 (v := v5) rfl (by kernel_rfl) ⟨_, c4, rfl, rfl, l4, v5, u2, O1, rfl, h3⟩

def t_linotyperef09_list8_29 : List (Int × Int) := [(2307, 2307), (2363, 2363), (2366, 2368), (2377, 2380), (2382, 2383), (2434, 2435), (2495, 2496), (2503, 2504), (2507, 2508), (2563, 2563), (2622, 2624), (2691, 2691), (2750, 2752), (2761, 2761), (2818, 2819), (2880, 2880), (2887, 2888), (3073, 3075), (3137, 3140), (3330, 3331), (3391, 3392), (3398, 3400), (3635, 3635), (3763, 3763), (3902, 3903), (4155, 4156)]
def f_linotyperef09_list8  : Option (List (Int × Int)) :=
  some t_linotyperef09_list8_29
theorem c_linotyperef09_list8 {c0 : Cx} {G : Gm} {F : List En} (O0 : Own c0 G F) {r : List (Int × Int)} (H : f_linotyperef09_list8  = some r) :
    Calls Try.prog 36 #[] c0.w (Post c0 fun c v => ∃ y1 : Value, ∃ y2 : List Value, Own c G (es true RA2_i64 y1 45 y2 r :: F) ∧ v = y1 ∧ OA RA2_i64 c y1 y2 r) := by
  unfold f_linotyperef09_list8 at H
  refine enter (l := []) Try.func36 rfl rfl rfl ?_
  refine sr ?_
  refine va (.slice none 0 0) ?_
  refine wln ?_
  refine sr ?_
  refine va (.agg #[.int .i64 2307, .int .i64 2307]) ?_
  refine va (.agg #[.int .i64 2363, .int .i64 2363]) ?_
  refine va (.agg #[.int .i64 2366, .int .i64 2368]) ?_
  refine va (.agg #[.int .i64 2377, .int .i64 2380]) ?_
  refine va (.agg #[.int .i64 2382, .int .i64 2383]) ?_
  refine va (.agg #[.int .i64 2434, .int .i64 2435]) ?_
  refine va (.agg #[.int .i64 2495, .int .i64 2496]) ?_
  refine va (.agg #[.int .i64 2503, .int .i64 2504]) ?_
  refine va (.agg #[.int .i64 2507, .int .i64 2508]) ?_
  refine va (.agg #[.int .i64 2563, .int .i64 2563]) ?_
  refine va (.agg #[.int .i64 2622, .int .i64 2624]) ?_
  refine va (.agg #[.int .i64 2691, .int .i64 2691]) ?_
  refine va (.agg #[.int .i64 2750, .int .i64 2752]) ?_
  refine va (.agg #[.int .i64 2761, .int .i64 2761]) ?_
  refine va (.agg #[.int .i64 2818, .int .i64 2819]) ?_
  refine va (.agg #[.int .i64 2880, .int .i64 2880]) ?_
  refine va (.agg #[.int .i64 2887, .int .i64 2888]) ?_
  refine va (.agg #[.int .i64 3073, .int .i64 3075]) ?_
  refine va (.agg #[.int .i64 3137, .int .i64 3140]) ?_
  refine va (.agg #[.int .i64 3330, .int .i64 3331]) ?_
  refine va (.agg #[.int .i64 3391, .int .i64 3392]) ?_
  refine va (.agg #[.int .i64 3398, .int .i64 3400]) ?_
  refine va (.agg #[.int .i64 3635, .int .i64 3635]) ?_
  refine va (.agg #[.int .i64 3763, .int .i64 3763]) ?_
  refine va (.agg #[.int .i64 3902, .int .i64 3903]) ?_
  refine va (.agg #[.int .i64 4155, .int .i64 4156]) ?_
  refine WL.mem rfl (Own.sl (R := RA2_i64) (E := 45) (ls := t_linotyperef09_list8_29.map (fun x => [Value.int .i64 x.1, Value.int .i64 x.2])) (vs := (t_linotyperef09_list8_29.map (fun x => [Value.int .i64 x.1, Value.int .i64 x.2])).flatten) (xs := t_linotyperef09_list8_29) true O0 (Nat.succ_pos _) rfl (AllR.map _ (fun _ => rfl) _) (by kernel_rfl) (by kernel_rfl)) ?_
  rintro v5 c4 l4 ⟨u2, O1, h3⟩
  refine va (v5) ?_
  refine wln ?_
  refine W.ret ?_
  obtain rfl := Option.some.inj H
  exact ret1 (v := v5) rfl (by kernel_rfl) ⟨_, c4, rfl, rfl, l4, v5, u2, O1, rfl, h3⟩

def f_linotyperef09_In (p0 : List (Int × Int)) (p1 : Int) : Option (Bool) :=
  (iter (σ := Int) (τ := Bool ⊕ Unit) (((p0.length : Int) - 0).toNat + 1) (fun s_5 =>
  if (decide (s_5 < (p0.length : Int))) = true then
  (idx p0 s_5).bind fun x_15 =>
  (andE (decide ((w64 p1) ≥ x_15.1)) ((idx p0 s_5).bind fun x_25 =>
  some (decide ((w64 p1) ≤ x_25.2)))).bind fun d_19 =>
  if d_19 = true then
  some (.inr (.inl true))
  else
  some (.inl ((w64 (s_5 + 1))))
  else
  some (.inr (.inr ()))) (0)).bind fun o_5 =>
  match o_5 with
  | .inl o_5 =>
  some o_5
  | .inr o_5 =>
  some false
theorem c_linotyperef09_In {c0 : Cx} {G : Gm} {F : List En} {v1 : Value} (O0 : Own c0 G F) (p0 : List (Int × Int)) (p1 : Int) {r : Bool} (h2 : Sl RA2_i64 c0 v1 p0) (H : f_linotyperef09_In p0 p1 = some r) :
    Calls Try.prog 37 #[v1, .int .i32 p1] c0.w (Post c0 fun c v => Own c G (F) ∧ v = .bool r) := by
  unfold f_linotyperef09_In at H
  refine enter (l := [v1, .int .i32 p1]) Try.func37 rfl rfl rfl ?_
  refine sr ?_
  refine va (.bool false) ?_
  refine wln ?_
  refine W.seq ?_
  refine sr ?_
  refine va (.int .i64 0) ?_
  refine wln ?_
  refine W.block ?_
  obtain ⟨o_5, h3, H4⟩ := bs H
  refine W.loop (σ := Int) (τ := Bool ⊕ Unit) (fun s_5 => fun e w => ∃ (c : Cx) (g : Nat → Value), w = c.w ∧ c0.le c ∧ Own c G (F) ∧ e = ups g [(0, v1), (1, .int .i32 p1), (5, .int .i64 s_5)]) (fun t => match t with | .inl x_ => (fun rr_ ex e w => ex = .ret ∧ (fun e w => ∃ (c : Cx) (g : Nat → Value), w = c.w ∧ c0.le c ∧ Own c G (F) ∧ e = ups g [(4, .bool rr_)]) e w) x_ | .inr x_ => (fun o_5_ ex e w => ex = .exit 0 ∧ (fun e w => ∃ (c : Cx) (g : Nat → Value), w = c.w ∧ c0.le c ∧ Own c G (F) ∧ e = ups g []) e w) x_) ?_ h3 ?_ ?_
  · clear H4 h3
    intro s_5 xx_ ee_ ww_ H
    revert ee_ ww_
    rintro e_ w_ ⟨c5, g6, rfl, l5, O7, rfl⟩
    refine W.seq ?_
    refine sr ?_
    refine va (.int .i64 s_5) ?_
    refine va (v1) ?_
    refine WL.val0 (v := .int .i64 (p0.length : Int)) rfl (rx (by kernel_rfl) (run_len (ty := 3) Try.underlying39 (h2.mono l5) _)) ?_
    refine va (.bool (decide (s_5 < (p0.length : Int)))) ?_
    refine wln ?_
    refine W.cond (t := decide (s_5 < (p0.length : Int))) (by kernel_rfl) (fun h11 => ?_) (fun h11 => ?_)
    · have H := it h11 H
      refine W.skip ?_
      refine nrm ?_
      refine W.seq ?_
      refine W.block ?_
      refine W.seq ?_
      obtain ⟨x_15, h12, H⟩ := bs H
      obtain ⟨d_19, h13, H⟩ := bs H
      refine W.join (fun e w => ∃ (c : Cx) (g : Nat → Value), w = c.w ∧ c5.le c ∧ Own c G (F) ∧ e = ups g [(0, v1), (1, .int .i32 p1), (5, .int .i64 s_5), (29, .bool d_19)]) ?_ ?_
      · clear H
        refine W.region ?_
        refine va (.int .i32 p1) ?_
        refine va (.int .i64 (w64 p1)) ?_
        refine va (v1) ?_
        refine va (.int .i64 s_5) ?_
        obtain ⟨l_14, h15, m16⟩ := Sl.at (h2.mono l5) (idx_get h12)
        obtain rfl := h15
        refine WL.val0 (v := .pointer (some ⟨sb v1, so v1 + s_5.toNat * 2, none⟩)) rfl (rx (by kernel_rfl) (run_index (k := .i64) Try.underlying39 (by kernel_rfl) (h2.mono l5) h12 _)) ?_
        refine va (.pointer (some ⟨sb v1, so v1 + s_5.toNat * 2, none⟩)) ?_
        refine WL.val0 (v := .int .i64 x_15.1) rfl (rx (by kernel_rfl) (run_load1 Try.underlying3 rfl (m16 0 _ rfl))) ?_
        refine va (.bool (decide ((w64 p1) ≥ x_15.1))) ?_
        rcases Bool.eq_false_or_eq_true (decide ((w64 p1) ≥ x_15.1)) with h17 | h17
        · skip
          have H18 := anT h17 h13
          refine vb h17 ?_
          refine wn ?_
          refine va (.int .i32 p1) ?_
          refine wn ?_
          refine va (.int .i64 (w64 p1)) ?_
          refine wn ?_
          refine va (v1) ?_
          refine wn ?_
          refine va (.int .i64 s_5) ?_
          refine wn ?_
          obtain ⟨x_25, h19, H18⟩ := bs H18
          obtain ⟨l_20, h21, m22⟩ := Sl.at (h2.mono l5) (idx_get h19)
          obtain rfl := h21
          refine WL.val0 (v := .pointer (some ⟨sb v1, so v1 + s_5.toNat * 2, none⟩)) rfl (rx (by kernel_rfl) (run_index (k := .i64) Try.underlying39 (by kernel_rfl) (h2.mono l5) h19 _)) ?_
          refine wn ?_
          refine va (.pointer (some ⟨sb v1, so v1 + s_5.toNat * 2 + 1, none⟩)) ?_
          refine wn ?_
          refine WL.val0 (v := .int .i64 x_25.2) rfl (rx (by kernel_rfl) (run_load1 Try.underlying3 rfl (m22 1 _ rfl))) ?_
          refine wn ?_
          refine va (.bool (decide ((w64 p1) ≤ x_25.2))) ?_
          obtain rfl := Option.some.inj H18
          refine va (.bool (decide ((w64 p1) ≤ x_25.2))) ?_
          refine wln ?_
          exact ⟨c5, _, rfl, (Cx.le.refl _), O7, ups_self ⟨rfl, rfl, rfl, rfl, trivial⟩⟩
        · skip
          obtain rfl := anF h17 h13
          refine vb h17 ?_
          refine ps ?_
          refine ps ?_
          refine ps ?_
          refine ps ?_
          refine ps ?_
          refine ps ?_
          refine ps ?_
          refine ps ?_
          refine va (.bool false) ?_
          refine wln ?_
          exact ⟨c5, _, rfl, (Cx.le.refl _), O7, ups_self ⟨rfl, rfl, rfl, rfl, trivial⟩⟩
      · skip
        rintro e_ w_ ⟨c23, g24, rfl, l23, O25, rfl⟩
        refine nrm ?_
        refine W.cond (t := d_19) (by kernel_rfl) (fun h29 => ?_) (fun h29 => ?_)
        · have H := it h29 H
          refine sr ?_
          refine va (.bool true) ?_
          refine wln ?_
          refine W.ret ?_
          refine bkr ?_
          refine thr ?_
          obtain rfl := Option.some.inj H
          refine ⟨_, rfl, ?_⟩
          refine ⟨rfl, ?_⟩
          exact ⟨c23, _, rfl, (l5.trans l23), O25, ups_self ⟨rfl, trivial⟩⟩
        · have H := ie h29 H
          refine W.skip ?_
          refine bkn ?_
          refine nrm ?_
          refine W.region ?_
          refine va (.int .i64 s_5) ?_
          refine va (.int .i64 (w64 (s_5 + 1))) ?_
          refine va (.int .i64 (w64 (s_5 + 1))) ?_
          refine WL.nil ?_
          obtain rfl := Option.some.inj H
          refine ⟨_, rfl, ?_⟩
          exact ⟨c23, _, rfl, (l5.trans l23), O25, ups_self ⟨rfl, rfl, rfl, trivial⟩⟩
    · have H := ie h11 H
      refine W.exit ?_
      refine thx ?_
      obtain rfl := Option.some.inj H
      refine ⟨_, rfl, rfl, ?_⟩
      exact ⟨c5, _, rfl, l5, O7, ups_self trivial⟩
  · skip
    exact ⟨c0, _, rfl, (Cx.le.refl _), O0, ups_self ⟨rfl, rfl, rfl, trivial⟩⟩
  · skip
    rcases o_5 with o_5 | o_5
    · skip
      intro ex_; revert ex_
      rintro _ e_ w_ ⟨rfl, c30, g31, rfl, l30, O32, rfl⟩
      refine bkr ?_
      refine thr ?_
      obtain rfl := Option.some.inj H4
      exact ret1 (v := .bool o_5) rfl (by kernel_rfl) ⟨_, c30, rfl, rfl, l30, O32, rfl⟩
    · skip
      rintro _ e_ w_ ⟨rfl, c36, g37, rfl, l36, O38, rfl⟩
      refine bke ?_
      refine nrm ?_
      refine sr ?_
      refine va (.bool false) ?_
      refine wln ?_
      refine W.ret ?_
      obtain rfl := Option.some.inj H4
      exact ret1 (v := .bool false) rfl (by kernel_rfl) ⟨_, c36, rfl, rfl, l36, O38, rfl⟩

def f_linotyperef08_Split (p0 : Int) : Option (Int × Int × Int) :=
  (orE (decide ((w64 p0) < 44032)) (some (decide ((w64 p0) > 55203)))).bind fun d_11 =>
  if d_11 = true then
  some (0, 0, 0)
  else
  (iter (σ := Int × Int) (τ := (Int × Int × Int) ⊕ Unit) (((4370 : Int) - 4352).toNat + 2) (fun s_24 =>
  if (decide (s_24.2 ≤ 4370)) = true then
  (iter (σ := Int × Int) (τ := (Int × Int × Int) ⊕ Int) (((4469 : Int) - 4449).toNat + 2) (fun s_30 =>
  if (decide (s_30.2 ≤ 4469)) = true then
  if (decide ((w64 p0) < (w64 (s_30.1 + 28)))) = true then
  (if ((w64 ((w64 (4519 + (w64 p0))) - s_30.1)) == 4519) = true then
  (some (0) : Option (Int))
  else
  (some ((w64 ((w64 (4519 + (w64 p0))) - s_30.1))) : Option (Int))).bind fun z_45 =>
  some (.inr (.inl (s_24.2, s_30.2, z_45)))
  else
  some (.inl ((w64 (s_30.1 + 28)), (w64 (s_30.2 + 1))))
  else
  some (.inr (.inr (s_30.1)))) (s_24.1, 4449)).bind fun o_30 =>
  match o_30 with
  | .inl o_30 =>
  some (.inr (.inl o_30))
  | .inr o_30 =>
  some (.inl (o_30, (w64 (s_24.2 + 1))))
  else
  some (.inr (.inr ()))) (44032, 4352)).bind fun o_24 =>
  match o_24 with
  | .inl o_24 =>
  some o_24
  | .inr o_24 =>
  some (0, 0, 0)
theorem c_linotyperef08_Split {c0 : Cx} {G : Gm} {F : List En} (O0 : Own c0 G F) (p0 : Int) {r : Int × Int × Int} (H : f_linotyperef08_Split p0 = some r) :
    Calls Try.prog 48 #[.int .i32 p0] c0.w (Post c0 fun c v => Own c G (F) ∧ v = .tuple #[.int .i64 r.1, .int .i64 r.2.1, .int .i64 r.2.2]) := by
  unfold f_linotyperef08_Split at H
  refine enter (l := [.int .i32 p0]) Try.func48 rfl rfl rfl ?_
  refine sr ?_
  refine va (.int .i64 0) ?_
  refine va (.int .i64 0) ?_
  refine va (.int .i64 0) ?_
  refine wln ?_
  refine sr ?_
  refine va (.int .i32 p0) ?_
  refine va (.int .i64 (w64 p0)) ?_
  refine va (.int .i64 (w64 p0)) ?_
  refine wln ?_
  refine W.seq ?_
  refine W.seq ?_
  obtain ⟨d_11, h1, H⟩ := bs H
  refine W.join (fun e w => ∃ (c : Cx) (g : Nat → Value), w = c.w ∧ c0.le c ∧ Own c G (F) ∧ e = ups g [(5, .int .i64 (w64 p0)), (17, .bool d_11)]) ?_ ?_
  · clear H
    refine W.region ?_
    refine va (.int .i64 (w64 p0)) ?_
    refine va (.bool (decide ((w64 p0) < 44032))) ?_
    rcases Bool.eq_false_or_eq_true (decide ((w64 p0) < 44032)) with h2 | h2
    · skip
      obtain rfl := orT h2 h1
      refine vb h2 ?_
      refine ps ?_
      refine ps ?_
      refine va (.bool true) ?_
      refine wln ?_
      exact ⟨c0, _, rfl, (Cx.le.refl _), O0, ups_self ⟨rfl, rfl, trivial⟩⟩
    · skip
      have H3 := orF h2 h1
      refine vb h2 ?_
      refine wn ?_
      refine va (.int .i64 (w64 p0)) ?_
      refine wn ?_
      refine va (.bool (decide ((w64 p0) > 55203))) ?_
      obtain rfl := Option.some.inj H3
      refine va (.bool (decide ((w64 p0) > 55203))) ?_
      refine wln ?_
      exact ⟨c0, _, rfl, (Cx.le.refl _), O0, ups_self ⟨rfl, rfl, trivial⟩⟩
  · skip
    rintro e_ w_ ⟨c4, g5, rfl, l4, O6, rfl⟩
    refine nrm ?_
    refine W.cond (t := d_11) (by kernel_rfl) (fun h10 => ?_) (fun h10 => ?_)
    · have H := it h10 H
      refine sr ?_
      refine va (.int .i64 0) ?_
      refine va (.int .i64 0) ?_
      refine va (.int .i64 0) ?_
      refine wln ?_
      refine W.ret ?_
      refine thr ?_
      obtain rfl := Option.some.inj H
      exact ret3 (v := .int .i64 0) (v' := .int .i64 0) (v'' := .int .i64 0) rfl (by kernel_rfl) (by kernel_rfl) (by kernel_rfl) ⟨_, c4, rfl, rfl, l4, O6, rfl⟩
    · have H := ie h10 H
      refine W.skip ?_
      refine nrm ?_
      refine sr ?_
      refine va (.int .i64 44032) ?_
      refine wln ?_
      refine W.seq ?_
      refine sr ?_
      refine va (.int .i64 4352) ?_
      refine wln ?_
      refine W.block ?_
      obtain ⟨o_24, h11, H12⟩ := bs H
      refine W.loop (σ := Int × Int) (τ := (Int × Int × Int) ⊕ Unit) (fun s_24 => fun e w => ∃ (c : Cx) (g : Nat → Value), w = c.w ∧ c4.le c ∧ Own c G (F) ∧ e = ups g [(5, .int .i64 (w64 p0)), (6, .int .i64 s_24.1), (7, .int .i64 s_24.2)]) (fun t => match t with | .inl x_ => (fun rr_ ex e w => ex = .ret ∧ (fun e w => ∃ (c : Cx) (g : Nat → Value), w = c.w ∧ c4.le c ∧ Own c G (F) ∧ e = ups g [(2, .int .i64 rr_.1), (3, .int .i64 rr_.2.1), (4, .int .i64 rr_.2.2)]) e w) x_ | .inr x_ => (fun o_24_ ex e w => ex = .exit 0 ∧ (fun e w => ∃ (c : Cx) (g : Nat → Value), w = c.w ∧ c4.le c ∧ Own c G (F) ∧ e = ups g []) e w) x_) ?_ h11 ?_ ?_
      · clear H12 h11
        intro s_24 xx_ ee_ ww_ H
        revert ee_ ww_
        rintro e_ w_ ⟨c13, g14, rfl, l13, O15, rfl⟩
        refine W.seq ?_
        refine sr ?_
        refine va (.int .i64 s_24.2) ?_
        refine va (.bool (decide (s_24.2 ≤ 4370))) ?_
        refine wln ?_
        refine W.cond (t := decide (s_24.2 ≤ 4370)) (by kernel_rfl) (fun h19 => ?_) (fun h19 => ?_)
        · have H := it h19 H
          refine W.skip ?_
          refine nrm ?_
          refine W.seq ?_
          refine W.block ?_
          refine sr ?_
          refine va (.int .i64 4449) ?_
          refine wln ?_
          refine W.block ?_
          obtain ⟨o_30, h20, H21⟩ := bs H
          refine W.loop (σ := Int × Int) (τ := (Int × Int × Int) ⊕ Int) (fun s_30 => fun e w => ∃ (c : Cx) (g : Nat → Value), w = c.w ∧ c13.le c ∧ Own c G (F) ∧ e = ups g [(5, .int .i64 (w64 p0)), (6, .int .i64 s_30.1), (7, .int .i64 s_24.2), (8, .int .i64 s_30.2)]) (fun t => match t with | .inl x_ => (fun rr_ ex e w => ex = .ret ∧ (fun e w => ∃ (c : Cx) (g : Nat → Value), w = c.w ∧ c13.le c ∧ Own c G (F) ∧ e = ups g [(2, .int .i64 rr_.1), (3, .int .i64 rr_.2.1), (4, .int .i64 rr_.2.2)]) e w) x_ | .inr x_ => (fun o_30_ ex e w => ex = .exit 2 ∧ (fun e w => ∃ (c : Cx) (g : Nat → Value), w = c.w ∧ c13.le c ∧ Own c G (F) ∧ e = ups g [(5, .int .i64 (w64 p0)), (6, .int .i64 o_30_), (7, .int .i64 s_24.2)]) e w) x_) ?_ h20 ?_ ?_
          · clear H21 h20
            intro s_30 xx_ ee_ ww_ H
            revert ee_ ww_
            rintro e_ w_ ⟨c22, g23, rfl, l22, O24, rfl⟩
            refine W.seq ?_
            refine sr ?_
            refine va (.int .i64 s_30.2) ?_
            refine va (.bool (decide (s_30.2 ≤ 4469))) ?_
            refine wln ?_
            refine W.cond (t := decide (s_30.2 ≤ 4469)) (by kernel_rfl) (fun h28 => ?_) (fun h28 => ?_)
            · have H := it h28 H
              refine W.skip ?_
              refine nrm ?_
              refine W.seq ?_
              refine W.block ?_
              refine W.seq ?_
              refine sr ?_
              refine va (.int .i64 (w64 p0)) ?_
              refine va (.int .i64 s_30.1) ?_
              refine va (.int .i64 (w64 (s_30.1 + 28))) ?_
              refine va (.bool (decide ((w64 p0) < (w64 (s_30.1 + 28))))) ?_
              refine wln ?_
              refine W.cond (t := decide ((w64 p0) < (w64 (s_30.1 + 28)))) (by kernel_rfl) (fun h29 => ?_) (fun h29 => ?_)
              · have H := it h29 H
                refine sr ?_
                refine va (.int .i64 (w64 p0)) ?_
                refine va (.int .i64 (w64 (4519 + (w64 p0)))) ?_
                refine va (.int .i64 s_30.1) ?_
                refine va (.int .i64 (w64 ((w64 (4519 + (w64 p0))) - s_30.1))) ?_
                refine va (.int .i64 (w64 ((w64 (4519 + (w64 p0))) - s_30.1))) ?_
                refine wln ?_
                obtain ⟨z_45, H30, H31⟩ := bs H
                refine W.seqJ (fun e w => ∃ (c : Cx) (g : Nat → Value), w = c.w ∧ c22.le c ∧ Own c G (F) ∧ e = ups g [(7, .int .i64 s_24.2), (8, .int .i64 s_30.2), (9, .int .i64 z_45)]) ?_ ?_
                · skip
                  refine sr ?_
                  refine va (.int .i64 (w64 ((w64 (4519 + (w64 p0))) - s_30.1))) ?_
                  refine va (.bool ((w64 ((w64 (4519 + (w64 p0))) - s_30.1)) == 4519)) ?_
                  refine wln ?_
                  refine W.cond (t := (w64 ((w64 (4519 + (w64 p0))) - s_30.1)) == 4519) (by kernel_rfl) (fun h32 => ?_) (fun h32 => ?_)
                  · have H30 := it h32 H30
                    refine W.region ?_
                    refine va (.int .i64 0) ?_
                    refine wln ?_
                    obtain rfl := Option.some.inj H30
                    exact ⟨c22, _, rfl, (Cx.le.refl _), O24, ups_self ⟨rfl, rfl, rfl, trivial⟩⟩
                  · have H30 := ie h32 H30
                    refine W.skip ?_
                    refine nrm ?_
                    obtain rfl := Option.some.inj H30
                    exact ⟨c22, _, rfl, (Cx.le.refl _), O24, ups_self ⟨rfl, rfl, rfl, trivial⟩⟩
                · skip
                  rintro e_ w_ ⟨c33, g34, rfl, l33, O35, rfl⟩
                  refine sr ?_
                  refine va (.int .i64 s_24.2) ?_
                  refine va (.int .i64 s_30.2) ?_
                  refine va (.int .i64 z_45) ?_
                  refine va (.int .i64 s_24.2) ?_
                  refine va (.int .i64 s_30.2) ?_
                  refine va (.int .i64 z_45) ?_
                  refine wln ?_
                  refine W.ret ?_
                  refine thr ?_
                  refine bkr ?_
                  refine thr ?_
                  obtain rfl := Option.some.inj H31
                  refine ⟨_, rfl, ?_⟩
                  refine ⟨rfl, ?_⟩
                  exact ⟨c33, _, rfl, (l22.trans l33), O35, ups_self ⟨rfl, rfl, rfl, trivial⟩⟩
              · have H := ie h29 H
                refine W.skip ?_
                refine nrm ?_
                refine W.region ?_
                refine va (.int .i64 s_30.1) ?_
                refine va (.int .i64 (w64 (s_30.1 + 28))) ?_
                refine va (.int .i64 (w64 (s_30.1 + 28))) ?_
                refine WL.nil ?_
                refine bkn ?_
                refine nrm ?_
                refine W.region ?_
                refine va (.int .i64 s_30.2) ?_
                refine va (.int .i64 (w64 (s_30.2 + 1))) ?_
                refine va (.int .i64 (w64 (s_30.2 + 1))) ?_
                refine WL.nil ?_
                obtain rfl := Option.some.inj H
                refine ⟨_, rfl, ?_⟩
                exact ⟨c22, _, rfl, l22, O24, ups_self ⟨rfl, rfl, rfl, rfl, trivial⟩⟩
            · have H := ie h28 H
              refine W.exit ?_
              refine thx ?_
              obtain rfl := Option.some.inj H
              refine ⟨_, rfl, rfl, ?_⟩
              exact ⟨c22, _, rfl, l22, O24, ups_self ⟨rfl, rfl, rfl, trivial⟩⟩
          · skip
            exact ⟨c13, _, rfl, (Cx.le.refl _), O15, ups_self ⟨rfl, rfl, rfl, rfl, trivial⟩⟩
          · skip
            rcases o_30 with o_30 | o_30
            · skip
              intro ex_; revert ex_
              rintro _ e_ w_ ⟨rfl, c39, g40, rfl, l39, O41, rfl⟩
              refine bkr ?_
              refine bkr ?_
              refine thr ?_
              obtain rfl := Option.some.inj H21
              refine ⟨_, rfl, ?_⟩
              refine ⟨rfl, ?_⟩
              exact ⟨c39, _, rfl, (l13.trans l39), O41, ups_self ⟨rfl, rfl, rfl, trivial⟩⟩
            · skip
              rintro _ e_ w_ ⟨rfl, c45, g46, rfl, l45, O47, rfl⟩
              refine bke ?_
              refine bkn ?_
              refine nrm ?_
              refine W.region ?_
              refine va (.int .i64 s_24.2) ?_
              refine va (.int .i64 (w64 (s_24.2 + 1))) ?_
              refine va (.int .i64 (w64 (s_24.2 + 1))) ?_
              refine WL.nil ?_
              obtain rfl := Option.some.inj H21
              refine ⟨_, rfl, ?_⟩
              exact ⟨c45, _, rfl, (l13.trans l45), O47, ups_self ⟨rfl, rfl, rfl, trivial⟩⟩
        · have H := ie h19 H
          refine W.exit ?_
          refine thx ?_
          obtain rfl := Option.some.inj H
          refine ⟨_, rfl, rfl, ?_⟩
          exact ⟨c13, _, rfl, l13, O15, ups_self trivial⟩
      · skip
        exact ⟨c4, _, rfl, (Cx.le.refl _), O6, ups_self ⟨rfl, rfl, rfl, trivial⟩⟩
      · skip
        rcases o_24 with o_24 | o_24
        · skip
          intro ex_; revert ex_
          rintro _ e_ w_ ⟨rfl, c51, g52, rfl, l51, O53, rfl⟩
          refine bkr ?_
          refine thr ?_
          obtain rfl := Option.some.inj H12
          exact ret3 (v := .int .i64 o_24.1) (v' := .int .i64 o_24.2.1) (v'' := .int .i64 o_24.2.2) rfl (by kernel_rfl) (by kernel_rfl) (by kernel_rfl) ⟨_, c51, rfl, rfl, (l4.trans l51), O53, rfl⟩
        · skip
          rintro _ e_ w_ ⟨rfl, c57, g58, rfl, l57, O59, rfl⟩
          refine bke ?_
          refine nrm ?_
          refine sr ?_
          refine va (.int .i64 0) ?_
          refine va (.int .i64 0) ?_
          refine va (.int .i64 0) ?_
          refine wln ?_
          refine W.ret ?_
          obtain rfl := Option.some.inj H12
          exact ret3 (v := .int .i64 0) (v' := .int .i64 0) (v'' := .int .i64 0) rfl (by kernel_rfl) (by kernel_rfl) (by kernel_rfl) ⟨_, c57, rfl, rfl, (l4.trans l57), O59, rfl⟩

def f_linotyperef08_Class (p0 : Int) : Option (Int) :=
  (andE (decide ((w64 p0) ≥ 4352)) (some (decide ((w64 p0) ≤ 4447)))).bind fun d_9 =>
  (orE d_9 ((andE (decide ((w64 p0) ≥ 43360)) (some (decide ((w64 p0) ≤ 43388)))).bind fun d_17 =>
  some d_17)).bind fun d_13 =>
  if d_13 = true then
  some 9
  else
  (andE (decide ((w64 p0) ≥ 4448)) (some (decide ((w64 p0) ≤ 4519)))).bind fun d_26 =>
  (orE d_26 ((andE (decide ((w64 p0) ≥ 55216)) (some (decide ((w64 p0) ≤ 55238)))).bind fun d_34 =>
  some d_34)).bind fun d_30 =>
  if d_30 = true then
  some 10
  else
  (andE (decide ((w64 p0) ≥ 4520)) (some (decide ((w64 p0) ≤ 4607)))).bind fun d_43 =>
  (orE d_43 ((andE (decide ((w64 p0) ≥ 55243)) (some (decide ((w64 p0) ≤ 55291)))).bind fun d_51 =>
  some d_51)).bind fun d_47 =>
  if d_47 = true then
  some 11
  else
  (f_linotyperef08_Split p0).bind fun x_59 =>
  if (x_59.1 == 0) = true then
  some 0
  else
  if (x_59.2.2 == 0) = true then
  some 12
  else
  some 13
theorem c_linotyperef08_Class {c0 : Cx} {G : Gm} {F : List En} (O0 : Own c0 G F) (p0 : Int) {r : Int} (H : f_linotyperef08_Class p0 = some r) :
    Calls Try.prog 38 #[.int .i32 p0] c0.w (Post c0 fun c v => Own c G (F) ∧ v = .int .i64 r) := by
  unfold f_linotyperef08_Class at H
  refine enter (l := [.int .i32 p0]) Try.func38 rfl rfl rfl ?_
  refine sr ?_
  refine va (.int .i64 0) ?_
  refine wln ?_
  refine sr ?_
  refine va (.int .i32 p0) ?_
  refine va (.int .i64 (w64 p0)) ?_
  refine va (.int .i64 (w64 p0)) ?_
  refine wln ?_
  refine W.seq ?_
  refine W.seq ?_
  obtain ⟨d_9, h1, H⟩ := bs H
  obtain ⟨d_13, h2, H⟩ := bs H
  refine W.join (fun e w => ∃ (c : Cx) (g : Nat → Value), w = c.w ∧ c0.le c ∧ Own c G (F) ∧ e = ups g [(0, .int .i32 p0), (3, .int .i64 (w64 p0)), (22, .bool d_13)]) ?_ ?_
  · clear H
    refine W.region ?_
    refine va (.int .i64 (w64 p0)) ?_
    refine va (.bool (decide ((w64 p0) ≥ 4352))) ?_
    rcases Bool.eq_false_or_eq_true (decide ((w64 p0) ≥ 4352)) with h3 | h3
    · skip
      have H4 := anT h3 h1
      refine vb h3 ?_
      refine wn ?_
      refine va (.int .i64 (w64 p0)) ?_
      refine wn ?_
      refine va (.bool (decide ((w64 p0) ≤ 4447))) ?_
      obtain rfl := Option.some.inj H4
      refine va (.bool (decide ((w64 p0) ≤ 4447))) ?_
      rcases Bool.eq_false_or_eq_true (decide ((w64 p0) ≤ 4447)) with h5 | h5
      · skip
        obtain rfl := orT h5 h2
        refine vb h5 ?_
        refine ps ?_
        refine ps ?_
        refine ps ?_
        refine ps ?_
        refine ps ?_
        refine ps ?_
        refine va (.bool true) ?_
        refine wln ?_
        exact ⟨c0, _, rfl, (Cx.le.refl _), O0, ups_self ⟨rfl, rfl, rfl, trivial⟩⟩
      · skip
        have H6 := orF h5 h2
        refine vb h5 ?_
        refine wn ?_
        refine va (.int .i64 (w64 p0)) ?_
        refine wn ?_
        refine va (.bool (decide ((w64 p0) ≥ 43360))) ?_
        refine wn ?_
        obtain ⟨d_17, h7, H6⟩ := bs H6
        rcases Bool.eq_false_or_eq_true (decide ((w64 p0) ≥ 43360)) with h8 | h8
        · skip
          have H9 := anT h8 h7
          refine vb h8 ?_
          refine wn ?_
          refine va (.int .i64 (w64 p0)) ?_
          refine wn ?_
          refine va (.bool (decide ((w64 p0) ≤ 43388))) ?_
          refine wn ?_
          obtain rfl := Option.some.inj H9
          refine va (.bool (decide ((w64 p0) ≤ 43388))) ?_
          obtain rfl := Option.some.inj H6
          refine va (.bool (decide ((w64 p0) ≤ 43388))) ?_
          refine wln ?_
          exact ⟨c0, _, rfl, (Cx.le.refl _), O0, ups_self ⟨rfl, rfl, rfl, trivial⟩⟩
        · skip
          obtain rfl := anF h8 h7
          refine vb h8 ?_
          refine ps ?_
          refine ps ?_
          refine wn ?_
          refine va (.bool false) ?_
          obtain rfl := Option.some.inj H6
          refine va (.bool false) ?_
          refine wln ?_
          exact ⟨c0, _, rfl, (Cx.le.refl _), O0, ups_self ⟨rfl, rfl, rfl, trivial⟩⟩
    · skip
      obtain rfl := anF h3 h1
      refine vb h3 ?_
      refine ps ?_
      refine ps ?_
      refine va (.bool false) ?_
      have h10 : false = false := rfl
      have H11 := orF h10 h2
      refine vb h10 ?_
      refine wn ?_
      refine va (.int .i64 (w64 p0)) ?_
      refine wn ?_
      refine va (.bool (decide ((w64 p0) ≥ 43360))) ?_
      refine wn ?_
      obtain ⟨d_17, h12, H11⟩ := bs H11
      rcases Bool.eq_false_or_eq_true (decide ((w64 p0) ≥ 43360)) with h13 | h13
      · skip
        have H14 := anT h13 h12
        refine vb h13 ?_
        refine wn ?_
        refine va (.int .i64 (w64 p0)) ?_
        refine wn ?_
        refine va (.bool (decide ((w64 p0) ≤ 43388))) ?_
        refine wn ?_
        obtain rfl := Option.some.inj H14
        refine va (.bool (decide ((w64 p0) ≤ 43388))) ?_
        obtain rfl := Option.some.inj H11
        refine va (.bool (decide ((w64 p0) ≤ 43388))) ?_
        refine wln ?_
        exact ⟨c0, _, rfl, (Cx.le.refl _), O0, ups_self ⟨rfl, rfl, rfl, trivial⟩⟩
      · skip
        obtain rfl := anF h13 h12
        refine vb h13 ?_
        refine ps ?_
        refine ps ?_
        refine wn ?_
        refine va (.bool false) ?_
        obtain rfl := Option.some.inj H11
        refine va (.bool false) ?_
        refine wln ?_
        exact ⟨c0, _, rfl, (Cx.le.refl _), O0, ups_self ⟨rfl, rfl, rfl, trivial⟩⟩
  · skip
    rintro e_ w_ ⟨c15, g16, rfl, l15, O17, rfl⟩
    refine nrm ?_
    refine W.cond (t := d_13) (by kernel_rfl) (fun h21 => ?_) (fun h21 => ?_)
    · have H := it h21 H
      refine sr ?_
      refine va (.int .i64 9) ?_
      refine wln ?_
      refine W.ret ?_
      refine thr ?_
      obtain rfl := Option.some.inj H
      exact ret1 (v := .int .i64 9) rfl (by kernel_rfl) ⟨_, c15, rfl, rfl, l15, O17, rfl⟩
    · have H := ie h21 H
      refine W.skip ?_
      refine nrm ?_
      refine W.seq ?_
      refine W.seq ?_
      obtain ⟨d_26, h22, H⟩ := bs H
      obtain ⟨d_30, h23, H⟩ := bs H
      refine W.join (fun e w => ∃ (c : Cx) (g : Nat → Value), w = c.w ∧ c15.le c ∧ Own c G (F) ∧ e = ups g [(0, .int .i32 p0), (3, .int .i64 (w64 p0)), (36, .bool d_30)]) ?_ ?_
      · clear H
        refine W.region ?_
        refine va (.int .i64 (w64 p0)) ?_
        refine va (.bool (decide ((w64 p0) ≥ 4448))) ?_
        rcases Bool.eq_false_or_eq_true (decide ((w64 p0) ≥ 4448)) with h24 | h24
        · skip
          have H25 := anT h24 h22
          refine vb h24 ?_
          refine wn ?_
          refine va (.int .i64 (w64 p0)) ?_
          refine wn ?_
          refine va (.bool (decide ((w64 p0) ≤ 4519))) ?_
          obtain rfl := Option.some.inj H25
          refine va (.bool (decide ((w64 p0) ≤ 4519))) ?_
          rcases Bool.eq_false_or_eq_true (decide ((w64 p0) ≤ 4519)) with h26 | h26
          · skip
            obtain rfl := orT h26 h23
            refine vb h26 ?_
            refine ps ?_
            refine ps ?_
            refine ps ?_
            refine ps ?_
            refine ps ?_
            refine ps ?_
            refine va (.bool true) ?_
            refine wln ?_
            exact ⟨c15, _, rfl, (Cx.le.refl _), O17, ups_self ⟨rfl, rfl, rfl, trivial⟩⟩
          · skip
            have H27 := orF h26 h23
            refine vb h26 ?_
            refine wn ?_
            refine va (.int .i64 (w64 p0)) ?_
            refine wn ?_
            refine va (.bool (decide ((w64 p0) ≥ 55216))) ?_
            refine wn ?_
            obtain ⟨d_34, h28, H27⟩ := bs H27
            rcases Bool.eq_false_or_eq_true (decide ((w64 p0) ≥ 55216)) with h29 | h29
            · skip
              have H30 := anT h29 h28
              refine vb h29 ?_
              refine wn ?_
              refine va (.int .i64 (w64 p0)) ?_
              refine wn ?_
              refine va (.bool (decide ((w64 p0) ≤ 55238))) ?_
              refine wn ?_
              obtain rfl := Option.some.inj H30
              refine va (.bool (decide ((w64 p0) ≤ 55238))) ?_
              obtain rfl := Option.some.inj H27
              refine va (.bool (decide ((w64 p0) ≤ 55238))) ?_
              refine wln ?_
              exact ⟨c15, _, rfl, (Cx.le.refl _), O17, ups_self ⟨rfl, rfl, rfl, trivial⟩⟩
            · skip
              obtain rfl := anF h29 h28
              refine vb h29 ?_
              refine ps ?_
              refine ps ?_
              refine wn ?_
              refine va (.bool false) ?_
              obtain rfl := Option.some.inj H27
              refine va (.bool false) ?_
              refine wln ?_
              exact ⟨c15, _, rfl, (Cx.le.refl _), O17, ups_self ⟨rfl, rfl, rfl, trivial⟩⟩
        · skip
          obtain rfl := anF h24 h22
          refine vb h24 ?_
          refine ps ?_
          refine ps ?_
          refine va (.bool false) ?_
          have h31 : false = false := rfl
          have H32 := orF h31 h23
          refine vb h31 ?_
          refine wn ?_
          refine va (.int .i64 (w64 p0)) ?_
          refine wn ?_
          refine va (.bool (decide ((w64 p0) ≥ 55216))) ?_
          refine wn ?_
          obtain ⟨d_34, h33, H32⟩ := bs H32
          rcases Bool.eq_false_or_eq_true (decide ((w64 p0) ≥ 55216)) with h34 | h34
          · skip
            have H35 := anT h34 h33
            refine vb h34 ?_
            refine wn ?_
            refine va (.int .i64 (w64 p0)) ?_
            refine wn ?_
            refine va (.bool (decide ((w64 p0) ≤ 55238))) ?_
            refine wn ?_
            obtain rfl := Option.some.inj H35
            refine va (.bool (decide ((w64 p0) ≤ 55238))) ?_
            obtain rfl := Option.some.inj H32
            refine va (.bool (decide ((w64 p0) ≤ 55238))) ?_
            refine wln ?_
            exact ⟨c15, _, rfl, (Cx.le.refl _), O17, ups_self ⟨rfl, rfl, rfl, trivial⟩⟩
          · skip
            obtain rfl := anF h34 h33
            refine vb h34 ?_
            refine ps ?_
            refine ps ?_
            refine wn ?_
            refine va (.bool false) ?_
            obtain rfl := Option.some.inj H32
            refine va (.bool false) ?_
            refine wln ?_
            exact ⟨c15, _, rfl, (Cx.le.refl _), O17, ups_self ⟨rfl, rfl, rfl, trivial⟩⟩
      · skip
        rintro e_ w_ ⟨c36, g37, rfl, l36, O38, rfl⟩
        refine nrm ?_
        refine W.cond (t := d_30) (by kernel_rfl) (fun h42 => ?_) (fun h42 => ?_)
        · have H := it h42 H
          refine sr ?_
          refine va (.int .i64 10) ?_
          refine wln ?_
          refine W.ret ?_
          refine thr ?_
          obtain rfl := Option.some.inj H
          exact ret1 (v := .int .i64 10) rfl (by kernel_rfl) ⟨_, c36, rfl, rfl, (l15.trans l36), O38, rfl⟩
        · have H := ie h42 H
          refine W.skip ?_
          refine nrm ?_
          refine W.seq ?_
          refine W.seq ?_
          obtain ⟨d_43, h43, H⟩ := bs H
          obtain ⟨d_47, h44, H⟩ := bs H
          refine W.join (fun e w => ∃ (c : Cx) (g : Nat → Value), w = c.w ∧ c36.le c ∧ Own c G (F) ∧ e = ups g [(0, .int .i32 p0), (50, .bool d_47)]) ?_ ?_
          · clear H
            refine W.region ?_
            refine va (.int .i64 (w64 p0)) ?_
            refine va (.bool (decide ((w64 p0) ≥ 4520))) ?_
            rcases Bool.eq_false_or_eq_true (decide ((w64 p0) ≥ 4520)) with h45 | h45
            · skip
              have H46 := anT h45 h43
              refine vb h45 ?_
              refine wn ?_
              refine va (.int .i64 (w64 p0)) ?_
              refine wn ?_
              refine va (.bool (decide ((w64 p0) ≤ 4607))) ?_
              obtain rfl := Option.some.inj H46
              refine va (.bool (decide ((w64 p0) ≤ 4607))) ?_
              rcases Bool.eq_false_or_eq_true (decide ((w64 p0) ≤ 4607)) with h47 | h47
              · skip
                obtain rfl := orT h47 h44
                refine vb h47 ?_
                refine ps ?_
                refine ps ?_
                refine ps ?_
                refine ps ?_
                refine ps ?_
                refine ps ?_
                refine va (.bool true) ?_
                refine wln ?_
                exact ⟨c36, _, rfl, (Cx.le.refl _), O38, ups_self ⟨rfl, rfl, trivial⟩⟩
              · skip
                have H48 := orF h47 h44
                refine vb h47 ?_
                refine wn ?_
                refine va (.int .i64 (w64 p0)) ?_
                refine wn ?_
                refine va (.bool (decide ((w64 p0) ≥ 55243))) ?_
                refine wn ?_
                obtain ⟨d_51, h49, H48⟩ := bs H48
                rcases Bool.eq_false_or_eq_true (decide ((w64 p0) ≥ 55243)) with h50 | h50
                · skip
                  have H51 := anT h50 h49
                  refine vb h50 ?_
                  refine wn ?_
                  refine va (.int .i64 (w64 p0)) ?_
                  refine wn ?_
                  refine va (.bool (decide ((w64 p0) ≤ 55291))) ?_
                  refine wn ?_
                  obtain rfl := Option.some.inj H51
                  refine va (.bool (decide ((w64 p0) ≤ 55291))) ?_
                  obtain rfl := Option.some.inj H48
                  refine va (.bool (decide ((w64 p0) ≤ 55291))) ?_
                  refine wln ?_
                  exact ⟨c36, _, rfl, (Cx.le.refl _), O38, ups_self ⟨rfl, rfl, trivial⟩⟩
                · skip
                  obtain rfl := anF h50 h49
                  refine vb h50 ?_
                  refine ps ?_
                  refine ps ?_
                  refine wn ?_
                  refine va (.bool false) ?_
                  obtain rfl := Option.some.inj H48
                  refine va (.bool false) ?_
                  refine wln ?_
                  exact ⟨c36, _, rfl, (Cx.le.refl _), O38, ups_self ⟨rfl, rfl, trivial⟩⟩
            · skip
              obtain rfl := anF h45 h43
              refine vb h45 ?_
              refine ps ?_
              refine ps ?_
              refine va (.bool false) ?_
              have h52 : false = false := rfl
              have H53 := orF h52 h44
              refine vb h52 ?_
              refine wn ?_
              refine va (.int .i64 (w64 p0)) ?_
              refine wn ?_
              refine va (.bool (decide ((w64 p0) ≥ 55243))) ?_
              refine wn ?_
              obtain ⟨d_51, h54, H53⟩ := bs H53
              rcases Bool.eq_false_or_eq_true (decide ((w64 p0) ≥ 55243)) with h55 | h55
              · skip
                have H56 := anT h55 h54
                refine vb h55 ?_
                refine wn ?_
                refine va (.int .i64 (w64 p0)) ?_
                refine wn ?_
                refine va (.bool (decide ((w64 p0) ≤ 55291))) ?_
                refine wn ?_
                obtain rfl := Option.some.inj H56
                refine va (.bool (decide ((w64 p0) ≤ 55291))) ?_
                obtain rfl := Option.some.inj H53
                refine va (.bool (decide ((w64 p0) ≤ 55291))) ?_
                refine wln ?_
                exact ⟨c36, _, rfl, (Cx.le.refl _), O38, ups_self ⟨rfl, rfl, trivial⟩⟩
              · skip
                obtain rfl := anF h55 h54
                refine vb h55 ?_
                refine ps ?_
                refine ps ?_
                refine wn ?_
                refine va (.bool false) ?_
                obtain rfl := Option.some.inj H53
                refine va (.bool false) ?_
                refine wln ?_
                exact ⟨c36, _, rfl, (Cx.le.refl _), O38, ups_self ⟨rfl, rfl, trivial⟩⟩
          · skip
            rintro e_ w_ ⟨c57, g58, rfl, l57, O59, rfl⟩
            refine nrm ?_
            refine W.cond (t := d_47) (by kernel_rfl) (fun h63 => ?_) (fun h63 => ?_)
            · have H := it h63 H
              refine sr ?_
              refine va (.int .i64 11) ?_
              refine wln ?_
              refine W.ret ?_
              refine thr ?_
              obtain rfl := Option.some.inj H
              exact ret1 (v := .int .i64 11) rfl (by kernel_rfl) ⟨_, c57, rfl, rfl, (l15.trans (l36.trans l57)), O59, rfl⟩
            · have H := ie h63 H
              refine W.skip ?_
              refine nrm ?_
              refine sr ?_
              refine va (.int .i32 p0) ?_
              obtain ⟨x_59, h64, H⟩ := bs H
              refine WL.callP rfl (by kernel_rfl) (c_linotyperef08_Split O59 p0 h64) ?_
              rintro v70 c69 l69 ⟨O66, rfl⟩
              refine va (.tuple #[.int .i64 x_59.1, .int .i64 x_59.2.1, .int .i64 x_59.2.2]) ?_
              refine va (.int .i64 x_59.1) ?_
              refine va (.int .i64 x_59.2.1) ?_
              refine va (.int .i64 x_59.2.2) ?_
              refine va (.int .i64 x_59.1) ?_
              refine va (.int .i64 x_59.2.1) ?_
              refine va (.int .i64 x_59.2.2) ?_
              refine wln ?_
              refine W.seq ?_
              refine sr ?_
              refine va (.int .i64 x_59.1) ?_
              refine va (.bool (x_59.1 == 0)) ?_
              refine wln ?_
              refine W.cond (t := x_59.1 == 0) (by kernel_rfl) (fun h71 => ?_) (fun h71 => ?_)
              · have H := it h71 H
                refine sr ?_
                refine va (.int .i64 0) ?_
                refine wln ?_
                refine W.ret ?_
                refine thr ?_
                obtain rfl := Option.some.inj H
                exact ret1 (v := .int .i64 0) rfl (by kernel_rfl) ⟨_, c69, rfl, rfl, (l15.trans (l36.trans (l57.trans l69))), O66, rfl⟩
              · have H := ie h71 H
                refine W.skip ?_
                refine nrm ?_
                refine W.seq ?_
                refine sr ?_
                refine va (.int .i64 x_59.2.2) ?_
                refine va (.bool (x_59.2.2 == 0)) ?_
                refine wln ?_
                refine W.cond (t := x_59.2.2 == 0) (by kernel_rfl) (fun h72 => ?_) (fun h72 => ?_)
                · have H := it h72 H
                  refine sr ?_
                  refine va (.int .i64 12) ?_
                  refine wln ?_
                  refine W.ret ?_
                  refine thr ?_
                  obtain rfl := Option.some.inj H
                  exact ret1 (v := .int .i64 12) rfl (by kernel_rfl) ⟨_, c69, rfl, rfl, (l15.trans (l36.trans (l57.trans l69))), O66, rfl⟩
                · have H := ie h72 H
                  refine W.skip ?_
                  refine nrm ?_
                  refine sr ?_
                  refine va (.int .i64 13) ?_
                  refine wln ?_
                  refine W.ret ?_
                  obtain rfl := Option.some.inj H
                  exact ret1 (v := .int .i64 13) rfl (by kernel_rfl) ⟨_, c69, rfl, rfl, (l15.trans (l36.trans (l57.trans l69))), O66, rfl⟩

def f_linotyperef09_Of (p0 : Int) : Option (Int) :=
  (f_linotyperef09_list1).bind fun x_3 =>
  (f_linotyperef09_list2).bind fun x_4 =>
  (f_linotyperef09_list3).bind fun x_5 =>
  (f_linotyperef09_list4).bind fun x_6 =>
  (f_linotyperef09_list5).bind fun x_7 =>
  (f_linotyperef09_list6).bind fun x_8 =>
  (f_linotyperef09_list7).bind fun x_9 =>
  (f_linotyperef09_list8).bind fun x_10 =>
  (iter (σ := Int) (τ := Int ⊕ Unit) (((([x_3, x_4, x_5, x_6, x_7, x_8, x_9, x_10] : List (List (Int × Int))).length : Int) - 0).toNat + 1) (fun s_16 =>
  if (decide (s_16 < (([x_3, x_4, x_5, x_6, x_7, x_8, x_9, x_10] : List (List (Int × Int))).length : Int))) = true then
  (idx ([x_3, x_4, x_5, x_6, x_7, x_8, x_9, x_10] : List (List (Int × Int))) s_16).bind fun x_24 =>
  (f_linotyperef09_In x_24 p0).bind fun x_27 =>
  if x_27 = true then
  some (.inr (.inl (w64 (s_16 + 1))))
  else
  some (.inl ((w64 (s_16 + 1))))
  else
  some (.inr (.inr ()))) (0)).bind fun o_16 =>
  match o_16 with
  | .inl o_16 =>
  some o_16
  | .inr o_16 =>
  (f_linotyperef08_Class p0).bind fun x_38 =>
  some x_38
theorem c_linotyperef09_Of {c0 : Cx} {G : Gm} {F : List En} (O0 : Own c0 G F) (p0 : Int) {r : Int} (H : f_linotyperef09_Of p0 = some r) :
    Calls Try.prog 15 #[.int .i32 p0] c0.w (Post c0 fun c v => Own c G (F) ∧ v = .int .i64 r) := by
  unfold f_linotyperef09_Of at H
  refine enter (l := [.int .i32 p0]) Try.func15 rfl rfl rfl ?_
  refine sr ?_
  refine va (.int .i64 0) ?_
  refine wln ?_
  refine sr ?_
  obtain ⟨x_3, h1, H⟩ := bs H
  refine WL.callP rfl (by kernel_rfl) (c_linotyperef09_list1 O0 h1) ?_
  rintro v2 c9 l9 ⟨_, u3, O6, rfl, h4⟩
  obtain ⟨x_4, h11, H⟩ := bs H
  refine WL.callP rfl (by kernel_rfl) (c_linotyperef09_list2 O6 h11) ?_
  rintro v12 c19 l19 ⟨_, u13, O16, rfl, h14⟩
  obtain ⟨x_5, h21, H⟩ := bs H
  refine WL.callP rfl (by kernel_rfl) (c_linotyperef09_list3 O16 h21) ?_
  rintro v22 c29 l29 ⟨_, u23, O26, rfl, h24⟩
  obtain ⟨x_6, h31, H⟩ := bs H
  refine WL.callP rfl (by kernel_rfl) (c_linotyperef09_list4 O26 h31) ?_
  rintro v32 c39 l39 ⟨_, u33, O36, rfl, h34⟩
  obtain ⟨x_7, h41, H⟩ := bs H
  refine WL.callP rfl (by kernel_rfl) (c_linotyperef09_list5 O36 h41) ?_
  rintro v42 c49 l49 ⟨_, u43, O46, rfl, h44⟩
  obtain ⟨x_8, h51, H⟩ := bs H
  refine WL.callP rfl (by kernel_rfl) (c_linotyperef09_list6 O46 h51) ?_
  rintro v52 c59 l59 ⟨_, u53, O56, rfl, h54⟩
  obtain ⟨x_9, h61, H⟩ := bs H
  refine WL.callP rfl (by kernel_rfl) (c_linotyperef09_list7 O56 h61) ?_
  rintro v62 c69 l69 ⟨_, u63, O66, rfl, h64⟩
  obtain ⟨x_10, h71, H⟩ := bs H
  refine WL.callP rfl (by kernel_rfl) (c_linotyperef09_list8 O66 h71) ?_
  rintro v72 c79 l79 ⟨_, u73, O76, rfl, h74⟩
  obtain ⟨c83, h84, l83, O81, h82⟩ := O76.frz 7 rfl (h4.mono (l19.trans (l29.trans (l39.trans (l49.trans (l59.trans (l69.trans l79)))))))
  refine WL.gh h84 ?_
  obtain ⟨c87, h88, l87, O85, h86⟩ := O81.frz 6 rfl (h14.mono (l29.trans (l39.trans (l49.trans (l59.trans (l69.trans (l79.trans l83)))))))
  refine WL.gh h88 ?_
  obtain ⟨c91, h92, l91, O89, h90⟩ := O85.frz 5 rfl (h24.mono (l39.trans (l49.trans (l59.trans (l69.trans (l79.trans (l83.trans l87)))))))
  refine WL.gh h92 ?_
  obtain ⟨c95, h96, l95, O93, h94⟩ := O89.frz 4 rfl (h34.mono (l49.trans (l59.trans (l69.trans (l79.trans (l83.trans (l87.trans l91)))))))
  refine WL.gh h96 ?_
  obtain ⟨c99, h100, l99, O97, h98⟩ := O93.frz 3 rfl (h44.mono (l59.trans (l69.trans (l79.trans (l83.trans (l87.trans (l91.trans l95)))))))
  refine WL.gh h100 ?_
  obtain ⟨c103, h104, l103, O101, h102⟩ := O97.frz 2 rfl (h54.mono (l69.trans (l79.trans (l83.trans (l87.trans (l91.trans (l95.trans l99)))))))
  refine WL.gh h104 ?_
  obtain ⟨c107, h108, l107, O105, h106⟩ := O101.frz 1 rfl (h64.mono (l79.trans (l83.trans (l87.trans (l91.trans (l95.trans (l99.trans l103)))))))
  refine WL.gh h108 ?_
  obtain ⟨c111, h112, l111, O109, h110⟩ := O105.frz 0 rfl (h74.mono (l83.trans (l87.trans (l91.trans (l95.trans (l99.trans (l103.trans l107)))))))
  refine WL.gh h112 ?_
  obtain ⟨a113, a114, a115, rfl⟩ := ((h82.mono (l87.trans (l91.trans (l95.trans (l99.trans (l103.trans (l107.trans l111)))))))).form
  obtain ⟨a116, a117, a118, rfl⟩ := ((h86.mono (l91.trans (l95.trans (l99.trans (l103.trans (l107.trans l111))))))).form
  obtain ⟨a119, a120, a121, rfl⟩ := ((h90.mono (l95.trans (l99.trans (l103.trans (l107.trans l111)))))).form
  obtain ⟨a122, a123, a124, rfl⟩ := ((h94.mono (l99.trans (l103.trans (l107.trans l111))))).form
  obtain ⟨a125, a126, a127, rfl⟩ := ((h98.mono (l103.trans (l107.trans l111)))).form
  obtain ⟨a128, a129, a130, rfl⟩ := ((h102.mono (l107.trans l111))).form
  obtain ⟨a131, a132, a133, rfl⟩ := ((h106.mono l111)).form
  obtain ⟨a134, a135, a136, rfl⟩ := (h110).form
  refine WL.mem rfl (Own.sl (R := (RL RA2_i64)) (E := 39) (ls := [[.slice a113 a114 a115], [.slice a116 a117 a118], [.slice a119 a120 a121], [.slice a122 a123 a124], [.slice a125 a126 a127], [.slice a128 a129 a130], [.slice a131 a132 a133], [.slice a134 a135 a136]]) (vs := [.slice a113 a114 a115, .slice a116 a117 a118, .slice a119 a120 a121, .slice a122 a123 a124, .slice a125 a126 a127, .slice a128 a129 a130, .slice a131 a132 a133, .slice a134 a135 a136]) (xs := ([x_3, x_4, x_5, x_6, x_7, x_8, x_9, x_10] : List (List (Int × Int)))) true O109 (Nat.succ_pos _) rfl ⟨⟨(.slice a113 a114 a115), rfl, (h82.mono (l87.trans (l91.trans (l95.trans (l99.trans (l103.trans (l107.trans l111)))))))⟩, ⟨(.slice a116 a117 a118), rfl, (h86.mono (l91.trans (l95.trans (l99.trans (l103.trans (l107.trans l111))))))⟩, ⟨(.slice a119 a120 a121), rfl, (h90.mono (l95.trans (l99.trans (l103.trans (l107.trans l111)))))⟩, ⟨(.slice a122 a123 a124), rfl, (h94.mono (l99.trans (l103.trans (l107.trans l111))))⟩, ⟨(.slice a125 a126 a127), rfl, (h98.mono (l103.trans (l107.trans l111)))⟩, ⟨(.slice a128 a129 a130), rfl, (h102.mono (l107.trans l111))⟩, ⟨(.slice a131 a132 a133), rfl, (h106.mono l111)⟩, ⟨(.slice a134 a135 a136), rfl, h110⟩, trivial⟩ (by kernel_rfl) (by kernel_rfl)) ?_
  rintro v141 c140 l140 ⟨u138, O137, h139⟩
  refine va (v141) ?_
  refine wln ?_
  refine W.seq ?_
  refine sr ?_
  refine va (.int .i64 0) ?_
  refine wln ?_
  refine W.block ?_
  obtain ⟨o_16, h142, H143⟩ := bs H
  refine W.loop (σ := Int) (τ := Int ⊕ Unit) (fun s_16 => fun e w => ∃ (c : Cx) (g : Nat → Value), w = c.w ∧ c140.le c ∧ Own c G (es true (RL RA2_i64) v141 39 u138 ([x_3, x_4, x_5, x_6, x_7, x_8, x_9, x_10] : List (List (Int × Int))) :: es false RA2_i64 (.slice a134 a135 a136) 45 u73 x_10 :: es false RA2_i64 (.slice a131 a132 a133) 45 u63 x_9 :: es false RA2_i64 (.slice a128 a129 a130) 45 u53 x_8 :: es false RA2_i64 (.slice a125 a126 a127) 45 u43 x_7 :: es false RA2_i64 (.slice a122 a123 a124) 45 u33 x_6 :: es false RA2_i64 (.slice a119 a120 a121) 45 u23 x_5 :: es false RA2_i64 (.slice a116 a117 a118) 45 u13 x_4 :: es false RA2_i64 (.slice a113 a114 a115) 45 u3 x_3 :: F) ∧ e = ups g [(0, .int .i32 p0), (3, v141), (4, .int .i64 s_16)]) (fun t => match t with | .inl x_ => (fun rr_ ex e w => ex = .ret ∧ (fun e w => ∃ (c : Cx) (g : Nat → Value), w = c.w ∧ c140.le c ∧ Own c G (F) ∧ e = ups g [(2, .int .i64 rr_)]) e w) x_ | .inr x_ => (fun o_16_ ex e w => ex = .exit 0 ∧ (fun e w => ∃ (c : Cx) (g : Nat → Value), w = c.w ∧ c140.le c ∧ Own c G (es true (RL RA2_i64) v141 39 u138 ([x_3, x_4, x_5, x_6, x_7, x_8, x_9, x_10] : List (List (Int × Int))) :: es false RA2_i64 (.slice a134 a135 a136) 45 u73 x_10 :: es false RA2_i64 (.slice a131 a132 a133) 45 u63 x_9 :: es false RA2_i64 (.slice a128 a129 a130) 45 u53 x_8 :: es false RA2_i64 (.slice a125 a126 a127) 45 u43 x_7 :: es false RA2_i64 (.slice a122 a123 a124) 45 u33 x_6 :: es false RA2_i64 (.slice a119 a120 a121) 45 u23 x_5 :: es false RA2_i64 (.slice a116 a117 a118) 45 u13 x_4 :: es false RA2_i64 (.slice a113 a114 a115) 45 u3 x_3 :: F) ∧ e = ups g [(0, .int .i32 p0)]) e w) x_) ?_ h142 ?_ ?_
  · clear H143 h142
    intro s_16 xx_ ee_ ww_ H
    revert ee_ ww_
    rintro e_ w_ ⟨c144, g145, rfl, l144, O146, rfl⟩
    refine W.seq ?_
    refine sr ?_
    refine va (.int .i64 s_16) ?_
    refine va (v141) ?_
    refine WL.val0 (v := .int .i64 (([x_3, x_4, x_5, x_6, x_7, x_8, x_9, x_10] : List (List (Int × Int))).length : Int)) rfl (rx (by kernel_rfl) (run_lenO (ty := 3) Try.underlying41 (h139.mono l144) _)) ?_
    refine va (.bool (decide (s_16 < (([x_3, x_4, x_5, x_6, x_7, x_8, x_9, x_10] : List (List (Int × Int))).length : Int)))) ?_
    refine wln ?_
    refine W.cond (t := decide (s_16 < (([x_3, x_4, x_5, x_6, x_7, x_8, x_9, x_10] : List (List (Int × Int))).length : Int))) (by kernel_rfl) (fun h150 => ?_) (fun h150 => ?_)
    · have H := it h150 H
      refine W.skip ?_
      refine nrm ?_
      refine W.seq ?_
      refine W.block ?_
      refine sr ?_
      refine va (v141) ?_
      refine va (.int .i64 s_16) ?_
      obtain ⟨x_24, h151, H⟩ := bs H
      refine WL.val0 (v := .pointer (some ⟨sb v141, s_16.toNat * 1, none⟩)) rfl (rx (by kernel_rfl) (run_indexO (k := .i64) Try.underlying41 (by kernel_rfl) (h139.mono l144) h151 _)) ?_
      obtain ⟨l_152, h153, m154⟩ := OA.at (h139.mono l144) h151
      obtain ⟨v155, rfl, h156⟩ := h153
      refine WL.val0 (v := v155) rfl (rx (by kernel_rfl) (ldE1 Try.underlying39 rfl (O146.on 0 rfl) ((h139.mono l144).blk h151) (at1 (j := 0) m154 rfl))) ?_
      refine va (.int .i32 p0) ?_
      obtain ⟨x_27, h157, H⟩ := bs H
      refine WL.callP rfl (by kernel_rfl) (c_linotyperef09_In O146 x_24 p0 h156 h157) ?_
      rintro v163 c162 l162 ⟨O159, rfl⟩
      refine wln ?_
      refine W.cond (t := x_27) (by kernel_rfl) (fun h164 => ?_) (fun h164 => ?_)
      · have H := it h164 H
        refine sr ?_
        refine va (.int .i64 s_16) ?_
        refine va (.int .i64 (w64 (s_16 + 1))) ?_
        refine va (.int .i64 (w64 (s_16 + 1))) ?_
        refine wln ?_
        refine W.ret ?_
        refine bkr ?_
        refine thr ?_
        obtain rfl := Option.some.inj H
        refine ⟨_, rfl, ?_⟩
        refine ⟨rfl, ?_⟩
        have O165 := O159.selD 9 [] (by kernel_rfl) (by kernel_rfl)
        exact ⟨c162, _, rfl, (l144.trans l162), O165, ups_self ⟨rfl, trivial⟩⟩
      · have H := ie h164 H
        refine W.skip ?_
        refine bkn ?_
        refine nrm ?_
        refine W.region ?_
        refine va (.int .i64 s_16) ?_
        refine va (.int .i64 (w64 (s_16 + 1))) ?_
        refine va (.int .i64 (w64 (s_16 + 1))) ?_
        refine WL.nil ?_
        obtain rfl := Option.some.inj H
        refine ⟨_, rfl, ?_⟩
        exact ⟨c162, _, rfl, (l144.trans l162), O159, ups_self ⟨rfl, rfl, rfl, trivial⟩⟩
    · have H := ie h150 H
      refine W.exit ?_
      refine thx ?_
      obtain rfl := Option.some.inj H
      refine ⟨_, rfl, rfl, ?_⟩
      exact ⟨c144, _, rfl, l144, O146, ups_self ⟨rfl, trivial⟩⟩
  · skip
    exact ⟨c140, _, rfl, (Cx.le.refl _), O137, ups_self ⟨rfl, rfl, rfl, trivial⟩⟩
  · skip
    rcases o_16 with o_16 | o_16
    · skip
      intro ex_; revert ex_
      rintro _ e_ w_ ⟨rfl, c166, g167, rfl, l166, O168, rfl⟩
      refine bkr ?_
      refine thr ?_
      obtain rfl := Option.some.inj H143
      exact ret1 (v := .int .i64 o_16) rfl (by kernel_rfl) ⟨_, c166, rfl, rfl, (l9.trans (l19.trans (l29.trans (l39.trans (l49.trans (l59.trans (l69.trans (l79.trans (l83.trans (l87.trans (l91.trans (l95.trans (l99.trans (l103.trans (l107.trans (l111.trans (l140.trans l166))))))))))))))))), O168, rfl⟩
    · skip
      rintro _ e_ w_ ⟨rfl, c172, g173, rfl, l172, O174, rfl⟩
      refine bke ?_
      refine nrm ?_
      refine sr ?_
      refine va (.int .i32 p0) ?_
      obtain ⟨x_38, h178, H143⟩ := bs H143
      refine WL.callP rfl (by kernel_rfl) (c_linotyperef08_Class O174 p0 h178) ?_
      rintro v184 c183 l183 ⟨O180, rfl⟩
      refine va (.int .i64 x_38) ?_
      refine wln ?_
      refine W.ret ?_
      obtain rfl := Option.some.inj H143
      have O185 := O180.selD 9 [] (by kernel_rfl) (by kernel_rfl)
      exact ret1 (v := .int .i64 x_38) rfl (by kernel_rfl) ⟨_, c183, rfl, rfl, (l9.trans (l19.trans (l29.trans (l39.trans (l49.trans (l59.trans (l69.trans (l79.trans (l83.trans (l87.trans (l91.trans (l95.trans (l99.trans (l103.trans (l107.trans (l111.trans (l140.trans (l172.trans l183)))))))))))))))))), O185, rfl⟩

def t_linotyperef10_list_81 : List (Int × Int) := [(169, 169), (174, 174), (8252, 8252), (8265, 8265), (8482, 8482), (8505, 8505), (8596, 8601), (8617, 8618), (8986, 8987), (9000, 9000), (9096, 9096), (9167, 9167), (9193, 9203), (9208, 9210), (9410, 9410), (9642, 9643), (9654, 9654), (9664, 9664), (9723, 9726), (9728, 9733), (9735, 9746), (9748, 9861), (9872, 9989), (9992, 10002), (10004, 10004), (10006, 10006), (10013, 10013), (10017, 10017), (10024, 10024), (10035, 10036), (10052, 10052), (10055, 10055), (10060, 10060), (10062, 10062), (10067, 10069), (10071, 10071), (10083, 10087), (10133, 10135), (10145, 10145), (10160, 10160), (10175, 10175), (10548, 10549), (11013, 11015), (11035, 11036), (11088, 11088), (11093, 11093), (12336, 12336), (12349, 12349), (12951, 12951), (12953, 12953), (126976, 127231), (127245, 127247), (127279, 127279), (127340, 127345), (127358, 127359), (127374, 127374), (127377, 127386), (127405, 127461), (127489, 127503), (127514, 127514), (127535, 127535), (127538, 127546), (127548, 127551), (127561, 127994), (128000, 128317), (128326, 128591), (128640, 128767), (128884, 128895), (128981, 129023), (129036, 129039), (129096, 129103), (129114, 129119), (129160, 129167), (129198, 129279), (129292, 129338), (129340, 129349), (129351, 129791), (130048, 131069)]
def f_linotyperef10_list  : Option (List (Int × Int)) :=
  some t_linotyperef10_list_81
theorem c_linotyperef10_list {c0 : Cx} {G : Gm} {F : List En} (O0 : Own c0 G F) {r : List (Int × Int)} (H : f_linotyperef10_list  = some r) :
    Calls Try.prog 39 #[] c0.w (Post c0 fun c v => ∃ y1 : Value, ∃ y2 : List Value, Own c G (es true RA2_i64 y1 45 y2 r :: F) ∧ v = y1 ∧ OA RA2_i64 c y1 y2 r) := by
  unfold f_linotyperef10_list at H
  refine enter (l := []) Try.func39 rfl rfl rfl ?_
  refine sr ?_
  refine va (.slice none 0 0) ?_
  refine wln ?_
  refine sr ?_
  refine va (.agg #[.int .i64 169, .int .i64 169]) ?_
  refine va (.agg #[.int .i64 174, .int .i64 174]) ?_
  refine va (.agg #[.int .i64 8252, .int .i64 8252]) ?_
  refine va (.agg #[.int .i64 8265, .int .i64 8265]) ?_
  refine va (.agg #[.int .i64 8482, .int .i64 8482]) ?_
  refine va (.agg #[.int .i64 8505, .int .i64 8505]) ?_
  refine va (.agg #[.int .i64 8596, .int .i64 8601]) ?_
  refine va (.agg #[.int .i64 8617, .int .i64 8618]) ?_
  refine va (.agg #[.int .i64 8986, .int .i64 8987]) ?_
  refine va (.agg #[.int .i64 9000, .int .i64 9000]) ?_
  refine va (.agg #[.int .i64 9096, .int .i64 9096]) ?_
  refine va (.agg #[.int .i64 9167, .int .i64 9167]) ?_
  refine va (.agg #[.int .i64 9193, .int .i64 9203]) ?_
  refine va (.agg #[.int .i64 9208, .int .i64 9210]) ?_
  refine va (.agg #[.int .i64 9410, .int .i64 9410]) ?_
  refine va (.agg #[.int .i64 9642, .int .i64 9643]) ?_
  refine va (.agg #[.int .i64 9654, .int .i64 9654]) ?_
  refine va (.agg #[.int .i64 9664, .int .i64 9664]) ?_
  refine va (.agg #[.int .i64 9723, .int .i64 9726]) ?_
  refine va (.agg #[.int .i64 9728, .int .i64 9733]) ?_
  refine va (.agg #[.int .i64 9735, .int .i64 9746]) ?_
  refine va (.agg #[.int .i64 9748, .int .i64 9861]) ?_
  refine va (.agg #[.int .i64 9872, .int .i64 9989]) ?_
  refine va (.agg #[.int .i64 9992, .int .i64 10002]) ?_
  refine va (.agg #[.int .i64 10004, .int .i64 10004]) ?_
  refine va (.agg #[.int .i64 10006, .int .i64 10006]) ?_
  refine va (.agg #[.int .i64 10013, .int .i64 10013]) ?_
  refine va (.agg #[.int .i64 10017, .int .i64 10017]) ?_
  refine va (.agg #[.int .i64 10024, .int .i64 10024]) ?_
  refine va (.agg #[.int .i64 10035, .int .i64 10036]) ?_
  refine va (.agg #[.int .i64 10052, .int .i64 10052]) ?_
  refine va (.agg #[.int .i64 10055, .int .i64 10055]) ?_
  refine va (.agg #[.int .i64 10060, .int .i64 10060]) ?_
  refine va (.agg #[.int .i64 10062, .int .i64 10062]) ?_
  refine va (.agg #[.int .i64 10067, .int .i64 10069]) ?_
  refine va (.agg #[.int .i64 10071, .int .i64 10071]) ?_
  refine va (.agg #[.int .i64 10083, .int .i64 10087]) ?_
  refine va (.agg #[.int .i64 10133, .int .i64 10135]) ?_
  refine va (.agg #[.int .i64 10145, .int .i64 10145]) ?_
  refine va (.agg #[.int .i64 10160, .int .i64 10160]) ?_
  refine va (.agg #[.int .i64 10175, .int .i64 10175]) ?_
  refine va (.agg #[.int .i64 10548, .int .i64 10549]) ?_
  refine va (.agg #[.int .i64 11013, .int .i64 11015]) ?_
  refine va (.agg #[.int .i64 11035, .int .i64 11036]) ?_
  refine va (.agg #[.int .i64 11088, .int .i64 11088]) ?_
  refine va (.agg #[.int .i64 11093, .int .i64 11093]) ?_
  refine va (.agg #[.int .i64 12336, .int .i64 12336]) ?_
  refine va (.agg #[.int .i64 12349, .int .i64 12349]) ?_
  refine va (.agg #[.int .i64 12951, .int .i64 12951]) ?_
  refine va (.agg #[.int .i64 12953, .int .i64 12953]) ?_
  refine va (.agg #[.int .i64 126976, .int .i64 127231]) ?_
  refine va (.agg #[.int .i64 127245, .int .i64 127247]) ?_
  refine va (.agg #[.int .i64 127279, .int .i64 127279]) ?_
  refine va (.agg #[.int .i64 127340, .int .i64 127345]) ?_
  refine va (.agg #[.int .i64 127358, .int .i64 127359]) ?_
  refine va (.agg #[.int .i64 127374, .int .i64 127374]) ?_
  refine va (.agg #[.int .i64 127377, .int .i64 127386]) ?_
  refine va (.agg #[.int .i64 127405, .int .i64 127461]) ?_
  refine va (.agg #[.int .i64 127489, .int .i64 127503]) ?_
  refine va (.agg #[.int .i64 127514, .int .i64 127514]) ?_
  refine va (.agg #[.int .i64 127535, .int .i64 127535]) ?_
  refine va (.agg #[.int .i64 127538, .int .i64 127546]) ?_
  refine va (.agg #[.int .i64 127548, .int .i64 127551]) ?_
  refine va (.agg #[.int .i64 127561, .int .i64 127994]) ?_
  refine va (.agg #[.int .i64 128000, .int .i64 128317]) ?_
  refine va (.agg #[.int .i64 128326, .int .i64 128591]) ?_
  refine va (.agg #[.int .i64 128640, .int .i64 128767]) ?_
  refine va (.agg #[.int .i64 128884, .int .i64 128895]) ?_
  refine va (.agg #[.int .i64 128981, .int .i64 129023]) ?_
  refine va (.agg #[.int .i64 129036, .int .i64 129039]) ?_
  refine va (.agg #[.int .i64 129096, .int .i64 129103]) ?_
  refine va (.agg #[.int .i64 129114, .int .i64 129119]) ?_
  refine va (.agg #[.int .i64 129160, .int .i64 129167]) ?_
  refine va (.agg #[.int .i64 129198, .int .i64 129279]) ?_
  refine va (.agg #[.int .i64 129292, .int .i64 129338]) ?_
  refine va (.agg #[.int .i64 129340, .int .i64 129349]) ?_
  refine va (.agg #[.int .i64 129351, .int .i64 129791]) ?_
  refine va (.agg #[.int .i64 130048, .int .i64 131069]) ?_
  refine WL.mem rfl (Own.sl (R := RA2_i64) (E := 45) (ls := t_linotyperef10_list_81.map (fun x => [Value.int .i64 x.1, Value.int .i64 x.2])) (vs := (t_linotyperef10_list_81.map (fun x => [Value.int .i64 x.1, Value.int .i64 x.2])).flatten) (xs := t_linotyperef10_list_81) true O0 (Nat.succ_pos _) rfl (AllR.map _ (fun _ => rfl) _) (by kernel_rfl) (by kernel_rfl)) ?_
  rintro v5 c4 l4 ⟨u2, O1, h3⟩
  refine va (v5) ?_
  refine wln ?_
  refine W.ret ?_
  obtain rfl := Option.some.inj H
  exact ret1 (v := v5) rfl (by kernel_rfl) ⟨_, c4, rfl, rfl, l4, v5, u2, O1, rfl, h3⟩

def f_linotyperef10_Is (p0 : Int) : Option (Bool) :=
  (f_linotyperef10_list).bind fun x_3 =>
  (f_linotyperef09_In x_3 p0).bind fun x_5 =>
  some x_5
theorem c_linotyperef10_Is {c0 : Cx} {G : Gm} {F : List En} (O0 : Own c0 G F) (p0 : Int) {r : Bool} (H : f_linotyperef10_Is p0 = some r) :
    Calls Try.prog 16 #[.int .i32 p0] c0.w (Post c0 fun c v => Own c G (F) ∧ v = .bool r) := by
  unfold f_linotyperef10_Is at H
  refine enter (l := [.int .i32 p0]) Try.func16 rfl rfl rfl ?_
  refine sr ?_
  refine va (.bool false) ?_
  refine wln ?_
  refine sr ?_
  obtain ⟨x_3, h1, H⟩ := bs H
  refine WL.callP rfl (by kernel_rfl) (c_linotyperef10_list O0 h1) ?_
  rintro v2 c9 l9 ⟨_, u3, O6, rfl, h4⟩
  refine va (.int .i32 p0) ?_
  obtain ⟨c13, h14, l13, O11, h12⟩ := O6.frz 0 rfl h4
  refine WL.gh h14 ?_
  obtain ⟨x_5, h15, H⟩ := bs H
  refine WL.callP rfl (by kernel_rfl) (c_linotyperef09_In O11 x_3 p0 h12 h15) ?_
  rintro v21 c20 l20 ⟨O17, rfl⟩
  refine va (.bool x_5) ?_
  refine wln ?_
  refine W.ret ?_
  obtain rfl := Option.some.inj H
  have O22 := O17.selD 1 [] (by kernel_rfl) (by kernel_rfl)
  exact ret1 (v := .bool x_5) rfl (by kernel_rfl) ⟨_, c20, rfl, rfl, (l9.trans (l13.trans l20)), O22, rfl⟩

def t_linotyperef11_list1_29 : List (Int × Int) := [(2325, 2361), (2392, 2399), (2424, 2431), (2453, 2472), (2474, 2480), (2482, 2482), (2486, 2489), (2524, 2525), (2527, 2527), (2544, 2545), (2709, 2728), (2730, 2736), (2738, 2739), (2741, 2745), (2809, 2809), (2837, 2856), (2858, 2864), (2866, 2867), (2869, 2873), (2908, 2909), (2911, 2911), (2929, 2929), (3093, 3112), (3114, 3129), (3160, 3162), (3349, 3386)]
def f_linotyperef11_list1  : Option (List (Int × Int)) :=
  some t_linotyperef11_list1_29
theorem c_linotyperef11_list1 {c0 : Cx} {G : Gm} {F : List En} (O0 : Own c0 G F) {r : List (Int × Int)} (H : f_linotyperef11_list1  = some r) :
    Calls Try.prog 40 #[] c0.w (Post c0 fun c v => ∃ y1 : Value, ∃ y2 : List Value, Own c G (es true RA2_i64 y1 45 y2 r :: F) ∧ v = y1 ∧ OA RA2_i64 c y1 y2 r) := by
  unfold f_linotyperef11_list1 at H
  refine enter (l := []) Try.func40 rfl rfl rfl ?_
  refine sr ?_
  refine va (.slice none 0 0) ?_
  refine wln ?_
  refine sr ?_
  refine va (.agg #[.int .i64 2325, .int .i64 2361]) ?_
  refine va (.agg #[.int .i64 2392, .int .i64 2399]) ?_
  refine va (.agg #[.int .i64 2424, .int .i64 2431]) ?_
  refine va (.agg #[.int .i64 2453, .int .i64 2472]) ?_
  refine va (.agg #[.int .i64 2474, .int .i64 2480]) ?_
  refine va (.agg #[.int .i64 2482, .int .i64 2482]) ?_
  refine va (.agg #[.int .i64 2486, .int .i64 2489]) ?_
  refine va (.agg #[.int .i64 2524, .int .i64 2525]) ?_
  refine va (.agg #[.int .i64 2527, .int .i64 2527]) ?_
  refine va (.agg #[.int .i64 2544, .int .i64 2545]) ?_
  refine va (.agg #[.int .i64 2709, .int .i64 2728]) ?_
  refine va (.agg #[.int .i64 2730, .int .i64 2736]) ?_
  refine va (.agg #[.int .i64 2738, .int .i64 2739]) ?_
  refine va (.agg #[.int .i64 2741, .int .i64 2745]) ?_
  refine va (.agg #[.int .i64 2809, .int .i64 2809]) ?_
  refine va (.agg #[.int .i64 2837, .int .i64 2856]) ?_
  refine va (.agg #[.int .i64 2858, .int .i64 2864]) ?_
  refine va (.agg #[.int .i64 2866, .int .i64 2867]) ?_
  refine va (.agg #[.int .i64 2869, .int .i64 2873]) ?_
  refine va (.agg #[.int .i64 2908, .int .i64 2909]) ?_
  refine va (.agg #[.int .i64 2911, .int .i64 2911]) ?_
  refine va (.agg #[.int .i64 2929, .int .i64 2929]) ?_
  refine va (.agg #[.int .i64 3093, .int .i64 3112]) ?_
  refine va (.agg #[.int .i64 3114, .int .i64 3129]) ?_
  refine va (.agg #[.int .i64 3160, .int .i64 3162]) ?_
  refine va (.agg #[.int .i64 3349, .int .i64 3386]) ?_
  refine WL.mem rfl (Own.sl (R := RA2_i64) (E := 45) (ls := t_linotyperef11_list1_29.map (fun x => [Value.int .i64 x.1, Value.int .i64 x.2])) (vs := (t_linotyperef11_list1_29.map (fun x => [Value.int .i64 x.1, Value.int .i64 x.2])).flatten) (xs := t_linotyperef11_list1_29) true O0 (Nat.succ_pos _) rfl (AllR.map _ (fun _ => rfl) _) (by kernel_rfl) (by kernel_rfl)) ?_
  rintro v5 c4 l4 ⟨u2, O1, h3⟩
  refine va (v5) ?_
  refine wln ?_
  refine W.ret ?_
  obtain rfl := Option.some.inj H
  exact ret1 (v := v5) rfl (by kernel_rfl) ⟨_, c4, rfl, rfl, l4, v5, u2, O1, rfl, h3⟩

def f_linotyperef11_list2  : Option (List (Int × Int)) :=
  some ([(2381, 2381), (2509, 2509), (2765, 2765), (2893, 2893), (3149, 3149), (3405, 3405)] : List (Int × Int))
theorem c_linotyperef11_list2 {c0 : Cx} {G : Gm} {F : List En} (O0 : Own c0 G F) {r : List (Int × Int)} (H : f_linotyperef11_list2  = some r) :
    Calls Try.prog 41 #[] c0.w (Post c0 fun c v => ∃ y1 : Value, ∃ y2 : List Value, Own c G (es true RA2_i64 y1 45 y2 r :: F) ∧ v = y1 ∧ OA RA2_i64 c y1 y2 r) := by
  unfold f_linotyperef11_list2 at H
  refine enter (l := []) Try.func41 rfl rfl rfl ?_
  refine sr ?_
  refine va (.slice none 0 0) ?_
  refine wln ?_
  refine sr ?_
  refine va (.agg #[.int .i64 2381, .int .i64 2381]) ?_
  refine va (.agg #[.int .i64 2509, .int .i64 2509]) ?_
  refine va (.agg #[.int .i64 2765, .int .i64 2765]) ?_
  refine va (.agg #[.int .i64 2893, .int .i64 2893]) ?_
  refine va (.agg #[.int .i64 3149, .int .i64 3149]) ?_
  refine va (.agg #[.int .i64 3405, .int .i64 3405]) ?_
  refine WL.mem rfl (Own.sl (R := RA2_i64) (E := 45) (ls := [[.int .i64 2381, .int .i64 2381], [.int .i64 2509, .int .i64 2509], [.int .i64 2765, .int .i64 2765], [.int .i64 2893, .int .i64 2893], [.int .i64 3149, .int .i64 3149], [.int .i64 3405, .int .i64 3405]]) (vs := [.int .i64 2381, .int .i64 2381, .int .i64 2509, .int .i64 2509, .int .i64 2765, .int .i64 2765, .int .i64 2893, .int .i64 2893, .int .i64 3149, .int .i64 3149, .int .i64 3405, .int .i64 3405]) (xs := ([(2381, 2381), (2509, 2509), (2765, 2765), (2893, 2893), (3149, 3149), (3405, 3405)] : List (Int × Int))) true O0 (Nat.succ_pos _) rfl ⟨rfl, rfl, rfl, rfl, rfl, rfl, trivial⟩ (by kernel_rfl) (by kernel_rfl)) ?_
  rintro v5 c4 l4 ⟨u2, O1, h3⟩
  refine va (v5) ?_
  refine wln ?_
  refine W.ret ?_
  obtain rfl := Option.some.inj H
  exact ret1 (v := v5) rfl (by kernel_rfl) ⟨_, c4, rfl, rfl, l4, v5, u2, O1, rfl, h3⟩

def f_linotyperef11_list3  : Option (List (Int × Int)) :=
  some ([(768, 879), (1155, 1159), (1425, 1469), (1552, 1562), (1611, 1631), (2364, 2364), (2385, 2388), (2492, 2492), (2748, 2748), (2876, 2876), (3132, 3132), (6832, 6845), (7616, 7679), (8205, 8205), (8400, 8412), (12330, 12335), (12441, 12442), (65056, 65071)] : List (Int × Int))
theorem c_linotyperef11_list3 {c0 : Cx} {G : Gm} {F : List En} (O0 : Own c0 G F) {r : List (Int × Int)} (H : f_linotyperef11_list3  = some r) :
    Calls Try.prog 42 #[] c0.w (Post c0 fun c v => ∃ y1 : Value, ∃ y2 : List Value, Own c G (es true RA2_i64 y1 45 y2 r :: F) ∧ v = y1 ∧ OA RA2_i64 c y1 y2 r) := by
  unfold f_linotyperef11_list3 at H
  refine enter (l := []) Try.func42 rfl rfl rfl ?_
  refine sr ?_
  refine va (.slice none 0 0) ?_
  refine wln ?_
  refine sr ?_
  refine va (.agg #[.int .i64 768, .int .i64 879]) ?_
  refine va (.agg #[.int .i64 1155, .int .i64 1159]) ?_
  refine va (.agg #[.int .i64 1425, .int .i64 1469]) ?_
  refine va (.agg #[.int .i64 1552, .int .i64 1562]) ?_
  refine va (.agg #[.int .i64 1611, .int .i64 1631]) ?_
  refine va (.agg #[.int .i64 2364, .int .i64 2364]) ?_
  refine va (.agg #[.int .i64 2385, .int .i64 2388]) ?_
  refine va (.agg #[.int .i64 2492, .int .i64 2492]) ?_
  refine va (.agg #[.int .i64 2748, .int .i64 2748]) ?_
  refine va (.agg #[.int .i64 2876, .int .i64 2876]) ?_
  refine va (.agg #[.int .i64 3132, .int .i64 3132]) ?_
  refine va (.agg #[.int .i64 6832, .int .i64 6845]) ?_
  refine va (.agg #[.int .i64 7616, .int .i64 7679]) ?_
  refine va (.agg #[.int .i64 8205, .int .i64 8205]) ?_
  refine va (.agg #[.int .i64 8400, .int .i64 8412]) ?_
  refine va (.agg #[.int .i64 12330, .int .i64 12335]) ?_
  refine va (.agg #[.int .i64 12441, .int .i64 12442]) ?_
  refine va (.agg #[.int .i64 65056, .int .i64 65071]) ?_
  refine WL.mem rfl (Own.sl (R := RA2_i64) (E := 45) (ls := [[.int .i64 768, .int .i64 879], [.int .i64 1155, .int .i64 1159], [.int .i64 1425, .int .i64 1469], [.int .i64 1552, .int .i64 1562], [.int .i64 1611, .int .i64 1631], [.int .i64 2364, .int .i64 2364], [.int .i64 2385, .int .i64 2388], [.int .i64 2492, .int .i64 2492], [.int .i64 2748, .int .i64 2748], [.int .i64 2876, .int .i64 2876], [.int .i64 3132, .int .i64 3132], [.int .i64 6832, .int .i64 6845], [.int .i64 7616, .int .i64 7679], [.int .i64 8205, .int .i64 8205], [.int .i64 8400, .int .i64 8412], [.int .i64 12330, .int .i64 12335], [.int .i64 12441, .int .i64 12442], [.int .i64 65056, .int .i64 65071]]) (vs := [.int .i64 768, .int .i64 879, .int .i64 1155, .int .i64 1159, .int .i64 1425, .int .i64 1469, .int .i64 1552, .int .i64 1562, .int .i64 1611, .int .i64 1631, .int .i64 2364, .int .i64 2364, .int .i64 2385, .int .i64 2388, .int .i64 2492, .int .i64 2492, .int .i64 2748, .int .i64 2748, .int .i64 2876, .int .i64 2876, .int .i64 3132, .int .i64 3132, .int .i64 6832, .int .i64 6845, .int .i64 7616, .int .i64 7679, .int .i64 8205, .int .i64 8205, .int .i64 8400, .int .i64 8412, .int .i64 12330, .int .i64 12335, .int .i64 12441, .int .i64 12442, .int .i64 65056, .int .i64 65071]) (xs := ([(768, 879), (1155, 1159), (1425, 1469), (1552, 1562), (1611, 1631), (2364, 2364), (2385, 2388), (2492, 2492), (2748, 2748), (2876, 2876), (3132, 3132), (6832, 6845), (7616, 7679), (8205, 8205), (8400, 8412), (12330, 12335), (12441, 12442), (65056, 65071)] : List (Int × Int))) true O0 (Nat.succ_pos _) rfl ⟨rfl, rfl, rfl, rfl, rfl, rfl, rfl, rfl, rfl, rfl, rfl, rfl, rfl, rfl, rfl, rfl, rfl, rfl, trivial⟩ (by kernel_rfl) (by kernel_rfl)) ?_
  rintro v5 c4 l4 ⟨u2, O1, h3⟩
  refine va (v5) ?_
  refine wln ?_
  refine W.ret ?_
  obtain rfl := Option.some.inj H
  exact ret1 (v := v5) rfl (by kernel_rfl) ⟨_, c4, rfl, rfl, l4, v5, u2, O1, rfl, h3⟩

def f_linotyperef11_Of (p0 : Int) : Option (Int) :=
  (f_linotyperef11_list1).bind fun x_3 =>
  (f_linotyperef11_list2).bind fun x_4 =>
  (f_linotyperef11_list3).bind fun x_5 =>
  (iter (σ := Int) (τ := Int ⊕ Unit) (((([x_3, x_4, x_5] : List (List (Int × Int))).length : Int) - 0).toNat + 1) (fun s_11 =>
  if (decide (s_11 < (([x_3, x_4, x_5] : List (List (Int × Int))).length : Int))) = true then
  (idx ([x_3, x_4, x_5] : List (List (Int × Int))) s_11).bind fun x_19 =>
  (f_linotyperef09_In x_19 p0).bind fun x_22 =>
  if x_22 = true then
  some (.inr (.inl (w64 (s_11 + 1))))
  else
  some (.inl ((w64 (s_11 + 1))))
  else
  some (.inr (.inr ()))) (0)).bind fun o_11 =>
  match o_11 with
  | .inl o_11 =>
  some o_11
  | .inr o_11 =>
  some 0
theorem c_linotyperef11_Of {c0 : Cx} {G : Gm} {F : List En} (O0 : Own c0 G F) (p0 : Int) {r : Int} (H : f_linotyperef11_Of p0 = some r) :
    Calls Try.prog 17 #[.int .i32 p0] c0.w (Post c0 fun c v => Own c G (F) ∧ v = .int .i64 r) := by
  unfold f_linotyperef11_Of at H
  refine enter (l := [.int .i32 p0]) Try.func17 rfl rfl rfl ?_
  refine sr ?_
  refine va (.int .i64 0) ?_
  refine wln ?_
  refine sr ?_
  obtain ⟨x_3, h1, H⟩ := bs H
  refine WL.callP rfl (by kernel_rfl) (c_linotyperef11_list1 O0 h1) ?_
  rintro v2 c9 l9 ⟨_, u3, O6, rfl, h4⟩
  obtain ⟨x_4, h11, H⟩ := bs H
  refine WL.callP rfl (by kernel_rfl) (c_linotyperef11_list2 O6 h11) ?_
  rintro v12 c19 l19 ⟨_, u13, O16, rfl, h14⟩
  obtain ⟨x_5, h21, H⟩ := bs H
  refine WL.callP rfl (by kernel_rfl) (c_linotyperef11_list3 O16 h21) ?_
  rintro v22 c29 l29 ⟨_, u23, O26, rfl, h24⟩
  obtain ⟨c33, h34, l33, O31, h32⟩ := O26.frz 2 rfl (h4.mono (l19.trans l29))
  refine WL.gh h34 ?_
  obtain ⟨c37, h38, l37, O35, h36⟩ := O31.frz 1 rfl (h14.mono (l29.trans l33))
  refine WL.gh h38 ?_
  obtain ⟨c41, h42, l41, O39, h40⟩ := O35.frz 0 rfl (h24.mono (l33.trans l37))
  refine WL.gh h42 ?_
  obtain ⟨a43, a44, a45, rfl⟩ := ((h32.mono (l37.trans l41))).form
  obtain ⟨a46, a47, a48, rfl⟩ := ((h36.mono l41)).form
  obtain ⟨a49, a50, a51, rfl⟩ := (h40).form
  refine WL.mem rfl (Own.sl (R := (RL RA2_i64)) (E := 39) (ls := [[.slice a43 a44 a45], [.slice a46 a47 a48], [.slice a49 a50 a51]]) (vs := [.slice a43 a44 a45, .slice a46 a47 a48, .slice a49 a50 a51]) (xs := ([x_3, x_4, x_5] : List (List (Int × Int)))) true O39 (Nat.succ_pos _) rfl ⟨⟨(.slice a43 a44 a45), rfl, (h32.mono (l37.trans l41))⟩, ⟨(.slice a46 a47 a48), rfl, (h36.mono l41)⟩, ⟨(.slice a49 a50 a51), rfl, h40⟩, trivial⟩ (by kernel_rfl) (by kernel_rfl)) ?_
  rintro v56 c55 l55 ⟨u53, O52, h54⟩
  refine va (v56) ?_
  refine wln ?_
  refine W.seq ?_
  refine sr ?_
  refine va (.int .i64 0) ?_
  refine wln ?_
  refine W.block ?_
  obtain ⟨o_11, h57, H58⟩ := bs H
  refine W.loop (σ := Int) (τ := Int ⊕ Unit) (fun s_11 => fun e w => ∃ (c : Cx) (g : Nat → Value), w = c.w ∧ c55.le c ∧ Own c G (es true (RL RA2_i64) v56 39 u53 ([x_3, x_4, x_5] : List (List (Int × Int))) :: es false RA2_i64 (.slice a49 a50 a51) 45 u23 x_5 :: es false RA2_i64 (.slice a46 a47 a48) 45 u13 x_4 :: es false RA2_i64 (.slice a43 a44 a45) 45 u3 x_3 :: F) ∧ e = ups g [(0, .int .i32 p0), (3, v56), (4, .int .i64 s_11)]) (fun t => match t with | .inl x_ => (fun rr_ ex e w => ex = .ret ∧ (fun e w => ∃ (c : Cx) (g : Nat → Value), w = c.w ∧ c55.le c ∧ Own c G (F) ∧ e = ups g [(2, .int .i64 rr_)]) e w) x_ | .inr x_ => (fun o_11_ ex e w => ex = .exit 0 ∧ (fun e w => ∃ (c : Cx) (g : Nat → Value), w = c.w ∧ c55.le c ∧ Own c G (es true (RL RA2_i64) v56 39 u53 ([x_3, x_4, x_5] : List (List (Int × Int))) :: es false RA2_i64 (.slice a49 a50 a51) 45 u23 x_5 :: es false RA2_i64 (.slice a46 a47 a48) 45 u13 x_4 :: es false RA2_i64 (.slice a43 a44 a45) 45 u3 x_3 :: F) ∧ e = ups g []) e w) x_) ?_ h57 ?_ ?_
  · clear H58 h57
    intro s_11 xx_ ee_ ww_ H
    revert ee_ ww_
    rintro e_ w_ ⟨c59, g60, rfl, l59, O61, rfl⟩
    refine W.seq ?_
    refine sr ?_
    refine va (.int .i64 s_11) ?_
    refine va (v56) ?_
    refine WL.val0 (v := .int .i64 (([x_3, x_4, x_5] : List (List (Int × Int))).length : Int)) rfl (rx (by kernel_rfl) (run_lenO (ty := 3) Try.underlying41 (h54.mono l59) _)) ?_
    refine va (.bool (decide (s_11 < (([x_3, x_4, x_5] : List (List (Int × Int))).length : Int)))) ?_
    refine wln ?_
    refine W.cond (t := decide (s_11 < (([x_3, x_4, x_5] : List (List (Int × Int))).length : Int))) (by kernel_rfl) (fun h65 => ?_) (fun h65 => ?_)
    · have H := it h65 H
      refine W.skip ?_
      refine nrm ?_
      refine W.seq ?_
      refine W.block ?_
      refine sr ?_
      refine va (v56) ?_
      refine va (.int .i64 s_11) ?_
      obtain ⟨x_19, h66, H⟩ := bs H
      refine WL.val0 (v := .pointer (some ⟨sb v56, s_11.toNat * 1, none⟩)) rfl (rx (by kernel_rfl) (run_indexO (k := .i64) Try.underlying41 (by kernel_rfl) (h54.mono l59) h66 _)) ?_
      obtain ⟨l_67, h68, m69⟩ := OA.at (h54.mono l59) h66
      obtain ⟨v70, rfl, h71⟩ := h68
      refine WL.val0 (v := v70) rfl (rx (by kernel_rfl) (ldE1 Try.underlying39 rfl (O61.on 0 rfl) ((h54.mono l59).blk h66) (at1 (j := 0) m69 rfl))) ?_
      refine va (.int .i32 p0) ?_
      obtain ⟨x_22, h72, H⟩ := bs H
      refine WL.callP rfl (by kernel_rfl) (c_linotyperef09_In O61 x_19 p0 h71 h72) ?_
      rintro v78 c77 l77 ⟨O74, rfl⟩
      refine wln ?_
      refine W.cond (t := x_22) (by kernel_rfl) (fun h79 => ?_) (fun h79 => ?_)
      · have H := it h79 H
        refine sr ?_
        refine va (.int .i64 s_11) ?_
        refine va (.int .i64 (w64 (s_11 + 1))) ?_
        refine va (.int .i64 (w64 (s_11 + 1))) ?_
        refine wln ?_
        refine W.ret ?_
        refine bkr ?_
        refine thr ?_
        obtain rfl := Option.some.inj H
        refine ⟨_, rfl, ?_⟩
        refine ⟨rfl, ?_⟩
        have O80 := O74.selD 4 [] (by kernel_rfl) (by kernel_rfl)
        exact ⟨c77, _, rfl, (l59.trans l77), O80, ups_self ⟨rfl, trivial⟩⟩
      · have H := ie h79 H
        refine W.skip ?_
        refine bkn ?_
        refine nrm ?_
        refine W.region ?_
        refine va (.int .i64 s_11) ?_
        refine va (.int .i64 (w64 (s_11 + 1))) ?_
        refine va (.int .i64 (w64 (s_11 + 1))) ?_
        refine WL.nil ?_
        obtain rfl := Option.some.inj H
        refine ⟨_, rfl, ?_⟩
        exact ⟨c77, _, rfl, (l59.trans l77), O74, ups_self ⟨rfl, rfl, rfl, trivial⟩⟩
    · have H := ie h65 H
      refine W.exit ?_
      refine thx ?_
      obtain rfl := Option.some.inj H
      refine ⟨_, rfl, rfl, ?_⟩
      exact ⟨c59, _, rfl, l59, O61, ups_self trivial⟩
  · skip
    exact ⟨c55, _, rfl, (Cx.le.refl _), O52, ups_self ⟨rfl, rfl, rfl, trivial⟩⟩
  · skip
    rcases o_11 with o_11 | o_11
    · skip
      intro ex_; revert ex_
      rintro _ e_ w_ ⟨rfl, c81, g82, rfl, l81, O83, rfl⟩
      refine bkr ?_
      refine thr ?_
      obtain rfl := Option.some.inj H58
      exact ret1 (v := .int .i64 o_11) rfl (by kernel_rfl) ⟨_, c81, rfl, rfl, (l9.trans (l19.trans (l29.trans (l33.trans (l37.trans (l41.trans (l55.trans l81))))))), O83, rfl⟩
    · skip
      rintro _ e_ w_ ⟨rfl, c87, g88, rfl, l87, O89, rfl⟩
      refine bke ?_
      refine nrm ?_
      refine sr ?_
      refine va (.int .i64 0) ?_
      refine wln ?_
      refine W.ret ?_
      obtain rfl := Option.some.inj H58
      have O93 := O89.selD 4 [] (by kernel_rfl) (by kernel_rfl)
      exact ret1 (v := .int .i64 0) rfl (by kernel_rfl) ⟨_, c87, rfl, rfl, (l9.trans (l19.trans (l29.trans (l33.trans (l37.trans (l41.trans (l55.trans l87))))))), O93, rfl⟩

def t_linotyperef12_list1_112 : List (Int × Int) := [(4352, 4447), (8986, 8987), (9001, 9002), (9193, 9196), (9200, 9200), (9203, 9203), (9725, 9726), (9748, 9749), (9800, 9811), (9855, 9855), (9875, 9875), (9889, 9889), (9898, 9899), (9917, 9918), (9924, 9925), (9934, 9934), (9940, 9940), (9962, 9962), (9970, 9971), (9973, 9973), (9978, 9978), (9981, 9981), (9989, 9989), (9994, 9995), (10024, 10024), (10060, 10060), (10062, 10062), (10067, 10069), (10071, 10071), (10133, 10135), (10160, 10160), (10175, 10175), (11035, 11036), (11088, 11088), (11093, 11093), (11904, 11929), (11931, 12019), (12032, 12245), (12272, 12287), (12289, 12350), (12353, 12438), (12441, 12543), (12549, 12591), (12593, 12686), (12688, 12771), (12784, 12830), (12832, 12871), (12880, 19903), (19968, 42124), (42128, 42182), (43360, 43388), (44032, 55203), (63744, 64255), (65040, 65049), (65072, 65106), (65108, 65126), (65128, 65131), (94176, 94180), (94208, 100343), (100352, 101589), (110592, 110882), (126980, 126980), (127183, 127183), (127374, 127374), (127377, 127386), (127488, 127490), (127504, 127547), (127552, 127560), (127568, 127569), (127584, 127589), (127744, 127776), (127789, 127797), (127799, 127868), (127870, 127891), (127904, 127946), (127951, 127955), (127968, 127984), (127988, 127988), (127992, 128062), (128064, 128064), (128066, 128252), (128255, 128317), (128331, 128334), (128336, 128359), (128378, 128378), (128405, 128406), (128420, 128420), (128507, 128591), (128640, 128709), (128716, 128716), (128720, 128722), (128725, 128727), (128732, 128735), (128747, 128748), (128756, 128764), (128992, 129003), (129008, 129008), (129292, 129338), (129340, 129349), (129351, 129535), (129648, 129660), (129664, 129672), (129680, 129725), (129727, 129733), (129742, 129755), (129760, 129768), (129776, 129784), (131072, 196605), (196608, 262141)]
def f_linotyperef12_list1  : Option (List (Int × Int)) :=
  some t_linotyperef12_list1_112
theorem c_linotyperef12_list1 {c0 : Cx} {G : Gm} {F : List En} (O0 : Own c0 G F) {r : List (Int × Int)} (H : f_linotyperef12_list1  = some r) :
    Calls Try.prog 43 #[] c0.w (Post c0 fun c v => ∃ y1 : Value, ∃ y2 : List Value, Own c G (es true RA2_i64 y1 45 y2 r :: F) ∧ v = y1 ∧ OA RA2_i64 c y1 y2 r) := by
  unfold f_linotyperef12_list1 at H
  refine enter (l := []) Try.func43 rfl rfl rfl ?_
  refine sr ?_
  refine va (.slice none 0 0) ?_
  refine wln ?_
  refine sr ?_
  refine va (.agg #[.int .i64 4352, .int .i64 4447]) ?_
  refine va (.agg #[.int .i64 8986, .int .i64 8987]) ?_
  refine va (.agg #[.int .i64 9001, .int .i64 9002]) ?_
  refine va (.agg #[.int .i64 9193, .int .i64 9196]) ?_
  refine va (.agg #[.int .i64 9200, .int .i64 9200]) ?_
  refine va (.agg #[.int .i64 9203, .int .i64 9203]) ?_
  refine va (.agg #[.int .i64 9725, .int .i64 9726]) ?_
  refine va (.agg #[.int .i64 9748, .int .i64 9749]) ?_
  refine va (.agg #[.int .i64 9800, .int .i64 9811]) ?_
  refine va (.agg #[.int .i64 9855, .int .i64 9855]) ?_
  refine va (.agg #[.int .i64 9875, .int .i64 9875]) ?_
  refine va (.agg #[.int .i64 9889, .int .i64 9889]) ?_
  refine va (.agg #[.int .i64 9898, .int .i64 9899]) ?_
  refine va (.agg #[.int .i64 9917, .int .i64 9918]) ?_
  refine va (.agg #[.int .i64 9924, .int .i64 9925]) ?_
  refine va (.agg #[.int .i64 9934, .int .i64 9934]) ?_
  refine va (.agg #[.int .i64 9940, .int .i64 9940]) ?_
  refine va (.agg #[.int .i64 9962, .int .i64 9962]) ?_
  refine va (.agg #[.int .i64 9970, .int .i64 9971]) ?_
  refine va (.agg #[.int .i64 9973, .int .i64 9973]) ?_
  refine va (.agg #[.int .i64 9978, .int .i64 9978]) ?_
  refine va (.agg #[.int .i64 9981, .int .i64 9981]) ?_
  refine va (.agg #[.int .i64 9989, .int .i64 9989]) ?_
  refine va (.agg #[.int .i64 9994, .int .i64 9995]) ?_
  refine va (.agg #[.int .i64 10024, .int .i64 10024]) ?_
  refine va (.agg #[.int .i64 10060, .int .i64 10060]) ?_
  refine va (.agg #[.int .i64 10062, .int .i64 10062]) ?_
  refine va (.agg #[.int .i64 10067, .int .i64 10069]) ?_
  refine va (.agg #[.int .i64 10071, .int .i64 10071]) ?_
  refine va (.agg #[.int .i64 10133, .int .i64 10135]) ?_
  refine va (.agg #[.int .i64 10160, .int .i64 10160]) ?_
  refine va (.agg #[.int .i64 10175, .int .i64 10175]) ?_
  refine va (.agg #[.int .i64 11035, .int .i64 11036]) ?_
  refine va (.agg #[.int .i64 11088, .int .i64 11088]) ?_
  refine va (.agg #[.int .i64 11093, .int .i64 11093]) ?_
  refine va (.agg #[.int .i64 11904, .int .i64 11929]) ?_
  refine va (.agg #[.int .i64 11931, .int .i64 12019]) ?_
  refine va (.agg #[.int .i64 12032, .int .i64 12245]) ?_
  refine va (.agg #[.int .i64 12272, .int .i64 12287]) ?_
  refine va (.agg #[.int .i64 12289, .int .i64 12350]) ?_
  refine va (.agg #[.int .i64 12353, .int .i64 12438]) ?_
  refine va (.agg #[.int .i64 12441, .int .i64 12543]) ?_
  refine va (.agg #[.int .i64 12549, .int .i64 12591]) ?_
  refine va (.agg #[.int .i64 12593, .int .i64 12686]) ?_
  refine va (.agg #[.int .i64 12688, .int .i64 12771]) ?_
  refine va (.agg #[.int .i64 12784, .int .i64 12830]) ?_
  refine va (.agg #[.int .i64 12832, .int .i64 12871]) ?_
  refine va (.agg #[.int .i64 12880, .int .i64 19903]) ?_
  refine va (.agg #[.int .i64 19968, .int .i64 42124]) ?_
  refine va (.agg #[.int .i64 42128, .int .i64 42182]) ?_
  refine va (.agg #[.int .i64 43360, .int .i64 43388]) ?_
  refine va (.agg #[.int .i64 44032, .int .i64 55203]) ?_
  refine va (.agg #[.int .i64 63744, .int .i64 64255]) ?_
  refine va (.agg #[.int .i64 65040, .int .i64 65049]) ?_
  refine va (.agg #[.int .i64 65072, .int .i64 65106]) ?_
  refine va (.agg #[.int .i64 65108, .int .i64 65126]) ?_
  refine va (.agg #[.int .i64 65128, .int .i64 65131]) ?_
  refine va (.agg #[.int .i64 94176, .int .i64 94180]) ?_
  refine va (.agg #[.int .i64 94208, .int .i64 100343]) ?_
  refine va (.agg #[.int .i64 100352, .int .i64 101589]) ?_
  refine va (.agg #[.int .i64 110592, .int .i64 110882]) ?_
  refine va (.agg #[.int .i64 126980, .int .i64 126980]) ?_
  refine va (.agg #[.int .i64 127183, .int .i64 127183]) ?_
  refine va (.agg #[.int .i64 127374, .int .i64 127374]) ?_
  refine va (.agg #[.int .i64 127377, .int .i64 127386]) ?_
  refine va (.agg #[.int .i64 127488, .int .i64 127490]) ?_
  refine va (.agg #[.int .i64 127504, .int .i64 127547]) ?_
  refine va (.agg #[.int .i64 127552, .int .i64 127560]) ?_
  refine va (.agg #[.int .i64 127568, .int .i64 127569]) ?_
  refine va (.agg #[.int .i64 127584, .int .i64 127589]) ?_
  refine va (.agg #[.int .i64 127744, .int .i64 127776]) ?_
  refine va (.agg #[.int .i64 127789, .int .i64 127797]) ?_
  refine va (.agg #[.int .i64 127799, .int .i64 127868]) ?_
  refine va (.agg #[.int .i64 127870, .int .i64 127891]) ?_
  refine va (.agg #[.int .i64 127904, .int .i64 127946]) ?_
  refine va (.agg #[.int .i64 127951, .int .i64 127955]) ?_
  refine va (.agg #[.int .i64 127968, .int .i64 127984]) ?_
  refine va (.agg #[.int .i64 127988, .int .i64 127988]) ?_
  refine va (.agg #[.int .i64 127992, .int .i64 128062]) ?_
  refine va (.agg #[.int .i64 128064, .int .i64 128064]) ?_
  refine va (.agg #[.int .i64 128066, .int .i64 128252]) ?_
  refine va (.agg #[.int .i64 128255, .int .i64 128317]) ?_
  refine va (.agg #[.int .i64 128331, .int .i64 128334]) ?_
  refine va (.agg #[.int .i64 128336, .int .i64 128359]) ?_
  refine va (.agg #[.int .i64 128378, .int .i64 128378]) ?_
  refine va (.agg #[.int .i64 128405, .int .i64 128406]) ?_
  refine va (.agg #[.int .i64 128420, .int .i64 128420]) ?_
  refine va (.agg #[.int .i64 128507, .int .i64 128591]) ?_
  refine va (.agg #[.int .i64 128640, .int .i64 128709]) ?_
  refine va (.agg #[.int .i64 128716, .int .i64 128716]) ?_
  refine va (.agg #[.int .i64 128720, .int .i64 128722]) ?_
  refine va (.agg #[.int .i64 128725, .int .i64 128727]) ?_
  refine va (.agg #[.int .i64 128732, .int .i64 128735]) ?_
  refine va (.agg #[.int .i64 128747, .int .i64 128748]) ?_
  refine va (.agg #[.int .i64 128756, .int .i64 128764]) ?_
  refine va (.agg #[.int .i64 128992, .int .i64 129003]) ?_
  refine va (.agg #[.int .i64 129008, .int .i64 129008]) ?_
  refine va (.agg #[.int .i64 129292, .int .i64 129338]) ?_
  refine va (.agg #[.int .i64 129340, .int .i64 129349]) ?_
  refine va (.agg #[.int .i64 129351, .int .i64 129535]) ?_
  refine va (.agg #[.int .i64 129648, .int .i64 129660]) ?_
  refine va (.agg #[.int .i64 129664, .int .i64 129672]) ?_
  refine va (.agg #[.int .i64 129680, .int .i64 129725]) ?_
  refine va (.agg #[.int .i64 129727, .int .i64 129733]) ?_
  refine va (.agg #[.int .i64 129742, .int .i64 129755]) ?_
  refine va (.agg #[.int .i64 129760, .int .i64 129768]) ?_
  refine va (.agg #[.int .i64 129776, .int .i64 129784]) ?_
  refine va (.agg #[.int .i64 131072, .int .i64 196605]) ?_
  refine va (.agg #[.int .i64 196608, .int .i64 262141]) ?_
  refine WL.mem rfl (Own.sl (R := RA2_i64) (E := 45) (ls := t_linotyperef12_list1_112.map (fun x => [Value.int .i64 x.1, Value.int .i64 x.2])) (vs := (t_linotyperef12_list1_112.map (fun x => [Value.int .i64 x.1, Value.int .i64 x.2])).flatten) (xs := t_linotyperef12_list1_112) true O0 (Nat.succ_pos _) rfl (AllR.map _ (fun _ => rfl) _) (by kernel_rfl) (by kernel_rfl)) ?_
  rintro v5 c4 l4 ⟨u2, O1, h3⟩
  refine va (v5) ?_
  refine wln ?_
  refine W.ret ?_
  obtain rfl := Option.some.inj H
  exact ret1 (v := v5) rfl (by kernel_rfl) ⟨_, c4, rfl, rfl, l4, v5, u2, O1, rfl, h3⟩

def f_linotyperef12_list2  : Option (List (Int × Int)) :=
  some ([(12288, 12288), (65281, 65376), (65504, 65510)] : List (Int × Int))
theorem c_linotyperef12_list2 {c0 : Cx} {G : Gm} {F : List En} (O0 : Own c0 G F) {r : List (Int × Int)} (H : f_linotyperef12_list2  = some r) :
    Calls Try.prog 44 #[] c0.w (Post c0 fun c v => ∃ y1 : Value, ∃ y2 : List Value, Own c G (es true RA2_i64 y1 45 y2 r :: F) ∧ v = y1 ∧ OA RA2_i64 c y1 y2 r) := by
  unfold f_linotyperef12_list2 at H
  refine enter (l := []) Try.func44 rfl rfl rfl ?_
  refine sr ?_
  refine va (.slice none 0 0) ?_
  refine wln ?_
  refine sr ?_
  refine va (.agg #[.int .i64 12288, .int .i64 12288]) ?_
  refine va (.agg #[.int .i64 65281, .int .i64 65376]) ?_
  refine va (.agg #[.int .i64 65504, .int .i64 65510]) ?_
  refine WL.mem rfl (Own.sl (R := RA2_i64) (E := 45) (ls := [[.int .i64 12288, .int .i64 12288], [.int .i64 65281, .int .i64 65376], [.int .i64 65504, .int .i64 65510]]) (vs := [.int .i64 12288, .int .i64 12288, .int .i64 65281, .int .i64 65376, .int .i64 65504, .int .i64 65510]) (xs := ([(12288, 12288), (65281, 65376), (65504, 65510)] : List (Int × Int))) true O0 (Nat.succ_pos _) rfl ⟨rfl, rfl, rfl, trivial⟩ (by kernel_rfl) (by kernel_rfl)) ?_
  rintro v5 c4 l4 ⟨u2, O1, h3⟩
  refine va (v5) ?_
  refine wln ?_
  refine W.ret ?_
  obtain rfl := Option.some.inj H
  exact ret1 (v := v5) rfl (by kernel_rfl) ⟨_, c4, rfl, rfl, l4, v5, u2, O1, rfl, h3⟩

def f_linotyperef12_list3  : Option (List (Int × Int)) :=
  some ([(8361, 8361), (65377, 65470), (65474, 65479), (65482, 65487), (65490, 65495), (65498, 65500), (65512, 65518)] : List (Int × Int))
theorem c_linotyperef12_list3 {c0 : Cx} {G : Gm} {F : List En} (O0 : Own c0 G F) {r : List (Int × Int)} (H : f_linotyperef12_list3  = some r) :
    Calls Try.prog 45 #[] c0.w (Post c0 fun c v => ∃ y1 : Value, ∃ y2 : List Value, Own c G (es true RA2_i64 y1 45 y2 r :: F) ∧ v = y1 ∧ OA RA2_i64 c y1 y2 r) := by
  unfold f_linotyperef12_list3 at H
  refine enter (l := []) Try.func45 rfl rfl rfl ?_
  refine sr ?_
  refine va (.slice none 0 0) ?_
  refine wln ?_
  refine sr ?_
  refine va (.agg #[.int .i64 8361, .int .i64 8361]) ?_
  refine va (.agg #[.int .i64 65377, .int .i64 65470]) ?_
  refine va (.agg #[.int .i64 65474, .int .i64 65479]) ?_
  refine va (.agg #[.int .i64 65482, .int .i64 65487]) ?_
  refine va (.agg #[.int .i64 65490, .int .i64 65495]) ?_
  refine va (.agg #[.int .i64 65498, .int .i64 65500]) ?_
  refine va (.agg #[.int .i64 65512, .int .i64 65518]) ?_
  refine WL.mem rfl (Own.sl (R := RA2_i64) (E := 45) (ls := [[.int .i64 8361, .int .i64 8361], [.int .i64 65377, .int .i64 65470], [.int .i64 65474, .int .i64 65479], [.int .i64 65482, .int .i64 65487], [.int .i64 65490, .int .i64 65495], [.int .i64 65498, .int .i64 65500], [.int .i64 65512, .int .i64 65518]]) (vs := [.int .i64 8361, .int .i64 8361, .int .i64 65377, .int .i64 65470, .int .i64 65474, .int .i64 65479, .int .i64 65482, .int .i64 65487, .int .i64 65490, .int .i64 65495, .int .i64 65498, .int .i64 65500, .int .i64 65512, .int .i64 65518]) (xs := ([(8361, 8361), (65377, 65470), (65474, 65479), (65482, 65487), (65490, 65495), (65498, 65500), (65512, 65518)] : List (Int × Int))) true O0 (Nat.succ_pos _) rfl ⟨rfl, rfl, rfl, rfl, rfl, rfl, rfl, trivial⟩ (by kernel_rfl) (by kernel_rfl)) ?_
  rintro v5 c4 l4 ⟨u2, O1, h3⟩
  refine va (v5) ?_
  refine wln ?_
  refine W.ret ?_
  obtain rfl := Option.some.inj H
  exact ret1 (v := v5) rfl (by kernel_rfl) ⟨_, c4, rfl, rfl, l4, v5, u2, O1, rfl, h3⟩

def f_linotyperef12_Of (p0 : Int) : Option (Int) :=
  (f_linotyperef12_list1).bind fun x_3 =>
  (f_linotyperef12_list2).bind fun x_4 =>
  (f_linotyperef12_list3).bind fun x_5 =>
  (iter (σ := Int) (τ := Int ⊕ Unit) (((([x_3, x_4, x_5] : List (List (Int × Int))).length : Int) - 0).toNat + 1) (fun s_11 =>
  if (decide (s_11 < (([x_3, x_4, x_5] : List (List (Int × Int))).length : Int))) = true then
  (idx ([x_3, x_4, x_5] : List (List (Int × Int))) s_11).bind fun x_19 =>
  (f_linotyperef09_In x_19 p0).bind fun x_22 =>
  if x_22 = true then
  some (.inr (.inl (w64 (s_11 + 1))))
  else
  some (.inl ((w64 (s_11 + 1))))
  else
  some (.inr (.inr ()))) (0)).bind fun o_11 =>
  match o_11 with
  | .inl o_11 =>
  some o_11
  | .inr o_11 =>
  some 0
theorem c_linotyperef12_Of {c0 : Cx} {G : Gm} {F : List En} (O0 : Own c0 G F) (p0 : Int) {r : Int} (H : f_linotyperef12_Of p0 = some r) :
    Calls Try.prog 18 #[.int .i32 p0] c0.w (Post c0 fun c v => Own c G (F) ∧ v = .int .i64 r) := by
  unfold f_linotyperef12_Of at H
  refine enter (l := [.int .i32 p0]) Try.func18 rfl rfl rfl ?_
  refine sr ?_
  refine va (.int .i64 0) ?_
  refine wln ?_
  refine sr ?_
  obtain ⟨x_3, h1, H⟩ := bs H
  refine WL.callP rfl (by kernel_rfl) (c_linotyperef12_list1 O0 h1) ?_
  rintro v2 c9 l9 ⟨_, u3, O6, rfl, h4⟩
  obtain ⟨x_4, h11, H⟩ := bs H
  refine WL.callP rfl (by kernel_rfl) (c_linotyperef12_list2 O6 h11) ?_
  rintro v12 c19 l19 ⟨_, u13, O16, rfl, h14⟩
  obtain ⟨x_5, h21, H⟩ := bs H
  refine WL.callP rfl (by kernel_rfl) (c_linotyperef12_list3 O16 h21) ?_
  rintro v22 c29 l29 ⟨_, u23, O26, rfl, h24⟩
  obtain ⟨c33, h34, l33, O31, h32⟩ := O26.frz 2 rfl (h4.mono (l19.trans l29))
  refine WL.gh h34 ?_
  obtain ⟨c37, h38, l37, O35, h36⟩ := O31.frz 1 rfl (h14.mono (l29.trans l33))
  refine WL.gh h38 ?_
  obtain ⟨c41, h42, l41, O39, h40⟩ := O35.frz 0 rfl (h24.mono (l33.trans l37))
  refine WL.gh h42 ?_
  obtain ⟨a43, a44, a45, rfl⟩ := ((h32.mono (l37.trans l41))).form
  obtain ⟨a46, a47, a48, rfl⟩ := ((h36.mono l41)).form
  obtain ⟨a49, a50, a51, rfl⟩ := (h40).form
  refine WL.mem rfl (Own.sl (R := (RL RA2_i64)) (E := 39) (ls := [[.slice a43 a44 a45], [.slice a46 a47 a48], [.slice a49 a50 a51]]) (vs := [.slice a43 a44 a45, .slice a46 a47 a48, .slice a49 a50 a51]) (xs := ([x_3, x_4, x_5] : List (List (Int × Int)))) true O39 (Nat.succ_pos _) rfl ⟨⟨(.slice a43 a44 a45), rfl, (h32.mono (l37.trans l41))⟩, ⟨(.slice a46 a47 a48), rfl, (h36.mono l41)⟩, ⟨(.slice a49 a50 a51), rfl, h40⟩, trivial⟩ (by kernel_rfl) (by kernel_rfl)) ?_
  rintro v56 c55 l55 ⟨u53, O52, h54⟩
  refine va (v56) ?_
  refine wln ?_
  refine W.seq ?_
  refine sr ?_
  refine va (.int .i64 0) ?_
  refine wln ?_
  refine W.block ?_
  obtain ⟨o_11, h57, H58⟩ := bs H
  refine W.loop (σ := Int) (τ := Int ⊕ Unit) (fun s_11 => fun e w => ∃ (c : Cx) (g : Nat → Value), w = c.w ∧ c55.le c ∧ Own c G (es true (RL RA2_i64) v56 39 u53 ([x_3, x_4, x_5] : List (List (Int × Int))) :: es false RA2_i64 (.slice a49 a50 a51) 45 u23 x_5 :: es false RA2_i64 (.slice a46 a47 a48) 45 u13 x_4 :: es false RA2_i64 (.slice a43 a44 a45) 45 u3 x_3 :: F) ∧ e = ups g [(0, .int .i32 p0), (3, v56), (4, .int .i64 s_11)]) (fun t => match t with | .inl x_ => (fun rr_ ex e w => ex = .ret ∧ (fun e w => ∃ (c : Cx) (g : Nat → Value), w = c.w ∧ c55.le c ∧ Own c G (F) ∧ e = ups g [(2, .int .i64 rr_)]) e w) x_ | .inr x_ => (fun o_11_ ex e w => ex = .exit 0 ∧ (fun e w => ∃ (c : Cx) (g : Nat → Value), w = c.w ∧ c55.le c ∧ Own c G (es true (RL RA2_i64) v56 39 u53 ([x_3, x_4, x_5] : List (List (Int × Int))) :: es false RA2_i64 (.slice a49 a50 a51) 45 u23 x_5 :: es false RA2_i64 (.slice a46 a47 a48) 45 u13 x_4 :: es false RA2_i64 (.slice a43 a44 a45) 45 u3 x_3 :: F) ∧ e = ups g []) e w) x_) ?_ h57 ?_ ?_
  · clear H58 h57
    intro s_11 xx_ ee_ ww_ H
    revert ee_ ww_
    rintro e_ w_ ⟨c59, g60, rfl, l59, O61, rfl⟩
    refine W.seq ?_
    refine sr ?_
    refine va (.int .i64 s_11) ?_
    refine va (v56) ?_
    refine WL.val0 (v := .int .i64 (([x_3, x_4, x_5] : List (List (Int × Int))).length : Int)) rfl (rx (by kernel_rfl) (run_lenO (ty := 3) Try.underlying41 (h54.mono l59) _)) ?_
    refine va (.bool (decide (s_11 < (([x_3, x_4, x_5] : List (List (Int × Int))).length : Int)))) ?_
    refine wln ?_
    refine W.cond (t := decide (s_11 < (([x_3, x_4, x_5] : List (List (Int × Int))).length : Int))) (by kernel_rfl) (fun h65 => ?_) (fun h65 => ?_)
    · have H := it h65 H
      refine W.skip ?_
      refine nrm ?_
      refine W.seq ?_
      refine W.block ?_
      refine sr ?_
      refine va (v56) ?_
      refine va (.int .i64 s_11) ?_
      obtain ⟨x_19, h66, H⟩ := bs H
      refine WL.val0 (v := .pointer (some ⟨sb v56, s_11.toNat * 1, none⟩)) rfl (rx (by kernel_rfl) (run_indexO (k := .i64) Try.underlying41 (by kernel_rfl) (h54.mono l59) h66 _)) ?_
      obtain ⟨l_67, h68, m69⟩ := OA.at (h54.mono l59) h66
      obtain ⟨v70, rfl, h71⟩ := h68
      refine WL.val0 (v := v70) rfl (rx (by kernel_rfl) (ldE1 Try.underlying39 rfl (O61.on 0 rfl) ((h54.mono l59).blk h66) (at1 (j := 0) m69 rfl))) ?_
      refine va (.int .i32 p0) ?_
      obtain ⟨x_22, h72, H⟩ := bs H
      refine WL.callP rfl (by kernel_rfl) (c_linotyperef09_In O61 x_19 p0 h71 h72) ?_
      rintro v78 c77 l77 ⟨O74, rfl⟩
      refine wln ?_
      refine W.cond (t := x_22) (by kernel_rfl) (fun h79 => ?_) (fun h79 => ?_)
      · have H := it h79 H
        refine sr ?_
        refine va (.int .i64 s_11) ?_
        refine va (.int .i64 (w64 (s_11 + 1))) ?_
        refine va (.int .i64 (w64 (s_11 + 1))) ?_
        refine wln ?_
        refine W.ret ?_
        refine bkr ?_
        refine thr ?_
        obtain rfl := Option.some.inj H
        refine ⟨_, rfl, ?_⟩
        refine ⟨rfl, ?_⟩
        have O80 := O74.selD 4 [] (by kernel_rfl) (by kernel_rfl)
        exact ⟨c77, _, rfl, (l59.trans l77), O80, ups_self ⟨rfl, trivial⟩⟩
      · have H := ie h79 H
        refine W.skip ?_
        refine bkn ?_
        refine nrm ?_
        refine W.region ?_
        refine va (.int .i64 s_11) ?_
        refine va (.int .i64 (w64 (s_11 + 1))) ?_
        refine va (.int .i64 (w64 (s_11 + 1))) ?_
        refine WL.nil ?_
        obtain rfl := Option.some.inj H
        refine ⟨_, rfl, ?_⟩
        exact ⟨c77, _, rfl, (l59.trans l77), O74, ups_self ⟨rfl, rfl, rfl, trivial⟩⟩
    · have H := ie h65 H
      refine W.exit ?_
      refine thx ?_
      obtain rfl := Option.some.inj H
      refine ⟨_, rfl, rfl, ?_⟩
      exact ⟨c59, _, rfl, l59, O61, ups_self trivial⟩
  · skip
    exact ⟨c55, _, rfl, (Cx.le.refl _), O52, ups_self ⟨rfl, rfl, rfl, trivial⟩⟩
  · skip
    rcases o_11 with o_11 | o_11
    · skip
      intro ex_; revert ex_
      rintro _ e_ w_ ⟨rfl, c81, g82, rfl, l81, O83, rfl⟩
      refine bkr ?_
      refine thr ?_
      obtain rfl := Option.some.inj H58
      exact ret1 (v := .int .i64 o_11) rfl (by kernel_rfl) ⟨_, c81, rfl, rfl, (l9.trans (l19.trans (l29.trans (l33.trans (l37.trans (l41.trans (l55.trans l81))))))), O83, rfl⟩
    · skip
      rintro _ e_ w_ ⟨rfl, c87, g88, rfl, l87, O89, rfl⟩
      refine bke ?_
      refine nrm ?_
      refine sr ?_
      refine va (.int .i64 0) ?_
      refine wln ?_
      refine W.ret ?_
      obtain rfl := Option.some.inj H58
      have O93 := O89.selD 4 [] (by kernel_rfl) (by kernel_rfl)
      exact ret1 (v := .int .i64 0) rfl (by kernel_rfl) ⟨_, c87, rfl, rfl, (l9.trans (l19.trans (l29.trans (l33.trans (l37.trans (l41.trans (l55.trans l87))))))), O93, rfl⟩

def f_linotyperef13_Of (p0 : Int) : Option (G_api_Prop) :=
  (f_linotyperef09_Of p0).bind fun x_4 =>
  (f_linotyperef10_Is p0).bind fun x_6 =>
  (f_linotyperef11_Of p0).bind fun x_8 =>
  (f_linotyperef12_Of p0).bind fun x_10 =>
  some (⟨x_4, x_6, x_8, x_10⟩ : G_api_Prop)
theorem c_linotyperef13_Of {c0 : Cx} {G : Gm} {F : List En} (O0 : Own c0 G F) (p0 : Int) {r : G_api_Prop} (H : f_linotyperef13_Of p0 = some r) :
    Calls Try.prog 6 #[.int .i32 p0] c0.w (Post c0 fun c v => Own c G (F) ∧ v = .agg #[.int .i64 r.Break, .bool r.Pict, .int .i64 r.Conj, .int .i64 r.East]) := by
  unfold f_linotyperef13_Of at H
  refine enter (l := [.int .i32 p0]) Try.func6 rfl rfl rfl ?_
  refine sr ?_
  refine WL.mem rfl (Own.al (T := 23) (vs := [.int .i64 0, .bool false, .int .i64 0, .int .i64 0]) O0 (by kernel_rfl)) ?_
  rintro v4 c3 l3 ⟨b1, rfl, O2⟩
  refine wln ?_
  refine sr ?_
  refine va (.int .i32 p0) ?_
  obtain ⟨x_4, h5, H⟩ := bs H
  refine WL.callP rfl (by kernel_rfl) (c_linotyperef09_Of O2 p0 h5) ?_
  rintro v11 c10 l10 ⟨O7, rfl⟩
  refine va (.int .i32 p0) ?_
  obtain ⟨x_6, h12, H⟩ := bs H
  refine WL.callP rfl (by kernel_rfl) (c_linotyperef10_Is O7 p0 h12) ?_
  rintro v18 c17 l17 ⟨O14, rfl⟩
  refine va (.int .i32 p0) ?_
  obtain ⟨x_8, h19, H⟩ := bs H
  refine WL.callP rfl (by kernel_rfl) (c_linotyperef11_Of O14 p0 h19) ?_
  rintro v25 c24 l24 ⟨O21, rfl⟩
  refine va (.int .i32 p0) ?_
  obtain ⟨x_10, h26, H⟩ := bs H
  refine WL.callP rfl (by kernel_rfl) (c_linotyperef12_Of O21 p0 h26) ?_
  rintro v32 c31 l31 ⟨O28, rfl⟩
  refine va (.agg #[.int .i64 x_4, .bool x_6, .int .i64 x_8, .int .i64 x_10]) ?_
  refine WL.memD rfl (Own.st (T := 23) (j := 0) (us := [.int .i64 x_4, .bool x_6, .int .i64 x_8, .int .i64 x_10]) (nw := [.int .i64 x_4, .bool x_6, .int .i64 x_8, .int .i64 x_10]) (v := .agg #[.int .i64 x_4, .bool x_6, .int .i64 x_8, .int .i64 x_10]) 0 O28 (by kernel_rfl) rfl rfl rfl rfl (by kernel_rfl) ⟨rfl, rfl, rfl, rfl, trivial⟩ rfl rfl) ?_
  rintro c34 l34 O33
  refine wln ?_
  refine W.ret ?_
  obtain rfl := Option.some.inj H
  have O35 := O33.selD 1 [] (by kernel_rfl) (by kernel_rfl)
  exact retC (c := c34) (vs := [.int .i64 x_4, .bool x_6, .int .i64 x_8, .int .i64 x_10]) rfl (by kernel_rfl) (by kernel_rfl) (by kernel_rfl) (O33.on 0 rfl _ rfl).1 ⟨_, c34, rfl, rfl, (l3.trans (l10.trans (l17.trans (l24.trans (l31.trans l34))))), O35, rfl⟩

end Go.Proofs.Ythokmpbbkpjhbaa
