import Derived.Test.YtfhhpdggmefcoaaMr
import Derived.Test.YtfhhpdggmefcoaaProg
import Derived.Test.YtfhhpdggmefcoaaMy
import Derived.Test.YtfhhpdggmefcoaaMz
namespace Go.Proofs.Ytfhhpdggmefcoaa
open Go Go.Lt
set_option maxRecDepth 10000
set_option linter.unusedVariables false
attribute [local irreducible] W WL AC
open Try
variable {c0 : Cx} {G : Gm} {F : List En} {sg : Sto} {v1 v2 v3 v4 v5 v6 v7 v8 v9 v10 v11 v12 v13 v14 v15 v16 v17 v18 v19 v20 v21 v22 v23 v24 v25 v26 v27 v28 v29 v30 v31 v32 v33 v34 v35 v36 v37 v38 v39 v40 v41 v42 v43 v44 v45 v46 v47 v48 v49 v50 v51 v52 v53 v54 v55 v56 v57 v58 v59 v60 : Value}
def f_utfdec_Dec_Held__utfdec_Dec_0 (p0 : G_utfdec_Dec) : Option (Int) :=
 if false = true then
 some 0
 else
 some p0.held
theorem c_utfdec_Dec_Held__utfdec_Dec_0 {b : Nat} (a : G_utfdec_Dec) (e : Own c0 G ((Eb b 51 [I a.held, I a.needs, .int .u8 a.lo, .int .u8 a.hi, I a.bits]) :: F)) {r : Int} (H : f_utfdec_Dec_Held__utfdec_Dec_0 a = some r) :
    Calls prog 39 #[Q b] c0.w (Post c0 fun c v => Own c G ((Eb b 51 [I a.held, I a.needs, .int .u8 a.lo, .int .u8 a.hi, I a.bits]) :: F) ∧ v = I r) := by
 unfold f_utfdec_Dec_Held__utfdec_Dec_0 at H
 refine en func39 rfl rfl (sr (va (I 0) (wln (W.seq (sr (va (Q b) (va (B false) (wln (W.cond (t := false) (by kernel_rfl) (fun d => ?_) (fun d => ?_))))))))))
 ·cases d
 have H := ie d H
 refine W.skip (nrm (sr (va (Q b) (va (Q b) (va (Q b) (vx (le1 0 underlying3 (e.on 0 rfl)) (va (I a.held) (wln (W.ret ?_)))))))))
 obtain rfl := si H
 exact r1 ⟨_, c0, rfl, rfl, pt, e, rfl⟩
def f_utfdec_Dec_Flush__utfdec_Dec_0 (p0 : G_utfdec_Dec) : Option (G_utfdec_Dec × (List Int)) :=
 (f_utfdec_Dec_Held__utfdec_Dec_0 p0).bind fun a =>
 if (a == 0) = true then
 some (p0, ([] : List Int))
 else
 some ((⟨0, 0, 0, 0, 0⟩ : G_utfdec_Dec), ([65533] : List Int))
theorem c_utfdec_Dec_Flush__utfdec_Dec_0 {a : Nat} (b : G_utfdec_Dec) (q : Own c0 G ((Eb a 51 [I b.held, I b.needs, .int .u8 b.lo, .int .u8 b.hi, I b.bits]) :: F)) {r : G_utfdec_Dec × (List Int)} (H : f_utfdec_Dec_Flush__utfdec_Dec_0 b = some r) :
    Calls prog 30 #[Q a] c0.w (Post c0 fun c v => ∃ d p, Own c G (es true (RI .i32) d 21 p r.2 :: (Eb a 51 [I r.1.held, I r.1.needs, .int .u8 r.1.lo, .int .u8 r.1.hi, I r.1.bits]) :: F) ∧ v = d ∧ OA (RI .i32) c d p r.2) := by
 unfold f_utfdec_Dec_Flush__utfdec_Dec_0 at H
 refine en func30 rfl rfl (sr (va (Y) (wln (W.seq (sr (va (Q a) (bn H fun o s H => cl (c_utfdec_Dec_Held__utfdec_Dec_0 b q s) ?_)))))))
 rintro v8 k z ⟨i, rfl⟩
 refine va (B (o == 0)) (wln (cn H (fun t H => ?_) (fun t H => ?_)))
 ·refine sr (va (Y) (wln (W.ret (thr ?_))))
  obtain rfl := si H
  have l : OA (RI .i32) k (Y) [] [] := OA.nil (Nat.succ_pos _)
  have f := i.addHole (e := es true (RI .i32) (Y) 21 [] ([] : List Int)) rfl
  exact r1 ⟨_, k, rfl, rfl, pt, (Y), [], f, rfl, l⟩
 refine W.skip (nrm (sr (va (Q a) (va (.agg #[I 0, I 0, .int .u8 0, .int .u8 0, I 0]) (va (Q a) (md (sA 51 [I 0, I 0, .int .u8 0, .int .u8 0, I 0] 0 i ⟨rfl, rfl, rfl, rfl, rfl, trivial⟩) ?_))))))
 rintro u x g
 refine wln (sr (me (sl (RI .i32) 21 [[J 65533]] ([65533] : List Int) g ⟨rfl, trivial⟩) ?_))
 rintro v18 j y ⟨n, h, m⟩
 refine va (v18) (wln (W.ret ?_))
 obtain rfl := si H
 exact r1 ⟨_, j, rfl, rfl, pt, v18, n, h, rfl, m⟩
def f_octet_Lead (p0 : Int) : Option (Int) :=
 ((andE (decide (p0 ≥ 240)) (some (decide (p0 ≤ 244)))).bind fun a =>
 if a = true then
 some ((w64 ((w64 ((w64 ((w64 (0 + 1)) + 1)) + 1)) + 1)))
 else
 (andE (decide (p0 ≥ 224)) (some (decide (p0 < 240)))).bind fun b =>
 if b = true then
 some ((w64 ((w64 ((w64 (0 + 1)) + 1)) + 1)))
 else
 (andE (decide (p0 ≥ 194)) (some (decide (p0 < 224)))).bind fun c =>
 if c = true then
 some ((w64 ((w64 (0 + 1)) + 1)))
 else
 if (decide (p0 < 128)) = true then
 some ((w64 (0 + 1)))
 else
 some (0)).bind fun d =>
 some d
theorem c_octet_Lead (A : Own c0 G F) (a : Int) {r : Int} (H : f_octet_Lead a = some r) :
    Calls prog 66 #[.int .u8 a] c0.w (Post c0 fun c v => Own c G (F) ∧ v = I r) := by
 unfold f_octet_Lead at H
 refine en func66 rfl rfl (sr (va (I 0) (wln (sr (va (I 0) (wln (bn H fun k b T => W.seqJ (Jn c0 fun c l => Own c G (F) ∧ l = [(3, I k)]) ?_ ?_)))))))
 ·refine W.block (W.seq (W.block (W.seq (W.block (W.seq (W.block (W.seq (W.block (W.seq (W.seq (W.seq (bn b fun q P b => W.join (Jn c0 fun c l => Own c G (F) ∧ l = [(0, .int .u8 a), (3, I 0), (4, B q)]) ?_ ?_))))))))))))
  ·clear b
   refine W.region (va (.int .u8 a) (va (B (decide (a ≥ 240))) ?_))
   rcases bo (decide (a ≥ 240)) with j | j
   ·have U := anT j P
    refine vb j (wn (va (.int .u8 a) (wn (va (B (decide (a ≤ 244))) ?_))))
    obtain rfl := si U
    exact va (B (decide (a ≤ 244))) (va (B (decide (a ≤ 244))) (wln ⟨c0, _, _, rfl, pt, us, A, rfl⟩))
   obtain rfl := anF j P
   exact vb j (ps (ps (va (B false) (va (B false) (wln ⟨c0, _, _, rfl, pt, us, A, rfl⟩)))))
  rintro u x ⟨m, g7, _, rfl, l6, rfl, p, rfl⟩
  refine nrm (cn b (fun M b => ?_) (fun M b => ?_))
  ·refine W.exit (thx (thx (bke (nrm (W.region (va (I 0) (va (I (w64 (0 + 1))) (va (I (w64 (0 + 1))) (WL.nil (bkn (nrm (W.region (va (I (w64 (0 + 1))) (va (I (w64 ((w64 (0 + 1)) + 1))) (va (I (w64 ((w64 (0 + 1)) + 1))) (WL.nil (bkn (nrm (W.region (va (I (w64 ((w64 (0 + 1)) + 1))) (va (I (w64 ((w64 ((w64 (0 + 1)) + 1)) + 1))) (va (I (w64 ((w64 ((w64 (0 + 1)) + 1)) + 1))) (WL.nil (bkn (nrm (sr (va (I (w64 ((w64 ((w64 (0 + 1)) + 1)) + 1))) (va (I (w64 ((w64 ((w64 ((w64 (0 + 1)) + 1)) + 1)) + 1))) (va (I (w64 ((w64 ((w64 ((w64 (0 + 1)) + 1)) + 1)) + 1))) (wln (W.exit (bke (nrm ?_)))))))))))))))))))))))))))))))))
   obtain rfl := si b
   exact ⟨m, _, _, rfl, pt, us, p, rfl⟩
  refine W.skip (nrm (W.seq (W.seq (bn b fun s n b => W.join (Jn m fun c l => Own c G (F) ∧ l = [(0, .int .u8 a), (3, I 0), (11, B s)]) ?_ ?_))))
  ·clear b
   refine W.region (va (.int .u8 a) (va (B (decide (a ≥ 224))) ?_))
   rcases bo (decide (a ≥ 224)) with d | d
   ·have y := anT d n
    refine vb d (wn (va (.int .u8 a) (wn (va (B (decide (a < 240))) ?_))))
    obtain rfl := si y
    exact va (B (decide (a < 240))) (va (B (decide (a < 240))) (wln ⟨m, _, _, rfl, pt, us, p, rfl⟩))
   obtain rfl := anF d n
   exact vb d (ps (ps (va (B false) (va (B false) (wln ⟨m, _, _, rfl, pt, us, p, rfl⟩)))))
  rintro u x ⟨f, X, _, rfl, l16, rfl, g, rfl⟩
  refine nrm (cn b (fun N b => ?_) (fun N b => ?_))
  ·refine W.exit (thx (thx (bko rfl (thx (bke (nrm (W.region (va (I 0) (va (I (w64 (0 + 1))) (va (I (w64 (0 + 1))) (WL.nil (bkn (nrm (W.region (va (I (w64 (0 + 1))) (va (I (w64 ((w64 (0 + 1)) + 1))) (va (I (w64 ((w64 (0 + 1)) + 1))) (WL.nil (bkn (nrm (sr (va (I (w64 ((w64 (0 + 1)) + 1))) (va (I (w64 ((w64 ((w64 (0 + 1)) + 1)) + 1))) (va (I (w64 ((w64 ((w64 (0 + 1)) + 1)) + 1))) (wln (W.exit (bke (nrm ?_))))))))))))))))))))))))))))
   obtain rfl := si b
   exact ⟨f, _, _, rfl, pt, us, g, rfl⟩
  refine W.skip (nrm (W.seq (W.seq (bn b fun t o b => W.join (Jn f fun c l => Own c G (F) ∧ l = [(0, .int .u8 a), (3, I 0), (18, B t)]) ?_ ?_))))
  ·clear b
   refine W.region (va (.int .u8 a) (va (B (decide (a ≥ 194))) ?_))
   rcases bo (decide (a ≥ 194)) with e | e
   ·have z := anT e o
    refine vb e (wn (va (.int .u8 a) (wn (va (B (decide (a < 224))) ?_))))
    obtain rfl := si z
    exact va (B (decide (a < 224))) (va (B (decide (a < 224))) (wln ⟨f, _, _, rfl, pt, us, g, rfl⟩))
   obtain rfl := anF e o
   exact vb e (ps (ps (va (B false) (va (B false) (wln ⟨f, _, _, rfl, pt, us, g, rfl⟩)))))
  rintro u x ⟨i, Z, _, rfl, b0, rfl, h, rfl⟩
  refine nrm (cn b (fun R b => ?_) (fun R b => ?_))
  ·refine W.exit (thx (thx (bko rfl (thx (bko rfl (thx (bke (nrm (W.region (va (I 0) (va (I (w64 (0 + 1))) (va (I (w64 (0 + 1))) (WL.nil (bkn (nrm (sr (va (I (w64 (0 + 1))) (va (I (w64 ((w64 (0 + 1)) + 1))) (va (I (w64 ((w64 (0 + 1)) + 1))) (wln (W.exit (bke (nrm ?_)))))))))))))))))))))))
   obtain rfl := si b
   exact ⟨i, _, _, rfl, pt, us, h, rfl⟩
  refine W.skip (nrm (sr (va (.int .u8 a) (va (B (decide (a < 128))) (va (B (decide (a < 128))) (wln (cn b (fun S b => ?_) (fun S b => ?_))))))))
  ·refine W.exit (thx (bko rfl (thx (bko rfl (thx (bko rfl (thx (bke (nrm (sr (va (I 0) (va (I (w64 (0 + 1))) (va (I (w64 (0 + 1))) (wln (W.exit (bke (nrm ?_)))))))))))))))))
   obtain rfl := si b
   exact ⟨i, _, _, rfl, pt, us, h, rfl⟩
  refine W.skip (nrm (W.exit (bko rfl (thx (bko rfl (thx (bko rfl (thx (bko rfl (thx (bke (nrm ?_))))))))))))
  obtain rfl := si b
  exact ⟨i, _, _, rfl, pt, us, h, rfl⟩
 rintro u x ⟨E, a0, _, rfl, d0, rfl, D, rfl⟩
 refine sr (va (I k) (va (I k) (wln (W.ret ?_))))
 obtain rfl := si T
 exact r1 ⟨_, E, rfl, rfl, pt, D, rfl⟩
def f_octet_Bits (p0 : Int) : Option (Int) :=
 (f_octet_Lead p0).bind fun a =>
 if (a == 0) = true then
 some 0
 else
 if (a == 1) = true then
 some (w64 p0)
 else
 (shn (w64 (7 - a))).bind fun b =>
 some (ibAnd .i64 (w64 p0) (w64 ((w64 (1 * 2 ^ (min b 64))) - 1)))
theorem c_octet_Bits (j : Own c0 G F) (e : Int) {r : Int} (H : f_octet_Bits e = some r) :
    Calls prog 67 #[.int .u8 e] c0.w (Post c0 fun c v => Own c G (F) ∧ v = I r) := by
 unfold f_octet_Bits at H
 refine en func67 rfl rfl (sr (va (I 0) (wln (sr (va (.int .u8 e) (bn H fun d k H => cl (c_octet_Lead j e k) ?_))))))
 rintro v7 h n ⟨g, rfl⟩
 refine va (I d) (wln (sr (va (I d) (wln (W.block (sr (va (B (d == 0)) (va (B (d == 0)) (wln (cn H (fun l H => ?_) (fun l H => ?_)))))))))))
 ·refine sr (va (I 0) (wln (W.ret (bkr ?_))))
  obtain rfl := si H
  exact r1 ⟨_, h, rfl, rfl, pt, g, rfl⟩
 refine sr (va (B (d == 1)) (va (B (d == 1)) (wln (cn H (fun m H => ?_) (fun m H => ?_)))))
 ·refine sr (va (.int .u8 e) (va (I (w64 e)) (va (I (w64 e)) (wln (W.ret (bkr ?_))))))
  obtain rfl := si H
  exact r1 ⟨_, h, rfl, rfl, pt, g, rfl⟩
 refine sr (va (.int .u8 e) (va (I (w64 e)) (va (I d) (va (I (w64 (7 - d))) (bn H fun f i H => vr (I (w64 (1 * 2 ^ (min f 64)))) (run_shl (k' := .i64) (a := 1) (b := (w64 (7 - d))) i (by kernel_rfl) _) (va (I (w64 ((w64 (1 * 2 ^ (min f 64))) - 1))) (va (I (ibAnd .i64 (w64 e) (w64 ((w64 (1 * 2 ^ (min f 64))) - 1)))) (va (I (ibAnd .i64 (w64 e) (w64 ((w64 (1 * 2 ^ (min f 64))) - 1)))) (wln (W.ret (bkr ?_)))))))))))
 obtain rfl := si H
 exact r1 ⟨_, h, rfl, rfl, pt, g, rfl⟩
def f_octet_Second (p0 : Int) : Option (Int × Int) :=
 (f_octet_Lead p0).bind fun b =>
 if (decide (b < 2)) = true then
 some (0, 0)
 else
 (if (p0 == 224) = true then
 some (160, 191)
 else
 if (p0 == 240) = true then
 some (144, 191)
 else
 if (p0 == 244) = true then
 some (128, (IntKind.u8.wrap ((IntKind.u8.wrap (191 - 16)) - 32)))
 else
 if (p0 == 237) = true then
 some (128, (IntKind.u8.wrap (191 - 32)))
 else
 some (128, 191)).bind fun a =>
 some (a.1, a.2)
theorem c_octet_Second (p : Own c0 G F) (b : Int) {r : Int × Int} (H : f_octet_Second b = some r) :
    Calls prog 68 #[.int .u8 b] c0.w (Post c0 fun c v => Own c G (F) ∧ v = .tuple #[.int .u8 r.1, .int .u8 r.2]) := by
 unfold f_octet_Second at H
 refine en func68 rfl rfl (sr (va (.int .u8 0) (va (.int .u8 0) (wln (W.seq (sr (va (.int .u8 b) (bn H fun o q H => cl (c_octet_Lead p b q) ?_))))))))
 rintro v7 e y ⟨f, rfl⟩
 refine va (B (decide (o < 2))) (wln (cn H (fun s H => ?_) (fun s H => ?_)))
 ·refine sr (va (.int .u8 0) (va (.int .u8 0) (wln (W.ret (thr ?_)))))
  obtain rfl := si H
  exact r2 ⟨_, e, rfl, rfl, pt, f, rfl⟩
 refine W.skip (nrm (sr (va (.int .u8 128) (va (.int .u8 191) (wln (bn H fun d a g => W.seqJ (Jn e fun c l => Own c G (F) ∧ l = [(2, .int .u8 d.1), (3, .int .u8 d.2)]) ?_ ?_))))))
 ·refine sr (va (.int .u8 b) (wln (W.block (W.seq (W.block (W.seq (W.block (W.seq (W.block (W.seq (W.block (W.seq (W.seq (sr (va (B (b == 224)) (va (B (b == 224)) (wln (cn a (fun j a => ?_) (fun j a => ?_)))))))))))))))))))
  ·refine W.exit (thx (thx (bke (nrm (sr (va (.int .u8 160) (wln (W.exit (bko rfl (thx (bko rfl (thx (bko rfl (thx (bke (nrm ?_))))))))))))))))
   obtain rfl := si a
   exact ⟨e, _, _, rfl, pt, us, f, rfl⟩
  refine W.skip (nrm (W.seq (sr (va (B (b == 240)) (va (B (b == 240)) (wln (cn a (fun k a => ?_) (fun k a => ?_))))))))
  ·refine W.exit (thx (thx (bko rfl (thx (bke (nrm (sr (va (.int .u8 144) (wln (W.exit (bko rfl (thx (bko rfl (thx (bke (nrm ?_))))))))))))))))
   obtain rfl := si a
   exact ⟨e, _, _, rfl, pt, us, f, rfl⟩
  refine W.skip (nrm (W.seq (sr (va (B (b == 244)) (va (B (b == 244)) (wln (cn a (fun m a => ?_) (fun m a => ?_))))))))
  ·refine W.exit (thx (thx (bko rfl (thx (bko rfl (thx (bke (nrm (W.region (va (.int .u8 191) (va (.int .u8 (IntKind.u8.wrap (191 - 16))) (va (.int .u8 (IntKind.u8.wrap (191 - 16))) (WL.nil (bkn (nrm (sr (va (.int .u8 (IntKind.u8.wrap (191 - 16))) (va (.int .u8 (IntKind.u8.wrap ((IntKind.u8.wrap (191 - 16)) - 32))) (va (.int .u8 (IntKind.u8.wrap ((IntKind.u8.wrap (191 - 16)) - 32))) (wln (W.exit (bke (nrm ?_)))))))))))))))))))))))
   obtain rfl := si a
   exact ⟨e, _, _, rfl, pt, us, f, rfl⟩
  refine W.skip (nrm (sr (va (B (b == 237)) (va (B (b == 237)) (wln (cn a (fun n a => ?_) (fun n a => ?_)))))))
  ·refine W.exit (thx (bko rfl (thx (bko rfl (thx (bko rfl (thx (bke (nrm (sr (va (.int .u8 191) (va (.int .u8 (IntKind.u8.wrap (191 - 32))) (va (.int .u8 (IntKind.u8.wrap (191 - 32))) (wln (W.exit (bke (nrm ?_)))))))))))))))))
   obtain rfl := si a
   exact ⟨e, _, _, rfl, pt, us, f, rfl⟩
  refine W.skip (nrm (W.exit (bko rfl (thx (bko rfl (thx (bko rfl (thx (bko rfl (thx (bke (nrm ?_))))))))))))
  obtain rfl := si a
  exact ⟨e, _, _, rfl, pt, us, f, rfl⟩
 rintro x z ⟨i, t, _, rfl, u, rfl, h, rfl⟩
 refine sr (va (.int .u8 d.1) (va (.int .u8 d.2) (va (.int .u8 d.1) (va (.int .u8 d.2) (wln (W.ret ?_))))))
 obtain rfl := si g
 exact r2 ⟨_, i, rfl, rfl, pt, h, rfl⟩
def f_utfdec_Dec_begin__utfdec_Dec_0 (p0 : G_utfdec_Dec) (p1 : Int) : Option (G_utfdec_Dec × (List Int)) :=
 (f_octet_Lead p1).bind fun a =>
 if (a == 0) = true then
 some (p0, ([65533] : List Int))
 else
 if (a == 1) = true then
 some (p0, ([(w32 p1)] : List Int))
 else
 (f_octet_Bits p1).bind fun c =>
 (f_octet_Second p1).bind fun b =>
 some ((⟨1, (w64 (a - 1)), b.1, b.2, c⟩ : G_utfdec_Dec), ([] : List Int))
theorem c_utfdec_Dec_begin__utfdec_Dec_0 {a : Nat} (f : G_utfdec_Dec) (g : Int) (T : Own c0 G ((Eb a 51 [I f.held, I f.needs, .int .u8 f.lo, .int .u8 f.hi, I f.bits]) :: F)) {r : G_utfdec_Dec × (List Int)} (H : f_utfdec_Dec_begin__utfdec_Dec_0 f g = some r) :
    Calls prog 55 #[Q a, .int .u8 g] c0.w (Post c0 fun c v => ∃ k S, Own c G (es true (RI .i32) k 21 S r.2 :: (Eb a 51 [I r.1.held, I r.1.needs, .int .u8 r.1.lo, .int .u8 r.1.hi, I r.1.bits]) :: F) ∧ v = k ∧ OA (RI .i32) c k S r.2) := by
 unfold f_utfdec_Dec_begin__utfdec_Dec_0 at H
 refine en func55 rfl rfl (sr (va (Y) (wln (W.seq (sr (va (.int .u8 g) (bn H fun b X H => cl (c_octet_Lead T g X) ?_)))))))
 rintro v7 c6 l6 ⟨j, rfl⟩
 refine va (I b) (wln (sr (va (I b) (wln (W.block (sr (va (B (b == 0)) (va (B (b == 0)) (wln (cn H (fun Z H => ?_) (fun Z H => ?_)))))))))))
 ·refine sr (me (sl (RI .i32) 21 [[J 65533]] ([65533] : List Int) j ⟨rfl, trivial⟩) ?_)
  rintro v13 x h0 ⟨P, U, z⟩
  refine va (v13) (wln (W.ret (bkr (thr ?_))))
  obtain rfl := si H
  exact r1 ⟨_, x, rfl, rfl, pt, v13, P, U, rfl, z⟩
 refine sr (va (B (b == 1)) (va (B (b == 1)) (wln (cn H (fun A H => ?_) (fun A H => ?_)))))
 ·refine sr (va (.int .u8 g) (va (J (w32 g)) (me (sl (RI .i32) 21 [[J (w32 g)]] ([(w32 g)] : List Int) j ⟨rfl, trivial⟩) ?_)))
  rintro v19 y i0 ⟨R, l, D⟩
  refine va (v19) (wln (W.ret (bkr (thr ?_))))
  obtain rfl := si H
  exact r1 ⟨_, y, rfl, rfl, pt, v19, R, l, rfl, D⟩
 refine sr (va (Q a) (va (Q a) (va (Q a) (va (I b) (va (I (w64 (b - 1))) (va (.int .u8 g) (bn H fun h E H => cl (c_octet_Bits j g E) ?_)))))))
 rintro v26 a0 j0 ⟨m, rfl⟩
 refine va (Q a) (va (Q a) (md (sC 3 0 (I 1) [I 1, I f.needs, .int .u8 f.lo, .int .u8 f.hi, I f.bits] 0 m ⟨rfl, trivial⟩) ?_))
 rintro b0 k0 n
 refine va (Q a) (va (.pointer (some ⟨a, 1, none⟩)) (md (sC 3 1 (I (w64 (b - 1))) [I 1, I (w64 (b - 1)), .int .u8 f.lo, .int .u8 f.hi, I f.bits] 0 n ⟨rfl, trivial⟩) ?_))
 rintro d0 l0 o
 refine va (Q a) (va (.pointer (some ⟨a, 4, none⟩)) (md (sC 3 4 (I h) [I 1, I (w64 (b - 1)), .int .u8 f.lo, .int .u8 f.hi, I h] 0 o ⟨rfl, trivial⟩) ?_))
 rintro e0 m0 p
 refine wln (W.region (va (Q a) (va (Q a) (va (.int .u8 g) (bn H fun d M H => cl (c_octet_Second p g M) ?_)))))
 rintro v39 f0 o0 ⟨q, rfl⟩
 refine va (.tuple #[.int .u8 d.1, .int .u8 d.2]) (va (.int .u8 d.1) (va (.int .u8 d.2) (va (Q a) (va (.pointer (some ⟨a, 2, none⟩)) (md (sC 5 2 (.int .u8 d.1) [I 1, I (w64 (b - 1)), .int .u8 d.1, .int .u8 f.hi, I h] 0 q ⟨rfl, trivial⟩) ?_)))))
 rintro g0 q0 s
 refine va (Q a) (va (.pointer (some ⟨a, 3, none⟩)) (md (sC 5 3 (.int .u8 d.2) [I 1, I (w64 (b - 1)), .int .u8 d.1, .int .u8 d.2, I h] 0 s ⟨rfl, trivial⟩) ?_))
 rintro i s0 t
 refine WL.nil (bkn (nrm (sr (va (Y) (wln (W.ret ?_))))))
 obtain rfl := si H
 have N : OA (RI .i32) i (Y) [] [] := OA.nil (Nat.succ_pos _)
 have u := t.addHole (e := es true (RI .i32) (Y) 21 [] ([] : List Int)) rfl
 exact r1 ⟨_, i, rfl, rfl, pt, (Y), [], u, rfl, N⟩
def f_utfdec_Dec_Step__utfdec_Dec_0 (p0 : G_utfdec_Dec) (p1 : Int) : Option (G_utfdec_Dec × (List Int)) :=
 if false = true then
 some (p0, ([] : List Int))
 else
 if (p0.held == 0) = true then
 (f_utfdec_Dec_begin__utfdec_Dec_0 p0 p1).bind fun a =>
 some (a.1, a.2)
 else
 (orE (decide (p1 < p0.lo)) (some (decide (p1 > p0.hi)))).bind fun d =>
 if d = true then
 (f_utfdec_Dec_Flush__utfdec_Dec_0 p0).bind fun b =>
 (f_utfdec_Dec_begin__utfdec_Dec_0 b.1 p1).bind fun c =>
 (app b.2 c.2).bind fun e =>
 some (c.1, e)
 else
 if (decide ((w64 (p0.needs - 1)) > 0)) = true then
 some ((⟨(w64 (p0.held + 1)), (w64 (p0.needs - 1)), 128, 191, (ibOr .i64 (w64 (p0.bits * 2 ^ 6)) (w64 (ibAnd .u8 p1 63)))⟩ : G_utfdec_Dec), ([] : List Int))
 else
 some ((⟨0, 0, 0, 0, 0⟩ : G_utfdec_Dec), ([(w32 (ibOr .i64 (w64 (p0.bits * 2 ^ 6)) (w64 (ibAnd .u8 p1 63))))] : List Int))
theorem c_utfdec_Dec_Step__utfdec_Dec_0 {a : Nat} (b : G_utfdec_Dec) (d : Int) (h : Own c0 G ((Eb a 51 [I b.held, I b.needs, .int .u8 b.lo, .int .u8 b.hi, I b.bits]) :: F)) {r : G_utfdec_Dec × (List Int)} (H : f_utfdec_Dec_Step__utfdec_Dec_0 b d = some r) :
    Calls prog 38 #[Q a, .int .u8 d] c0.w (Post c0 fun c v => ∃ x y2, Own c G (es true (RI .i32) x 21 y2 r.2 :: (Eb a 51 [I r.1.held, I r.1.needs, .int .u8 r.1.lo, .int .u8 r.1.hi, I r.1.bits]) :: F) ∧ v = x ∧ OA (RI .i32) c x y2 r.2) := by
 unfold f_utfdec_Dec_Step__utfdec_Dec_0 at H
 refine en func38 rfl rfl (sr (va (Y) (wln (W.seq (W.block (sr (va (Q a) (va (B false) (va (B false) (wln (W.cond (t := false) (by kernel_rfl) (fun s => ?_) (fun s => ?_))))))))))))
 ·cases s
 have H := ie s H
 refine sr (va (Q a) (va (Q a) (va (Q a) (vx (le1 0 underlying3 (h.on 0 rfl)) (va (B (b.held == 0)) (va (B (b.held == 0)) (wln (cn H (fun h2 H => ?_) (fun h2 H => ?_)))))))))
 ·refine sr (va (Q a) (va (.int .u8 d) (bn H fun z0 h4 H => cl (c_utfdec_Dec_begin__utfdec_Dec_0 b d h h4) ?_)))
  rintro v5 X q1 ⟨_, u6, O9, rfl, h7⟩
  refine va (v5) (wln (W.ret (bkr (thr ?_))))
  obtain rfl := si H
  exact r1 ⟨_, X, rfl, rfl, pt, v5, u6, O9, rfl, h7⟩
 refine W.seq (bn H fun q o H => W.join (Jn c0 fun c l => Own c G ((Eb a 51 [I b.held, I b.needs, .int .u8 b.lo, .int .u8 b.hi, I b.bits]) :: F) ∧ l = [(0, Q a), (1, .int .u8 d), (18, B q)]) ?_ ?_)
 ·clear H
  refine W.region (va (.int .u8 d) (va (Q a) (va (Q a) (va (.pointer (some ⟨a, 2, none⟩)) (vx (le1 2 underlying5 (h.on 0 rfl)) (va (B (decide (d < b.lo))) ?_))))))
  rcases bo (decide (d < b.lo)) with f | f
  ·obtain rfl := orT f o
   exact vb f (ps (ps (ps (ps (ps (ps (va (B true) (va (B true) (wln ⟨c0, _, _, rfl, pt, us, h, rfl⟩)))))))))
  have y := orF f o
  refine vb f (wn (va (.int .u8 d) (wn (va (Q a) (wn (va (Q a) (wn (va (.pointer (some ⟨a, 3, none⟩)) (wn (vx (le1 3 underlying5 (h.on 0 rfl)) (wn (va (B (decide (d > b.hi))) ?_))))))))))))
  obtain rfl := si y
  exact va (B (decide (d > b.hi))) (va (B (decide (d > b.hi))) (wln ⟨c0, _, _, rfl, pt, us, h, rfl⟩))
 rintro e_ w_ ⟨c1, n1, _, rfl, s1, rfl, i, rfl⟩
 refine nrm (cn H (fun b0 H => ?_) (fun b0 H => ?_))
 ·refine sr (va (Q a) (bn H fun u d0 H => cl (c_utfdec_Dec_Flush__utfdec_Dec_0 b i d0) ?_))
  rintro v26 d1 t1 ⟨_, f2, z, rfl, e0⟩
  refine va (Q a) (va (.int .u8 d) ?_)
  have A := z.sD 2 [1, 0]
  refine bn H fun a1 f0 H => cl (c_utfdec_Dec_begin__utfdec_Dec_0 u.1 d A f0) ?_
  rintro v37 e1 u1 ⟨_, g2, D, rfl, g0⟩
  obtain ⟨f1, i0, v1, E, h0⟩ := D.frz 0 rfl g0
  refine WL.gh i0 (bn H fun b1 j0 H => me (ap (RI .i32) (J 0) 4 32 2 E e0.m h0 j0 underlying32) ?_)
  rintro v55 Z w1 ⟨q0, M, k0⟩
  refine va (v55) (wln (W.ret (bkr (thr ?_))))
  obtain rfl := si H
  have N := M.sD 3 [2, 1]
  exact r1 ⟨_, Z, rfl, rfl, pt, v55, q0, N, rfl, k0⟩
 refine W.skip (bkn (nrm (sr (va (Q a) (va (Q a) (va (Q a) (va (.pointer (some ⟨a, 4, none⟩)) (vx (le1 4 underlying3 (i.on 0 rfl)) (va (I (w64 (b.bits * 2 ^ 6))) (va (.int .u8 d) (va (.int .u8 (ibAnd .u8 d 63)) (va (I (w64 (ibAnd .u8 d 63))) (va (I (ibOr .i64 (w64 (b.bits * 2 ^ 6)) (w64 (ibAnd .u8 d 63)))) (va (Q a) (va (.pointer (some ⟨a, 4, none⟩)) (md (sC 3 4 (I (ibOr .i64 (w64 (b.bits * 2 ^ 6)) (w64 (ibAnd .u8 d 63)))) [I b.held, I b.needs, .int .u8 b.lo, .int .u8 b.hi, I (ibOr .i64 (w64 (b.bits * 2 ^ 6)) (w64 (ibAnd .u8 d 63)))] 0 i ⟨rfl, trivial⟩) ?_))))))))))))))))
 rintro g1 x1 P
 refine wln (sr (va (Q a) (va (Q a) (va (Q a) (va (.pointer (some ⟨a, 2, none⟩)) (md (sC 5 2 (.int .u8 128) [I b.held, I b.needs, .int .u8 128, .int .u8 b.hi, I (ibOr .i64 (w64 (b.bits * 2 ^ 6)) (w64 (ibAnd .u8 d 63)))] 0 P ⟨rfl, trivial⟩) ?_))))))
 rintro i1 z1 R
 refine va (Q a) (va (.pointer (some ⟨a, 3, none⟩)) (md (sC 5 3 (.int .u8 191) [I b.held, I b.needs, .int .u8 128, .int .u8 191, I (ibOr .i64 (w64 (b.bits * 2 ^ 6)) (w64 (ibAnd .u8 d 63)))] 0 R ⟨rfl, trivial⟩) ?_))
 rintro j1 a2 j
 refine wln (sr (va (Q a) (va (Q a) (va (Q a) (vx (le1 0 underlying3 (j.on 0 rfl)) (va (I (w64 (b.held + 1))) (va (Q a) (va (Q a) (md (sC 3 0 (I (w64 (b.held + 1))) [I (w64 (b.held + 1)), I b.needs, .int .u8 128, .int .u8 191, I (ibOr .i64 (w64 (b.bits * 2 ^ 6)) (w64 (ibAnd .u8 d 63)))] 0 j ⟨rfl, trivial⟩) ?_)))))))))
 rintro k1 b2 k
 refine wln (sr (va (Q a) (va (Q a) (va (.pointer (some ⟨a, 1, none⟩)) (vx (le1 1 underlying3 (k.on 0 rfl)) (va (I (w64 (b.needs - 1))) (va (Q a) (va (.pointer (some ⟨a, 1, none⟩)) (md (sC 3 1 (I (w64 (b.needs - 1))) [I (w64 (b.held + 1)), I (w64 (b.needs - 1)), .int .u8 128, .int .u8 191, I (ibOr .i64 (w64 (b.bits * 2 ^ 6)) (w64 (ibAnd .u8 d 63)))] 0 k ⟨rfl, trivial⟩) ?_)))))))))
 rintro n c2 g
 refine wln (W.seq (sr (va (Q a) (va (Q a) (va (.pointer (some ⟨a, 1, none⟩)) (vx (le1 1 underlying3 (g.on 0 rfl)) (va (B (decide ((w64 (b.needs - 1)) > 0))) (wln (cn H (fun l0 H => ?_) (fun l0 H => ?_))))))))))
 ·refine sr (va (Y) (wln (W.ret (thr ?_))))
  obtain rfl := si H
  have m0 : OA (RI .i32) n (Y) [] [] := OA.nil (Nat.succ_pos _)
  have S := g.addHole (e := es true (RI .i32) (Y) 21 [] ([] : List Int)) rfl
  exact r1 ⟨_, n, rfl, rfl, pt, (Y), [], S, rfl, m0⟩
 refine W.skip (nrm (sr (va (Q a) (va (Q a) (va (.pointer (some ⟨a, 4, none⟩)) (vx (le1 4 underlying3 (g.on 0 rfl)) (va (J (w32 (ibOr .i64 (w64 (b.bits * 2 ^ 6)) (w64 (ibAnd .u8 d 63))))) (va (J (w32 (ibOr .i64 (w64 (b.bits * 2 ^ 6)) (w64 (ibAnd .u8 d 63))))) (wln (sr (va (Q a) (va (.agg #[I 0, I 0, .int .u8 0, .int .u8 0, I 0]) (va (Q a) (md (sA 51 [I 0, I 0, .int .u8 0, .int .u8 0, I 0] 0 g ⟨rfl, rfl, rfl, rfl, rfl, trivial⟩) ?_))))))))))))))
 rintro m1 d2 T
 refine wln (sr (va (J (w32 (ibOr .i64 (w64 (b.bits * 2 ^ 6)) (w64 (ibAnd .u8 d 63))))) (me (sl (RI .i32) 21 [[J (w32 (ibOr .i64 (w64 (b.bits * 2 ^ 6)) (w64 (ibAnd .u8 d 63))))]] ([(w32 (ibOr .i64 (w64 (b.bits * 2 ^ 6)) (w64 (ibAnd .u8 d 63))))] : List Int) T ⟨rfl, trivial⟩) ?_)))
 rintro p a0 e2 ⟨s0, U, o0⟩
 refine va (p) (wln (W.ret ?_))
 obtain rfl := si H
 exact r1 ⟨_, a0, rfl, rfl, pt, p, s0, U, rfl, o0⟩
def f_utfdec_Dec_Feed__utfdec_Dec_0 (p0 : G_utfdec_Dec) (p1 : List Int) : Option (G_utfdec_Dec × (List Int)) :=
 (iter (σ := (List Int) × Int × Int × Int × Int × Int × Int) (τ := ((List Int) × Int × Int × Int × Int × Int)) (((p1.length : Int) - 0).toNat + 1) (fun a =>
 if (decide (a.2.1 < (p1.length : Int))) = true then
 (idx p1 a.2.1).bind fun d =>
 (f_utfdec_Dec_Step__utfdec_Dec_0 (⟨a.2.2.1, a.2.2.2.1, a.2.2.2.2.1, a.2.2.2.2.2.1, a.2.2.2.2.2.2⟩ : G_utfdec_Dec) d).bind fun b =>
 (app a.1 b.2).bind fun e =>
 some (.inl (e, (w64 (a.2.1 + 1)), b.1.held, b.1.needs, b.1.lo, b.1.hi, b.1.bits))
 else
 some (.inr (a.1, a.2.2.1, a.2.2.2.1, a.2.2.2.2.1, a.2.2.2.2.2.1, a.2.2.2.2.2.2))) (([] : List Int), 0, p0.held, p0.needs, p0.lo, p0.hi, p0.bits)).bind fun c =>
 some ((⟨c.2.1, c.2.2.1, c.2.2.2.1, c.2.2.2.2.1, c.2.2.2.2.2⟩ : G_utfdec_Dec), c.1)
theorem c_utfdec_Dec_Feed__utfdec_Dec_0 {d : Nat} (g : G_utfdec_Dec) (h : List Int) (O0 : Own c0 G ((Eb d 51 [I g.held, I g.needs, .int .u8 g.lo, .int .u8 g.hi, I g.bits]) :: F)) {r : G_utfdec_Dec × (List Int)} (p : Sl (RI .u8) c0 v1 h) (H : f_utfdec_Dec_Feed__utfdec_Dec_0 g h = some r) :
    Calls prog 29 #[Q d, v1] c0.w (Post c0 fun c v => ∃ q y2, Own c G (es true (RI .i32) q 21 y2 r.2 :: (Eb d 51 [I r.1.held, I r.1.needs, .int .u8 r.1.lo, .int .u8 r.1.hi, I r.1.bits]) :: F) ∧ v = q ∧ OA (RI .i32) c q y2 r.2) := by
 unfold f_utfdec_Dec_Feed__utfdec_Dec_0 at H
 refine en func29 rfl rfl (sr (va (Y) (wln (sr (va (Y) (wln (W.seq (sr (va (v1) (vx (ln 3 underlying22 p) (va (I 0) (wln (W.block (bn H fun c1 U s => lp U (fun a => Jn c0 fun c l => ∃ v5 i, Own c G (es true (RI .i32) v5 21 i a.1 :: (Eb d 51 [I a.2.2.1, I a.2.2.2.1, .int .u8 a.2.2.2.2.1, .int .u8 a.2.2.2.2.2.1, I a.2.2.2.2.2.2]) :: F) ∧ l = [(0, Q d), (5, v5), (8, v1), (9, I (h.length : Int)), (10, I a.2.1)] ∧ OA (RI .i32) c v5 i a.1) (fun b ex e w => ex = .exit 0 ∧ (Jn c0 fun c l => ∃ v7 j, Own c G (es true (RI .i32) v7 21 j b.1 :: (Eb d 51 [I b.2.1, I b.2.2.1, .int .u8 b.2.2.2.1, .int .u8 b.2.2.2.2.1, I b.2.2.2.2.2]) :: F) ∧ l = [(5, v7)] ∧ OA (RI .i32) c v7 j b.1) e w) ?_ ?_ ?_))))))))))))))
 ·clear s U
  intro a e1 N h0 H
  revert N h0
  rintro e_ w_ ⟨c9, w0, _, rfl, l9, rfl, v5, i, k, rfl, n⟩
  refine sr (va (B (decide (a.2.1 < (h.length : Int)))) (wln (W.seq (cn H (fun P H => ?_) (fun P H => ?_)))))
  ·refine W.skip (nrm (W.seq (W.block (sr (bn H fun f o H => ?_)))))
   obtain ⟨o0, R, f0⟩ := Sl.at (p.mono l9) (idx_get o)
   obtain rfl := R
   refine vx (ix underlying22 p.m o) (vx (l1 underlying5 (f0 0 _ rfl)) (va (.int .u8 f) (wln (W.region (va (v5) (va (Q d) (va (.int .u8 f) ?_)))))))
   have t := k.sD 2 [1, 0]
   refine bn H fun s0 S H => cl (c_utfdec_Dec_Step__utfdec_Dec_0 (⟨a.2.2.1, a.2.2.2.1, a.2.2.2.2.1, a.2.2.2.2.2.1, a.2.2.2.2.2.2⟩ : G_utfdec_Dec) f t S) ?_
   rintro v23 u0 y0 ⟨_, d1, u, rfl, T⟩
   obtain ⟨v0, Z, z0, x, X⟩ := u.frz 0 rfl T
   refine WL.gh Z (bn H fun t0 a0 H => me (ap (RI .i32) (J 0) 4 32 2 x n.m X a0 underlying32) ?_)
   rintro v41 E a1 ⟨g0, y, b0⟩
   refine va (v41) (WL.nil (bkn (nrm (W.region (va (I (w64 (a.2.1 + 1))) (va (I (w64 (a.2.1 + 1))) (WL.nil ?_)))))))
   obtain rfl := si H
   refine ⟨_, rfl, ?_⟩
   have z := y.sD 3 [2, 1]
   exact ⟨E, _, _, rfl, pt, us, v41, g0, z, rfl, b0⟩
  refine W.exit (thx ?_)
  obtain rfl := si H
  exact ⟨_, rfl, rfl, ⟨c9, _, _, rfl, pt, us, v5, i, k, rfl, n⟩⟩
 ·have d0 : OA (RI .i32) c0 (Y) [] [] := OA.nil (Nat.succ_pos _)
  have A := O0.addHole (e := es true (RI .i32) (Y) 21 [] ([] : List Int)) rfl
  exact ⟨c0, _, _, rfl, pt, us, (Y), [], A, rfl, d0⟩
 rintro _ e_ w_ ⟨rfl, M, x0, _, rfl, b1, rfl, v7, j, D, rfl, e0⟩
 refine bke (nrm (sr (va (v7) (va (v7) (wln (W.ret ?_))))))
 obtain rfl := si s
 exact r1 ⟨_, M, rfl, rfl, pt, v7, j, D, rfl, e0⟩
def f_chunks_Read (p0 : List (List Int)) : Option (List Int) :=
 (iter (σ := (List Int) × Int × Int × Int × Int × Int × Int) (τ := ((List Int) × Int × Int × Int × Int × Int)) (((p0.length : Int) - 0).toNat + 1) (fun a =>
 if (decide (a.2.1 < (p0.length : Int))) = true then
 (idx p0 a.2.1).bind fun d =>
 (f_utfdec_Dec_Feed__utfdec_Dec_0 (⟨a.2.2.1, a.2.2.2.1, a.2.2.2.2.1, a.2.2.2.2.2.1, a.2.2.2.2.2.2⟩ : G_utfdec_Dec) d).bind fun c =>
 (app a.1 c.2).bind fun e =>
 some (.inl (e, (w64 (a.2.1 + 1)), c.1.held, c.1.needs, c.1.lo, c.1.hi, c.1.bits))
 else
 some (.inr (a.1, a.2.2.1, a.2.2.2.1, a.2.2.2.2.1, a.2.2.2.2.2.1, a.2.2.2.2.2.2))) (([] : List Int), 0, 0, 0, 0, 0, 0)).bind fun b =>
 (f_utfdec_Dec_Flush__utfdec_Dec_0 (⟨b.2.1, b.2.2.1, b.2.2.2.1, b.2.2.2.2.1, b.2.2.2.2.2⟩ : G_utfdec_Dec)).bind fun f =>
 (app b.1 f.2).bind fun g =>
 some g
theorem c_chunks_Read (O0 : Own c0 G F) (k : List (List Int)) {r : List Int} (s : Sl (RL (RI .u8)) c0 v1 k) (H : f_chunks_Read k = some r) :
    Calls prog 14 #[v1] c0.w (Post c0 fun c v => ∃ u y2, Own c G (es true (RI .i32) u 21 y2 r :: F) ∧ v = u ∧ OA (RI .i32) c u y2 r) := by
 unfold f_chunks_Read at H
 refine en func14 rfl rfl (sr (va (Y) (wln (sr (me (al 51 [I 0, I 0, .int .u8 0, .int .u8 0, I 0] O0) ?_)))))
 rintro v6 j l5 ⟨i, rfl, O4⟩
 refine wln (sr (va (Y) (wln (W.seq (sr (va (v1) (vx (ln 3 underlying25 s.m) (va (I 0) (wln (W.block (bn H fun d h7 g => lp h7 (fun a => Jn j fun c l => ∃ v9 f, Own c G (es true (RI .i32) v9 21 f a.1 :: (Eb i 51 [I a.2.2.1, I a.2.2.2.1, .int .u8 a.2.2.2.2.1, .int .u8 a.2.2.2.2.2.1, I a.2.2.2.2.2.2]) :: F) ∧ l = [(3, Q i), (4, v9), (7, v1), (8, I (k.length : Int)), (9, I a.2.1)] ∧ OA (RI .i32) c v9 f a.1) (fun b ex e w => ex = .exit 0 ∧ (Jn j fun c l => ∃ v11 h, Own c G (es true (RI .i32) v11 21 h b.1 :: (Eb i 51 [I b.2.1, I b.2.2.1, .int .u8 b.2.2.2.1, .int .u8 b.2.2.2.2.1, I b.2.2.2.2.2]) :: F) ∧ l = [(3, Q i), (4, v11)] ∧ OA (RI .i32) c v11 h b.1) e w) ?_ ?_ ?_)))))))))))
 ·clear g h7
  intro a j2 a0 b1 H
  revert a0 b1
  rintro e_ w_ ⟨U, w1, _, rfl, x0, rfl, v9, f, n, rfl, o⟩
  refine sr (va (B (decide (a.2.1 < (k.length : Int)))) (wln (W.seq (cn H (fun b0 H => ?_) (fun b0 H => ?_)))))
  ·refine W.skip (nrm (W.seq (W.block (sr (bn H fun t p H => ?_)))))
   obtain ⟨h1, d0, y0⟩ := Sl.at (s.mono (l5.trans x0)) (idx_get p)
   obtain ⟨v25, rfl, e0⟩ := d0
   refine vx (ix underlying25 s.m p) (vx (l1 underlying22 (y0 0 _ rfl)) (va (v25) (wln (W.region (va (v9) (va (v25) ?_))))))
   have x := n.sD 2 [1, 0]
   refine bn H fun j1 f0 H => cl (c_utfdec_Dec_Feed__utfdec_Dec_0 (⟨a.2.2.1, a.2.2.2.1, a.2.2.2.2.1, a.2.2.2.2.2.1, a.2.2.2.2.2.2⟩ : G_utfdec_Dec) t x e0 f0) ?_
   rintro v29 p1 z1 ⟨_, g2, y, rfl, g0⟩
   obtain ⟨q1, i0, a2, z, h0⟩ := y.frz 0 rfl g0
   refine WL.gh i0 (bn H fun k1 j0 H => me (ap (RI .i32) (J 0) 4 32 2 z o.m h0 j0 underlying32) ?_)
   rintro v47 X b2 ⟨z0, A, k0⟩
   refine va (v47) (WL.nil (bkn (nrm (W.region (va (I (w64 (a.2.1 + 1))) (va (I (w64 (a.2.1 + 1))) (WL.nil ?_)))))))
   obtain rfl := si H
   refine ⟨_, rfl, ?_⟩
   have D := A.sD 3 [2, 1]
   exact ⟨X, _, _, rfl, pt, us, v47, z0, D, rfl, k0⟩
  refine W.exit (thx ?_)
  obtain rfl := si H
  exact ⟨_, rfl, rfl, ⟨U, _, _, rfl, pt, us, v9, f, n, rfl, o⟩⟩
 ·have l0 : OA (RI .i32) j (Y) [] [] := OA.nil (Nat.succ_pos _)
  have E := O4.addHole (e := es true (RI .i32) (Y) 21 [] ([] : List Int)) rfl
  exact ⟨j, _, _, rfl, pt, us, (Y), [], E, rfl, l0⟩
 rintro _ e_ w_ ⟨rfl, s1, x1, _, rfl, c2, rfl, v11, h, M, rfl, m0⟩
 refine bke (nrm (sr (va (v11) ?_)))
 have N := M.sD 2 [1, 0]
 refine bn g fun m1 o0 g => cl (c_utfdec_Dec_Flush__utfdec_Dec_0 (⟨d.2.1, d.2.2.1, d.2.2.2.1, d.2.2.2.2.1, d.2.2.2.2.2⟩ : G_utfdec_Dec) N o0) ?_
 rintro v60 t1 d2 ⟨_, i2, P, rfl, q0⟩
 obtain ⟨u1, u0, e2, R, t0⟩ := P.frz 0 rfl q0
 refine WL.gh u0 (bn g fun n1 v0 g => me (ap (RI .i32) (J 0) 4 32 2 R m0.m t0 v0 underlying32) ?_)
 rintro q Z f2 ⟨a1, S, w0⟩
 refine va (q) (wln (W.ret ?_))
 obtain rfl := si g
 have T := S.sD 3 [2]
 exact r1 ⟨_, Z, rfl, rfl, pt, q, a1, T, rfl, w0⟩

end Go.Proofs.Ytfhhpdggmefcoaa
