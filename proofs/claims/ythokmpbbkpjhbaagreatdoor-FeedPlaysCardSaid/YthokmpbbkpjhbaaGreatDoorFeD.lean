/- Parts of the proofs of FeedNone, FeedPlays: the walk through the code, and plain Lean. No condition. -/
import Derived.Test.YthokmpbbkpjhbaaGreatDoorFeA
import Derived.Test.YthokmpbbkpjhbaaGreatDoorProg
import Derived.Test.YthokmpbbkpjhbaaGreatDoorFeC
import Derived.Test.YthokmpbbkpjhbaaGreatDoorFeB
namespace Go.Proofs.YthokmpbbkpjhbaaGreatDoor
open Go Go.Lt
set_option maxRecDepth 10000
set_option linter.unusedVariables false
attribute [local irreducible] W WL AC
open Tryz
variable {c0 : Cx} {G : Gm} {F : List En} {sg : Sto} {v1 v2 v3 v4 v5 v6 v7 v8 v9 v10 v11 v12 v13 v14 v15 v16 v17 v18 v19 v20 v21 v22 v23 v24 v25 v26 v27 v28 v29 v30 v31 v32 v33 v34 v35 v36 v37 v38 v39 v40 v41 v42 v43 v44 v45 v46 v47 v48 v49 v50 v51 v52 v53 v54 v55 v56 v57 v58 v59 v60 : Value}
def f_linotyperef16_Props (p0 : List Int) : Option (List G_api_Prop) :=
 (iter (σ := (List G_api_Prop) × Int) (τ := (List G_api_Prop)) (((p0.length : Int) - 0).toNat + 1) (fun a =>
 if (decide (a.2 < (p0.length : Int))) = true then
 (idx p0 a.2).bind fun b =>
 (f_linotyperef13_Of b).bind fun c =>
 (app a.1 ([c] : List G_api_Prop)).bind fun d =>
 some (.inl (d, (w64 (a.2 + 1))))
 else
 some (.inr (a.1))) (([] : List G_api_Prop), 0)).bind fun e =>
 some e
theorem c_linotyperef16_Props (O0 : Own c0 G F) (n : List Int) {r : List G_api_Prop} (k : Sl (RI .i32) c0 v1 n) (H : f_linotyperef16_Props n = some r) :
    Calls prog 237 #[v1] c0.w (Post c0 fun c v => ∃ p y2, Own c G (es true R_api_Prop p 33 y2 r :: F) ∧ v = p ∧ OA R_api_Prop c p y2 r) := by
 unfold f_linotyperef16_Props at H
 refine en func237 rfl rfl (sr (va (Y) (wln (sr (va (Y) (wln (W.seq (sr (va (I 0) (wln (W.block (bn H fun c1 S q => lp S (fun a => Jn c0 fun c l => ∃ v5 f, Own c G (es true R_api_Prop v5 33 f a.1 :: F) ∧ l = [(0, v1), (3, v5), (4, I a.2)] ∧ OA R_api_Prop c v5 f a.1) (fun d ex e w => ex = .exit 0 ∧ (Jn c0 fun c l => ∃ v7 g, Own c G (es true R_api_Prop v7 33 g d :: F) ∧ l = [(3, v7)] ∧ OA R_api_Prop c v7 g d) e w) ?_ ?_ ?_))))))))))))
 ·clear q S
  intro a e1 M g0 H
  revert M g0
  rintro e_ w_ ⟨c9, v0, _, rfl, l9, rfl, v5, f, h, rfl, i⟩
  refine W.seq (sr (va (I a.2) (va (v1) (vx (ln 3 underlying27 k.m) (va (B (decide (a.2 < (n.length : Int)))) (wln (cn H (fun N H => ?_) (fun N H => ?_))))))))
  ·refine W.skip (nrm (W.seq (W.block (W.region (va (v5) (va (v1) (va (I a.2) (bn H fun o j H => ?_))))))))
   obtain ⟨m0, P, e0⟩ := Sl.at (k.mono l9) (idx_get j)
   obtain rfl := P
   refine vx (ix underlying27 k.m j) (vx (l1 underlying21 (e0 0 _ rfl)) (bn H fun b R H => cl (c_linotyperef13_Of h o R) ?_))
   rintro v27 s0 x0 ⟨s, rfl⟩
   refine me (sl R_api_Prop 33 [[I b.Break, B b.Pict, I b.Conj, I b.East]] ([b] : List G_api_Prop) s ⟨rfl, trivial⟩) ?_
   rintro v32 t0 y0 ⟨d1, t, T⟩
   obtain ⟨u0, X, z0, u, U⟩ := t.frz 0 rfl T
   refine WL.gh X (bn H fun q0 Z H => me (ap R_api_Prop (.agg #[I 0, B false, I 0, I 0]) 32 28 1 u i.m U Z underlying28) ?_)
   rintro v42 D a1 ⟨f0, x, a0⟩
   refine va (v42) (WL.nil (bkn (nrm (W.region (va (I a.2) (va (I (w64 (a.2 + 1))) (va (I (w64 (a.2 + 1))) (WL.nil ?_))))))))
   obtain rfl := si H
   refine ⟨_, rfl, ?_⟩
   have y := x.sD 2 [1]
   exact ⟨D, _, _, rfl, pt, us, v42, f0, y, rfl, a0⟩
  refine W.exit (thx ?_)
  obtain rfl := si H
  exact ⟨_, rfl, rfl, ⟨c9, _, _, rfl, pt, us, v5, f, h, rfl, i⟩⟩
 ·have b0 : OA R_api_Prop c0 (Y) [] [] := OA.nil (Nat.succ_pos _)
  have z := O0.addHole (e := es true R_api_Prop (Y) 33 [] ([] : List G_api_Prop)) rfl
  exact ⟨c0, _, _, rfl, pt, us, (Y), [], z, rfl, b0⟩
 rintro _ e_ w_ ⟨rfl, E, w0, _, rfl, b1, rfl, v7, g, A, rfl, d0⟩
 refine bke (nrm (sr (va (v7) (va (v7) (wln (W.ret ?_))))))
 obtain rfl := si q
 exact r1 ⟨_, E, rfl, rfl, pt, v7, g, A, rfl, d0⟩
def f_linotyperef14_rows  : Option (List ByteArray) :=
 some ([(⟨#[48, 48, 48, 48, 49, 49, 48, 48, 49, 48, 48, 48, 48, 48]⟩ : ByteArray), (⟨#[48, 48, 49, 48, 48, 48, 48, 48, 48, 48, 48, 48, 48, 48]⟩ : ByteArray), (⟨#[48, 48, 48, 48, 48, 48, 48, 48, 48, 48, 48, 48, 48, 48]⟩ : ByteArray), (⟨#[48, 48, 48, 48, 48, 48, 48, 48, 48, 48, 48, 48, 48, 48]⟩ : ByteArray), (⟨#[50, 48, 48, 48, 49, 49, 48, 48, 49, 48, 48, 48, 48, 48]⟩ : ByteArray), (⟨#[50, 48, 48, 48, 49, 49, 48, 48, 49, 48, 48, 48, 48, 48]⟩ : ByteArray), (⟨#[48, 48, 48, 48, 49, 49, 50, 48, 49, 48, 48, 48, 48, 48]⟩ : ByteArray), (⟨#[49, 48, 48, 48, 49, 49, 49, 49, 49, 49, 49, 49, 49, 49]⟩ : ByteArray), (⟨#[48, 48, 48, 48, 49, 49, 48, 48, 49, 48, 48, 48, 48, 48]⟩ : ByteArray), (⟨#[48, 48, 48, 48, 49, 49, 48, 48, 49, 49, 49, 48, 49, 49]⟩ : ByteArray), (⟨#[48, 48, 48, 48, 49, 49, 48, 48, 49, 48, 49, 49, 48, 48]⟩ : ByteArray), (⟨#[48, 48, 48, 48, 49, 49, 48, 48, 49, 48, 48, 49, 48, 48]⟩ : ByteArray), (⟨#[48, 48, 48, 48, 49, 49, 48, 48, 49, 48, 49, 49, 48, 48]⟩ : ByteArray), (⟨#[48, 48, 48, 48, 49, 49, 48, 48, 49, 48, 48, 49, 48, 48]⟩ : ByteArray)] : List ByteArray)
theorem c_linotyperef14_rows (d : Own c0 G F) {r : List ByteArray} (H : f_linotyperef14_rows  = some r) :
    Calls prog 274 #[] c0.w (Post c0 fun c v => ∃ a b, Own c G (es true RS a 9 b r :: F) ∧ v = a ∧ OA RS c a b r) := by
 unfold f_linotyperef14_rows at H
 refine en func274 rfl rfl (sr (va (Y) (wln (sr (me (sl RS 9 [[.string (⟨#[48, 48, 48, 48, 49, 49, 48, 48, 49, 48, 48, 48, 48, 48]⟩ : ByteArray)], [.string (⟨#[48, 48, 49, 48, 48, 48, 48, 48, 48, 48, 48, 48, 48, 48]⟩ : ByteArray)], [.string (⟨#[48, 48, 48, 48, 48, 48, 48, 48, 48, 48, 48, 48, 48, 48]⟩ : ByteArray)], [.string (⟨#[48, 48, 48, 48, 48, 48, 48, 48, 48, 48, 48, 48, 48, 48]⟩ : ByteArray)], [.string (⟨#[50, 48, 48, 48, 49, 49, 48, 48, 49, 48, 48, 48, 48, 48]⟩ : ByteArray)], [.string (⟨#[50, 48, 48, 48, 49, 49, 48, 48, 49, 48, 48, 48, 48, 48]⟩ : ByteArray)], [.string (⟨#[48, 48, 48, 48, 49, 49, 50, 48, 49, 48, 48, 48, 48, 48]⟩ : ByteArray)], [.string (⟨#[49, 48, 48, 48, 49, 49, 49, 49, 49, 49, 49, 49, 49, 49]⟩ : ByteArray)], [.string (⟨#[48, 48, 48, 48, 49, 49, 48, 48, 49, 48, 48, 48, 48, 48]⟩ : ByteArray)], [.string (⟨#[48, 48, 48, 48, 49, 49, 48, 48, 49, 49, 49, 48, 49, 49]⟩ : ByteArray)], [.string (⟨#[48, 48, 48, 48, 49, 49, 48, 48, 49, 48, 49, 49, 48, 48]⟩ : ByteArray)], [.string (⟨#[48, 48, 48, 48, 49, 49, 48, 48, 49, 48, 48, 49, 48, 48]⟩ : ByteArray)], [.string (⟨#[48, 48, 48, 48, 49, 49, 48, 48, 49, 48, 49, 49, 48, 48]⟩ : ByteArray)], [.string (⟨#[48, 48, 48, 48, 49, 49, 48, 48, 49, 48, 48, 49, 48, 48]⟩ : ByteArray)]] ([(⟨#[48, 48, 48, 48, 49, 49, 48, 48, 49, 48, 48, 48, 48, 48]⟩ : ByteArray), (⟨#[48, 48, 49, 48, 48, 48, 48, 48, 48, 48, 48, 48, 48, 48]⟩ : ByteArray), (⟨#[48, 48, 48, 48, 48, 48, 48, 48, 48, 48, 48, 48, 48, 48]⟩ : ByteArray), (⟨#[48, 48, 48, 48, 48, 48, 48, 48, 48, 48, 48, 48, 48, 48]⟩ : ByteArray), (⟨#[50, 48, 48, 48, 49, 49, 48, 48, 49, 48, 48, 48, 48, 48]⟩ : ByteArray), (⟨#[50, 48, 48, 48, 49, 49, 48, 48, 49, 48, 48, 48, 48, 48]⟩ : ByteArray), (⟨#[48, 48, 48, 48, 49, 49, 50, 48, 49, 48, 48, 48, 48, 48]⟩ : ByteArray), (⟨#[49, 48, 48, 48, 49, 49, 49, 49, 49, 49, 49, 49, 49, 49]⟩ : ByteArray), (⟨#[48, 48, 48, 48, 49, 49, 48, 48, 49, 48, 48, 48, 48, 48]⟩ : ByteArray), (⟨#[48, 48, 48, 48, 49, 49, 48, 48, 49, 49, 49, 48, 49, 49]⟩ : ByteArray), (⟨#[48, 48, 48, 48, 49, 49, 48, 48, 49, 48, 49, 49, 48, 48]⟩ : ByteArray), (⟨#[48, 48, 48, 48, 49, 49, 48, 48, 49, 48, 48, 49, 48, 48]⟩ : ByteArray), (⟨#[48, 48, 48, 48, 49, 49, 48, 48, 49, 48, 49, 49, 48, 48]⟩ : ByteArray), (⟨#[48, 48, 48, 48, 49, 49, 48, 48, 49, 48, 48, 49, 48, 48]⟩ : ByteArray)] : List ByteArray) d ⟨rfl, rfl, rfl, rfl, rfl, rfl, rfl, rfl, rfl, rfl, rfl, rfl, rfl, rfl, trivial⟩) ?_)))))
 rintro v5 f i ⟨h, e, g⟩
 refine va (v5) (wln (W.ret ?_))
 obtain rfl := si H
 exact r1 ⟨_, f, rfl, rfl, pt, v5, h, e, rfl, g⟩
def f_linotyperef14_Join (p0 : Int) (p1 : Int) : Option (Int) :=
 ((orE (decide (p0 < 0)) (some (decide (p0 > 13)))).bind fun f =>
 if f = true then
 some (0)
 else
 some (p0)).bind fun g =>
 ((orE (decide (p1 < 0)) (some (decide (p1 > 13)))).bind fun a =>
 if a = true then
 some (0)
 else
 some (p1)).bind fun e =>
 (f_linotyperef14_rows).bind fun b =>
 (idx b g).bind fun c =>
 (sidx c e).bind fun d =>
 some (w64 ((w64 d) - 48))
theorem c_linotyperef14_Join (N : Own c0 G F) (e : Int) (d : Int) {r : Int} (H : f_linotyperef14_Join e d = some r) :
    Calls prog 263 #[I e, I d] c0.w (Post c0 fun c v => Own c G (F) ∧ v = I r) := by
 unfold f_linotyperef14_Join at H
 refine en func263 rfl rfl (sr (va (I 0) (wln (bn H fun m g H2 => W.seqJ (Jn c0 fun c l => Own c G (F) ∧ l = [(0, I m), (1, I d)]) ?_ ?_))))
 ·refine W.seq (bn g fun X h3 g => W.join (Jn c0 fun c l => Own c G (F) ∧ l = [(0, I e), (1, I d), (10, B X)]) ?_ ?_)
  ·clear g
   refine W.region (va (I e) (va (B (decide (e < 0))) ?_))
   rcases bo (decide (e < 0)) with n | n
   ·obtain rfl := orT n h3
    exact vb n (ps (ps (va (B true) (wln ⟨c0, _, _, rfl, pt, us, N, rfl⟩))))
   have H5 := orF n h3
   refine vb n (wn (va (I e) (wn (va (B (decide (e > 13))) ?_))))
   obtain rfl := si H5
   exact va (B (decide (e > 13))) (wln ⟨c0, _, _, rfl, pt, us, N, rfl⟩)
  rintro A D ⟨U, g7, _, rfl, l6, rfl, S, rfl⟩
  refine nrm (cn g (fun Z g => ?_) (fun Z g => ?_))
  ·refine W.region (va (I 0) (wln ?_))
   obtain rfl := si g
   exact ⟨U, _, _, rfl, pt, us, S, rfl⟩
  refine W.skip (nrm ?_)
  obtain rfl := si g
  exact ⟨U, _, _, rfl, pt, us, S, rfl⟩
 rintro A D ⟨i, m0, _, rfl, s0, rfl, s, rfl⟩
 refine bn H2 fun q a b => W.seqJ (Jn i fun c l => Own c G (F) ∧ l = [(0, I m), (1, I q)]) ?_ ?_
 ·refine W.seq (bn a fun z y a => W.join (Jn i fun c l => Own c G (F) ∧ l = [(0, I m), (1, I d), (16, B z)]) ?_ ?_)
  ·clear a
   refine W.region (va (I d) (va (B (decide (d < 0))) ?_))
   rcases bo (decide (d < 0)) with h | h
   ·obtain rfl := orT h y
    exact vb h (ps (ps (va (B true) (wln ⟨i, _, _, rfl, pt, us, s, rfl⟩))))
   have M := orF h y
   refine vb h (wn (va (I d) (wn (va (B (decide (d > 13))) ?_))))
   obtain rfl := si M
   exact va (B (decide (d > 13))) (wln ⟨i, _, _, rfl, pt, us, s, rfl⟩)
  rintro A D ⟨x, o0, _, rfl, t0, rfl, t, rfl⟩
  refine nrm (cn a (fun b0 a => ?_) (fun b0 a => ?_))
  ·refine W.region (va (I 0) (wln ?_))
   obtain rfl := si a
   exact ⟨x, _, _, rfl, pt, us, t, rfl⟩
  refine W.skip (nrm ?_)
  obtain rfl := si a
  exact ⟨x, _, _, rfl, pt, us, t, rfl⟩
 rintro A D ⟨l0, q0, _, rfl, u0, rfl, P, rfl⟩
 refine sr (bn b fun k0 d0 b => cl (c_linotyperef14_rows P d0) ?_)
 rintro v38 T v0 ⟨_, w0, u, rfl, o⟩
 refine va (I m) (bn b fun E p b => vx (ixO underlying302 o p) ?_)
 obtain ⟨j0, e0, g0⟩ := OA.at o p
 obtain rfl := e0
 refine vr (.string E) (rx (by kernel_rfl) (ldE1 underlying9 rfl (u.on 0 rfl) (o.blk p) (at1 (j := 0) g0 rfl))) (va (I q) (bn b fun f f0 b => vr (.int .u8 f) (rx (by kernel_rfl) (run_indexS (k := .i64) underlying9 f0 _)) (va (I (w64 f)) (va (I (w64 ((w64 f) - 48))) (va (I (w64 ((w64 f) - 48))) (wln (W.ret ?_)))))))
 obtain rfl := si b
 have R := u.sD 1 []
 exact r1 ⟨_, T, rfl, rfl, pt, R, rfl⟩
def f_linotyperef15_conjunct (p0 : List G_api_Prop) (p1 : Int) : Option (Bool) :=
 (idx p0 p1).bind fun i =>
 if (i.Conj != 1) = true then
 some false
 else
 (iter (σ := Int × Int) (τ := Bool ⊕ Unit) (((w64 (p1 - 1)) - 0).toNat + 2) (fun a =>
 if (decide (a.2 ≥ 0)) = true then
 (idx p0 a.2).bind fun d =>
 if (d.Conj == 1) = true then
 some (.inr (.inl (decide (a.1 > 0))))
 else
 ((idx p0 a.2).bind fun e =>
 if (e.Conj == 2) = true then
 some ((w64 (a.1 + 1)))
 else
 some (a.1)).bind fun h =>
 (idx p0 a.2).bind fun f =>
 (andE (f.Conj != 2) ((idx p0 a.2).bind fun g =>
 some (g.Conj != 3))).bind fun c =>
 if c = true then
 some (.inr (.inl false))
 else
 some (.inl (h, (w64 (a.2 - 1))))
 else
 some (.inr (.inr ()))) (0, (w64 (p1 - 1)))).bind fun b =>
 match b with
 | .inl b =>
 some b
 | .inr b =>
 some false
theorem c_linotyperef15_conjunct (O0 : Own c0 G F) (p0 : List G_api_Prop) (j : Int) {r : Bool} (f : Sl R_api_Prop c0 v1 p0) (H : f_linotyperef15_conjunct p0 j = some r) :
    Calls prog 264 #[v1, I j] c0.w (Post c0 fun c v => Own c G (F) ∧ v = B r) := by
 unfold f_linotyperef15_conjunct at H
 refine en func264 rfl rfl (sr (va (B false) (wln (W.seq (sr (va (v1) (va (I j) (bn H fun d1 h3 H => ?_))))))))
 obtain ⟨z1, h5, m6⟩ := Sl.at f (idx_get h3)
 obtain rfl := h5
 refine vx (ix underlying28 f h3) (va (.pointer (some ⟨sb v1, so v1 + j.toNat * 4 + 2, none⟩)) (vx (l1 underlying3 (m6 2 _ rfl)) (va (B (d1.Conj != 1)) (wln (cn H (fun h7 H => ?_) (fun h7 H => ?_))))))
 ·refine sr (va (B false) (wln (W.ret (thr ?_))))
  obtain rfl := si H
  exact r1 ⟨_, c0, rfl, rfl, pt, O0, rfl⟩
 refine W.skip (nrm (sr (va (I 0) (wln (W.seq (sr (va (I j) (va (I (w64 (j - 1))) (va (I (w64 (j - 1))) (wln (W.block (bn H fun i h8 T => lp h8 (fun a => Jn c0 fun c l => Own c G (F) ∧ l = [(0, v1), (5, I a.1), (6, I a.2)]) (fun t => match t with | .inl X => (fun b1 ex e w => ex = .ret ∧ (Jn c0 fun c l => Own c G (F) ∧ l = [(4, B b1)]) e w) X | .inr X => (fun e1 ex e w => ex = .exit 0 ∧ (Jn c0 fun c l => Own c G (F) ∧ l = []) e w) X) ?_ ?_ ?_))))))))))))
 ·clear T h8
  intro a a2 h0 c1 H
  revert h0 c1
  rintro x y ⟨g, n1, _, rfl, n, rfl, k, rfl⟩
  refine W.seq (sr (va (I a.2) (va (B (decide (a.2 ≥ 0))) (wln (cn H (fun j0 H => ?_) (fun j0 H => ?_))))))
  ·refine W.skip (nrm (W.seq (W.block (W.seq (sr (va (v1) (va (I a.2) (bn H fun Z E H => ?_))))))))
   obtain ⟨h1, k0, w0⟩ := Sl.at (f.mono n) (idx_get E)
   obtain rfl := k0
   refine vx (ix underlying28 f.m E) (va (.pointer (some ⟨sb v1, so v1 + a.2.toNat * 4 + 2, none⟩)) (vx (l1 underlying3 (w0 2 _ rfl)) (va (B (Z.Conj == 1)) (wln (cn H (fun l0 H => ?_) (fun l0 H => ?_))))))
   ·refine sr (va (I a.1) (va (B (decide (a.1 > 0))) (va (B (decide (a.1 > 0))) (wln (W.ret (thr (bkr (thr ?_))))))))
    obtain rfl := si H
    exact ⟨_, rfl, ⟨rfl, ⟨g, _, _, rfl, pt, us, k, rfl⟩⟩⟩
   refine W.skip (nrm (bn H fun u d b => W.seqJ (Jn g fun c l => Own c G (F) ∧ l = [(0, v1), (5, I u), (6, I a.2)]) ?_ ?_))
   ·refine sr (va (v1) (va (I a.2) (bn d fun a0 M d => ?_)))
    obtain ⟨i1, m0, x0⟩ := Sl.at (f.mono n) (idx_get M)
    obtain rfl := m0
    refine vx (ix underlying28 f.m M) (va (.pointer (some ⟨sb v1, so v1 + a.2.toNat * 4 + 2, none⟩)) (vx (l1 underlying3 (x0 2 _ rfl)) (va (B (a0.Conj == 2)) (wln (cn d (fun o0 d => ?_) (fun o0 d => ?_))))))
    ·refine W.region (va (I a.1) (va (I (w64 (a.1 + 1))) (va (I (w64 (a.1 + 1))) (wln ?_))))
     obtain rfl := si d
     exact ⟨g, _, _, rfl, pt, us, k, rfl⟩
    refine W.skip (nrm ?_)
    obtain rfl := si d
    exact ⟨g, _, _, rfl, pt, us, k, rfl⟩
   rintro x y ⟨p, q1, _, rfl, S, rfl, z, rfl⟩
   refine W.seq (bn b fun q N b => bn b fun U P b => W.join (Jn p fun c l => Own c G (F) ∧ l = [(0, v1), (5, I u), (6, I a.2), (48, B U)]) ?_ ?_)
   ·clear b
    refine W.region (va (v1) (va (I a.2) ?_))
    obtain ⟨j1, s0, y0⟩ := Sl.at (f.mono (n.trans S)) (idx_get N)
    obtain rfl := s0
    refine vx (ix underlying28 f.m N) (va (.pointer (some ⟨sb v1, so v1 + a.2.toNat * 4 + 2, none⟩)) (vx (l1 underlying3 (y0 2 _ rfl)) (va (B (q.Conj != 2)) ?_)))
    rcases bo (q.Conj != 2) with h | h
    ·have o := anT h P
     refine vb h (wn (va (v1) (wn (va (I a.2) (wn (bn o fun s R o => ?_))))))
     obtain ⟨k1, t0, z0⟩ := Sl.at (f.mono (n.trans S)) (idx_get R)
     obtain rfl := t0
     refine vx (ix underlying28 f.m R) (wn (va (.pointer (some ⟨sb v1, so v1 + a.2.toNat * 4 + 2, none⟩)) (wn (vx (l1 underlying3 (z0 2 _ rfl)) (wn (va (B (s.Conj != 3)) ?_))))))
     obtain rfl := si o
     exact va (B (s.Conj != 3)) (wln ⟨p, _, _, rfl, pt, us, z, rfl⟩)
    obtain rfl := anF h P
    exact vb h (ps (ps (ps (ps (ps (ps (va (B false) (wln ⟨p, _, _, rfl, pt, us, z, rfl⟩))))))))
   rintro x y ⟨D, s1, _, rfl, w1, rfl, A, rfl⟩
   refine nrm (cn b (fun u0 b => ?_) (fun u0 b => ?_))
   ·refine sr (va (B false) (wln (W.ret (bkr (thr ?_)))))
    obtain rfl := si b
    exact ⟨_, rfl, ⟨rfl, ⟨D, _, _, rfl, pt, us, A, rfl⟩⟩⟩
   refine W.skip (bkn (nrm (W.region (va (I a.2) (va (I (w64 (a.2 - 1))) (va (I (w64 (a.2 - 1))) (WL.nil ?_)))))))
   obtain rfl := si b
   exact ⟨_, rfl, ⟨D, _, _, rfl, pt, us, A, rfl⟩⟩
  refine W.exit (thx ?_)
  obtain rfl := si H
  exact ⟨_, rfl, rfl, ⟨g, _, _, rfl, pt, us, k, rfl⟩⟩
 ·exact ⟨c0, _, _, rfl, pt, us, O0, rfl⟩
 rcases i with i | i
 ·intro i0; revert i0
  rintro _ x y ⟨rfl, f0, t1, _, rfl, x1, rfl, d0, rfl⟩
  refine bkr (thr ?_)
  obtain rfl := si T
  exact r1 ⟨_, f0, rfl, rfl, pt, d0, rfl⟩
 rintro _ x y ⟨rfl, g0, u1, _, rfl, y1, rfl, e0, rfl⟩
 refine bke (nrm (sr (va (B false) (wln (W.ret ?_)))))
 obtain rfl := si T
 exact r1 ⟨_, g0, rfl, rfl, pt, e0, rfl⟩
def f_linotyperef15_picture (p0 : List G_api_Prop) (p1 : Int) : Option (Bool) :=
 (idx p0 p1).bind fun j =>
 (orE (!j.Pict) (some (decide (p1 < 2)))).bind fun i =>
 (orE i ((idx p0 (w64 (p1 - 1))).bind fun e =>
 some (e.Break != 5))).bind fun c =>
 (orE c ((idx p0 (w64 (p1 - 1))).bind fun f =>
 some f.Pict)).bind fun d =>
 if d = true then
 some false
 else
 (iter (σ := Int) (τ := Bool ⊕ Unit) (((w64 (p1 - 2)) - 0).toNat + 2) (fun b =>
 if (decide (b ≥ 0)) = true then
 (idx p0 b).bind fun g =>
 if g.Pict = true then
 some (.inr (.inl true))
 else
 (idx p0 b).bind fun h =>
 if (h.Break != 4) = true then
 some (.inr (.inl false))
 else
 some (.inl ((w64 (b - 1))))
 else
 some (.inr (.inr ()))) ((w64 (p1 - 2)))).bind fun a =>
 match a with
 | .inl a =>
 some a
 | .inr a =>
 some false
theorem c_linotyperef15_picture (u : Own c0 G F) (p0 : List G_api_Prop) (b : Int) {r : Bool} (d : Sl R_api_Prop c0 v1 p0) (H : f_linotyperef15_picture p0 b = some r) :
    Calls prog 265 #[v1, I b] c0.w (Post c0 fun c v => Own c G (F) ∧ v = B r) := by
 unfold f_linotyperef15_picture at H
 refine en func265 rfl rfl (sr (va (B false) (wln (W.seq (W.seq (bn H fun U h3 H => bn H fun u1 h4 H => bn H fun i1 h5 H => bn H fun X x H => W.join (Jn c0 fun c l => Own c G (F) ∧ l = [(0, v1), (1, I b), (32, B X)]) ?_ ?_))))))
 ·clear H
  refine W.region (va (v1) (va (I b) ?_))
  obtain ⟨c2, h8, m9⟩ := Sl.at d (idx_get h3)
  obtain rfl := h8
  refine vx (ix underlying28 d h3) (va (.pointer (some ⟨sb v1, so v1 + b.toNat * 4 + 1, none⟩)) (vx (l1 underlying4 (m9 1 _ rfl)) (va (B (!U.Pict)) ?_)))
  rcases bo (!U.Pict) with g | g
  ·obtain rfl := orT g h4
   refine vb g (ps (ps (va (B true) ?_)))
   have z : true = true := rfl
   obtain rfl := orT z h5
   refine vb z (ps (ps (ps (ps (ps (ps (ps (va (B true) ?_))))))))
   have A : true = true := rfl
   obtain rfl := orT A x
   exact vb A (ps (ps (ps (ps (ps (ps (va (B true) (wln ⟨c0, _, _, rfl, pt, us, u, rfl⟩))))))))
  have g0 := orF g h4
  refine vb g (wn (va (I b) (wn (va (B (decide (b < 2))) ?_))))
  obtain rfl := si g0
  refine va (B (decide (b < 2))) ?_
  rcases bo (decide (b < 2)) with h | h
  ·obtain rfl := orT h h5
   refine vb h (ps (ps (ps (ps (ps (ps (ps (va (B true) ?_))))))))
   have D : true = true := rfl
   obtain rfl := orT D x
   exact vb D (ps (ps (ps (ps (ps (ps (va (B true) (wln ⟨c0, _, _, rfl, pt, us, u, rfl⟩))))))))
  have p := orF h h5
  refine vb h (wn (va (v1) (wn (va (I b) (wn (va (I (w64 (b - 1))) (wn (bn p fun k E p => ?_))))))))
  obtain ⟨k1, o0, a1⟩ := Sl.at d (idx_get E)
  obtain rfl := o0
  refine vx (ix underlying28 d E) (wn (va (.pointer (some ⟨sb v1, so v1 + (w64 (b - 1)).toNat * 4, none⟩)) (wn (vx (l1 underlying3 (a1 0 _ rfl)) (wn (va (B (k.Break != 5)) ?_))))))
  obtain rfl := si p
  refine va (B (k.Break != 5)) ?_
  rcases bo (k.Break != 5) with i | i
  ·obtain rfl := orT i x
   exact vb i (ps (ps (ps (ps (ps (ps (va (B true) (wln ⟨c0, _, _, rfl, pt, us, u, rfl⟩))))))))
  have q := orF i x
  refine vb i (wn (va (v1) (wn (va (I b) (wn (va (I (w64 (b - 1))) (wn (bn q fun e0 M q => ?_))))))))
  obtain ⟨m1, q0, b1⟩ := Sl.at d (idx_get M)
  obtain rfl := q0
  refine vx (ix underlying28 d M) (wn (va (.pointer (some ⟨sb v1, so v1 + (w64 (b - 1)).toNat * 4 + 1, none⟩)) (wn (vx (l1 underlying4 (b1 1 _ rfl)) ?_))))
  obtain rfl := si q
  exact va (B e0.Pict) (wln ⟨c0, _, _, rfl, pt, us, u, rfl⟩)
 rintro Z w_ ⟨f, w1, _, rfl, S, rfl, y, rfl⟩
 refine nrm (cn H (fun t0 H => ?_) (fun t0 H => ?_))
 ·refine sr (va (B false) (wln (W.ret (thr ?_))))
  obtain rfl := si H
  exact r1 ⟨_, f, rfl, rfl, pt, y, rfl⟩
 refine W.skip (nrm (W.seq (sr (va (I b) (va (I (w64 (b - 2))) (va (I (w64 (b - 2))) (wln (W.block (bn H fun j N s => lp N (fun a => Jn f fun c l => Own c G (F) ∧ l = [(0, v1), (5, I a)]) (fun t => match t with | .inl x_ => (fun f1 ex e w => ex = .ret ∧ (Jn f fun c l => Own c G (F) ∧ l = [(4, B f1)]) e w) x_ | .inr x_ => (fun h1 ex e w => ex = .exit 0 ∧ (Jn f fun c l => Own c G (F) ∧ l = []) e w) x_) ?_ ?_ ?_)))))))))
 ·clear s N
  intro a d2 l0 g1 H
  revert l0 g1
  rintro Z w_ ⟨o, x1, _, rfl, T, rfl, n, rfl⟩
  refine W.seq (sr (va (I a) (va (B (decide (a ≥ 0))) (wln (cn H (fun v0 H => ?_) (fun v0 H => ?_))))))
  ·refine W.skip (nrm (W.seq (W.block (W.seq (sr (va (v1) (va (I a) (bn H fun t1 P H => ?_))))))))
   obtain ⟨n1, w0, c1⟩ := Sl.at (d.mono (S.trans T)) (idx_get P)
   obtain rfl := w0
   refine vx (ix underlying28 d.m P) (va (.pointer (some ⟨sb v1, so v1 + a.toNat * 4 + 1, none⟩)) (vx (l1 underlying4 (c1 1 _ rfl)) (wln (cn H (fun x0 H => ?_) (fun x0 H => ?_)))))
   ·refine sr (va (B true) (wln (W.ret (thr (bkr (thr ?_))))))
    obtain rfl := si H
    exact ⟨_, rfl, ⟨rfl, ⟨o, _, _, rfl, pt, us, n, rfl⟩⟩⟩
   refine W.skip (nrm (sr (va (v1) (va (I a) (bn H fun f0 R H => ?_)))))
   obtain ⟨q1, y0, d1⟩ := Sl.at (d.mono (S.trans T)) (idx_get R)
   obtain rfl := y0
   refine vx (ix underlying28 d.m R) (va (.pointer (some ⟨sb v1, so v1 + a.toNat * 4, none⟩)) (vx (l1 underlying3 (d1 0 _ rfl)) (va (B (f0.Break != 4)) (wln (cn H (fun z0 H => ?_) (fun z0 H => ?_))))))
   ·refine sr (va (B false) (wln (W.ret (bkr (thr ?_)))))
    obtain rfl := si H
    exact ⟨_, rfl, ⟨rfl, ⟨o, _, _, rfl, pt, us, n, rfl⟩⟩⟩
   refine W.skip (bkn (nrm (W.region (va (I a) (va (I (w64 (a - 1))) (va (I (w64 (a - 1))) (WL.nil ?_)))))))
   obtain rfl := si H
   exact ⟨_, rfl, ⟨o, _, _, rfl, pt, us, n, rfl⟩⟩
  refine W.exit (thx ?_)
  obtain rfl := si H
  exact ⟨_, rfl, rfl, ⟨o, _, _, rfl, pt, us, n, rfl⟩⟩
 ·exact ⟨f, _, _, rfl, pt, us, y, rfl⟩
 rcases j with j | j
 ·intro m0; revert m0
  rintro _ Z w_ ⟨rfl, j0, y1, _, rfl, a2, rfl, h0, rfl⟩
  refine bkr (thr ?_)
  obtain rfl := si s
  exact r1 ⟨_, j0, rfl, rfl, pt, h0, rfl⟩
 rintro _ Z w_ ⟨rfl, k0, z1, _, rfl, b2, rfl, i0, rfl⟩
 refine bke (nrm (sr (va (B false) (wln (W.ret ?_)))))
 obtain rfl := si s
 exact r1 ⟨_, k0, rfl, rfl, pt, i0, rfl⟩
def f_linotyperef15_Joins (p0 : List G_api_Prop) (p1 : Int) : Option (Bool) :=
 (orE (decide (p1 < 1)) (some (decide (p1 ≥ (p0.length : Int))))).bind fun n =>
 if n = true then
 some false
 else
 (idx p0 (w64 (p1 - 1))).bind fun h =>
 (idx p0 p1).bind fun i =>
 (f_linotyperef14_Join h.Break i.Break).bind fun b =>
 (orE (b == 1) ((f_linotyperef15_conjunct p0 p1).bind fun j =>
 some j)).bind fun c =>
 (orE c ((f_linotyperef15_picture p0 p1).bind fun k =>
 some k)).bind fun d =>
 if d = true then
 some true
 else
 (orE (b != 2) ((idx p0 p1).bind fun l =>
 some (l.Break != 6))).bind fun e =>
 if e = true then
 some false
 else
 (iter (σ := Int × Int) (τ := Int) (((w64 (p1 - 1)) - 0).toNat + 2) (fun a =>
 (andE (decide (a.2 ≥ 0)) ((idx p0 a.2).bind fun m =>
 some (m.Break == 6))).bind fun f =>
 if f = true then
 some (.inl ((w64 (a.1 + 1)), (w64 (a.2 - 1))))
 else
 some (.inr (a.1))) (0, (w64 (p1 - 1)))).bind fun g =>
 some ((g.tmod 2) == 1)
theorem c_linotyperef15_Joins (O0 : Own c0 G F) (q : List G_api_Prop) (b : Int) {r : Bool} (f : Sl R_api_Prop c0 v1 q) (H : f_linotyperef15_Joins q b = some r) :
    Calls prog 238 #[v1, I b] c0.w (Post c0 fun c v => Own c G (F) ∧ v = B r) := by
 unfold f_linotyperef15_Joins at H
 refine en func238 rfl rfl (sr (va (B false) (wln (W.seq (W.seq (bn H fun m1 h3 H => W.join (Jn c0 fun c l => Own c G (F) ∧ l = [(0, v1), (1, I b), (15, B m1)]) ?_ ?_))))))
 ·clear H
  refine W.region (va (I b) (va (B (decide (b < 1))) ?_))
  rcases bo (decide (b < 1)) with M | M
  ·obtain rfl := orT M h3
   exact vb M (ps (ps (ps (ps (va (B true) (wln ⟨c0, _, _, rfl, pt, us, O0, rfl⟩))))))
  have H5 := orF M h3
  refine vb M (wn (va (I b) (wn (va (v1) (wn (vx (ln 3 underlying28 f) (wn (va (B (decide (b ≥ (q.length : Int)))) ?_))))))))
  obtain rfl := si H5
  exact va (B (decide (b ≥ (q.length : Int)))) (wln ⟨c0, _, _, rfl, pt, us, O0, rfl⟩)
 rintro D P ⟨c6, g7, _, rfl, U, rfl, O8, rfl⟩
 refine nrm (cn H (fun q1 H => ?_) (fun q1 H => ?_))
 ·refine sr (va (B false) (wln (W.ret (thr ?_))))
  obtain rfl := si H
  exact r1 ⟨_, c6, rfl, rfl, pt, O8, rfl⟩
 refine W.skip (nrm (W.seq (rD [] (Kp G0 []) O8 ?_)))
 intro h1 p d1
 have e3 : Kp G0 [] h1 := Kp.nil0
 refine ta 0 (v1) (ta 1 (I b) (ta 2 (I (w64 (b - 1))) (bn H fun z0 h0 H => ?_)))
 obtain ⟨q2, s1, g2⟩ := Sl.at (f.mono (U.trans p)) (idx_get h0)
 obtain rfl := s1
 refine tx 3 (fun c' N => ix underlying28 f.m h0) (ta 4 (.pointer (some ⟨sb v1, so v1 + (w64 (b - 1)).toNat * 4, none⟩)) (tx 5 (fun c' N => l1 underlying3 ((mm g2) 0 _ rfl)) (ta 6 (v1) (ta 7 (I b) (bn H fun a1 i0 H => ?_)))))
 obtain ⟨s2, t1, i2⟩ := Sl.at (f.mono (U.trans p)) (idx_get i0)
 obtain rfl := t1
 refine tx 8 (fun c' N => ix underlying28 f.m i0) (ta 9 (.pointer (some ⟨sb v1, so v1 + b.toNat * 4, none⟩)) (tx 10 (fun c' N => l1 underlying3 ((mm i2) 0 _ rfl)) (bn H fun d u1 H => o1 11 (gc 11 (c_linotyperef14_Join d1 z0.Break a1.Break u1) ?_))))
 rintro v30 z t0 ⟨a0, rfl⟩
 have l2 : Kp G0 [] z := Kp.nil0
 refine ⟨.inr l2, ta 12 (I d) (dn (nrm (W.seq (W.seq (bn H fun p2 j0 H => bn H fun w0 E H => W.join (Jn z fun c l => Own c G (F) ∧ l = [(0, v1), (1, I b), (5, I d), (39, B w0)]) ?_ ?_)))))⟩
 ·clear H
  refine W.region (va (I d) (va (B (d == 1)) ?_))
  rcases bo (d == 1) with h | h
  ·obtain rfl := orT h j0
   refine vb h (ps (ps (ps (va (B true) ?_))))
   have k0 : true = true := rfl
   obtain rfl := orT k0 E
   exact vb k0 (ps (ps (ps (va (B true) (wln ⟨z, _, _, rfl, pt, us, a0, rfl⟩)))))
  have s := orF h j0
  refine vb h (wn (va (v1) (wn (va (I b) (wn (bn s fun R x1 s => cl (c_linotyperef15_conjunct a0 q b f.m x1) ?_))))))
  rintro v43 i1 a3 ⟨b0, rfl⟩
  obtain rfl := si s
  refine va (B R) ?_
  rcases bo (R) with i | i
  ·obtain rfl := orT i E
   exact vb i (ps (ps (ps (va (B true) (wln ⟨i1, _, _, rfl, pt, us, b0, rfl⟩)))))
  have t := orF i E
  refine vb i (wn (va (v1) (wn (va (I b) (wn (bn t fun b1 y1 t => cl (c_linotyperef15_picture b0 q b f.m y1) ?_))))))
  rintro v52 j1 b3 ⟨e1, rfl⟩
  obtain rfl := si t
  exact va (B b1) (wln ⟨j1, _, _, rfl, pt, us, e1, rfl⟩)
 rintro D P ⟨n, v2, _, rfl, u0, rfl, y, rfl⟩
 refine nrm (cn H (fun z1 H => ?_) (fun z1 H => ?_))
 ·refine sr (va (B true) (wln (W.ret (thr ?_))))
  obtain rfl := si H
  exact r1 ⟨_, n, rfl, rfl, pt, y, rfl⟩
 refine W.skip (nrm (W.seq (W.seq (bn H fun x0 l0 H => W.join (Jn n fun c l => Own c G (F) ∧ l = [(0, v1), (1, I b), (49, B x0)]) ?_ ?_))))
 ·clear H
  refine W.region (va (I d) (va (B (d != 2)) ?_))
  rcases bo (d != 2) with j | j
  ·obtain rfl := orT j l0
   exact vb j (ps (ps (ps (ps (ps (ps (va (B true) (wln ⟨n, _, _, rfl, pt, us, y, rfl⟩))))))))
  have u := orF j l0
  refine vb j (wn (va (v1) (wn (va (I b) (wn (bn u fun S m0 u => ?_))))))
  obtain ⟨t2, a2, j2⟩ := Sl.at (f.mono (U.trans (p.trans (t0.trans u0)))) (idx_get m0)
  obtain rfl := a2
  refine vx (ix underlying28 f.m m0) (wn (va (.pointer (some ⟨sb v1, so v1 + b.toNat * 4, none⟩)) (wn (vx (l1 underlying3 (j2 0 _ rfl)) (wn (va (B (S.Break != 6)) ?_))))))
  obtain rfl := si u
  exact va (B (S.Break != 6)) (wln ⟨n, _, _, rfl, pt, us, y, rfl⟩)
 rintro D P ⟨o, w2, _, rfl, e2, rfl, d0, rfl⟩
 refine nrm (cn H (fun b2 H => ?_) (fun b2 H => ?_))
 ·refine sr (va (B false) (wln (W.ret (thr ?_))))
  obtain rfl := si H
  exact r1 ⟨_, o, rfl, rfl, pt, d0, rfl⟩
 refine W.skip (nrm (sr (va (I 0) (wln (W.seq (sr (va (I b) (va (I (w64 (b - 1))) (va (I (w64 (b - 1))) (wln (W.block (bn H fun g o0 Z => lp o0 (fun a => Jn o fun c l => Own c G (F) ∧ l = [(0, v1), (6, I a.1), (7, I a.2)]) (fun X ex e w => ex = .exit 0 ∧ (Jn o fun c l => Own c G (F) ∧ l = [(6, I X)]) e w) ?_ ?_ ?_))))))))))))
 ·clear Z o0
  intro a f3 n1 m2 H
  revert n1 m2
  rintro D P ⟨A, x2, _, rfl, f2, rfl, e0, rfl⟩
  refine W.seq (W.seq (bn H fun y0 q0 H => W.join (Jn A fun c l => Own c G (F) ∧ l = [(0, v1), (6, I a.1), (7, I a.2), (61, B y0)]) ?_ ?_))
  ·clear H
   refine W.region (va (I a.2) (va (B (decide (a.2 ≥ 0))) ?_))
   rcases bo (decide (a.2 ≥ 0)) with k | k
   ·have x := anT k q0
    refine vb k (wn (va (v1) (wn (va (I a.2) (wn (bn x fun T s0 x => ?_))))))
    obtain ⟨u2, c2, k2⟩ := Sl.at (f.mono (U.trans (p.trans (t0.trans (u0.trans (e2.trans f2)))))) (idx_get s0)
    obtain rfl := c2
    refine vx (ix underlying28 f.m s0) (wn (va (.pointer (some ⟨sb v1, so v1 + a.2.toNat * 4, none⟩)) (wn (vx (l1 underlying3 (k2 0 _ rfl)) (wn (va (B (T.Break == 6)) ?_))))))
    obtain rfl := si x
    exact va (B (T.Break == 6)) (wln ⟨A, _, _, rfl, pt, us, e0, rfl⟩)
   obtain rfl := anF k q0
   exact vb k (ps (ps (ps (ps (ps (ps (va (B false) (wln ⟨A, _, _, rfl, pt, us, e0, rfl⟩))))))))
  rintro D P ⟨g0, y2, _, rfl, c3, rfl, f0, rfl⟩
  refine nrm (cn H (fun d2 H => ?_) (fun d2 H => ?_))
  ·refine W.skip (nrm (W.seq (W.block (W.region (va (I a.1) (va (I (w64 (a.1 + 1))) (va (I (w64 (a.1 + 1))) (WL.nil (bkn (nrm (W.region (va (I a.2) (va (I (w64 (a.2 - 1))) (va (I (w64 (a.2 - 1))) (WL.nil ?_)))))))))))))))
   obtain rfl := si H
   exact ⟨_, rfl, ⟨g0, _, _, rfl, pt, us, f0, rfl⟩⟩
  refine W.exit (thx ?_)
  obtain rfl := si H
  exact ⟨_, rfl, rfl, ⟨g0, _, _, rfl, pt, us, f0, rfl⟩⟩
 ·exact ⟨o, _, _, rfl, pt, us, d0, rfl⟩
 rintro _ D P ⟨rfl, k1, z2, _, rfl, d3, rfl, g1, rfl⟩
 refine bke (nrm (sr (va (I g) (va (I (g.tmod 2)) (va (B ((g.tmod 2) == 1)) (va (B ((g.tmod 2) == 1)) (wln (W.ret ?_))))))))
 obtain rfl := si Z
 exact r1 ⟨_, k1, rfl, rfl, pt, g1, rfl⟩
def f_linotyperef16_Starts (p0 : List Int) : Option (List Int) :=
 (f_linotyperef16_Props p0).bind fun b =>
 (iter (σ := (List Int) × Int) (τ := (List Int)) (((b.length : Int) - 0).toNat + 1) (fun a =>
 if (decide (a.2 < (b.length : Int))) = true then
 ((f_linotyperef15_Joins b a.2).bind fun d =>
 if (!d) = true then
 (app a.1 ([a.2] : List Int)).bind fun e =>
 some (e)
 else
 some (a.1)).bind fun f =>
 some (.inl (f, (w64 (a.2 + 1))))
 else
 some (.inr (a.1))) (([] : List Int), 0)).bind fun c =>
 some c
theorem c_linotyperef16_Starts (O0 : Own c0 G F) (x : List Int) {r : List Int} (h2 : Sl (RI .i32) c0 v1 x) (H : f_linotyperef16_Starts x = some r) :
    Calls prog 188 #[v1] c0.w (Post c0 fun c v => ∃ A y2, Own c G (es true (RI .i64) A 3 y2 r :: F) ∧ v = A ∧ OA (RI .i64) c A y2 r) := by
 unfold f_linotyperef16_Starts at H
 refine en func188 rfl rfl (sr (va (Y) (wln (sr (va (Y) (wln (sr (va (v1) (bn H fun f h3 H => cl (c_linotyperef16_Props O0 x h2 h3) ?_)))))))))
 rintro v4 k q1 ⟨_, y, O8, rfl, u⟩
 refine va (v4) (wln (W.seq (sr (va (I 0) (wln (W.block (bn H fun g1 t p => lp t (fun a => Jn k fun c l => ∃ v15 d, Own c G (es true (RI .i64) v15 3 d a.1 :: es false R_api_Prop v4 33 y f :: F) ∧ l = [(3, v15), (4, v4), (5, I a.2)] ∧ OA (RI .i64) c v15 d a.1) (fun g ex e w => ex = .exit 0 ∧ (Jn k fun c l => ∃ v17 h, Own c G (es true (RI .i64) v17 3 h g :: es false R_api_Prop v4 33 y f :: F) ∧ l = [(3, v17)] ∧ OA (RI .i64) c v17 h g) e w) ?_ ?_ ?_)))))))
 ·clear p t
  intro a c2 g0 a1 H
  revert g0 a1
  rintro e_ w_ ⟨s, k1, _, rfl, x0, rfl, v15, d, j, rfl, n⟩
  refine W.seq (sr (va (I a.2) (va (v4) (vx (lnO 3 underlying28 u.m) (va (B (decide (a.2 < (f.length : Int)))) (wln (cn H (fun h0 H => ?_) (fun h0 H => ?_))))))))
  ·refine W.skip (nrm (bn H fun o b D => W.seqJ (Jn s fun c l => ∃ v29 i, Own c G (es true (RI .i64) v29 3 i o :: es false R_api_Prop v4 33 y f :: F) ∧ l = [(3, v29), (4, v4), (5, I a.2)] ∧ OA (RI .i64) c v29 i o) ?_ ?_))
   ·refine W.block (sr (va (v4) (va (I a.2) ?_)))
    have i0 := j.slf 1 rfl (u.mono x0)
    refine bn b fun z j0 b => cl (c_linotyperef15_Joins j f a.2 i0 j0) ?_
    rintro v38 Z s1 ⟨q, rfl⟩
    refine va (B (!z)) (wln (cn b (fun k0 b => ?_) (fun k0 b => ?_)))
    ·refine W.region (va (v15) (va (I a.2) (me (sl (RI .i64) 3 [[I a.2]] ([a.2] : List Int) q ⟨rfl, trivial⟩) ?_)))
     rintro v44 i1 t1 ⟨b2, E, l0⟩
     obtain ⟨j1, o0, u1, M, m0⟩ := E.frz 0 rfl l0
     refine WL.gh o0 (bn b fun h1 q0 b => me (ap (RI .i64) (I 0) 8 204 1 M n.m m0 q0 underlying204) ?_)
     rintro v54 a0 w1 ⟨y0, N, s0⟩
     refine va (v54) (WL.nil (bkn (nrm ?_)))
     obtain rfl := si b
     have P := N.sD 3 [1, 2]
     exact ⟨a0, _, _, rfl, pt, us, v54, y0, P, rfl, s0⟩
    refine W.skip (bkn (nrm ?_))
    obtain rfl := si b
    exact ⟨Z, _, _, rfl, pt, us, v15, d, q, rfl, n.m⟩
   rintro e_ w_ ⟨b0, m1, _, rfl, x1, rfl, v29, i, R, rfl, t0⟩
   refine W.region (va (I a.2) (va (I (w64 (a.2 + 1))) (va (I (w64 (a.2 + 1))) (WL.nil ?_))))
   obtain rfl := si D
   exact ⟨_, rfl, ⟨b0, _, _, rfl, pt, us, v29, i, R, rfl, t0⟩⟩
  refine W.exit (thx ?_)
  obtain rfl := si H
  exact ⟨_, rfl, rfl, ⟨s, _, _, rfl, pt, us, v15, d, j, rfl, n⟩⟩
 ·have u0 : OA (RI .i64) k (Y) [] [] := OA.nil (Nat.succ_pos _)
  have S := O8.addHole (e := es true (RI .i64) (Y) 3 [] ([] : List Int)) rfl
  obtain ⟨d0, v0, z1, T, p1⟩ := S.frz 1 rfl u
  exact ⟨d0, _, _, v0.symm, pt, us, (Y), [], T, rfl, u0.m⟩
 rintro _ e_ w_ ⟨rfl, e0, n1, _, rfl, a2, rfl, v17, h, U, rfl, w0⟩
 refine bke (nrm (sr (va (v17) (va (v17) (wln (W.ret ?_))))))
 obtain rfl := si p
 have X := U.sD 2 [0]
 exact r1 ⟨_, e0, rfl, rfl, pt, v17, h, X, rfl, w0⟩
def f_linotyperef16_Clusters (p0 : List Int) : Option (List (List Int)) :=
 (f_linotyperef16_Starts p0).bind fun i =>
 (app i ([(p0.length : Int)] : List Int)).bind fun b =>
 (iter (σ := (List (List Int)) × Int) (τ := (List (List Int))) (((b.length : Int) - (w64 (0 + 1))).toNat + 1) (fun a =>
 if (decide ((w64 (a.2 + 1)) < (b.length : Int))) = true then
 (idx b a.2).bind fun d =>
 (idx b (w64 (a.2 + 1))).bind fun e =>
 (slc p0 d e).bind fun f =>
 (app ([] : List Int) f).bind fun g =>
 (app a.1 ([g] : List (List Int))).bind fun h =>
 some (.inl (h, (w64 (a.2 + 1))))
 else
 some (.inr (a.1))) (([] : List (List Int)), 0)).bind fun c =>
 some c
theorem c_linotyperef16_Clusters (O0 : Own c0 G F) (g : List Int) {r : List (List Int)} (h2 : Sl (RI .i32) c0 v1 g) (H : f_linotyperef16_Clusters g = some r) :
    Calls prog 119 #[v1] c0.w (Post c0 fun c v => ∃ y1 y2, Own c G (es true (RL (RI .i32)) y1 27 y2 r :: F) ∧ v = y1 ∧ OA (RL (RI .i32)) c y1 y2 r) := by
 unfold f_linotyperef16_Clusters at H
 refine en func119 rfl rfl (sr (va (Y) (wln (sr (va (Y) (wln (sr (va (v1) (bn H fun b4 h3 H => cl (c_linotyperef16_Starts O0 g h2 h3) ?_)))))))))
 rintro v4 l3 f2 ⟨_, u5, O8, rfl, h6⟩
 refine va (v1) (vx (ln 3 underlying27 h2.m) (me (sl (RI .i64) 3 [[I (g.length : Int)]] ([(g.length : Int)] : List Int) O8 ⟨rfl, trivial⟩) ?_))
 rintro v17 m3 l16 ⟨e0, s0, g1⟩
 obtain ⟨n3, i1, g2, t0, h1⟩ := s0.frz 0 rfl g1
 refine WL.gh i1 (bn H fun b j1 H => me (ap (RI .i64) (I 0) 8 204 1 t0 h6.m h1 j1 underlying204) ?_)
 rintro v27 h i2 ⟨d, u0, f⟩
 refine va (v27) (wln (W.seq (sr (va (I 0) (wln (W.block (bn H fun g3 Z y => lp Z (fun a => Jn h fun c l => ∃ v30 o, Own c G (es true (RL (RI .i32)) v30 27 o a.1 :: es false (RI .i64) v17 3 e0 ([(g.length : Int)] : List Int) :: es true (RI .i64) v27 3 d b :: F) ∧ l = [(0, v1), (3, v30), (4, v27), (5, I a.2)] ∧ OA (RL (RI .i32)) c v30 o a.1) (fun n ex e w => ex = .exit 0 ∧ (Jn h fun c l => ∃ v32 p, Own c G (es true (RL (RI .i32)) v32 27 p n :: es false (RI .i64) v17 3 e0 ([(g.length : Int)] : List Int) :: es true (RI .i64) v27 3 d b :: F) ∧ l = [(3, v32)] ∧ OA (RL (RI .i32)) c v32 p n) e w) ?_ ?_ ?_)))))))
 ·clear y Z
  intro a c4 f1 v2 H
  revert f1 v2
  rintro e_ w_ ⟨x0, o3, _, rfl, t, rfl, v30, o, z, rfl, a0⟩
  refine W.seq (sr (va (I a.2) (va (I (w64 (a.2 + 1))) (va (v27) (vx (lnO 3 underlying204 f.m) (va (B (decide ((w64 (a.2 + 1)) < (b.length : Int)))) (wln (cn H (fun k1 H => ?_) (fun k1 H => ?_)))))))))
  ·refine W.skip (nrm (W.seq (W.block (rD [] (Kp G0 [es true (RI .i64) v27 3 d b]) z ?_))))
   intro y0 u A
   have d0 : Kp G0 [es true (RI .i64) v27 3 d b] y0 := (Kp.cons (A.on 2 rfl) Kp.nil0)
   refine ta 0 (v30) (ta 2 (v1) (ta 3 (v27) (ta 4 (I a.2) (bn H fun l0 q H => tx 5 (fun x i => ixO underlying204 f.m q) ?_))))
   obtain ⟨e3, m1, l2⟩ := OA.at (f.mono (t.trans u)) q
   obtain rfl := m1
   refine AC.takeK 6 (I l0) d0 rfl (by kernel_rfl) (by kernel_rfl) (by kernel_rfl) (fun x i hk => (rx (by kernel_rfl) (ldE1 underlying3 rfl (hk.on 0 rfl) (f.m.blk q) (at1 (j := 0) l2 rfl)))) (ta 7 (v27) (ta 8 (I a.2) (ta 9 (I (w64 (a.2 + 1))) (bn H fun m0 s H => tx 10 (fun x i => ixO underlying204 f.m s) ?_))))
   obtain ⟨f3, n1, m2⟩ := OA.at (f.mono (t.trans u)) s
   obtain rfl := n1
   refine AC.takeK 11 (I m0) d0 rfl (by kernel_rfl) (by kernel_rfl) (by kernel_rfl) (fun x i hk => (rx (by kernel_rfl) (ldE1 underlying3 rfl (hk.on 0 rfl) (f.m.blk s) (at1 (j := 0) m2 rfl)))) (bn H fun j3 p1 H => ?_)
   obtain ⟨v54, q1, s1⟩ := run_cut (k := .i64) (k' := .i64) underlying27 (by kernel_rfl) (h2.mono (f2.trans (l16.trans (g2.trans (i2.trans (t.trans u)))))) p1
   refine AC.take 12 (v54) rfl (by kernel_rfl) (by kernel_rfl) (fun x i => (rx (by kernel_rfl) (q1 _))) (o1 1 (gm 1 (sl (RI .i32) 21 [] ([] : List Int) A trivial) ?_))
   rintro y3 z0 p3 ⟨v3, D, t1⟩
   have n2 : Kp G0 [es true (RI .i64) v27 3 d b] z0 := (Kp.cons (D.on 3 rfl) Kp.nil0)
   refine ⟨.inr n2, bn H fun o0 u1 H => o1 13 (gm 13 (ap (RI .i32) (J 0) 4 27 0 D t1 s1.m u1 underlying27) ?_)⟩
   rintro z3 a1 q3 ⟨w3, E, w1⟩
   have o2 : Kp G0 [es true (RI .i64) v27 3 d b] a1 := (Kp.cons (E.on 3 rfl) Kp.nil0)
   refine ⟨.inr o2, ?_⟩
   obtain ⟨b1, x1, j2, M, b0⟩ := E.frz 0 rfl w1
   have p2 : Kp G0 [es true (RI .i64) v27 3 d b] b1 := (Kp.cons (M.on 3 rfl) Kp.nil0)
   refine AC.gh x1 j2 (fun _ => p2) ?_
   obtain ⟨S, T, U, rfl⟩ := (b0).form
   refine o1 14 (gm 14 (sl (RL (RI .i32)) 27 [[.slice S T U]] ([o0] : List (List Int)) M ⟨⟨(.slice S T U), rfl, b0⟩, trivial⟩) ?_)
   rintro a4 c1 s3 ⟨x3, N, z1⟩
   have q2 : Kp G0 [es true (RI .i64) v27 3 d b] c1 := (Kp.cons (N.on 4 rfl) Kp.nil0)
   refine ⟨.inr q2, ?_⟩
   obtain ⟨d1, b2, k2, P, a2⟩ := N.frz 0 rfl z1
   have s2 : Kp G0 [es true (RI .i64) v27 3 d b] d1 := (Kp.cons (P.on 4 rfl) Kp.nil0)
   refine AC.gh b2 k2 (fun _ => s2) (bn H fun k3 c2 H => o1 15 (gm 15 (ap (RL (RI .i32)) (Y) 24 172 2 P a0.m a2 c2 underlying172) ?_))
   rintro f0 X t3 ⟨u2, R, d2⟩
   have t2 : Kp G0 [es true (RI .i64) v27 3 d b] X := (Kp.cons (R.on 4 rfl) Kp.nil0)
   refine ⟨.inr t2, ta 16 (f0) (dn (bkn (nrm (W.region (va (I a.2) (va (I (w64 (a.2 + 1))) (va (I (w64 (a.2 + 1))) (WL.nil ?_))))))))⟩
   obtain rfl := si H
   refine ⟨_, rfl, ?_⟩
   have v0 := R.sD 5 [2, 3, 4]
   exact ⟨X, _, _, rfl, pt, us, f0, u2, v0, rfl, d2⟩
  refine W.exit (thx ?_)
  obtain rfl := si H
  exact ⟨_, rfl, rfl, ⟨x0, _, _, rfl, pt, us, v30, o, z, rfl, a0⟩⟩
 ·have e2 : OA (RL (RI .i32)) h (Y) [] [] := OA.nil (Nat.succ_pos _)
  have w0 := u0.addHole (e := es true (RL (RI .i32)) (Y) 27 [] ([] : List (List Int))) rfl
  exact ⟨h, _, _, rfl, pt, us, (Y), [], w0, rfl, e2⟩
 rintro _ e_ w_ ⟨rfl, e1, b3, _, rfl, u3, rfl, v32, p, g0, rfl, i0⟩
 refine bke (nrm (sr (va (v32) (va (v32) (wln (W.ret ?_))))))
 obtain rfl := si y
 have h0 := g0.sD 3 [0]
 exact r1 ⟨_, e1, rfl, rfl, pt, v32, p, h0, rfl, i0⟩
def f_linotyperef21_First (p0 : List Int) : Option (List Int) :=
 (slc p0 0 (imin (p0.length : Int) 16)).bind fun a =>
 (app ([] : List Int) a).bind fun b =>
 some b
theorem c_linotyperef21_First (n : Own c0 G F) (a : List Int) {r : List Int} (j : Sl (RI .i32) c0 v1 a) (H : f_linotyperef21_First a = some r) :
    Calls prog 121 #[v1] c0.w (Post c0 fun c v => ∃ b l, Own c G (es true (RI .i32) b 21 l r :: F) ∧ v = b ∧ OA (RI .i32) c b l r) := by
 unfold f_linotyperef21_First at H
 refine en func121 rfl rfl (sr (va (Y) (wln (sr (me (sl (RI .i32) 21 [] ([] : List Int) n trivial) ?_)))))
 rintro v7 x s ⟨y, o, p⟩
 refine va (v1) (va (v1) (vx (ln 3 underlying27 j.m) (va (I (imin (a.length : Int) 16)) (bn H fun t q H => ?_))))
 obtain ⟨v9, f, g⟩ := run_cutH (k' := .i64) underlying27 (by kernel_rfl) (j.mono s) q
 refine vr v9 (rx (by kernel_rfl) (f _)) (bn H fun u h H => me (ap (RI .i32) (J 0) 4 27 0 o p g h underlying27) ?_)
 rintro v17 e l16 ⟨k, d, i⟩
 refine va (v17) (wln (W.ret ?_))
 obtain rfl := si H
 exact r1 ⟨_, e, rfl, rfl, pt, v17, k, d, rfl, i⟩
def f_linotyperef19_Of (p0 : List Int) : Option (Int) :=
 (iter (σ := (List G_api_Prop) × Int) (τ := (List G_api_Prop)) (((p0.length : Int) - 0).toNat + 1) (fun a =>
 if (decide (a.2 < (p0.length : Int))) = true then
 (idx p0 a.2).bind fun b =>
 (f_linotyperef13_Of b).bind fun c =>
 (app a.1 ([c] : List G_api_Prop)).bind fun d =>
 some (.inl (d, (w64 (a.2 + 1))))
 else
 some (.inr (a.1))) (([] : List G_api_Prop), 0)).bind fun f =>
 (f_linotyperef19_Row p0 f).bind fun e =>
 some e
theorem c_linotyperef19_Of (O0 : Own c0 G F) (h : List Int) {r : Int} (g : Sl (RI .i32) c0 v1 h) (H : f_linotyperef19_Of h = some r) :
    Calls prog 235 #[v1] c0.w (Post c0 fun c v => Own c G (F) ∧ v = I r) := by
 unfold f_linotyperef19_Of at H
 refine en func235 rfl rfl (sr (va (I 0) (wln (sr (va (Y) (wln (W.seq (sr (va (I 0) (wln (W.block (bn H fun l0 X f => lp X (fun a => Jn c0 fun c l => ∃ v5 i, Own c G (es true R_api_Prop v5 33 i a.1 :: F) ∧ l = [(0, v1), (3, v5), (4, I a.2)] ∧ OA R_api_Prop c v5 i a.1) (fun d ex e w => ex = .exit 0 ∧ (Jn c0 fun c l => ∃ v7 o, Own c G (es true R_api_Prop v7 33 o d :: F) ∧ l = [(0, v1), (3, v7)] ∧ OA R_api_Prop c v7 o d) e w) ?_ ?_ ?_))))))))))))
 ·clear f X
  intro a q1 R o0 H
  revert R o0
  rintro e_ w_ ⟨c9, d1, _, rfl, l9, rfl, v5, i, j, rfl, k⟩
  refine W.seq (sr (va (I a.2) (va (v1) (vx (ln 3 underlying27 g.m) (va (B (decide (a.2 < (h.length : Int)))) (wln (cn H (fun S H => ?_) (fun S H => ?_))))))))
  ·refine W.skip (nrm (W.seq (W.block (W.region (va (v5) (va (v1) (va (I a.2) (bn H fun p n H => ?_))))))))
   obtain ⟨v0, T, k0⟩ := Sl.at (g.mono l9) (idx_get n)
   obtain rfl := T
   refine vx (ix underlying27 g.m n) (vx (l1 underlying21 (k0 0 _ rfl)) (bn H fun b U H => cl (c_linotyperef13_Of j p U) ?_))
   rintro v27 y0 f1 ⟨s, rfl⟩
   refine me (sl R_api_Prop 33 [[I b.Break, B b.Pict, I b.Conj, I b.East]] ([b] : List G_api_Prop) s ⟨rfl, trivial⟩) ?_
   rintro v32 z0 g1 ⟨n1, t, Z⟩
   obtain ⟨a1, b0, h1, u, a0⟩ := t.frz 0 rfl Z
   refine WL.gh b0 (bn H fun x0 d0 H => me (ap R_api_Prop (.agg #[I 0, B false, I 0, I 0]) 32 28 1 u k.m a0 d0 underlying28) ?_)
   rintro v42 N i1 ⟨m0, x, e0⟩
   refine va (v42) (WL.nil (bkn (nrm (W.region (va (I a.2) (va (I (w64 (a.2 + 1))) (va (I (w64 (a.2 + 1))) (WL.nil ?_))))))))
   obtain rfl := si H
   refine ⟨_, rfl, ?_⟩
   have y := x.sD 2 [1]
   exact ⟨N, _, _, rfl, pt, us, v42, m0, y, rfl, e0⟩
  refine W.exit (thx ?_)
  obtain rfl := si H
  exact ⟨_, rfl, rfl, ⟨c9, _, _, rfl, pt, us, v5, i, j, rfl, k⟩⟩
 ·have f0 : OA R_api_Prop c0 (Y) [] [] := OA.nil (Nat.succ_pos _)
  have z := O0.addHole (e := es true R_api_Prop (Y) 33 [] ([] : List G_api_Prop)) rfl
  exact ⟨c0, _, _, rfl, pt, us, (Y), [], z, rfl, f0⟩
 rintro _ e_ w_ ⟨rfl, b1, e1, _, rfl, j1, rfl, v7, o, A, rfl, g0⟩
 refine bke (nrm (sr (va (v1) (va (v7) ?_))))
 obtain ⟨c1, i0, k1, D, h0⟩ := A.frz 0 rfl g0
 refine WL.gh i0 (bn f fun q j0 f => cl (c_linotyperef19_Row D h l0 g.m h0 j0) ?_)
 rintro p1 P m1 ⟨E, rfl⟩
 refine va (I q) (wln (W.ret ?_))
 obtain rfl := si f
 have M := E.sD 1 []
 exact r1 ⟨_, P, rfl, rfl, pt, M, rfl⟩
def f_linotyperef21_Wide (p0 : List Int) : Option (Int) :=
 (idx p0 0).bind fun c =>
 (f_linotyperef18_Silent c).bind fun d =>
 if d = true then
 some 0
 else
 (f_linotyperef21_First p0).bind fun a =>
 (f_linotyperef19_Of a).bind fun b =>
 some b
theorem c_linotyperef21_Wide (y : Own c0 G F) (b : List Int) {r : Int} (a : Sl (RI .i32) c0 v1 b) (H : f_linotyperef21_Wide b = some r) :
    Calls prog 185 #[v1] c0.w (Post c0 fun c v => Own c G (F) ∧ v = I r) := by
 unfold f_linotyperef21_Wide at H
 refine en func185 rfl rfl (sr (va (I 0) (wln (W.seq (sr (va (v1) (bn H fun x u H => ?_)))))))
 obtain ⟨T, z, D⟩ := Sl.at a (idx_get u)
 obtain rfl := z
 refine vx (ix underlying27 a u) (vx (l1 underlying21 (D 0 _ rfl)) (bn H fun X A H => cl (c_linotyperef18_Silent y x A) ?_))
 rintro v13 k N ⟨j, rfl⟩
 refine wln (cn H (fun n H => ?_) (fun n H => ?_))
 ·refine sr (va (I 0) (wln (W.ret (thr ?_))))
  obtain rfl := si H
  exact r1 ⟨_, k, rfl, rfl, pt, j, rfl⟩
 refine W.skip (nrm (sr (va (v1) (bn H fun d o H => cl (c_linotyperef21_First j b a.m o) ?_))))
 rintro v16 E P ⟨_, U, f, rfl, p⟩
 obtain ⟨M, s, R, g, q⟩ := f.frz 0 rfl p
 refine WL.gh s (bn H fun e t H => cl (c_linotyperef19_Of g d q t) ?_)
 rintro v35 l S ⟨h, rfl⟩
 refine va (I e) (wln (W.ret ?_))
 obtain rfl := si H
 have i := h.sD 1 []
 exact r1 ⟨_, l, rfl, rfl, pt, i, rfl⟩
end Go.Proofs.YthokmpbbkpjhbaaGreatDoor
namespace Go.Proofs.YthokmpbbkpjhbaaGreatDoor
open Go Go.Lt
set_option maxRecDepth 10000
set_option linter.unusedVariables false
attribute [local irreducible] W WL AC
open Tryz
variable {c0 : Cx} {G : Gm} {F : List En} {sg : Sto} {v1 v2 v3 v4 v5 v6 v7 v8 v9 v10 v11 v12 v13 v14 v15 v16 v17 v18 v19 v20 v21 v22 v23 v24 v25 v26 v27 v28 v29 v30 v31 v32 v33 v34 v35 v36 v37 v38 v39 v40 v41 v42 v43 v44 v45 v46 v47 v48 v49 v50 v51 v52 v53 v54 v55 v56 v57 v58 v59 v60 : Value}
def f_linotyperef37_Lay (p0 : G_linotyperef34_Pen) (p1 : List Int) : Option (G_linotyperef34_Pen) :=
 (f_linotyperef16_Clusters p1).bind fun c =>
 (iter (σ := Int × (List G_api_Line) × Int × Int × Bool × Bool) (τ := ((List G_api_Line) × Int × Int × Bool × Bool)) (((c.length : Int) - 0).toNat + 1) (fun a =>
 if (decide (a.1 < (c.length : Int))) = true then
 ((idx c a.1).bind fun j =>
 (idx j 0).bind fun k =>
 (f_linotyperef18_Silent k).bind fun l =>
 if (!l) = true then
 (idx c a.1).bind fun m =>
 (idx c a.1).bind fun n =>
 (f_linotyperef21_Wide m).bind fun o =>
 (f_linotyperef21_First n).bind fun p =>
 (f_linotyperef34_Pen_Put (⟨a.2.1, (⟨a.2.2.1, a.2.2.2.1, a.2.2.2.2.1⟩ : G_api_Cursor), a.2.2.2.2.2⟩ : G_linotyperef34_Pen) o p).bind fun f =>
 some (f.1.L, f.1.At.Row, f.1.At.Col, f.1.At.Pending, f.1.Auto)
 else
 (idx c a.1).bind fun i =>
 (iter (σ := Int × (List G_api_Line) × Int × Int × Bool × Bool) (τ := ((List G_api_Line) × Int × Int × Bool × Bool)) (((i.length : Int) - 0).toNat + 1) (fun b =>
 (idx c a.1).bind fun q =>
 if (decide (b.1 < (q.length : Int))) = true then
 (idx c a.1).bind fun r =>
 (idx r b.1).bind fun s =>
 (f_linotyperef36_Do (⟨b.2.1, (⟨b.2.2.1, b.2.2.2.1, b.2.2.2.2.1⟩ : G_api_Cursor), b.2.2.2.2.2⟩ : G_linotyperef34_Pen) s).bind fun g =>
 some (.inl ((w64 (b.1 + 1)), g.1.L, g.1.At.Row, g.1.At.Col, g.1.At.Pending, g.1.Auto))
 else
 some (.inr (b.2.1, b.2.2.1, b.2.2.2.1, b.2.2.2.2.1, b.2.2.2.2.2))) (0, a.2.1, a.2.2.1, a.2.2.2.1, a.2.2.2.2.1, a.2.2.2.2.2)).bind fun e =>
 some (e.1, e.2.1, e.2.2.1, e.2.2.2.1, e.2.2.2.2)).bind fun h =>
 some (.inl ((w64 (a.1 + 1)), h.1, h.2.1, h.2.2.1, h.2.2.2.1, h.2.2.2.2))
 else
 some (.inr (a.2.1, a.2.2.1, a.2.2.2.1, a.2.2.2.2.1, a.2.2.2.2.2))) (0, p0.L, p0.At.Row, p0.At.Col, p0.At.Pending, p0.Auto)).bind fun d =>
 some (⟨d.1, (⟨d.2.1, d.2.2.1, d.2.2.2.1⟩ : G_api_Cursor), d.2.2.2.2⟩ : G_linotyperef34_Pen)
theorem c_linotyperef37_Lay (O0 : Own c0 G F) (y : G_linotyperef34_Pen) (p1 : List Int) {r : G_linotyperef34_Pen} (h2 : Sl R_api_Line c0 v1 y.L) (h4 : Sl (RI .i32) c0 v3 p1) (H : f_linotyperef37_Lay y p1 = some r) :
    Calls prog 117 #[.agg #[v1, I y.At.Row, I y.At.Col, B y.At.Pending, B y.Auto], v3] c0.w (Post c0 fun c v => ∃ y1, Own c G (F) ∧ v = .agg #[y1, I r.At.Row, I r.At.Col, B r.At.Pending, B r.Auto] ∧ Sl R_api_Line c y1 r.L) := by
 unfold f_linotyperef37_Lay at H
 refine en func117 rfl rfl (sr ?_)
 obtain ⟨a5, a6, a7, rfl⟩ := (h2).form
 refine me (al 43 [.slice a5 a6 a7, I y.At.Row, I y.At.Col, B y.At.Pending, B y.Auto] O0) ?_
 rintro v11 t6 w6 ⟨o, rfl, O9⟩
 refine me (al 43 [Y, I 0, I 0, B false, B false] O9) ?_
 rintro v15 u6 x6 ⟨q, rfl, z3⟩
 refine wln (sr (va (v3) (bn H fun k j4 H => cl (c_linotyperef16_Clusters z3 p1 h4.m j4) ?_)))
 rintro v17 x0 y6 ⟨_, n, a4, rfl, i⟩
 refine va (v17) (wln (W.seq (sr (va (I 0) (wln (W.block (bn H fun h x1 t1 => lp x1 (fun a => Jn x0 fun c l => ∃ v28, Own c G (es true (RL (RI .i32)) v17 27 n k :: (Eb q 43 [Y, I 0, I 0, B false, B false]) :: (Eb o 43 [v28, I a.2.2.1, I a.2.2.2.1, B a.2.2.2.2.1, B a.2.2.2.2.2]) :: F) ∧ l = [(2, Q o), (4, Q q), (5, v17), (6, I a.1)] ∧ Sl R_api_Line c v28 a.2.1) (fun t ex e w => ex = .exit 0 ∧ (Jn x0 fun c l => ∃ v29, Own c G (es true (RL (RI .i32)) v17 27 n k :: (Eb q 43 [Y, I 0, I 0, B false, B false]) :: (Eb o 43 [v29, I t.2.1, I t.2.2.1, B t.2.2.2.1, B t.2.2.2.2]) :: F) ∧ l = [(2, Q o), (4, Q q)] ∧ Sl R_api_Line c v29 t.1) e w) ?_ ?_ ?_)))))))
 ·clear t1 x1
  intro a l5 z0 n1 H
  revert z0 n1
  rintro e_ w_ ⟨w1, v6, _, rfl, E, rfl, v28, i0, rfl, e1⟩
  refine W.seq (sr (va (I a.1) (va (v17) (vx (lnO 3 underlying172 i.m) (va (B (decide (a.1 < (k.length : Int)))) (wln (cn H (fun l4 H => ?_) (fun l4 H => ?_))))))))
  ·refine W.skip (nrm (bn H fun x d y3 => W.seqJ (Jn w1 fun c l => ∃ v40, Own c G (es true (RL (RI .i32)) v17 27 n k :: (Eb q 43 [Y, I 0, I 0, B false, B false]) :: (Eb o 43 [v40, I x.2.1, I x.2.2.1, B x.2.2.2.1, B x.2.2.2.2]) :: F) ∧ l = [(2, Q o), (4, Q q), (5, v17), (6, I a.1)] ∧ Sl R_api_Line c v40 x.1) ?_ ?_))
   ·refine W.block (W.seq (sr (va (v17) (va (I a.1) (bn d fun r6 f1 d => vx (ixO underlying172 i.m f1) ?_)))))
    obtain ⟨j6, m4, c5⟩ := OA.at (i.mono E) f1
    obtain ⟨v45, rfl, z1⟩ := m4
    refine vr v45 (rx (by kernel_rfl) (ldE1 underlying27 rfl (i0.on 0 rfl) (i.m.blk f1) (at1 (j := 0) c5 rfl))) (bn d fun o3 a2 d => ?_)
    obtain ⟨k6, n4, d5⟩ := Sl.at z1 (idx_get a2)
    obtain rfl := n4
    refine vx (ix underlying27 z1 a2) (vx (l1 underlying21 (d5 0 _ rfl)) (bn d fun p3 o4 d => cl (c_linotyperef18_Silent i0 o3 o4) ?_))
    rintro v57 y0 e0 ⟨u1, rfl⟩
    refine va (B (!p3)) (wln (cn d (fun p4 d => ?_) (fun p4 d => ?_)))
    ·refine W.seq (rD [15] (Kp G0 [(Eb o 43 [v28, I a.2.2.1, I a.2.2.2.1, B a.2.2.2.2.1, B a.2.2.2.2.2]), es true (RL (RI .i32)) v17 27 n k]) u1 ?_)
     intro e4 b2 j0
     have k1 : Kp G0 [(Eb o 43 [v28, I a.2.2.1, I a.2.2.2.1, B a.2.2.2.2.1, B a.2.2.2.2.2]), es true (RL (RI .i32)) v17 27 n k] e4 := (Kp.cons (j0.on 2 rfl) (Kp.cons (j0.on 0 rfl) Kp.nil0))
     refine tkx 0 k1 (fun z s A => leN 43 0 [v28, I a.2.2.1, I a.2.2.2.1, B a.2.2.2.2.1, B a.2.2.2.2.2] (A.on 0 rfl)) (ta 1 (v17) (ta 2 (I a.1) (bn d fun q3 g1 d => tx 3 (fun z s => ixO underlying172 i.m g1) ?_)))
     obtain ⟨l6, q4, e5⟩ := OA.at (i.mono (E.trans (e0.trans b2))) g1
     obtain ⟨j5, rfl, r4⟩ := q4
     refine AC.takeK 4 (j5) k1 rfl (by kernel_rfl) (by kernel_rfl) (by kernel_rfl) (fun z s A => (rx (by kernel_rfl) (ldE1 underlying27 rfl (A.on 1 rfl) (i.m.blk g1) (at1 (j := 0) e5 rfl)))) (ta 6 (v17) (ta 7 (I a.1) (bn d fun s3 h1 d => tx 8 (fun z s => ixO underlying172 i.m h1) ?_)))
     obtain ⟨m6, s4, f5⟩ := OA.at (i.mono (E.trans (e0.trans b2))) h1
     obtain ⟨k5, rfl, t4⟩ := s4
     refine AC.takeK 9 (k5) k1 rfl (by kernel_rfl) (by kernel_rfl) (by kernel_rfl) (fun z s A => (rx (by kernel_rfl) (ldE1 underlying27 rfl (A.on 1 rfl) (i.m.blk h1) (at1 (j := 0) f5 rfl)))) (bn d fun t3 u4 d => o1 5 (gc 5 (c_linotyperef21_Wide j0 q3 r4 u4) ?_))
     rintro d7 f4 z6 ⟨k0, rfl⟩
     have g5 : Kp G0 [(Eb o 43 [v28, I a.2.2.1, I a.2.2.2.1, B a.2.2.2.2.1, B a.2.2.2.2.2]), es true (RL (RI .i32)) v17 27 n k] f4 := (Kp.cons (k0.on 2 rfl) (Kp.cons (k0.on 0 rfl) Kp.nil0))
     refine ⟨.inr g5, bn d fun u3 v4 d => o1 10 (gc 10 (c_linotyperef21_First k0 s3 t4.m v4) ?_)⟩
     rintro e7 g4 b7 ⟨_, c7, l0, rfl, w4⟩
     have h5 : Kp G0 [(Eb o 43 [v28, I a.2.2.1, I a.2.2.2.1, B a.2.2.2.2.1, B a.2.2.2.2.2]), es true (RL (RI .i32)) v17 27 n k] g4 := (Kp.cons (l0.on 3 rfl) (Kp.cons (l0.on 1 rfl) Kp.nil0))
     refine ⟨.inr h5, ?_⟩
     obtain ⟨i4, y4, b5, m0, x4⟩ := l0.frz 0 rfl w4
     have i5 : Kp G0 [(Eb o 43 [v28, I a.2.2.1, I a.2.2.2.1, B a.2.2.2.2.1, B a.2.2.2.2.2]), es true (RL (RI .i32)) v17 27 n k] i4 := (Kp.cons (m0.on 3 rfl) (Kp.cons (m0.on 1 rfl) Kp.nil0))
     refine AC.gh y4 b5 (fun _ => i5) (bn d fun f z4 d => o1 11 (gc 11 (c_linotyperef34_Pen_Put m0 (⟨a.2.1, (⟨a.2.2.1, a.2.2.2.1, a.2.2.2.2.1⟩ : G_api_Cursor), a.2.2.2.2.2⟩ : G_linotyperef34_Pen) t3 u3 e1.m x4 z4) ?_))
     rintro p6 l2 b6 ⟨c2, o6, M, rfl, X⟩
     have k3 : Kp G0 [(Eb o 43 [v28, I a.2.2.1, I a.2.2.2.1, B a.2.2.2.2.1, B a.2.2.2.2.2]), es true (RL (RI .i32)) v17 27 n k] l2 := (Kp.cons (M.on 4 rfl) (Kp.cons (M.on 2 rfl) Kp.nil0))
     refine ⟨.inr k3, ta 12 (.tuple #[.agg #[c2, I f.1.At.Row, I f.1.At.Col, B f.1.At.Pending, B f.1.Auto], .agg #[I f.2.Row, I f.2.Col, B f.2.Pending]]) (ta 13 (.agg #[c2, I f.1.At.Row, I f.1.At.Col, B f.1.At.Pending, B f.1.Auto]) (ta 14 (.agg #[I f.2.Row, I f.2.Col, B f.2.Pending]) ?_))⟩
     obtain ⟨o0, q0, s0, rfl⟩ := (X).form
     refine o1 15 (gD 15 (sA 43 [.slice o0 q0 s0, I f.1.At.Row, I f.1.At.Col, B f.1.At.Pending, B f.1.Auto] 4 M ⟨(X).one, rfl, rfl, rfl, rfl, trivial⟩) ?_)
     rintro t5 e3 d2
     refine ⟨.inl rfl, dn (nrm (W.exit (thx (bke (nrm ?_)))))⟩
     obtain rfl := si d
     obtain ⟨m2, v2, c6, e2, u2⟩ := d2.frz 0 rfl (X.mono e3)
     have f2 := e2.sD 5 [2, 3, 4]
     exact ⟨m2, _, _, v2.symm, pt, us, (.slice o0 q0 s0), f2, rfl, u2⟩
    refine W.skip (nrm (sr (va (I 0) (wln (W.block (bn d fun n5 _ d => bn d fun n6 a1 f0 => lp a1 (fun b => Jn y0 fun c l => ∃ p, Own c G (es true (RL (RI .i32)) v17 27 n k :: (Eb q 43 [Y, I 0, I 0, B false, B false]) :: (Eb o 43 [p, I b.2.2.1, I b.2.2.2.1, B b.2.2.2.2.1, B b.2.2.2.2.2]) :: F) ∧ l = [(2, Q o), (4, Q q), (5, v17), (6, I a.1), (7, I b.1)] ∧ Sl R_api_Line c p b.2.1) (fun u ex e w => ex = .exit 2 ∧ (Jn y0 fun c l => ∃ D, Own c G (es true (RL (RI .i32)) v17 27 n k :: (Eb q 43 [Y, I 0, I 0, B false, B false]) :: (Eb o 43 [D, I u.2.1, I u.2.2.1, B u.2.2.2.1, B u.2.2.2.2]) :: F) ∧ l = [(2, Q o), (4, Q q), (5, v17), (6, I a.1)] ∧ Sl R_api_Line c D u.1) e w) ?_ ?_ ?_))))))
    ·clear f0 a1
     intro b l5 z0 n1 d
     revert z0 n1
     rintro e_ w_ ⟨n2, v5, _, rfl, i1, rfl, p, N, rfl, b1⟩
     refine W.seq (sr (va (I b.1) (va (v17) (va (I a.1) (bn d fun w3 Z d => vx (ixO underlying172 i.m Z) ?_)))))
     obtain ⟨o5, w2, g3⟩ := OA.at (i.mono (E.trans (e0.trans i1))) Z
     obtain ⟨m3, rfl, x2⟩ := w2
     refine vr m3 (rx (by kernel_rfl) (ldE1 underlying27 rfl (N.on 0 rfl) (i.m.blk Z) (at1 (j := 0) g3 rfl))) (vx (ln 3 underlying27 x2) (va (B (decide (b.1 < (w3.length : Int)))) (wln (cn d (fun y2 d => ?_) (fun y2 d => ?_)))))
     ·refine W.skip (nrm (W.seq (W.block (rD [12] (Kp G0 [(Eb o 43 [p, I b.2.2.1, I b.2.2.2.1, B b.2.2.2.2.1, B b.2.2.2.2.2]), es true (RL (RI .i32)) v17 27 n k]) N ?_))))
      intro o2 f3 P
      have j1 : Kp G0 [(Eb o 43 [p, I b.2.2.1, I b.2.2.2.1, B b.2.2.2.2.1, B b.2.2.2.2.2]), es true (RL (RI .i32)) v17 27 n k] o2 := (Kp.cons (P.on 2 rfl) (Kp.cons (P.on 0 rfl) Kp.nil0))
      refine tkx 0 j1 (fun z s A => leN 43 0 [p, I b.2.2.1, I b.2.2.2.1, B b.2.2.2.2.1, B b.2.2.2.2.2] (A.on 0 rfl)) (ta 1 (v17) (ta 2 (I a.1) (bn d fun s6 a0 d => tx 3 (fun z s => ixO underlying172 i.m a0) ?_)))
      obtain ⟨p5, z2, h3⟩ := OA.at (i.mono (E.trans (e0.trans (i1.trans f3)))) a0
      obtain ⟨n3, rfl, c1⟩ := z2
      refine AC.takeK 4 (n3) j1 rfl (by kernel_rfl) (by kernel_rfl) (by kernel_rfl) (fun z s A => (rx (by kernel_rfl) (ldE1 underlying27 rfl (A.on 1 rfl) (i.m.blk a0) (at1 (j := 0) h3 rfl)))) (ta 5 (I b.1) (bn d fun x3 d1 d => ?_))
      obtain ⟨q5, a3, i3⟩ := Sl.at c1 (idx_get d1)
      obtain rfl := a3
      refine tx 6 (fun z s => ix underlying27 c1 d1) (tx 7 (fun z s => l1 underlying21 ((mm i3) 0 _ rfl)) (bn d fun g b3 d => o1 8 (gc 8 (c_linotyperef36_Do P (⟨b.2.1, (⟨b.2.2.1, b.2.2.2.1, b.2.2.2.2.1⟩ : G_api_Cursor), b.2.2.2.2.2⟩ : G_linotyperef34_Pen) x3 b1.m b3) ?_)))
      rintro q6 p2 d6 ⟨m1, R, rfl, b0⟩
      have l3 : Kp G0 [(Eb o 43 [p, I b.2.2.1, I b.2.2.2.1, B b.2.2.2.2.1, B b.2.2.2.2.2]), es true (RL (RI .i32)) v17 27 n k] p2 := (Kp.cons (R.on 2 rfl) (Kp.cons (R.on 0 rfl) Kp.nil0))
      refine ⟨.inr l3, ta 9 (.tuple #[.agg #[m1, I g.1.At.Row, I g.1.At.Col, B g.1.At.Pending, B g.1.Auto], B g.2]) (ta 10 (.agg #[m1, I g.1.At.Row, I g.1.At.Col, B g.1.At.Pending, B g.1.Auto]) (ta 11 (B g.2) ?_))⟩
      obtain ⟨t0, u0, v0, rfl⟩ := (b0).form
      refine o1 12 (gD 12 (sA 43 [.slice t0 u0 v0, I g.1.At.Row, I g.1.At.Col, B g.1.At.Pending, B g.1.Auto] 2 R ⟨b0.one, rfl, rfl, rfl, rfl, trivial⟩) ?_)
      rintro q2 e6 g2
      refine ⟨.inl rfl, dn (bkn (nrm (W.region (va (I b.1) (va (I (w64 (b.1 + 1))) (va (I (w64 (b.1 + 1))) (WL.nil ?_)))))))⟩
      obtain rfl := si d
      exact ⟨_, rfl, ⟨q2, _, _, rfl, pt, us, (.slice t0 u0 v0), g2, rfl, b0.m⟩⟩
     refine W.exit (thx ?_)
     obtain rfl := si d
     exact ⟨_, rfl, rfl, ⟨n2, _, _, rfl, pt, us, p, N, rfl, b1⟩⟩
    ·exact ⟨y0, _, _, rfl, pt, us, v28, u1, rfl, e1.m⟩
    rintro _ e_ w_ ⟨rfl, s2, w5, _, rfl, f6, rfl, D, i2, rfl, c3⟩
    refine bke (bkn (nrm ?_))
    obtain rfl := si f0
    exact ⟨s2, _, _, rfl, pt, us, D, i2, rfl, c3⟩
   rintro e_ w_ ⟨t2, x5, _, rfl, g6, rfl, v40, j2, rfl, d3⟩
   refine W.region (va (I a.1) (va (I (w64 (a.1 + 1))) (va (I (w64 (a.1 + 1))) (WL.nil ?_))))
   obtain rfl := si y3
   exact ⟨_, rfl, ⟨t2, _, _, rfl, pt, us, v40, j2, rfl, d3⟩⟩
  refine W.exit (thx ?_)
  obtain rfl := si H
  exact ⟨_, rfl, rfl, ⟨w1, _, _, rfl, pt, us, v28, i0, rfl, e1⟩⟩
 ·exact ⟨x0, _, _, rfl, pt, us, (.slice a5 a6 a7), a4, rfl, h2.m⟩
 rintro _ e_ w_ ⟨rfl, u5, y5, _, rfl, h6, rfl, v29, g0, rfl, d0⟩
 refine bke (nrm (sr (vx (leN 43 0 [v29, I h.2.1, I h.2.2.1, B h.2.2.2.1, B h.2.2.2.2] (g0.on 2 rfl)) ?_)))
 obtain ⟨S, T, U, rfl⟩ := (d0).form
 refine md (sA 43 [.slice S T U, I h.2.1, I h.2.2.1, B h.2.2.2.1, B h.2.2.2.2] 1 g0 ⟨d0.one, rfl, rfl, rfl, rfl, trivial⟩) ?_
 rintro w0 i6 h0
 refine wln (W.ret ?_)
 obtain rfl := si t1
 have k2 := h0.sD 3 []
 exact retC (c := w0) (vs := [.slice S T U, I h.2.1, I h.2.2.1, B h.2.2.2.1, B h.2.2.2.2]) rfl (by kernel_rfl) (by kernel_rfl) (by kernel_rfl) (h0.on 1 rfl _ rfl).1 ⟨_, w0, rfl, rfl, pt, (.slice S T U), k2, rfl, d0.m⟩
def f_linotyperef37_Feed_Held (p0 : G_linotyperef37_Feed) : Option (Int) :=
 (f_linotyperef03_Feed ([] : List Int) p0.Raw).bind fun a =>
 some (a.2.length : Int)
theorem c_linotyperef37_Feed_Held (u : Own c0 G F) (a : G_linotyperef37_Feed) {r : Int} (A : Sl R_api_Line c0 v1 a.P.L) (D : Sl (RI .i32) c0 v3 a.Group) (q : Sl (RI .u8) c0 v5 a.Raw) (H : f_linotyperef37_Feed_Held a = some r) :
    Calls prog 52 #[.agg #[v1, I a.P.At.Row, I a.P.At.Col, B a.P.At.Pending, B a.P.Auto, v3, v5, I a.Parts]] c0.w (Post c0 fun c v => Own c G (F) ∧ v = I r) := by
 unfold f_linotyperef37_Feed_Held at H
 refine en func52 rfl rfl (sr ?_)
 obtain ⟨x, y, z, rfl⟩ := (A).form
 obtain ⟨f, g, h, rfl⟩ := (D).form
 obtain ⟨i, j, k, rfl⟩ := (q).form
 refine me (bx 83 [.slice x y z, I a.P.At.Row, I a.P.At.Col, B a.P.At.Pending, B a.P.Auto, .slice f g h, .slice i j k, I a.Parts] u) ?_
 rintro v20 E N ⟨l, rfl, b, s⟩
 refine va (I 0) (wln (sr (va (.pointer (some ⟨l, 0 + 6, none⟩)) (vx (l1 underlying57 (s 6 _ rfl)) (bn H fun t o H => cl (c_linotyperef03_Feed b ([] : List Int) a.Raw (Sl.nl _ _) q.m o) ?_)))))
 rintro v32 n R ⟨v22, S, v25, d, rfl, M, p⟩
 refine va (.tuple #[v22, v25]) (va (v22) (va (v25) (va (v22) (va (v25) (wln (sr (va (v25) (vx (ln 3 underlying169 p) (va (I (t.2.length : Int)) (wln (W.ret ?_)))))))))))
 obtain rfl := si H
 have e := d.sD 1 []
 exact r1 ⟨_, n, rfl, rfl, pt, e, rfl⟩
def f_linotyperef37_Feed_Bytes (p0 : G_linotyperef37_Feed) (p1 : List Int) : Option (G_linotyperef37_Feed) :=
 (app ([] : List Int) p0.Raw).bind fun k =>
 (app k p1).bind fun d =>
 (f_linotyperef04_All d).bind fun c =>
 ((f_linotyperef37_Feed_Held (⟨p0.P, p0.Group, d, p0.Parts⟩ : G_linotyperef37_Feed)).bind fun f =>
 if (decide (f > 0)) = true then
 (slc c 0 (w64 ((c.length : Int) - 1))).bind fun g =>
 some (g)
 else
 some (c)).bind fun b =>
 (iter (σ := Int × (List Int)) (τ := (List Int)) (((b.length : Int) - p0.Parts).toNat + 1) (fun a =>
 if (decide (a.1 < (b.length : Int))) = true then
 (idx b a.1).bind fun h =>
 (app ([] : List Int) a.2).bind fun i =>
 (app i ([h.R] : List Int)).bind fun j =>
 some (.inl ((w64 (a.1 + 1)), j))
 else
 some (.inr (a.2))) (p0.Parts, p0.Group)).bind fun e =>
 some (⟨p0.P, e, d, (b.length : Int)⟩ : G_linotyperef37_Feed)
theorem c_linotyperef37_Feed_Bytes (O0 : Own c0 G F) (a : G_linotyperef37_Feed) (p1 : List Int) {r : G_linotyperef37_Feed} (h2 : Sl R_api_Line c0 v1 a.P.L) (h4 : Sl (RI .i32) c0 v3 a.Group) (h6 : Sl (RI .u8) c0 v5 a.Raw) (h8 : Sl (RI .u8) c0 v7 p1) (H : f_linotyperef37_Feed_Bytes a p1 = some r) :
    Calls prog 47 #[.agg #[v1, I a.P.At.Row, I a.P.At.Col, B a.P.At.Pending, B a.P.Auto, v3, v5, I a.Parts], v7] c0.w (Post c0 fun c v => ∃ y1 y2 y3, Own c G (F) ∧ v = .agg #[y1, I r.P.At.Row, I r.P.At.Col, B r.P.At.Pending, B r.P.Auto, y2, y3, I r.Parts] ∧ Sl R_api_Line c y1 r.P.L ∧ Sl (RI .i32) c y2 r.Group ∧ Sl (RI .u8) c y3 r.Raw) := by
 unfold f_linotyperef37_Feed_Bytes at H
 refine en func47 rfl rfl (sr ?_)
 obtain ⟨j, h, i, rfl⟩ := (h2).form
 obtain ⟨E, M, N, rfl⟩ := (h4).form
 obtain ⟨q6, a16, r6, rfl⟩ := (h6).form
 refine me (al 83 [.slice j h i, I a.P.At.Row, I a.P.At.Col, B a.P.At.Pending, B a.P.Auto, .slice E M N, .slice q6 a16 r6, I a.Parts] O0) ?_
 rintro v21 n9 y9 ⟨g, rfl, k6⟩
 refine me (al 83 [Y, I 0, I 0, B false, B false, Y, Y, I 0] k6) ?_
 rintro v25 o9 z9 ⟨u, rfl, l6⟩
 refine wln (sr (me (sl (RI .u8) 5 [] ([] : List Int) l6 trivial) ?_))
 rintro v30 p9 l29 ⟨u27, o2, x6⟩
 refine va (.pointer (some ⟨g, 6, none⟩)) (vx (le1 6 underlying57 (o2.on 2 rfl)) (bn H fun x_7 y6 H => me (ap (RI .u8) (.int .u8 0) 1 57 0 o2 x6 h6.m y6 underlying57) ?_))
 rintro v36 q9 l35 ⟨u33, m6, z6⟩
 refine va (v7) (bn H fun A a7 H => me (ap (RI .u8) (.int .u8 0) 1 57 0 m6 z6 h8.m a7 underlying57) ?_)
 rintro v42 r9 l41 ⟨a1, n6, z⟩
 refine va (.pointer (some ⟨g, 6, none⟩)) ?_
 obtain ⟨b, d, f, rfl⟩ := (z).form
 refine md (sC 57 6 (.slice b d f) [.slice j h i, I a.P.At.Row, I a.P.At.Col, B a.P.At.Pending, B a.P.Auto, .slice E M N, .slice b d f, I a.Parts] 2 n6 ⟨(z).one, trivial⟩) ?_
 rintro s9 g2 p2
 refine wln (sr (va (.pointer (some ⟨g, 6, none⟩)) (vx (le1 6 underlying57 (p2.on 2 rfl)) ?_)))
 obtain ⟨t9, c7, x2, o6, b7⟩ := p2.frz 0 rfl (z.mono g2)
 refine WL.gh c7 (bn H fun y d7 H => cl (c_linotyperef04_All o6 A b7 d7) ?_)
 rintro v53 t6 z2 ⟨_, b1, w1, rfl, y0⟩
 refine va (v53) (wln (bn H fun s t o => W.seqJ (Jn t6 fun c l => ∃ p, Own c G (es false R_linotyperef04_Got v53 167 b1 y :: es false (RI .u8) (.slice b d f) 5 a1 A :: (Eb u 83 [Y, I 0, I 0, B false, B false, Y, Y, I 0]) :: (Eb g 83 [.slice j h i, I a.P.At.Row, I a.P.At.Col, B a.P.At.Pending, B a.P.Auto, .slice E M N, .slice b d f, I a.Parts]) :: F) ∧ l = [(2, Q g), (4, Q u), (5, p)] ∧ Sl R_linotyperef04_Got c p s) ?_ ?_))
 ·refine sr (vx (leN 83 0 [.slice j h i, I a.P.At.Row, I a.P.At.Col, B a.P.At.Pending, B a.P.Auto, .slice E M N, .slice b d f, I a.Parts] (w1.on 3 rfl)) ?_)
  have f7 := w1.slf 1 rfl (z.mono (g2.trans (x2.trans z2)))
  refine bn t fun j6 g7 t => cl (c_linotyperef37_Feed_Held w1 (⟨a.P, a.Group, A, a.Parts⟩ : G_linotyperef37_Feed) h2.m h4.m f7 g7) ?_
  rintro v72 u9 i2 ⟨q2, rfl⟩
  refine va (B (decide (j6 > 0))) (wln (cn t (fun h7 t => ?_) (fun h7 t => ?_)))
  ·refine W.region (va (v53) (va (v53) (vx (lnO 3 underlying164 y0.m) (va (I (w64 ((y.length : Int) - 1))) (bn t fun l9 i7 t => ?_)))))
   obtain ⟨u6, k7, l77, p6, j7⟩ := q2.frz 0 rfl (y0.mono i2)
   refine WL.gh k7 ?_
   obtain ⟨j2, l7, m7⟩ := run_cutH (k' := .i64) underlying164 (by kernel_rfl) j7 i7
   refine vr j2 (rx (by kernel_rfl) (l7 _)) (va (j2) (wln ?_))
   obtain rfl := si t
   exact ⟨u6, _, _, rfl, pt, us, j2, p6, rfl, m7⟩
  refine W.skip (nrm ?_)
  obtain rfl := si t
  obtain ⟨v6, n7, p7, s2, x9⟩ := q2.frz 0 rfl (y0.mono i2)
  have o7 := s2.slf 0 rfl (y0.mono (i2.trans p7))
  exact ⟨v6, _, _, n7.symm, pt, us, v53, s2, rfl, o7⟩
 rintro e_ w_ ⟨z1, v9, _, rfl, q7, rfl, p, t2, rfl, z0⟩
 refine W.seq (sr (va (.pointer (some ⟨g, 7, none⟩)) (vx (le1 7 underlying3 (t2.on 3 rfl)) (va (I a.Parts) (wln (W.block (bn o fun w8 v2 n2 => lp v2 (fun n => Jn z1 fun c l => ∃ k, Own c G (es false R_linotyperef04_Got v53 167 b1 y :: es false (RI .u8) (.slice b d f) 5 a1 A :: (Eb u 83 [Y, I 0, I 0, B false, B false, Y, Y, I 0]) :: (Eb g 83 [.slice j h i, I a.P.At.Row, I a.P.At.Col, B a.P.At.Pending, B a.P.Auto, k, .slice b d f, I a.Parts]) :: F) ∧ l = [(2, Q g), (4, Q u), (5, p), (6, I n.1)] ∧ Sl (RI .i32) c k n.2) (fun m2 ex e w => ex = .exit 0 ∧ (Jn z1 fun c l => ∃ S, Own c G (es false R_linotyperef04_Got v53 167 b1 y :: es false (RI .u8) (.slice b d f) 5 a1 A :: (Eb u 83 [Y, I 0, I 0, B false, B false, Y, Y, I 0]) :: (Eb g 83 [.slice j h i, I a.P.At.Row, I a.P.At.Col, B a.P.At.Pending, B a.P.Auto, S, .slice b d f, I a.Parts]) :: F) ∧ l = [(2, Q g), (4, Q u), (5, p)] ∧ Sl (RI .i32) c S m2) e w) ?_ ?_ ?_)))))))
 ·clear n2 v2
  intro n xx_ w6 t7 o
  revert w6 t7
  rintro e_ w_ ⟨u2, w9, _, rfl, r7, rfl, k, c1, rfl, D⟩
  refine W.seq (sr (va (I n.1) (va (p) (vx (ln 3 underlying164 z0.m) (va (B (decide (n.1 < (s.length : Int)))) (wln (cn o (fun g4 o => ?_) (fun g4 o => ?_))))))))
  ·refine W.skip (nrm (W.seq (W.block (bn o fun q a2 o => bn o fun m9 m0 o => bn o fun k2 o0 o => W.join (Jn u2 fun c l => ∃ x0 v0 x w0, Own c G (es false (RI .i32) x0 21 v0 ([q.R] : List Int) :: es true (RI .i32) x 21 w0 k2 :: es false R_linotyperef04_Got v53 167 b1 y :: es false (RI .u8) (.slice b d f) 5 a1 A :: (Eb u 83 [Y, I 0, I 0, B false, B false, Y, Y, I 0]) :: (Eb g 83 [.slice j h i, I a.P.At.Row, I a.P.At.Col, B a.P.At.Pending, B a.P.Auto, x, .slice b d f, I a.Parts]) :: F) ∧ l = [(2, Q g), (4, Q u), (5, p), (6, I n.1)] ∧ OA (RI .i32) c x0 v0 ([q.R] : List Int) ∧ OA (RI .i32) c x w0 k2) ?_ ?_))))
   ·clear o
    refine rD [12] (Kp G0 [(Eb g 83 [.slice j h i, I a.P.At.Row, I a.P.At.Col, B a.P.At.Pending, B a.P.Auto, k, .slice b d f, I a.Parts])]) c1 ?_
    intro j3 y4 T
    have i5 : Kp G0 [(Eb g 83 [.slice j h i, I a.P.At.Row, I a.P.At.Col, B a.P.At.Pending, B a.P.Auto, k, .slice b d f, I a.Parts])] j3 := (Kp.cons (T.on 3 rfl) Kp.nil0)
    refine ta 1 (.pointer (some ⟨g, 5, none⟩)) (tkx 2 i5 (fun c' w2 hk => le1 5 underlying27 (hk.on 0 rfl)) (ta 4 (p) (ta 5 (I n.1) ?_)))
    obtain ⟨y7, i4, h5⟩ := Sl.at (z0.mono (r7.trans y4)) (idx_get a2)
    obtain rfl := i4
    refine tx 6 (fun c' w2 => ix underlying164 z0.m a2) (ta 7 (.pointer (some ⟨sb p, so p + n.1.toNat * 5, none⟩)) (tx 8 (fun c' w2 => l1 underlying21 ((mm h5) 0 _ rfl)) (mn2 0 9 ?_ ?_)))
    ·refine gm 0 (sl (RI .i32) 21 [] ([] : List Int) T trivial) ?_
     rintro d9 k3 j8 ⟨x8, U, b2⟩
     have j5 : Kp G0 [(Eb g 83 [.slice j h i, I a.P.At.Row, I a.P.At.Col, B a.P.At.Pending, B a.P.Auto, k, .slice b d f, I a.Parts])] k3 := (Kp.cons (U.on 4 rfl) Kp.nil0)
     refine ⟨.inr j5, mn2 3 9 ?_ ?_⟩
     ·refine gm 3 (ap (RI .i32) (J 0) 4 27 0 U b2 D.m m0 underlying27) ?_
      rintro e9 l3 k8 ⟨y8, d1, j4⟩
      have k5 : Kp G0 [(Eb g 83 [.slice j h i, I a.P.At.Row, I a.P.At.Col, B a.P.At.Pending, B a.P.Auto, k, .slice b d f, I a.Parts])] l3 := (Kp.cons (d1.on 4 rfl) Kp.nil0)
      refine ⟨.inr k5, o1 9 (gm 9 (sl (RI .i32) 21 [[J q.R]] ([q.R] : List Int) d1 ⟨rfl, trivial⟩) ?_)⟩
      rintro e6 m3 l8 ⟨y5, e1, c2⟩
      have l5 : Kp G0 [(Eb g 83 [.slice j h i, I a.P.At.Row, I a.P.At.Col, B a.P.At.Pending, B a.P.Auto, k, .slice b d f, I a.Parts])] m3 := (Kp.cons (e1.on 5 rfl) Kp.nil0)
      refine ⟨.inr l5, ?_⟩
      obtain ⟨n3, l4, z4, f1, k4⟩ := e1.frz 0 rfl c2
      have m5 : Kp G0 [(Eb g 83 [.slice j h i, I a.P.At.Row, I a.P.At.Col, B a.P.At.Pending, B a.P.Auto, k, .slice b d f, I a.Parts])] n3 := (Kp.cons (f1.on 5 rfl) Kp.nil0)
      refine AC.gh l4 z4 (fun _ => m5) (o1 10 (gm 10 (ap (RI .i32) (J 0) 4 27 1 f1 j4.m k4 o0 underlying27) ?_))
      rintro f9 o3 m8 ⟨z5, g1, q0⟩
      have n5 : Kp G0 [(Eb g 83 [.slice j h i, I a.P.At.Row, I a.P.At.Col, B a.P.At.Pending, B a.P.Auto, k, .slice b d f, I a.Parts])] o3 := (Kp.cons (g1.on 5 rfl) Kp.nil0)
      refine ⟨.inr n5, ta 11 (.pointer (some ⟨g, 5, none⟩)) ?_⟩
      obtain ⟨Z, a0, b0, rfl⟩ := (q0).form
      refine o1 12 (gD 12 (sC 27 5 (.slice Z a0 b0) [.slice j h i, I a.P.At.Row, I a.P.At.Col, B a.P.At.Pending, B a.P.Auto, .slice Z a0 b0, .slice b d f, I a.Parts] 5 g1 ⟨(q0).one, trivial⟩) ?_)
      rintro p3 n8 a3
      exact ⟨.inl rfl, dn (nrm ⟨p3, _, _, rfl, pt, us, e6, y5, (.slice Z a0 b0), z5, a3, rfl, c2.m, q0.m⟩)⟩
     refine gm 9 (sl (RI .i32) 21 [[J q.R]] ([q.R] : List Int) U ⟨rfl, trivial⟩) ?_
     rintro f6 q3 o8 ⟨a6, h1, d2⟩
     have o5 : Kp G0 [(Eb g 83 [.slice j h i, I a.P.At.Row, I a.P.At.Col, B a.P.At.Pending, B a.P.Auto, k, .slice b d f, I a.Parts])] q3 := (Kp.cons (h1.on 5 rfl) Kp.nil0)
     refine ⟨.inr o5, o1 3 (gm 3 (ap (RI .i32) (J 0) 4 27 1 h1 b2.m D.m m0 underlying27) ?_)⟩
     rintro g9 s3 a5 ⟨z8, i1, m4⟩
     have p5 : Kp G0 [(Eb g 83 [.slice j h i, I a.P.At.Row, I a.P.At.Col, B a.P.At.Pending, B a.P.Auto, k, .slice b d f, I a.Parts])] s3 := (Kp.cons (i1.on 5 rfl) Kp.nil0)
     refine ⟨.inr p5, ?_⟩
     obtain ⟨t3, o4, b5, j1, n4⟩ := i1.frz 0 rfl (d2.mono a5)
     have q5 : Kp G0 [(Eb g 83 [.slice j h i, I a.P.At.Row, I a.P.At.Col, B a.P.At.Pending, B a.P.Auto, k, .slice b d f, I a.Parts])] t3 := (Kp.cons (j1.on 5 rfl) Kp.nil0)
     refine AC.gh o4 b5 (fun _ => q5) (o1 10 (gm 10 (ap (RI .i32) (J 0) 4 27 1 j1 m4.m n4 o0 underlying27) ?_))
     rintro h9 u3 p8 ⟨b6, k1, s0⟩
     have r5 : Kp G0 [(Eb g 83 [.slice j h i, I a.P.At.Row, I a.P.At.Col, B a.P.At.Pending, B a.P.Auto, k, .slice b d f, I a.Parts])] u3 := (Kp.cons (k1.on 5 rfl) Kp.nil0)
     refine ⟨.inr r5, ta 11 (.pointer (some ⟨g, 5, none⟩)) ?_⟩
     obtain ⟨d0, e0, f0, rfl⟩ := (s0).form
     refine o1 12 (gD 12 (sC 27 5 (.slice d0 e0 f0) [.slice j h i, I a.P.At.Row, I a.P.At.Col, B a.P.At.Pending, B a.P.Auto, .slice d0 e0 f0, .slice b d f, I a.Parts] 5 k1 ⟨(s0).one, trivial⟩) ?_)
     rintro w3 q8 b3
     exact ⟨.inl rfl, dn (nrm ⟨w3, _, _, rfl, pt, us, f6, a6, (.slice d0 e0 f0), b6, b3, rfl, d2.m, s0.m⟩)⟩
    refine gm 9 (sl (RI .i32) 21 [[J q.R]] ([q.R] : List Int) T ⟨rfl, trivial⟩) ?_
    rintro g6 x3 r8 ⟨c6, m1, e2⟩
    have s5 : Kp G0 [(Eb g 83 [.slice j h i, I a.P.At.Row, I a.P.At.Col, B a.P.At.Pending, B a.P.Auto, k, .slice b d f, I a.Parts])] x3 := (Kp.cons (m1.on 4 rfl) Kp.nil0)
    refine ⟨.inr s5, o1 0 (gm 0 (sl (RI .i32) 21 [] ([] : List Int) m1 trivial) ?_)⟩
    rintro i9 z3 c5 ⟨b9, n1, p4⟩
    have t5 : Kp G0 [(Eb g 83 [.slice j h i, I a.P.At.Row, I a.P.At.Col, B a.P.At.Pending, B a.P.Auto, k, .slice b d f, I a.Parts])] z3 := (Kp.cons (n1.on 5 rfl) Kp.nil0)
    refine ⟨.inr t5, o1 3 (gm 3 (ap (RI .i32) (J 0) 4 27 0 n1 p4 D.m m0 underlying27) ?_)⟩
    rintro j9 a4 d5 ⟨c9, q1, q4⟩
    have u5 : Kp G0 [(Eb g 83 [.slice j h i, I a.P.At.Row, I a.P.At.Col, B a.P.At.Pending, B a.P.Auto, k, .slice b d f, I a.Parts])] a4 := (Kp.cons (q1.on 5 rfl) Kp.nil0)
    refine ⟨.inr u5, ?_⟩
    obtain ⟨b4, s4, e5, s1, r4⟩ := q1.frz 1 rfl (e2.mono (c5.trans d5))
    have w5 : Kp G0 [(Eb g 83 [.slice j h i, I a.P.At.Row, I a.P.At.Col, B a.P.At.Pending, B a.P.Auto, k, .slice b d f, I a.Parts])] b4 := (Kp.cons (s1.on 5 rfl) Kp.nil0)
    refine AC.gh s4 e5 (fun _ => w5) (o1 10 (gm 10 (ap (RI .i32) (J 0) 4 27 0 s1 q4.m r4 o0 underlying27) ?_))
    rintro k9 c4 s8 ⟨d6, t1, t0⟩
    have x5 : Kp G0 [(Eb g 83 [.slice j h i, I a.P.At.Row, I a.P.At.Col, B a.P.At.Pending, B a.P.Auto, k, .slice b d f, I a.Parts])] c4 := (Kp.cons (t1.on 5 rfl) Kp.nil0)
    refine ⟨.inr x5, ta 11 (.pointer (some ⟨g, 5, none⟩)) ?_⟩
    obtain ⟨g0, h0, i0, rfl⟩ := (t0).form
    refine o1 12 (gD 12 (sC 27 5 (.slice g0 h0 i0) [.slice j h i, I a.P.At.Row, I a.P.At.Col, B a.P.At.Pending, B a.P.Auto, .slice g0 h0 i0, .slice b d f, I a.Parts] 5 t1 ⟨(t0).one, trivial⟩) ?_)
    rintro d4 t8 c3
    refine ⟨.inl rfl, dn (nrm ?_)⟩
    have d3 := c3.sD 6 [1, 0, 2, 3, 4, 5]
    exact ⟨d4, _, _, rfl, pt, us, g6, c6, (.slice g0 h0 i0), d6, d3, rfl, e2.m, t0.m⟩
   rintro e_ w_ ⟨a8, d8, _, rfl, u8, rfl, x0, v0, x, w0, e3, rfl, f8, t4⟩
   refine bkn (nrm (W.region (va (I n.1) (va (I (w64 (n.1 + 1))) (va (I (w64 (n.1 + 1))) (WL.nil ?_))))))
   obtain rfl := si o
   refine ⟨_, rfl, ?_⟩
   obtain ⟨e4, v4, v8, f3, u4⟩ := e3.frz 1 rfl t4
   have g3 := f3.sD 6 [2, 3, 4, 5]
   exact ⟨e4, _, _, v4.symm, pt, us, x, g3, rfl, u4⟩
  refine W.exit (thx ?_)
  obtain rfl := si o
  exact ⟨_, rfl, rfl, ⟨u2, _, _, rfl, pt, us, k, c1, rfl, D⟩⟩
 ·exact ⟨z1, _, _, rfl, pt, us, (.slice E M N), t2, rfl, h4.m⟩
 rintro _ e_ w_ ⟨rfl, b8, e8, _, rfl, f5, rfl, S, h3, rfl, u0⟩
 refine bke (nrm (sr (va (p) (vx (ln 3 underlying164 z0.m) (va (.pointer (some ⟨g, 7, none⟩)) (md (sC 3 7 (I (s.length : Int)) [.slice j h i, I a.P.At.Row, I a.P.At.Col, B a.P.At.Pending, B a.P.Auto, S, .slice b d f, I (s.length : Int)] 3 h3 ⟨rfl, trivial⟩) ?_))))))
 rintro c8 f2 u1
 refine wln (sr (vx (leN 83 0 [.slice j h i, I a.P.At.Row, I a.P.At.Col, B a.P.At.Pending, B a.P.Auto, S, .slice b d f, I (s.length : Int)] (u1.on 3 rfl)) ?_))
 obtain ⟨j0, k0, l0, rfl⟩ := ((u0.mono f2)).form
 refine md (sA 83 [.slice j h i, I a.P.At.Row, I a.P.At.Col, B a.P.At.Pending, B a.P.Auto, .slice j0 k0 l0, .slice b d f, I (s.length : Int)] 2 u1 ⟨h2.m.one, rfl, rfl, rfl, rfl, u0.m.one, z.m.one, rfl, trivial⟩) ?_
 rintro x1 g5 X
 refine wln (W.ret ?_)
 obtain rfl := si n2
 have w4 := X.slf 1 rfl (z.mono (g2.trans (x2.trans (z2.trans (q7.trans (f5.trans (f2.trans g5)))))))
 have i3 := X.sD 4 []
 exact retC (c := x1) (vs := [.slice j h i, I a.P.At.Row, I a.P.At.Col, B a.P.At.Pending, B a.P.Auto, .slice j0 k0 l0, .slice b d f, I (s.length : Int)]) rfl (by kernel_rfl) (by kernel_rfl) (by kernel_rfl) (X.on 2 rfl _ rfl).1 ⟨_, x1, rfl, rfl, pt, (.slice j h i), (.slice j0 k0 l0), (.slice b d f), i3, rfl, h2.m, u0.m, w4⟩
def f_linotyperef37_Feed_Rune (p0 : G_linotyperef37_Feed) (p1 : Int) : Option (G_linotyperef37_Feed) :=
 ((f_linotyperef01_Valid p1).bind fun c =>
 if (!c) = true then
 some (65533)
 else
 some (p1)).bind fun d =>
 (app ([] : List Int) p0.Group).bind fun a =>
 (app a ([d] : List Int)).bind fun b =>
 some (⟨p0.P, b, p0.Raw, p0.Parts⟩ : G_linotyperef37_Feed)
theorem c_linotyperef37_Feed_Rune (O0 : Own c0 G F) (a : G_linotyperef37_Feed) (t : Int) {r : G_linotyperef37_Feed} (S : Sl R_api_Line c0 v1 a.P.L) (h4 : Sl (RI .i32) c0 v3 a.Group) (T : Sl (RI .u8) c0 v5 a.Raw) (H : f_linotyperef37_Feed_Rune a t = some r) :
    Calls prog 48 #[.agg #[v1, I a.P.At.Row, I a.P.At.Col, B a.P.At.Pending, B a.P.Auto, v3, v5, I a.Parts], J t] c0.w (Post c0 fun c v => ∃ y1 U y3 y4, Own c G (es true (RI .i32) U 21 y3 r.Group :: F) ∧ v = .agg #[y1, I r.P.At.Row, I r.P.At.Col, B r.P.At.Pending, B r.P.Auto, U, y4, I r.Parts] ∧ Sl R_api_Line c y1 r.P.L ∧ OA (RI .i32) c U y3 r.Group ∧ Sl (RI .u8) c y4 r.Raw) := by
 unfold f_linotyperef37_Feed_Rune at H
 refine en func48 rfl rfl (sr ?_)
 obtain ⟨k, n, o, rfl⟩ := (S).form
 obtain ⟨A, D, E, rfl⟩ := (h4).form
 obtain ⟨d, e, f, rfl⟩ := (T).form
 refine me (al 83 [.slice k n o, I a.P.At.Row, I a.P.At.Col, B a.P.At.Pending, B a.P.Auto, .slice A D E, .slice d e f, I a.Parts] O0) ?_
 rintro v19 d1 n1 ⟨p, rfl, X⟩
 refine me (al 83 [Y, I 0, I 0, B false, B false, Y, Y, I 0] X) ?_
 rintro v23 h0 q1 ⟨M, rfl, Z⟩
 refine wln (bn H fun s b j => W.seqJ (Jn h0 fun c l => Own c G ((Eb M 83 [Y, I 0, I 0, B false, B false, Y, Y, I 0]) :: (Eb p 83 [.slice k n o, I a.P.At.Row, I a.P.At.Col, B a.P.At.Pending, B a.P.Auto, .slice A D E, .slice d e f, I a.Parts]) :: F) ∧ l = [(1, J s), (2, Q p), (4, Q M)]) ?_ ?_)
 ·refine sr (va (J t) (bn b fun w0 i0 b => cl (c_linotyperef01_Valid Z t i0) ?_))
  rintro v32 N s1 ⟨u, rfl⟩
  refine va (B (!w0)) (wln (cn b (fun j0 b => ?_) (fun j0 b => ?_)))
  ·refine W.region (va (J 65533) (wln ?_))
   obtain rfl := si b
   exact ⟨N, _, _, rfl, pt, us, u, rfl⟩
  refine W.skip (nrm ?_)
  obtain rfl := si b
  exact ⟨N, _, _, rfl, pt, us, u, rfl⟩
 rintro e_ w_ ⟨e1, m1, _, rfl, t1, rfl, a0, rfl⟩
 refine sr (me (sl (RI .i32) 21 [] ([] : List Int) a0 trivial) ?_)
 rintro v44 f1 u1 ⟨d2, x, l0⟩
 refine va (.pointer (some ⟨p, 5, none⟩)) (vx (le1 5 underlying27 (x.on 2 rfl)) (bn j fun b1 m0 j => me (ap (RI .i32) (J 0) 4 27 0 x l0 h4.m m0 underlying27) ?_))
 rintro v50 g1 w1 ⟨e2, b0, o0⟩
 refine va (J s) (me (sl (RI .i32) 21 [[J s]] ([s] : List Int) b0 ⟨rfl, trivial⟩) ?_)
 rintro v55 h1 x1 ⟨f2, d0, q0⟩
 obtain ⟨i1, t0, z1, e0, s0⟩ := d0.frz 0 rfl q0
 refine WL.gh t0 (bn j fun c1 u0 j => me (ap (RI .i32) (J 0) 4 27 1 e0 o0.m s0 u0 underlying27) ?_)
 rintro g2 j1 a2 ⟨v0, f0, q⟩
 refine va (.pointer (some ⟨p, 5, none⟩)) ?_
 obtain ⟨g, h, i, rfl⟩ := (q).form
 refine md (sC 27 5 (.slice g h i) [.slice k n o, I a.P.At.Row, I a.P.At.Col, B a.P.At.Pending, B a.P.Auto, .slice g h i, .slice d e f, I a.Parts] 3 f0 ⟨(q).one, trivial⟩) ?_
 rintro k1 b2 y
 refine wln (sr (vx (leN 83 0 [.slice k n o, I a.P.At.Row, I a.P.At.Col, B a.P.At.Pending, B a.P.Auto, .slice g h i, .slice d e f, I a.Parts] (y.on 3 rfl)) (md (sA 83 [.slice k n o, I a.P.At.Row, I a.P.At.Col, B a.P.At.Pending, B a.P.Auto, .slice g h i, .slice d e f, I a.Parts] 2 y ⟨S.m.one, rfl, rfl, rfl, rfl, q.m.one, T.m.one, rfl, trivial⟩) ?_)))
 rintro R c2 z
 refine wln (W.ret ?_)
 obtain rfl := si j
 have g0 := z.sD 4 [1]
 exact retC (c := R) (vs := [.slice k n o, I a.P.At.Row, I a.P.At.Col, B a.P.At.Pending, B a.P.Auto, .slice g h i, .slice d e f, I a.Parts]) rfl (by kernel_rfl) (by kernel_rfl) (by kernel_rfl) (z.on 2 rfl _ rfl).1 ⟨_, R, rfl, rfl, pt, (.slice k n o), (.slice g h i), v0, (.slice d e f), g0, rfl, S.m, q.m, T.m⟩
def f_linotyperef37_Feed_Pen (p0 : G_linotyperef37_Feed) : Option (G_linotyperef34_Pen) :=
 (f_linotyperef37_Lay p0.P p0.Group).bind fun a =>
 some a
theorem c_linotyperef37_Feed_Pen (U : Own c0 G F) (a : G_linotyperef37_Feed) {r : G_linotyperef34_Pen} (N : Sl R_api_Line c0 v1 a.P.L) (S : Sl (RI .i32) c0 v3 a.Group) (X : Sl (RI .u8) c0 v5 a.Raw) (H : f_linotyperef37_Feed_Pen a = some r) :
    Calls prog 51 #[.agg #[v1, I a.P.At.Row, I a.P.At.Col, B a.P.At.Pending, B a.P.Auto, v3, v5, I a.Parts]] c0.w (Post c0 fun c v => ∃ T, Own c G (F) ∧ v = .agg #[T, I r.At.Row, I r.At.Col, B r.At.Pending, B r.Auto] ∧ Sl R_api_Line c T r.L) := by
 unfold f_linotyperef37_Feed_Pen at H
 refine en func51 rfl rfl (sr ?_)
 obtain ⟨D, E, M, rfl⟩ := (N).form
 obtain ⟨t, u, x, rfl⟩ := (S).form
 obtain ⟨y, z, A, rfl⟩ := (X).form
 refine me (bx 83 [.slice D E M, I a.P.At.Row, I a.P.At.Col, B a.P.At.Pending, B a.P.Auto, .slice t u x, .slice y z A, I a.Parts] U) ?_
 rintro v20 a0 e0 ⟨i, rfl, o, n⟩
 refine me (al 43 [Y, I 0, I 0, B false, B false] o) ?_
 rintro v24 b0 f0 ⟨Z, rfl, p⟩
 refine wln (sr (va (Q i) (vx (lN 43 (imsub (k := 0) (l := [.slice D E M, I a.P.At.Row, I a.P.At.Col, B a.P.At.Pending, B a.P.Auto]) (mm n) rfl)) (va (.pointer (some ⟨i, 0 + 5, none⟩)) (vx (l1 underlying27 ((mm n) 5 _ rfl)) (bn H fun b R H => cl (c_linotyperef37_Lay p a.P a.Group N.m S.m R) ?_))))))
 rintro v33 d0 g0 ⟨v26, q, rfl, g⟩
 obtain ⟨d, e, f, rfl⟩ := (g).form
 refine md (sA 43 [.slice d e f, I b.At.Row, I b.At.Col, B b.At.Pending, B b.Auto] 0 q ⟨g.one, rfl, rfl, rfl, rfl, trivial⟩) ?_
 rintro j h0 h
 refine wln (W.ret ?_)
 obtain rfl := si H
 have s := h.sD 1 []
 exact retC (c := j) (vs := [.slice d e f, I b.At.Row, I b.At.Col, B b.At.Pending, B b.Auto]) rfl (by kernel_rfl) (by kernel_rfl) (by kernel_rfl) (h.on 0 rfl _ rfl).1 ⟨_, j, rfl, rfl, pt, (.slice d e f), s, rfl, g.m⟩
def f_linotyperef37_Feed_Close (p0 : G_linotyperef37_Feed) : Option (G_linotyperef37_Feed) :=
 (f_linotyperef37_Feed_Pen p0).bind fun a =>
 some (⟨a, ([] : List Int), p0.Raw, p0.Parts⟩ : G_linotyperef37_Feed)
theorem c_linotyperef37_Feed_Close (O0 : Own c0 G F) (b : G_linotyperef37_Feed) {r : G_linotyperef37_Feed} (T : Sl R_api_Line c0 v1 b.P.L) (X : Sl (RI .i32) c0 v3 b.Group) (q : Sl (RI .u8) c0 v5 b.Raw) (H : f_linotyperef37_Feed_Close b = some r) :
    Calls prog 50 #[.agg #[v1, I b.P.At.Row, I b.P.At.Col, B b.P.At.Pending, B b.P.Auto, v3, v5, I b.Parts]] c0.w (Post c0 fun c v => ∃ y1 y y3 y4, Own c G (es true (RI .i32) y 21 y3 r.Group :: F) ∧ v = .agg #[y1, I r.P.At.Row, I r.P.At.Col, B r.P.At.Pending, B r.P.Auto, y, y4, I r.Parts] ∧ Sl R_api_Line c y1 r.P.L ∧ OA (RI .i32) c y y3 r.Group ∧ Sl (RI .u8) c y4 r.Raw) := by
 unfold f_linotyperef37_Feed_Close at H
 refine en func50 rfl rfl (sr ?_)
 obtain ⟨N, R, S, rfl⟩ := (T).form
 obtain ⟨l, n, o, rfl⟩ := (X).form
 obtain ⟨d, f, g, rfl⟩ := (q).form
 refine me (al 83 [.slice N R S, I b.P.At.Row, I b.P.At.Col, B b.P.At.Pending, B b.P.Auto, .slice l n o, .slice d f g, I b.Parts] O0) ?_
 rintro v19 g0 l0 ⟨x, rfl, z⟩
 refine me (al 83 [Y, I 0, I 0, B false, B false, Y, Y, I 0] z) ?_
 rintro v23 h0 m0 ⟨f0, rfl, s⟩
 refine wln (sr (vx (leN 83 0 [.slice N R S, I b.P.At.Row, I b.P.At.Col, B b.P.At.Pending, B b.P.Auto, .slice l n o, .slice d f g, I b.Parts] (s.on 1 rfl)) (bn H fun a U H => cl (c_linotyperef37_Feed_Pen s b T.m X.m q.m U) ?_)))
 rintro v32 i0 o0 ⟨v25, A, rfl, k⟩
 refine va (Q x) ?_
 obtain ⟨h, i, j, rfl⟩ := (k).form
 refine md (sB 43 0 [.slice h i j, I a.At.Row, I a.At.Col, B a.At.Pending, B a.Auto] [.slice h i j, I a.At.Row, I a.At.Col, B a.At.Pending, B a.Auto, .slice l n o, .slice d f g, I b.Parts] 1 A ⟨k.one, rfl, rfl, rfl, rfl, trivial⟩) ?_
 rintro j0 q0 D
 refine wln (sr (va (.pointer (some ⟨x, 5, none⟩)) (md (sC 27 5 (Y) [.slice h i j, I a.At.Row, I a.At.Col, B a.At.Pending, B a.Auto, Y, .slice d f g, I b.Parts] 1 D ⟨rfl, trivial⟩) ?_)))
 rintro k0 s0 t
 refine wln (sr (vx (leN 83 0 [.slice h i j, I a.At.Row, I a.At.Col, B a.At.Pending, B a.Auto, Y, .slice d f g, I b.Parts] (t.on 1 rfl)) (md (sA 83 [.slice h i j, I a.At.Row, I a.At.Col, B a.At.Pending, B a.Auto, Y, .slice d f g, I b.Parts] 0 t ⟨k.m.one, rfl, rfl, rfl, rfl, rfl, q.m.one, rfl, trivial⟩) ?_)))
 rintro p t0 E
 refine wln (W.ret ?_)
 obtain rfl := si H
 have Z : OA (RI .i32) p (Y) [] [] := OA.nil (Nat.succ_pos _)
 have u := E.addHole (e := es true (RI .i32) (Y) 21 [] ([] : List Int)) rfl
 have M := u.sD 3 [0]
 exact retC (c := p) (vs := [.slice h i j, I a.At.Row, I a.At.Col, B a.At.Pending, B a.Auto, Y, .slice d f g, I b.Parts]) rfl (by kernel_rfl) (by kernel_rfl) (by kernel_rfl) (u.on 1 rfl _ rfl).1 ⟨_, p, rfl, rfl, pt, (.slice h i j), (Y), [], (.slice d f g), M, rfl, k.m, Z, q.m⟩
def f_linotyperef37_Feed_Flush (p0 : G_linotyperef37_Feed) : Option (G_linotyperef37_Feed) :=
 ((f_linotyperef37_Feed_Held p0).bind fun d =>
 if (decide (d > 0)) = true then
 (f_linotyperef37_Feed_Rune p0 65533).bind fun a =>
 some (a.P.L, a.P.At.Row, a.P.At.Col, a.P.At.Pending, a.P.Auto, a.Group, a.Raw, a.Parts)
 else
 some (p0.P.L, p0.P.At.Row, p0.P.At.Col, p0.P.At.Pending, p0.P.Auto, p0.Group, p0.Raw, p0.Parts)).bind fun b =>
 (f_linotyperef37_Feed_Close (⟨(⟨b.1, (⟨b.2.1, b.2.2.1, b.2.2.2.1⟩ : G_api_Cursor), b.2.2.2.2.1⟩ : G_linotyperef34_Pen), b.2.2.2.2.2.1, ([] : List Int), 0⟩ : G_linotyperef37_Feed)).bind fun c =>
 some c
theorem c_linotyperef37_Feed_Flush (O0 : Own c0 G F) (b : G_linotyperef37_Feed) {r : G_linotyperef37_Feed} (h2 : Sl R_api_Line c0 v1 b.P.L) (h4 : Sl (RI .i32) c0 v3 b.Group) (h6 : Sl (RI .u8) c0 v5 b.Raw) (H : f_linotyperef37_Feed_Flush b = some r) :
    Calls prog 49 #[.agg #[v1, I b.P.At.Row, I b.P.At.Col, B b.P.At.Pending, B b.P.Auto, v3, v5, I b.Parts]] c0.w (Post c0 fun c v => ∃ y1 y2 y3 y4, Own c G (es true (RI .i32) y2 21 y3 r.Group :: F) ∧ v = .agg #[y1, I r.P.At.Row, I r.P.At.Col, B r.P.At.Pending, B r.P.Auto, y2, y4, I r.Parts] ∧ Sl R_api_Line c y1 r.P.L ∧ OA (RI .i32) c y2 y3 r.Group ∧ Sl (RI .u8) c y4 r.Raw) := by
 unfold f_linotyperef37_Feed_Flush at H
 refine en func49 rfl rfl (sr ?_)
 obtain ⟨a7, a8, a9, rfl⟩ := (h2).form
 obtain ⟨j, k, n, rfl⟩ := (h4).form
 obtain ⟨o, p, q, rfl⟩ := (h6).form
 refine me (al 83 [.slice a7 a8 a9, I b.P.At.Row, I b.P.At.Col, B b.P.At.Pending, B b.P.Auto, .slice j k n, .slice o p q, I b.Parts] O0) ?_
 rintro v19 e2 o2 ⟨s, rfl, y0⟩
 refine me (al 83 [Y, I 0, I 0, B false, B false, Y, Y, I 0] y0) ?_
 rintro v23 g1 p2 ⟨v0, rfl, h0⟩
 refine wln (bn H fun a e t => W.seqJ (Jn g1 fun c l => ∃ v26 v27 v28, Own c G ((Eb v0 83 [Y, I 0, I 0, B false, B false, Y, Y, I 0]) :: (Eb s 83 [v26, I a.2.1, I a.2.2.1, B a.2.2.2.1, B a.2.2.2.2.1, v27, v28, I a.2.2.2.2.2.2.2]) :: F) ∧ l = [(1, Q s), (2, Q v0)] ∧ Sl R_api_Line c v26 a.1 ∧ Sl (RI .i32) c v27 a.2.2.2.2.2.1 ∧ Sl (RI .u8) c v28 a.2.2.2.2.2.2.1) ?_ ?_)
 ·refine sr (vx (leN 83 0 [.slice a7 a8 a9, I b.P.At.Row, I b.P.At.Col, B b.P.At.Pending, B b.P.Auto, .slice j k n, .slice o p q, I b.Parts] (h0.on 1 rfl)) (bn e fun x1 j1 e => cl (c_linotyperef37_Feed_Held h0 b h2.m h4.m h6.m j1) ?_))
  rintro v35 h1 q2 ⟨x, rfl⟩
  refine va (B (decide (x1 > 0))) (wln (cn e (fun k1 e => ?_) (fun k1 e => ?_)))
  ·refine W.region (vx (leN 83 0 [.slice a7 a8 a9, I b.P.At.Row, I b.P.At.Col, B b.P.At.Pending, B b.P.Auto, .slice j k n, .slice o p q, I b.Parts] (x.on 1 rfl)) (bn e fun f m1 e => cl (c_linotyperef37_Feed_Rune x b 65533 h2.m h4.m h6.m m1) ?_))
   rintro v50 f2 s2 ⟨v38, v40, z2, v43, z0, rfl, R, S, T⟩
   obtain ⟨j0, k0, l0, rfl⟩ := (R).form
   obtain ⟨m0, o0, q0, rfl⟩ := (S).form
   obtain ⟨s0, t0, u0, rfl⟩ := (T).form
   refine md (sA 83 [.slice j0 k0 l0, I f.P.At.Row, I f.P.At.Col, B f.P.At.Pending, B f.P.Auto, .slice m0 o0 q0, .slice s0 t0 u0, I f.Parts] 2 z0 ⟨R.one, rfl, rfl, rfl, rfl, (S).one, T.one, rfl, trivial⟩) ?_
   rintro g2 u1 a1
   refine wln ?_
   obtain rfl := si e
   obtain ⟨i1, p1, t2, b1, n1⟩ := a1.frz 0 rfl (S.mono u1)
   have c1 := b1.sD 3 [1, 2]
   exact ⟨i1, _, _, p1.symm, pt, us, (.slice j0 k0 l0), (.slice m0 o0 q0), (.slice s0 t0 u0), c1, rfl, R.m, n1, T.m⟩
  refine W.skip (nrm ?_)
  obtain rfl := si e
  exact ⟨h1, _, _, rfl, pt, us, (.slice a7 a8 a9), (.slice j k n), (.slice o p q), x, rfl, h2.m, h4.m, h6.m⟩
 rintro e_ w_ ⟨i2, m2, _, rfl, u2, rfl, v26, v27, v28, d1, rfl, q1, s1, n2⟩
 refine sr (va (.pointer (some ⟨s, 6, none⟩)) (md (sC 57 6 (Y) [v26, I a.2.1, I a.2.2.1, B a.2.2.2.1, B a.2.2.2.2.1, v27, Y, I a.2.2.2.2.2.2.2] 1 d1 ⟨rfl, trivial⟩) ?_))
 rintro j2 v2 e1
 refine wln (sr (va (.pointer (some ⟨s, 7, none⟩)) (md (sC 3 7 (I 0) [v26, I a.2.1, I a.2.2.1, B a.2.2.2.1, B a.2.2.2.2.1, v27, Y, I 0] 1 e1 ⟨rfl, trivial⟩) ?_)))
 rintro k2 w2 i0
 refine wln (sr (vx (leN 83 0 [v26, I a.2.1, I a.2.2.1, B a.2.2.2.1, B a.2.2.2.2.1, v27, Y, I 0] (i0.on 1 rfl)) (bn t fun d t1 t => cl (c_linotyperef37_Feed_Close i0 (⟨(⟨a.1, (⟨a.2.1, a.2.2.1, a.2.2.2.1⟩ : G_api_Cursor), a.2.2.2.2.1⟩ : G_linotyperef34_Pen), a.2.2.2.2.2.1, ([] : List Int), 0⟩ : G_linotyperef37_Feed) q1.m s1.m (Sl.nl _ _) t1) ?_)))
 rintro d3 l2 x2 ⟨a3, b3, w1, c3, f1, rfl, U, X, Z⟩
 obtain ⟨y, z, A, rfl⟩ := (U).form
 obtain ⟨D, E, M, rfl⟩ := (X).form
 obtain ⟨g, h, i, rfl⟩ := (Z).form
 refine md (sA 83 [.slice y z A, I d.P.At.Row, I d.P.At.Col, B d.P.At.Pending, B d.P.Auto, .slice D E M, .slice g h i, I d.Parts] 1 f1 ⟨U.one, rfl, rfl, rfl, rfl, (X).one, Z.one, rfl, trivial⟩) ?_
 rintro N d2 u
 refine wln (W.ret ?_)
 obtain rfl := si t
 have w0 := u.sD 3 [0]
 exact retC (c := N) (vs := [.slice y z A, I d.P.At.Row, I d.P.At.Col, B d.P.At.Pending, B d.P.Auto, .slice D E M, .slice g h i, I d.Parts]) rfl (by kernel_rfl) (by kernel_rfl) (by kernel_rfl) (u.on 1 rfl _ rfl).1 ⟨_, N, rfl, rfl, pt, (.slice y z A), (.slice D E M), w1, (.slice g h i), w0, rfl, U.m, X.m, Z.m⟩
def f_linotyperef37_Feed_Open (p0 : G_linotyperef37_Feed) : Option (List Int) :=
 (f_linotyperef16_Clusters p0.Group).bind fun a =>
 (orE ((a.length : Int) == 0) ((idx a (w64 ((a.length : Int) - 1))).bind fun c =>
 (idx c 0).bind fun d =>
 (f_linotyperef18_Silent d).bind fun e =>
 some e)).bind fun b =>
 if b = true then
 some ([] : List Int)
 else
 (idx a (w64 ((a.length : Int) - 1))).bind fun f =>
 (f_linotyperef21_First f).bind fun g =>
 some g
theorem c_linotyperef37_Feed_Open (O0 : Own c0 G F) (a : G_linotyperef37_Feed) {r : List Int} (h2 : Sl R_api_Line c0 v1 a.P.L) (h4 : Sl (RI .i32) c0 v3 a.Group) (h6 : Sl (RI .u8) c0 v5 a.Raw) (H : f_linotyperef37_Feed_Open a = some r) :
    Calls prog 53 #[.agg #[v1, I a.P.At.Row, I a.P.At.Col, B a.P.At.Pending, B a.P.Auto, v3, v5, I a.Parts]] c0.w (Post c0 fun c v => ∃ D y2, Own c G (es true (RI .i32) D 21 y2 r :: F) ∧ v = D ∧ OA (RI .i32) c D y2 r) := by
 unfold f_linotyperef37_Feed_Open at H
 refine en func53 rfl rfl (sr ?_)
 obtain ⟨a7, a8, a9, rfl⟩ := (h2).form
 obtain ⟨U, X, Z, rfl⟩ := (h4).form
 obtain ⟨a0, b0, d0, rfl⟩ := (h6).form
 refine me (bx 83 [.slice a7 a8 a9, I a.P.At.Row, I a.P.At.Col, B a.P.At.Pending, B a.P.Auto, .slice U X Z, .slice a0 b0 d0, I a.Parts] O0) ?_
 rintro v20 s1 u1 ⟨e0, rfl, E, w0⟩
 refine va (Y) (wln (sr (va (.pointer (some ⟨e0, 0 + 5, none⟩)) (vx (l1 underlying27 (w0 5 _ rfl)) (bn H fun g h0 H => cl (c_linotyperef16_Clusters E a.Group h4.m h0) ?_)))))
 rintro v22 o w1 ⟨_, a1, h, rfl, b⟩
 refine va (v22) (wln (W.seq (W.seq (bn H fun x q H => W.join (Jn o fun c l => Own c G (es true (RL (RI .i32)) v22 27 a1 g :: F) ∧ l = [(3, v22), (20, B x)]) ?_ ?_))))
 ·clear H
  refine W.region (va (v22) (vx (lnO 3 underlying172 b) (va (B ((g.length : Int) == 0)) ?_)))
  rcases bo ((g.length : Int) == 0) with f | f
  ·obtain rfl := orT f q
   exact vb f (ps (ps (ps (ps (ps (ps (ps (ps (ps (va (B true) (wln ⟨o, _, _, rfl, pt, us, h, rfl⟩)))))))))))
  have d := orF f q
  refine vb f (wn (va (v22) (wn (va (v22) (wn (vx (lnO 3 underlying172 b) (wn (va (I (w64 ((g.length : Int) - 1))) (wn (bn d fun p1 k d => vx (ixO underlying172 b k) (wn ?_)))))))))))
  obtain ⟨k1, i0, x0⟩ := OA.at b k
  obtain ⟨v38, rfl, s⟩ := i0
  refine vr v38 (rx (by kernel_rfl) (ldE1 underlying27 rfl (h.on 0 rfl) (b.blk k) (at1 (j := 0) x0 rfl))) (wn (bn d fun y t d => ?_))
  obtain ⟨m1, k0, y0⟩ := Sl.at s (idx_get t)
  obtain rfl := k0
  refine vx (ix underlying27 s t) (wn (vx (l1 underlying21 (y0 0 _ rfl)) (wn (bn d fun z l0 d => cl (c_linotyperef18_Silent h y l0) ?_))))
  rintro v50 f0 x1 ⟨M, rfl⟩
  obtain rfl := si d
  exact va (B z) (wln ⟨f0, _, _, rfl, pt, us, M, rfl⟩)
 rintro e_ w_ ⟨p, t1, _, rfl, v0, rfl, i, rfl⟩
 refine nrm (cn H (fun m0 H => ?_) (fun m0 H => ?_))
 ·refine sr (va (Y) (wln (W.ret (thr ?_))))
  obtain rfl := si H
  have o0 : OA (RI .i32) p (Y) [] [] := OA.nil (Nat.succ_pos _)
  have N := i.addHole (e := es true (RI .i32) (Y) 21 [] ([] : List Int)) rfl
  have R := N.sD 2 [0]
  exact r1 ⟨_, p, rfl, rfl, pt, (Y), [], R, rfl, o0⟩
 refine W.skip (nrm (sr (va (v22) (va (v22) (vx (lnO 3 underlying172 b.m) (va (I (w64 ((g.length : Int) - 1))) (bn H fun A n H => vx (ixO underlying172 b.m n) ?_)))))))
 obtain ⟨n1, q0, z0⟩ := OA.at (b.mono v0) n
 obtain ⟨c1, rfl, s0⟩ := q0
 refine vr c1 (rx (by kernel_rfl) (ldE1 underlying27 rfl (i.on 0 rfl) (b.m.blk n) (at1 (j := 0) z0 rfl))) (bn H fun q1 t0 H => cl (c_linotyperef21_First i A s0 t0) ?_)
 rintro u g0 z1 ⟨_, b1, S, rfl, u0⟩
 refine va (u) (wln (W.ret ?_))
 obtain rfl := si H
 have T := S.sD 2 [0]
 exact r1 ⟨_, g0, rfl, rfl, pt, u, b1, T, rfl, u0⟩
end Go.Proofs.YthokmpbbkpjhbaaGreatDoor
namespace Go.Proofs.YthokmpbbkpjhbaaGreatDoor
open Go Go.Lt
set_option maxRecDepth 10000
set_option linter.unusedVariables false
attribute [local irreducible] W WL AC
open Tryz
variable {c0 : Cx} {G : Gm} {F : List En} {sg : Sto} {v1 v2 v3 v4 v5 v6 v7 v8 v9 v10 v11 v12 v13 v14 v15 v16 v17 v18 v19 v20 v21 v22 v23 v24 v25 v26 v27 v28 v29 v30 v31 v32 v33 v34 v35 v36 v37 v38 v39 v40 v41 v42 v43 v44 v45 v46 v47 v48 v49 v50 v51 v52 v53 v54 v55 v56 v57 v58 v59 v60 : Value}
def f_feed_New (sg : Sto) (p0 : Option Nat) : Option (Sto × (Option Nat)) :=
 (orE p0.isNone ((p0).bind fun d =>
 (sg.place_Pen[d]?).bind fun b =>
 some b.G.isNone)).bind fun c =>
 if c = true then
 some (sg, (none : Option Nat))
 else
 (some (sg.add_feed_Feeder (⟨p0, (⟨0, 0, 0, 0, 0⟩ : G_utfdec_Dec), (⟨false, 0, 0, 0, false⟩ : G_seg_State), (none : Option Nat)⟩ : G_feed_Feeder))).bind fun a =>
 some (a, (some sg.feed_Feeder.length))
theorem c_feed_New (t : Own c0 G F) (u : Rel c0 sg G) (k : Option Nat) {r : Sto × (Option Nat)} (n : Pt 2 c0 v1 k) (H : f_feed_New sg k = some r) :
    Calls prog 43 #[v1] c0.w (Post c0 fun c v => ∃ y1, ∃ G_ : Gm, Own c G_ (F) ∧ Rel c r.1 G_ ∧ Adds G G_ ∧ v = y1 ∧ Pt 4 c y1 r.2) := by
 unfold f_feed_New at H
 refine en func43 rfl rfl (sr (va (.pointer none) (wln (W.seq (W.seq (bn H fun T h3 H => W.join (Jn c0 fun c l => Own c G (F) ∧ l = [(0, v1), (11, B T)]) ?_ ?_))))))
 ·clear H
  refine W.region (va (v1) (vr (B k.isNone) (by rcases (n).cs with ⟨d, e⟩ | ⟨b_, d, e⟩ <;> (subst d; rw [e]; kernel_rfl)) ?_))
  rcases bo (k.isNone) with h | h
  ·obtain rfl := orT h h3
   exact vb h (ps (ps (ps (ps (ps (va (B true) (wln ⟨c0, _, _, rfl, pt, us, t, rfl⟩)))))))
  have g := orF h h3
  refine vb h (wn (va (v1) (wn (bn g fun t0 h8 g => ?_))))
  obtain ⟨R, rfl, h7⟩ := (n).get h8
  refine va (Q R) (wn (va (Q R) (wn (bn g fun j h9 g => ?_))))
  obtain ⟨v10, X, U⟩ := Rel.open_place_Pen u h9 h7
  refine vx (le1 0 underlying35 (t.gon X 0 rfl)) (wn (vr (B j.G.isNone) (by rcases (U).cs with ⟨d, e⟩ | ⟨b_, d, e⟩ <;> (subst d; rw [e]; kernel_rfl)) ?_))
  obtain rfl := si g
  exact va (B j.G.isNone) (wln ⟨c0, _, _, rfl, pt, us, t, rfl⟩)
 rintro e_ w_ ⟨S, o0, _, rfl, i, rfl, o, rfl⟩
 refine nrm (cn H (fun Z H => ?_) (fun Z H => ?_))
 ·refine sr (va (.pointer none) (wln (W.ret (thr ?_))))
  obtain rfl := si H
  exact r1 ⟨_, S, rfl, rfl, pt, (.pointer none), G, o, u.m, (Adds.refl _), rfl, rfl⟩
 refine W.skip (nrm (sr (va (v1) ?_)))
 obtain ⟨f, rfl⟩ := ((n.mono i)).form
 refine va (.agg #[.pointer f, I 0, I 0, .int .u8 0, .int .u8 0, I 0, B false, I 0, I 0, I 0, B false, .pointer none]) (me (al 158 [.pointer f, I 0, I 0, .int .u8 0, .int .u8 0, I 0, B false, I 0, I 0, I 0, B false, .pointer none] o) ?_)
 rintro v24 m0 s ⟨a, rfl, A⟩
 have D := A.sD 1 [0]
 refine bn H fun y a0 H => ?_
 obtain ⟨q, z, b0, u0, d0, M, p, q0, f0, N⟩ := Rel.new_feed_Feeder (E := [(Eb a 158 [.pointer f, I 0, I 0, .int .u8 0, .int .u8 0, I 0, B false, I 0, I 0, I 0, B false, .pointer none])]) (F := F) (x := (⟨k, (⟨0, 0, 0, 0, 0⟩ : G_utfdec_Dec), (⟨false, 0, 0, 0, false⟩ : G_seg_State), (none : Option Nat)⟩ : G_feed_Feeder)) (b := a) D (u.mono (i.trans s)) (fun c_ hle_ => ⟨a, (.pointer f), (.pointer none), rfl, rfl, (n.mono ((i.trans s).trans hle_)), rfl⟩)
 rw [Option.some.inj a0] at p
 refine WL.gh b0.1 ?_
 have s0 := Adds.nil (Adds.refl _) f0
 have P := (Adds.refl _).trans N
 have g0 : Pt 4 q (Q a) (some sg.feed_Feeder.length) := ⟨a, rfl, d0⟩
 refine va (Q a) (wln (W.ret ?_))
 obtain rfl := si H
 exact r1 ⟨_, q, rfl, rfl, pt, (Q a), z, M, p, P, rfl, g0⟩
def f_pairs_class (p0 : Int) : Option (Int) :=
 (orE (decide (p0 < 0)) (some (decide (p0 > 13)))).bind fun a =>
 if a = true then
 some 0
 else
 some p0
theorem c_pairs_class (d : Own c0 G F) (a : Int) {r : Int} (H : f_pairs_class a = some r) :
    Calls prog 271 #[I a] c0.w (Post c0 fun c v => Own c G (F) ∧ v = I r) := by
 unfold f_pairs_class at H
 refine en func271 rfl rfl (sr (va (I 0) (wln (W.seq (W.seq (bn H fun g h H => W.join (Jn c0 fun c l => Own c G (F) ∧ l = [(0, I a), (8, B g)]) ?_ ?_))))))
 ·clear H
  refine W.region (va (I a) (va (B (decide (a < 0))) ?_))
  rcases bo (decide (a < 0)) with b | b
  ·obtain rfl := orT b h
   exact vb b (ps (ps (va (B true) (wln ⟨c0, _, _, rfl, pt, us, d, rfl⟩))))
  have j := orF b h
  refine vb b (wn (va (I a) (wn (va (B (decide (a > 13))) ?_))))
  obtain rfl := si j
  exact va (B (decide (a > 13))) (wln ⟨c0, _, _, rfl, pt, us, d, rfl⟩)
 rintro k o ⟨f, m, _, rfl, n, rfl, e, rfl⟩
 refine nrm (cn H (fun i H => ?_) (fun i H => ?_))
 ·refine sr (va (I 0) (wln (W.ret (thr ?_))))
  obtain rfl := si H
  exact r1 ⟨_, f, rfl, rfl, pt, e, rfl⟩
 refine W.skip (nrm (sr (va (I a) (va (I a) (wln (W.ret ?_))))))
 obtain rfl := si H
 exact r1 ⟨_, f, rfl, rfl, pt, e, rfl⟩
def f_pairs_breaks (p0 : Int) : Option (Bool) :=
 if (p0 == 1) = true then
 some true
 else
 if (p0 == 2) = true then
 some true
 else
 if (p0 == 3) = true then
 some true
 else
 some false
theorem c_pairs_breaks (b : Own c0 G F) (a : Int) {r : Bool} (H : f_pairs_breaks a = some r) :
    Calls prog 272 #[I a] c0.w (Post c0 fun c v => Own c G (F) ∧ v = B r) := by
 unfold f_pairs_breaks at H
 refine en func272 rfl rfl (sr (va (B false) (wln (W.seq (sr (va (I a) (wln (W.block (W.seq (W.block (W.block (W.block (W.seq (W.seq (sr (va (B (a == 1)) (va (B (a == 1)) (wln (cn H (fun d H => ?_) (fun d H => ?_))))))))))))))))))))
 ·refine W.exit (thx (thx (bke (bkn (bkn (nrm (W.seq (sr (va (B true) (wln (W.ret (thr (bkr (thr ?_))))))))))))))
  obtain rfl := si H
  exact r1 ⟨_, c0, rfl, rfl, pt, b, rfl⟩
 refine W.skip (nrm (W.seq (sr (va (B (a == 2)) (va (B (a == 2)) (wln (cn H (fun e H => ?_) (fun e H => ?_))))))))
 ·refine W.exit (thx (thx (bko rfl (bke (bkn (nrm (W.seq (sr (va (B true) (wln (W.ret (thr (bkr (thr ?_))))))))))))))
  obtain rfl := si H
  exact r1 ⟨_, c0, rfl, rfl, pt, b, rfl⟩
 refine W.skip (nrm (sr (va (B (a == 3)) (va (B (a == 3)) (wln (cn H (fun f H => ?_) (fun f H => ?_)))))))
 ·refine W.exit (thx (bko rfl (bko rfl (bke (nrm (W.seq (sr (va (B true) (wln (W.ret (thr (bkr (thr ?_)))))))))))))
  obtain rfl := si H
  exact r1 ⟨_, c0, rfl, rfl, pt, b, rfl⟩
 refine W.skip (nrm (W.exit (bko rfl (bko rfl (bko rfl (thx (bke (nrm (sr (va (B false) (wln (W.ret ?_))))))))))))
 obtain rfl := si H
 exact r1 ⟨_, c0, rfl, rfl, pt, b, rfl⟩
def f_pairs_syllable (p0 : Int) (p1 : Int) : Option (Bool) :=
 if (p0 == 9) = true then
 (orE (p1 == 9) (some (p1 == 10))).bind fun a =>
 (orE a (some (p1 == 12))).bind fun b =>
 (orE b (some (p1 == 13))).bind fun c =>
 some c
 else
 (if (p0 == 12) = true then
 some (p0 == 12)
 else
 some (p0 == 10)).bind fun e =>
 if e = true then
 (orE (p1 == 10) (some (p1 == 11))).bind fun d =>
 some d
 else
 (if (p0 == 13) = true then
 some (p0 == 13)
 else
 some (p0 == 11)).bind fun f =>
 if f = true then
 some (p1 == 11)
 else
 some false
theorem c_pairs_syllable (m : Own c0 G F) (b : Int) (a : Int) {r : Bool} (H : f_pairs_syllable b a = some r) :
    Calls prog 273 #[I b, I a] c0.w (Post c0 fun c v => Own c G (F) ∧ v = B r) := by
 unfold f_pairs_syllable at H
 refine en func273 rfl rfl (sr (va (B false) (wln (W.seq (sr (va (I b) (wln (W.block (sr (va (B (b == 9)) (va (B (b == 9)) (wln (cn H (fun h1 H => ?_) (fun h1 H => ?_))))))))))))))
 ·refine W.seq (bn H fun i0 Z H => bn H fun j0 A H => bn H fun x p H => W.join (Jn c0 fun c l => Own c G (F) ∧ l = [(4, B x)]) ?_ ?_)
  ·clear H
   refine W.region (va (I a) (va (B (a == 9)) ?_))
   rcases bo (a == 9) with n | n
   ·obtain rfl := orT n Z
    refine vb n (ps (ps (va (B true) ?_)))
    have h6 : true = true := rfl
    obtain rfl := orT h6 A
    refine vb h6 (ps (ps (va (B true) ?_)))
    have h7 : true = true := rfl
    obtain rfl := orT h7 p
    exact vb h7 (ps (ps (va (B true) (va (B true) (wln ⟨c0, _, _, rfl, pt, us, m, rfl⟩)))))
   have H8 := orF n Z
   refine vb n (wn (va (I a) (wn (va (B (a == 10)) ?_))))
   obtain rfl := si H8
   refine va (B (a == 10)) ?_
   rcases bo (a == 10) with o | o
   ·obtain rfl := orT o A
    refine vb o (ps (ps (va (B true) ?_)))
    have t : true = true := rfl
    obtain rfl := orT t p
    exact vb t (ps (ps (va (B true) (va (B true) (wln ⟨c0, _, _, rfl, pt, us, m, rfl⟩)))))
   have N := orF o A
   refine vb o (wn (va (I a) (wn (va (B (a == 12)) ?_))))
   obtain rfl := si N
   refine va (B (a == 12)) ?_
   rcases bo (a == 12) with i | i
   ·obtain rfl := orT i p
    exact vb i (ps (ps (va (B true) (va (B true) (wln ⟨c0, _, _, rfl, pt, us, m, rfl⟩)))))
   have P := orF i p
   refine vb i (wn (va (I a) (wn (va (B (a == 13)) ?_))))
   obtain rfl := si P
   exact va (B (a == 13)) (va (B (a == 13)) (wln ⟨c0, _, _, rfl, pt, us, m, rfl⟩))
  rintro z D ⟨U, l0, _, rfl, s0, rfl, S, rfl⟩
  refine nrm (W.ret (bkr (thr ?_)))
  obtain rfl := si H
  exact r1 ⟨_, U, rfl, rfl, pt, S, rfl⟩
 refine bn H fun E f d => W.seqJ (Jn c0 fun c l => Own c G (F) ∧ l = [(1, I a), (5, I b), (22, B E)]) ?_ ?_
 ·refine sr (va (B (b == 12)) (va (B (b == 12)) (wln (cn f (fun a0 f => ?_) (fun a0 f => ?_)))))
  ·refine W.skip (nrm ?_)
   obtain rfl := si f
   exact ⟨c0, _, _, rfl, pt, us, m, rfl⟩
  refine W.region (va (B (b == 10)) (va (B (b == 10)) (wln ?_)))
  obtain rfl := si f
  exact ⟨c0, _, _, rfl, pt, us, m, rfl⟩
 rintro z D ⟨e, m0, _, rfl, t0, rfl, k, rfl⟩
 refine cn d (fun b0 d => ?_) (fun b0 d => ?_)
 ·refine W.seq (bn d fun y u d => W.join (Jn e fun c l => Own c G (F) ∧ l = [(4, B y)]) ?_ ?_)
  ·clear d
   refine W.region (va (I a) (va (B (a == 10)) ?_))
   rcases bo (a == 10) with j | j
   ·obtain rfl := orT j u
    exact vb j (ps (ps (va (B true) (va (B true) (wln ⟨e, _, _, rfl, pt, us, k, rfl⟩)))))
   have R := orF j u
   refine vb j (wn (va (I a) (wn (va (B (a == 11)) ?_))))
   obtain rfl := si R
   exact va (B (a == 11)) (va (B (a == 11)) (wln ⟨e, _, _, rfl, pt, us, k, rfl⟩))
  rintro z D ⟨X, o0, _, rfl, u0, rfl, T, rfl⟩
  refine nrm (W.ret (bkr (thr ?_)))
  obtain rfl := si d
  exact r1 ⟨_, X, rfl, rfl, pt, T, rfl⟩
 refine bn d fun M g h => W.seqJ (Jn e fun c l => Own c G (F) ∧ l = [(1, I a), (31, B M)]) ?_ ?_
 ·refine sr (va (B (b == 13)) (va (B (b == 13)) (wln (cn g (fun d0 g => ?_) (fun d0 g => ?_)))))
  ·refine W.skip (nrm ?_)
   obtain rfl := si g
   exact ⟨e, _, _, rfl, pt, us, k, rfl⟩
  refine W.region (va (B (b == 11)) (va (B (b == 11)) (wln ?_)))
  obtain rfl := si g
  exact ⟨e, _, _, rfl, pt, us, k, rfl⟩
 rintro z D ⟨s, q0, _, rfl, v0, rfl, q, rfl⟩
 refine cn h (fun e0 h => ?_) (fun e0 h => ?_)
 ·refine sr (va (I a) (va (B (a == 11)) (va (B (a == 11)) (wln (W.ret (bkr (thr ?_)))))))
  obtain rfl := si h
  exact r1 ⟨_, s, rfl, rfl, pt, q, rfl⟩
 refine W.skip (bkn (nrm (sr (va (B false) (wln (W.ret ?_))))))
 obtain rfl := si h
 exact r1 ⟨_, s, rfl, rfl, pt, q, rfl⟩
def f_pairs_Join (p0 : Int) (p1 : Int) : Option (Int) :=
 (f_pairs_class p0).bind fun b =>
 (f_pairs_class p1).bind fun a =>
 (andE (b == 1) (some (a == 2))).bind fun e =>
 if e = true then
 some 1
 else
 (f_pairs_breaks b).bind fun i =>
 (orE i ((f_pairs_breaks a).bind fun j =>
 some j)).bind fun f =>
 if f = true then
 some 0
 else
 ((f_pairs_syllable b a).bind fun d =>
 if d = true then
 some (d)
 else
 if (a == 4) = true then
 some (a == 4)
 else
 if (a == 5) = true then
 some (a == 5)
 else
 if (a == 8) = true then
 some (a == 8)
 else
 some (b == 7)).bind fun k =>
 if k = true then
 some 1
 else
 ((andE (a == 0) ((orE (b == 5) (some (b == 4))).bind fun g =>
 some g)).bind fun c =>
 if c = true then
 some (c)
 else
 (andE (b == 6) (some (a == 6))).bind fun h =>
 some (h)).bind fun l =>
 if l = true then
 some 2
 else
 some 0
theorem c_pairs_Join (O0 : Own c0 G F) (E : Int) (M : Int) {r : Int} (H : f_pairs_Join E M = some r) :
    Calls prog 262 #[I E, I M] c0.w (Post c0 fun c v => Own c G (F) ∧ v = I r) := by
 unfold f_pairs_Join at H
 refine en func262 rfl rfl (sr (va (I 0) (wln (sr (va (I E) (bn H fun b h1 H => cl (c_pairs_class O0 E h1) ?_))))))
 rintro v7 c6 l6 ⟨O3, rfl⟩
 refine va (I M) (bn H fun a h8 H => cl (c_pairs_class O3 M h8) ?_)
 rintro v14 y b2 ⟨N, rfl⟩
 refine va (I b) (va (I a) (wln (W.seq (W.block (W.seq (bn H fun g0 a0 H => W.join (Jn y fun c l => Own c G (F) ∧ l = [(0, I b), (1, I a), (9, B g0)]) ?_ ?_))))))
 ·clear H
  refine W.region (va (I b) (va (B (b == 1)) ?_))
  rcases bo (b == 1) with k | k
  ·have q0 := anT k a0
   refine vb k (wn (va (I a) (wn (va (B (a == 2)) ?_))))
   obtain rfl := si q0
   exact va (B (a == 2)) (va (B (a == 2)) (wln ⟨y, _, _, rfl, pt, us, N, rfl⟩))
  obtain rfl := anF k a0
  exact vb k (ps (ps (va (B false) (va (B false) (wln ⟨y, _, _, rfl, pt, us, N, rfl⟩)))))
 rintro z A ⟨U, v1, _, rfl, c2, rfl, P, rfl⟩
 refine nrm (cn H (fun z0 H => ?_) (fun z0 H => ?_))
 ·refine sr (va (I 1) (wln (W.ret (bkr (thr ?_)))))
  obtain rfl := si H
  exact r1 ⟨_, U, rfl, rfl, pt, P, rfl⟩
 refine W.seq (bn H fun k0 a1 H => bn H fun h0 b0 H => W.join (Jn U fun c l => Own c G (F) ∧ l = [(0, I b), (1, I a), (16, B h0)]) ?_ ?_)
 ·clear H
  refine W.region (va (I b) (cl (c_pairs_breaks P b a1) ?_))
  rintro v32 w0 d2 ⟨R, rfl⟩
  rcases bo (k0) with m | m
  ·obtain rfl := orT m b0
   exact vb m (ps (ps (va (B true) (va (B true) (wln ⟨w0, _, _, rfl, pt, us, R, rfl⟩)))))
  have u := orF m b0
  refine vb m (wn (va (I a) (wn (bn u fun D b1 u => cl (c_pairs_breaks R a b1) ?_))))
  rintro v41 x0 e2 ⟨u0, rfl⟩
  obtain rfl := si u
  exact va (B D) (va (B D) (wln ⟨x0, _, _, rfl, pt, us, u0, rfl⟩))
 rintro z A ⟨X, w1, _, rfl, f2, rfl, S, rfl⟩
 refine nrm (cn H (fun c1 H => ?_) (fun c1 H => ?_))
 ·refine sr (va (I 0) (wln (W.ret (bkr (thr ?_)))))
  obtain rfl := si H
  exact r1 ⟨_, X, rfl, rfl, pt, S, rfl⟩
 refine bn H fun m0 d g => W.seqJ (Jn X fun c l => Own c G (F) ∧ l = [(0, I b), (1, I a), (23, B m0)]) ?_ ?_
 ·refine sr (va (I b) (va (I a) (bn d fun l0 d1 d => cl (c_pairs_syllable S b a d1) ?_)))
  rintro v57 j g2 ⟨i, rfl⟩
  refine va (B l0) (wln (cn d (fun e1 d => ?_) (fun e1 d => ?_)))
  ·refine W.skip (nrm ?_)
   obtain rfl := si d
   exact ⟨j, _, _, rfl, pt, us, i, rfl⟩
  refine sr (va (I a) (va (B (a == 4)) (va (B (a == 4)) (wln (cn d (fun f1 d => ?_) (fun f1 d => ?_))))))
  ·refine W.skip (nrm ?_)
   obtain rfl := si d
   exact ⟨j, _, _, rfl, pt, us, i, rfl⟩
  refine sr (va (I a) (va (B (a == 5)) (va (B (a == 5)) (wln (cn d (fun g1 d => ?_) (fun g1 d => ?_))))))
  ·refine W.skip (nrm ?_)
   obtain rfl := si d
   exact ⟨j, _, _, rfl, pt, us, i, rfl⟩
  refine sr (va (I a) (va (B (a == 8)) (va (B (a == 8)) (wln (cn d (fun i1 d => ?_) (fun i1 d => ?_))))))
  ·refine W.skip (nrm ?_)
   obtain rfl := si d
   exact ⟨j, _, _, rfl, pt, us, i, rfl⟩
  refine W.region (va (I b) (va (B (b == 7)) (va (B (b == 7)) (wln ?_))))
  obtain rfl := si d
  exact ⟨j, _, _, rfl, pt, us, i, rfl⟩
 rintro z A ⟨f, x1, _, rfl, h2, rfl, s, rfl⟩
 refine cn g (fun j1 g => ?_) (fun j1 g => ?_)
 ·refine sr (va (I 1) (wln (W.ret (bkr (thr ?_)))))
  obtain rfl := si g
  exact r1 ⟨_, f, rfl, rfl, pt, s, rfl⟩
 refine bn g fun o0 e h => W.seqJ (Jn f fun c l => Own c G (F) ∧ l = [(35, B o0)]) ?_ ?_
 ·refine W.seq (bn e fun i0 d0 e => W.join (Jn f fun c l => Own c G (F) ∧ l = [(0, I b), (1, I a), (35, B i0)]) ?_ ?_)
  ·clear e
   refine W.region (va (I a) (va (B (a == 0)) ?_))
   rcases bo (a == 0) with n | n
   ·have q := anT n d0
    refine vb n (wn (va (I b) (wn (va (B (b == 5)) (wn (bn q fun s1 e0 q => ?_))))))
    rcases bo (b == 5) with o | o
    ·obtain rfl := orT o e0
     refine vb o (ps (ps (wn (va (B true) ?_))))
     obtain rfl := si q
     exact va (B true) (va (B true) (wln ⟨f, _, _, rfl, pt, us, s, rfl⟩))
    have s0 := orF o e0
    refine vb o (wn (va (I b) (wn (va (B (b == 4)) (wn ?_)))))
    obtain rfl := si s0
    refine va (B (b == 4)) ?_
    obtain rfl := si q
    exact va (B (b == 4)) (va (B (b == 4)) (wln ⟨f, _, _, rfl, pt, us, s, rfl⟩))
   obtain rfl := anF n d0
   exact vb n (ps (ps (ps (ps (ps (ps (va (B false) (va (B false) (wln ⟨f, _, _, rfl, pt, us, s, rfl⟩)))))))))
  rintro z A ⟨t, y1, _, rfl, i2, rfl, x, rfl⟩
  refine nrm (cn e (fun k1 e => ?_) (fun k1 e => ?_))
  ·refine W.skip (nrm ?_)
   obtain rfl := si e
   exact ⟨t, _, _, rfl, pt, us, x, rfl⟩
  refine bn e fun j0 f0 e => W.join (Jn t fun c l => Own c G (F) ∧ l = [(35, B j0)]) ?_ ?_
  ·clear e
   refine W.region (va (I b) (va (B (b == 6)) ?_))
   rcases bo (b == 6) with p | p
   ·have t0 := anT p f0
    refine vb p (wn (va (I a) (wn (va (B (a == 6)) ?_))))
    obtain rfl := si t0
    exact va (B (a == 6)) (va (B (a == 6)) (wln ⟨t, _, _, rfl, pt, us, x, rfl⟩))
   obtain rfl := anF p f0
   exact vb p (ps (ps (va (B false) (va (B false) (wln ⟨t, _, _, rfl, pt, us, x, rfl⟩)))))
  rintro z A ⟨y0, z1, _, rfl, j2, rfl, v0, rfl⟩
  refine nrm ?_
  obtain rfl := si e
  exact ⟨y0, _, _, rfl, pt, us, v0, rfl⟩
 rintro z A ⟨Z, a2, _, rfl, k2, rfl, T, rfl⟩
 refine cn h (fun m1 h => ?_) (fun m1 h => ?_)
 ·refine sr (va (I 2) (wln (W.ret (bkr (thr ?_)))))
  obtain rfl := si h
  exact r1 ⟨_, Z, rfl, rfl, pt, T, rfl⟩
 refine W.skip (bkn (nrm (sr (va (I 0) (wln (W.ret ?_))))))
 obtain rfl := si h
 exact r1 ⟨_, Z, rfl, rfl, pt, T, rfl⟩
def f_seg_State_joins__feed_Feeder_6 (p0 : G_seg_State) (p1 : G_api_Prop) : Option (Bool) :=
 if (!p0.some) = true then
 some false
 else
 ((andE (p1.Conj == 1) (some (p0.conj == 2))).bind fun a =>
 if a = true then
 some (a)
 else
 (andE p1.Pict (some (p0.pict == 2))).bind fun c =>
 some (c)).bind fun e =>
 if e = true then
 some true
 else
 (f_pairs_Join p0.last p1.Break).bind fun b =>
 if (b == 1) = true then
 some true
 else
 if (b == 2) = true then
 (andE (p0.last == 6) (some p0.odd)).bind fun d =>
 some d
 else
 some false
theorem c_seg_State_joins__feed_Feeder_6 {b : Nat} {r0_0 : Value} {r0_1 : Value} {r0_2 : Value} {r0_3 : Value} {r0_4 : Value} {r0_5 : Value} {r0_11 : Value} (a : G_seg_State) (e : G_api_Prop) (O0 : Own c0 G ((Eb b 158 [r0_0, r0_1, r0_2, r0_3, r0_4, r0_5, B a.some, I a.last, I a.pict, I a.conj, B a.odd, r0_11]) :: F)) {r : Bool} (H : f_seg_State_joins__feed_Feeder_6 a e = some r) :
    Calls prog 231 #[.pointer (some ⟨b, 6, none⟩), .agg #[I e.Break, B e.Pict, I e.Conj, I e.East]] c0.w (Post c0 fun c v => Own c G ((Eb b 158 [r0_0, r0_1, r0_2, r0_3, r0_4, r0_5, B a.some, I a.last, I a.pict, I a.conj, B a.odd, r0_11]) :: F) ∧ v = B r) := by
 unfold f_seg_State_joins__feed_Feeder_6 at H
 refine en func231 rfl rfl (sr (me (bx 33 [I e.Break, B e.Pict, I e.Conj, I e.East] O0) ?_))
 rintro v5 s l4 ⟨p, rfl, q, M⟩
 refine va (B false) (wln (W.seq (sr (va (.pointer (some ⟨b, 6, none⟩)) (va (.pointer (some ⟨b, 6, none⟩)) (va (.pointer (some ⟨b, 6, none⟩)) (vx (le1 6 underlying4 (q.on 0 rfl)) (va (B (!a.some)) (wln (cn H (fun h6 H => ?_) (fun h6 H => ?_)))))))))))
 ·refine sr (va (B false) (wln (W.ret (thr ?_))))
  obtain rfl := si H
  exact r1 ⟨_, s, rfl, rfl, pt, q, rfl⟩
 refine W.skip (nrm (W.seq (W.block (bn H fun P f d => W.seqJ (Jn s fun c l => Own c G ((Eb b 158 [r0_0, r0_1, r0_2, r0_3, r0_4, r0_5, B a.some, I a.last, I a.pict, I a.conj, B a.odd, r0_11]) :: F) ∧ l = [(0, .pointer (some ⟨b, 6, none⟩)), (3, Q p), (10, B P)]) ?_ ?_))))
 ·refine W.seq (bn f fun z h9 f => W.join (Jn s fun c l => Own c G ((Eb b 158 [r0_0, r0_1, r0_2, r0_3, r0_4, r0_5, B a.some, I a.last, I a.pict, I a.conj, B a.odd, r0_11]) :: F) ∧ l = [(0, .pointer (some ⟨b, 6, none⟩)), (3, Q p), (10, B z)]) ?_ ?_)
  ·clear f
   refine W.region (va (.pointer (some ⟨p, 0 + 2, none⟩)) (vx (l1 underlying3 (M 2 _ rfl)) (va (B (e.Conj == 1)) ?_)))
   rcases bo (e.Conj == 1) with j | j
   ·have R := anT j h9
    refine vb j (wn (va (.pointer (some ⟨b, 6, none⟩)) (wn (va (.pointer (some ⟨b, 6, none⟩)) (wn (va (.pointer (some ⟨b, 9, none⟩)) (wn (vx (le1 9 underlying3 (q.on 0 rfl)) (wn (va (B (a.conj == 2)) ?_))))))))))
    obtain rfl := si R
    exact va (B (a.conj == 2)) (va (B (a.conj == 2)) (wln ⟨s, _, _, rfl, pt, us, q, rfl⟩))
   obtain rfl := anF j h9
   exact vb j (ps (ps (ps (ps (ps (va (B false) (va (B false) (wln ⟨s, _, _, rfl, pt, us, q, rfl⟩))))))))
  rintro E N ⟨o, u0, _, rfl, y0, rfl, n, rfl⟩
  refine nrm (cn f (fun e0 f => ?_) (fun e0 f => ?_))
  ·refine W.skip (nrm ?_)
   obtain rfl := si f
   exact ⟨o, _, _, rfl, pt, us, n, rfl⟩
  refine bn f fun A x f => W.join (Jn o fun c l => Own c G ((Eb b 158 [r0_0, r0_1, r0_2, r0_3, r0_4, r0_5, B a.some, I a.last, I a.pict, I a.conj, B a.odd, r0_11]) :: F) ∧ l = [(0, .pointer (some ⟨b, 6, none⟩)), (3, Q p), (10, B A)]) ?_ ?_
  ·clear f
   refine W.region (va (.pointer (some ⟨p, 0 + 1, none⟩)) (vx (l1 underlying4 ((mm M) 1 _ rfl)) ?_))
   rcases bo (e.Pict) with k | k
   ·have S := anT k x
    refine vb k (wn (va (.pointer (some ⟨b, 6, none⟩)) (wn (va (.pointer (some ⟨b, 6, none⟩)) (wn (va (.pointer (some ⟨b, 8, none⟩)) (wn (vx (le1 8 underlying3 (n.on 0 rfl)) (wn (va (B (a.pict == 2)) ?_))))))))))
    obtain rfl := si S
    exact va (B (a.pict == 2)) (va (B (a.pict == 2)) (wln ⟨o, _, _, rfl, pt, us, n, rfl⟩))
   obtain rfl := anF k x
   exact vb k (ps (ps (ps (ps (ps (va (B false) (va (B false) (wln ⟨o, _, _, rfl, pt, us, n, rfl⟩))))))))
  rintro E N ⟨Z, v0, _, rfl, z0, rfl, U, rfl⟩
  refine nrm ?_
  obtain rfl := si f
  exact ⟨Z, _, _, rfl, pt, us, U, rfl⟩
 rintro E N ⟨a0, w0, _, rfl, a1, rfl, t, rfl⟩
 refine cn d (fun f0 d => ?_) (fun f0 d => ?_)
 ·refine sr (va (B true) (wln (W.ret (bkr (thr ?_)))))
  obtain rfl := si d
  exact r1 ⟨_, a0, rfl, rfl, pt, t, rfl⟩
 refine W.skip (bkn (nrm (W.seq (W.seq (rD [] (Kp G0 [(Eb b 158 [r0_0, r0_1, r0_2, r0_3, r0_4, r0_5, B a.some, I a.last, I a.pict, I a.conj, B a.odd, r0_11])]) t ?_)))))
 intro b0 c1 u
 have l0 : Kp G0 [(Eb b 158 [r0_0, r0_1, r0_2, r0_3, r0_4, r0_5, B a.some, I a.last, I a.pict, I a.conj, B a.odd, r0_11])] b0 := (Kp.cons (u.on 0 rfl) Kp.nil0)
 refine ta 0 (.pointer (some ⟨b, 6, none⟩)) (ta 1 (.pointer (some ⟨b, 6, none⟩)) (ta 2 (.pointer (some ⟨b, 7, none⟩)) (tkx 3 l0 (fun c' k0 hk => le1 7 underlying3 (hk.on 0 rfl)) (ta 4 (Q p) (tx 5 (fun c' k0 => l1 underlying3 ((mm M) 0 _ rfl)) (bn d fun i g0 d => o1 6 (gc 6 (c_pairs_Join u a.last e.Break g0) ?_)))))))
 rintro v44 h d1 ⟨g, rfl⟩
 have m0 : Kp G0 [(Eb b 158 [r0_0, r0_1, r0_2, r0_3, r0_4, r0_5, B a.some, I a.last, I a.pict, I a.conj, B a.odd, r0_11])] h := (Kp.cons (g.on 0 rfl) Kp.nil0)
 refine ⟨.inr m0, dn (nrm (W.block (sr (va (B (i == 1)) (va (B (i == 1)) (wln (cn d (fun h0 d => ?_) (fun h0 d => ?_))))))))⟩
 ·refine sr (va (B true) (wln (W.ret (bkr (thr ?_)))))
  obtain rfl := si d
  exact r1 ⟨_, h, rfl, rfl, pt, g, rfl⟩
 refine sr (va (B (i == 2)) (va (B (i == 2)) (wln (cn d (fun i0 d => ?_) (fun i0 d => ?_)))))
 ·refine W.seq (bn d fun D y d => W.join (Jn h fun c l => Own c G ((Eb b 158 [r0_0, r0_1, r0_2, r0_3, r0_4, r0_5, B a.some, I a.last, I a.pict, I a.conj, B a.odd, r0_11]) :: F) ∧ l = [(4, B D)]) ?_ ?_)
  ·clear d
   refine W.region (va (.pointer (some ⟨b, 6, none⟩)) (va (.pointer (some ⟨b, 6, none⟩)) (va (.pointer (some ⟨b, 7, none⟩)) (vx (le1 7 underlying3 (g.on 0 rfl)) (va (B (a.last == 6)) ?_)))))
   rcases bo (a.last == 6) with m | m
   ·have T := anT m y
    refine vb m (wn (va (.pointer (some ⟨b, 6, none⟩)) (wn (va (.pointer (some ⟨b, 6, none⟩)) (wn (va (.pointer (some ⟨b, 10, none⟩)) (wn (vx (le1 10 underlying4 (g.on 0 rfl)) ?_))))))))
    obtain rfl := si T
    exact va (B a.odd) (va (B a.odd) (wln ⟨h, _, _, rfl, pt, us, g, rfl⟩))
   obtain rfl := anF m y
   exact vb m (ps (ps (ps (ps (va (B false) (va (B false) (wln ⟨h, _, _, rfl, pt, us, g, rfl⟩)))))))
  rintro E N ⟨d0, x0, _, rfl, e1, rfl, X, rfl⟩
  refine nrm (W.ret (bkr (thr ?_)))
  obtain rfl := si d
  exact r1 ⟨_, d0, rfl, rfl, pt, X, rfl⟩
 refine W.skip (bkn (nrm (sr (va (B false) (wln (W.ret ?_))))))
 obtain rfl := si d
 exact r1 ⟨_, h, rfl, rfl, pt, g, rfl⟩
def f_seg_State_picture__feed_Feeder_6 (p0 : G_seg_State) (p1 : G_api_Prop) : Option (Int) :=
 if p1.Pict = true then
 some 1
 else
 (andE (p0.pict == 1) (some (p1.Break == 4))).bind fun a =>
 if a = true then
 some 1
 else
 (andE (p0.pict == 1) (some (p1.Break == 5))).bind fun b =>
 if b = true then
 some 2
 else
 some 0
theorem c_seg_State_picture__feed_Feeder_6 {b : Nat} {r0_0 : Value} {r0_1 : Value} {r0_2 : Value} {r0_3 : Value} {r0_4 : Value} {r0_5 : Value} {r0_11 : Value} (a : G_seg_State) (d : G_api_Prop) (A : Own c0 G ((Eb b 158 [r0_0, r0_1, r0_2, r0_3, r0_4, r0_5, B a.some, I a.last, I a.pict, I a.conj, B a.odd, r0_11]) :: F)) {r : Int} (H : f_seg_State_picture__feed_Feeder_6 a d = some r) :
    Calls prog 232 #[.pointer (some ⟨b, 6, none⟩), .agg #[I d.Break, B d.Pict, I d.Conj, I d.East]] c0.w (Post c0 fun c v => Own c G ((Eb b 158 [r0_0, r0_1, r0_2, r0_3, r0_4, r0_5, B a.some, I a.last, I a.pict, I a.conj, B a.odd, r0_11]) :: F) ∧ v = I r) := by
 unfold f_seg_State_picture__feed_Feeder_6 at H
 refine en func232 rfl rfl (sr (me (bx 33 [I d.Break, B d.Pict, I d.Conj, I d.East] A) ?_))
 rintro v5 k T ⟨j, rfl, i, s⟩
 refine va (I 0) (wln (W.seq (W.block (sr (va (.pointer (some ⟨j, 0 + 1, none⟩)) (vx (l1 underlying4 (s 1 _ rfl)) (va (B d.Pict) (wln (cn H (fun E H => ?_) (fun E H => ?_))))))))))
 ·refine sr (va (I 1) (wln (W.ret (bkr (thr ?_)))))
  obtain rfl := si H
  exact r1 ⟨_, k, rfl, rfl, pt, i, rfl⟩
 refine W.seq (bn H fun p y H => W.join (Jn k fun c l => Own c G ((Eb b 158 [r0_0, r0_1, r0_2, r0_3, r0_4, r0_5, B a.some, I a.last, I a.pict, I a.conj, B a.odd, r0_11]) :: F) ∧ l = [(0, .pointer (some ⟨b, 6, none⟩)), (3, Q j), (8, B p)]) ?_ ?_)
 ·clear H
  refine W.region (va (.pointer (some ⟨b, 6, none⟩)) (va (.pointer (some ⟨b, 6, none⟩)) (va (.pointer (some ⟨b, 8, none⟩)) (vx (le1 8 underlying3 (i.on 0 rfl)) (va (B (a.pict == 1)) ?_)))))
  rcases bo (a.pict == 1) with h | h
  ·have z := anT h y
   refine vb h (wn (va (Q j) (wn (vx (l1 underlying3 (s 0 _ rfl)) (wn (va (B (d.Break == 4)) ?_))))))
   obtain rfl := si z
   exact va (B (d.Break == 4)) (va (B (d.Break == 4)) (wln ⟨k, _, _, rfl, pt, us, i, rfl⟩))
  obtain rfl := anF h y
  exact vb h (ps (ps (ps (va (B false) (va (B false) (wln ⟨k, _, _, rfl, pt, us, i, rfl⟩))))))
 rintro D M ⟨g, N, _, rfl, R, rfl, f, rfl⟩
 refine nrm (cn H (fun u H => ?_) (fun u H => ?_))
 ·refine sr (va (I 1) (wln (W.ret (bkr (thr ?_)))))
  obtain rfl := si H
  exact r1 ⟨_, g, rfl, rfl, pt, f, rfl⟩
 refine W.seq (bn H fun q o H => W.join (Jn g fun c l => Own c G ((Eb b 158 [r0_0, r0_1, r0_2, r0_3, r0_4, r0_5, B a.some, I a.last, I a.pict, I a.conj, B a.odd, r0_11]) :: F) ∧ l = [(19, B q)]) ?_ ?_)
 ·clear H
  refine W.region (va (.pointer (some ⟨b, 6, none⟩)) (va (.pointer (some ⟨b, 6, none⟩)) (va (.pointer (some ⟨b, 8, none⟩)) (vx (le1 8 underlying3 (f.on 0 rfl)) (va (B (a.pict == 1)) ?_)))))
  rcases bo (a.pict == 1) with e | e
  ·have t := anT e o
   refine vb e (wn (va (Q j) (wn (vx (l1 underlying3 ((mm s) 0 _ rfl)) (wn (va (B (d.Break == 5)) ?_))))))
   obtain rfl := si t
   exact va (B (d.Break == 5)) (va (B (d.Break == 5)) (wln ⟨g, _, _, rfl, pt, us, f, rfl⟩))
  obtain rfl := anF e o
  exact vb e (ps (ps (ps (va (B false) (va (B false) (wln ⟨g, _, _, rfl, pt, us, f, rfl⟩))))))
 rintro D M ⟨n, P, _, rfl, S, rfl, m, rfl⟩
 refine nrm (cn H (fun x H => ?_) (fun x H => ?_))
 ·refine sr (va (I 2) (wln (W.ret (bkr (thr ?_)))))
  obtain rfl := si H
  exact r1 ⟨_, n, rfl, rfl, pt, m, rfl⟩
 refine W.skip (bkn (nrm (sr (va (I 0) (wln (W.ret ?_))))))
 obtain rfl := si H
 exact r1 ⟨_, n, rfl, rfl, pt, m, rfl⟩
def f_seg_State_conjunct__feed_Feeder_6 (p0 : G_seg_State) (p1 : G_api_Prop) : Option (Int) :=
 if (p1.Conj == 1) = true then
 some 1
 else
 if (p0.conj == 0) = true then
 some 0
 else
 if (p1.Conj == 2) = true then
 some 2
 else
 if (p1.Conj == 3) = true then
 some p0.conj
 else
 some 0
theorem c_seg_State_conjunct__feed_Feeder_6 {b : Nat} {r0_0 : Value} {r0_1 : Value} {r0_2 : Value} {r0_3 : Value} {r0_4 : Value} {r0_5 : Value} {r0_11 : Value} (d : G_seg_State) (a : G_api_Prop) (i : Own c0 G ((Eb b 158 [r0_0, r0_1, r0_2, r0_3, r0_4, r0_5, B d.some, I d.last, I d.pict, I d.conj, B d.odd, r0_11]) :: F)) {r : Int} (H : f_seg_State_conjunct__feed_Feeder_6 d a = some r) :
    Calls prog 233 #[.pointer (some ⟨b, 6, none⟩), .agg #[I a.Break, B a.Pict, I a.Conj, I a.East]] c0.w (Post c0 fun c v => Own c G ((Eb b 158 [r0_0, r0_1, r0_2, r0_3, r0_4, r0_5, B d.some, I d.last, I d.pict, I d.conj, B d.odd, r0_11]) :: F) ∧ v = I r) := by
 unfold f_seg_State_conjunct__feed_Feeder_6 at H
 refine en func233 rfl rfl (sr (me (bx 33 [I a.Break, B a.Pict, I a.Conj, I a.East] i) ?_))
 rintro v5 f n ⟨g, rfl, e, h⟩
 refine va (I 0) (wln (W.seq (W.block (sr (va (.pointer (some ⟨g, 0 + 2, none⟩)) (vx (l1 underlying3 (h 2 _ rfl)) (va (B (a.Conj == 1)) (va (B (a.Conj == 1)) (wln (cn H (fun j H => ?_) (fun j H => ?_)))))))))))
 ·refine sr (va (I 1) (wln (W.ret (bkr (thr ?_)))))
  obtain rfl := si H
  exact r1 ⟨_, f, rfl, rfl, pt, e, rfl⟩
 refine sr (va (.pointer (some ⟨b, 6, none⟩)) (va (.pointer (some ⟨b, 6, none⟩)) (va (.pointer (some ⟨b, 9, none⟩)) (vx (le1 9 underlying3 (e.on 0 rfl)) (va (B (d.conj == 0)) (va (B (d.conj == 0)) (wln (cn H (fun k H => ?_) (fun k H => ?_)))))))))
 ·refine sr (va (I 0) (wln (W.ret (bkr (thr ?_)))))
  obtain rfl := si H
  exact r1 ⟨_, f, rfl, rfl, pt, e, rfl⟩
 refine sr (va (.pointer (some ⟨g, 0 + 2, none⟩)) (vx (l1 underlying3 (h 2 _ rfl)) (va (B (a.Conj == 2)) (va (B (a.Conj == 2)) (wln (cn H (fun l H => ?_) (fun l H => ?_)))))))
 ·refine sr (va (I 2) (wln (W.ret (bkr (thr ?_)))))
  obtain rfl := si H
  exact r1 ⟨_, f, rfl, rfl, pt, e, rfl⟩
 refine sr (va (.pointer (some ⟨g, 0 + 2, none⟩)) (vx (l1 underlying3 (h 2 _ rfl)) (va (B (a.Conj == 3)) (va (B (a.Conj == 3)) (wln (cn H (fun m H => ?_) (fun m H => ?_)))))))
 ·refine sr (va (.pointer (some ⟨b, 6, none⟩)) (va (.pointer (some ⟨b, 6, none⟩)) (va (.pointer (some ⟨b, 9, none⟩)) (vx (le1 9 underlying3 (e.on 0 rfl)) (va (I d.conj) (wln (W.ret (bkr (thr ?_)))))))))
  obtain rfl := si H
  exact r1 ⟨_, f, rfl, rfl, pt, e, rfl⟩
 refine W.skip (bkn (nrm (sr (va (I 0) (wln (W.ret ?_))))))
 obtain rfl := si H
 exact r1 ⟨_, f, rfl, rfl, pt, e, rfl⟩
def f_seg_State_Step__feed_Feeder_6 (p0 : G_seg_State) (p1 : G_api_Prop) : Option (G_seg_State × Bool) :=
 if false = true then
 some (p0, false)
 else
 (f_seg_State_joins__feed_Feeder_6 p0 p1).bind fun d =>
 (f_seg_State_picture__feed_Feeder_6 p0 p1).bind fun e =>
 (f_seg_State_conjunct__feed_Feeder_6 p0 p1).bind fun f =>
 (andE (p1.Break == 6) ((andE p0.some (some (p0.last == 6))).bind fun b =>
 (andE b (some p0.odd)).bind fun c =>
 some (!c))).bind fun a =>
 some ((⟨true, p1.Break, e, f, a⟩ : G_seg_State), d)
theorem c_seg_State_Step__feed_Feeder_6 {a : Nat} {r0_0 : Value} {r0_1 : Value} {r0_2 : Value} {r0_3 : Value} {r0_4 : Value} {r0_5 : Value} {r0_11 : Value} (b : G_seg_State) (f : G_api_Prop) (O0 : Own c0 G ((Eb a 158 [r0_0, r0_1, r0_2, r0_3, r0_4, r0_5, B b.some, I b.last, I b.pict, I b.conj, B b.odd, r0_11]) :: F)) {r : G_seg_State × Bool} (H : f_seg_State_Step__feed_Feeder_6 b f = some r) :
    Calls prog 183 #[.pointer (some ⟨a, 6, none⟩), .agg #[I f.Break, B f.Pict, I f.Conj, I f.East]] c0.w (Post c0 fun c v => Own c G ((Eb a 158 [r0_0, r0_1, r0_2, r0_3, r0_4, r0_5, B r.1.some, I r.1.last, I r.1.pict, I r.1.conj, B r.1.odd, r0_11]) :: F) ∧ v = B r.2) := by
 unfold f_seg_State_Step__feed_Feeder_6 at H
 refine en func183 rfl rfl (sr (me (bx 33 [I f.Break, B f.Pict, I f.Conj, I f.East] O0) ?_))
 rintro v5 c4 l4 ⟨A, rfl, O2, o⟩
 refine va (B false) (wln (W.seq (sr (va (.pointer (some ⟨a, 6, none⟩)) (va (B false) (wln (W.cond (t := false) (by kernel_rfl) (fun E => ?_) (fun E => ?_))))))))
 ·cases E
 have H := ie E H
 refine W.skip (nrm (sr (va (.pointer (some ⟨a, 6, none⟩)) (vx (lN 33 o) (bn H fun i h8 H => cl (c_seg_State_joins__feed_Feeder_6 b f O2 h8) ?_)))))
 rintro v14 j1 n1 ⟨P, rfl⟩
 refine va (B i) (wln (W.seq (rD [] (Kp G0 []) P ?_)))
 intro i0 q1 R
 have e2 : Kp G0 [] i0 := Kp.nil0
 refine ta 0 (.pointer (some ⟨a, 6, none⟩)) (ta 1 (.pointer (some ⟨a, 6, none⟩)) (ta 2 (.pointer (some ⟨a, 6, none⟩)) (tx 3 (fun c' z => lN 33 (mm o)) (ta 5 (.pointer (some ⟨a, 6, none⟩)) (tx 6 (fun c' z => lN 33 (mm o)) (bn H fun d v0 H => o1 4 (gc 4 (c_seg_State_picture__feed_Feeder_6 b f R v0) ?_)))))))
 rintro v25 j0 s1 ⟨S, rfl⟩
 have y0 : Kp G0 [] j0 := Kp.nil0
 refine ⟨.inr y0, bn H fun e w0 H => o1 7 (gc 7 (c_seg_State_conjunct__feed_Feeder_6 b f S w0) ?_)⟩
 rintro v34 k0 t1 ⟨T, rfl⟩
 have z0 : Kp G0 [] k0 := Kp.nil0
 refine ⟨.inr z0, ta 8 (.pointer (some ⟨a, 6, none⟩)) (ta 9 (.pointer (some ⟨a, 8, none⟩)) (o1 10 (gD 10 (sC 3 8 (I d) [r0_0, r0_1, r0_2, r0_3, r0_4, r0_5, B b.some, I b.last, I d, I b.conj, B b.odd, r0_11] 0 T ⟨rfl, trivial⟩) ?_)))⟩
 rintro l0 u1 U
 have a1 : Kp G0 [] l0 := Kp.nil0
 refine ⟨.inr a1, ta 11 (.pointer (some ⟨a, 6, none⟩)) (ta 12 (.pointer (some ⟨a, 9, none⟩)) (o1 13 (gD 13 (sC 3 9 (I e) [r0_0, r0_1, r0_2, r0_3, r0_4, r0_5, B b.some, I b.last, I d, I e, B b.odd, r0_11] 0 U ⟨rfl, trivial⟩) ?_)))⟩
 rintro p v1 h
 have c1 : Kp G0 [] p := Kp.nil0
 refine ⟨.inr c1, dn (nrm (W.seq (bn H fun n s H => W.join (Jn p fun c l => Own c G ((Eb a 158 [r0_0, r0_1, r0_2, r0_3, r0_4, r0_5, B b.some, I b.last, I d, I e, B n, r0_11]) :: F) ∧ l = [(0, .pointer (some ⟨a, 6, none⟩)), (3, Q A), (5, B i)]) ?_ ?_)))⟩
 ·clear H
  refine W.region (va (.pointer (some ⟨a, 6, none⟩)) (va (Q A) (vx (l1 underlying3 ((mm o) 0 _ rfl)) (va (B (f.Break == 6)) ?_))))
  rcases bo (f.Break == 6) with j | j
  ·have g := anT j s
   refine vb j (wn (va (.pointer (some ⟨a, 6, none⟩)) (wn (va (.pointer (some ⟨a, 6, none⟩)) (wn (va (.pointer (some ⟨a, 6, none⟩)) (wn (vx (le1 6 underlying4 (h.on 0 rfl)) (wn (bn g fun h1 u g => ?_))))))))))
   rcases bo (b.some) with k | k
   ·have M := anT k u
    refine vb k (wn (va (.pointer (some ⟨a, 6, none⟩)) (wn (va (.pointer (some ⟨a, 6, none⟩)) (wn (va (.pointer (some ⟨a, 7, none⟩)) (wn (vx (le1 7 underlying3 (h.on 0 rfl)) (wn (va (B (b.last == 6)) (wn ?_)))))))))))
    obtain rfl := si M
    refine va (B (b.last == 6)) (wn (bn g fun D x g => ?_))
    rcases bo (b.last == 6) with m | m
    ·have N := anT m x
     refine vb m (wn (va (.pointer (some ⟨a, 6, none⟩)) (wn (va (.pointer (some ⟨a, 6, none⟩)) (wn (va (.pointer (some ⟨a, 10, none⟩)) (wn (vx (le1 10 underlying4 (h.on 0 rfl)) (wn ?_)))))))))
     obtain rfl := si N
     refine va (B b.odd) (wn (va (B (!b.odd)) ?_))
     obtain rfl := si g
     refine va (B (!b.odd)) (va (.pointer (some ⟨a, 6, none⟩)) (va (.pointer (some ⟨a, 10, none⟩)) (md (sC 4 10 (B (!b.odd)) [r0_0, r0_1, r0_2, r0_3, r0_4, r0_5, B b.some, I b.last, I d, I e, B (!b.odd), r0_11] 0 h ⟨rfl, trivial⟩) ?_)))
     rintro m0 w1 X
     exact wln ⟨m0, _, _, rfl, pt, us, X, rfl⟩
    obtain rfl := anF m x
    refine vb m (ps (ps (ps (ps (wn (va (B false) (wn (va (B (!false)) ?_))))))))
    obtain rfl := si g
    refine va (B (!false)) (va (.pointer (some ⟨a, 6, none⟩)) (va (.pointer (some ⟨a, 10, none⟩)) (md (sC 4 10 (B (!false)) [r0_0, r0_1, r0_2, r0_3, r0_4, r0_5, B b.some, I b.last, I d, I e, B (!false), r0_11] 0 h ⟨rfl, trivial⟩) ?_)))
    rintro o0 x1 Z
    exact wln ⟨o0, _, _, rfl, pt, us, Z, rfl⟩
   obtain rfl := anF k u
   refine vb k (ps (ps (ps (ps (ps (wn (va (B false) (wn (bn g fun D x0 g => ?_)))))))))
   have y : false = false := rfl
   obtain rfl := anF y x0
   refine vb y (ps (ps (ps (ps (wn (va (B false) (wn (va (B (!false)) ?_))))))))
   obtain rfl := si g
   refine va (B (!false)) (va (.pointer (some ⟨a, 6, none⟩)) (va (.pointer (some ⟨a, 10, none⟩)) (md (sC 4 10 (B (!false)) [r0_0, r0_1, r0_2, r0_3, r0_4, r0_5, B b.some, I b.last, I d, I e, B (!false), r0_11] 0 h ⟨rfl, trivial⟩) ?_)))
   rintro q0 y1 a0
   exact wln ⟨q0, _, _, rfl, pt, us, a0, rfl⟩
  obtain rfl := anF j s
  refine vb j (ps (ps (ps (ps (ps (ps (ps (ps (ps (ps (ps (ps (ps (ps (ps (ps (ps (ps (va (B false) (va (.pointer (some ⟨a, 6, none⟩)) (va (.pointer (some ⟨a, 10, none⟩)) (md (sC 4 10 (B false) [r0_0, r0_1, r0_2, r0_3, r0_4, r0_5, B b.some, I b.last, I d, I e, B false, r0_11] 0 h ⟨rfl, trivial⟩) ?_))))))))))))))))))))))
  rintro s0 z1 b0
  exact wln ⟨s0, _, _, rfl, pt, us, b0, rfl⟩
 rintro e_ w_ ⟨k1, m1, _, rfl, a2, rfl, d0, rfl⟩
 refine nrm (W.seq (rD [] (Kp G0 []) d0 ?_))
 intro t0 b2 e0
 have f2 : Kp G0 [] t0 := Kp.nil0
 refine ta 0 (.pointer (some ⟨a, 6, none⟩)) (ta 1 (.pointer (some ⟨a, 6, none⟩)) (ta 2 (Q A) (tx 3 (fun c' z => l1 underlying3 ((mm o) 0 _ rfl)) (ta 4 (.pointer (some ⟨a, 6, none⟩)) (ta 5 (.pointer (some ⟨a, 6, none⟩)) (o1 6 (gD 6 (sC 4 6 (B true) [r0_0, r0_1, r0_2, r0_3, r0_4, r0_5, B true, I b.last, I d, I e, B n, r0_11] 0 e0 ⟨rfl, trivial⟩) ?_)))))))
 rintro u0 c2 f0
 have d1 : Kp G0 [] u0 := Kp.nil0
 refine ⟨.inr d1, ta 7 (.pointer (some ⟨a, 6, none⟩)) (ta 8 (.pointer (some ⟨a, 7, none⟩)) (o1 9 (gD 9 (sC 3 7 (I f.Break) [r0_0, r0_1, r0_2, r0_3, r0_4, r0_5, B true, I f.Break, I d, I e, B n, r0_11] 0 f0 ⟨rfl, trivial⟩) ?_)))⟩
 rintro q d2 g0
 have e1 : Kp G0 [] q := Kp.nil0
 refine ⟨.inr e1, dn (nrm (sr (va (B i) (va (B i) (wln (W.ret ?_))))))⟩
 obtain rfl := si H
 exact r1 ⟨_, q, rfl, rfl, pt, g0, rfl⟩
def f_seg_State_Reset__feed_Feeder_6 (p0 : G_seg_State) : Option (G_seg_State) :=
 if true = true then
 some (⟨false, 0, 0, 0, false⟩ : G_seg_State)
 else
 some p0
theorem c_seg_State_Reset__feed_Feeder_6 {a : Nat} {r0_0 : Value} {r0_1 : Value} {r0_2 : Value} {r0_3 : Value} {r0_4 : Value} {r0_5 : Value} {r0_11 : Value} (b : G_seg_State) (e : Own c0 G ((Eb a 158 [r0_0, r0_1, r0_2, r0_3, r0_4, r0_5, B b.some, I b.last, I b.pict, I b.conj, B b.odd, r0_11]) :: F)) {r : G_seg_State} (H : f_seg_State_Reset__feed_Feeder_6 b = some r) :
    Calls prog 111 #[.pointer (some ⟨a, 6, none⟩)] c0.w (Post c0 fun c v => Own c G ((Eb a 158 [r0_0, r0_1, r0_2, r0_3, r0_4, r0_5, B r.some, I r.last, I r.pict, I r.conj, B r.odd, r0_11]) :: F) ∧ v = .tuple #[]) := by
 unfold f_seg_State_Reset__feed_Feeder_6 at H
 refine en func111 rfl rfl (sr (va (.pointer (some ⟨a, 6, none⟩)) (va (B true) (wln (W.cond (t := true) (by kernel_rfl) (fun d => ?_) (fun d => ?_))))))
 ·have H := it d H
  refine W.region (va (.pointer (some ⟨a, 6, none⟩)) (va (.agg #[B false, I 0, I 0, I 0, B false]) (va (.pointer (some ⟨a, 6, none⟩)) (md (sB 156 6 [B false, I 0, I 0, I 0, B false] [r0_0, r0_1, r0_2, r0_3, r0_4, r0_5, B false, I 0, I 0, I 0, B false, r0_11] 0 e ⟨rfl, rfl, rfl, rfl, rfl, trivial⟩) ?_))))
  rintro g h f
  refine WL.nil ?_
  obtain rfl := si H
  exact n0 ⟨_, g, rfl, rfl, pt, f, rfl⟩
 cases d
def f_feed_Feeder_Close (sg : Sto) (p0 : Option Nat) : Option (Sto) :=
 if (!p0.isNone) = true then
 (p0).bind fun c =>
 (sg.feed_Feeder[c]?).bind fun a =>
 (sg.set_feed_Feeder c (⟨a.pen, a.dec, a.seg, (none : Option Nat)⟩ : G_feed_Feeder)).bind fun d =>
 (f_seg_State_Reset__feed_Feeder_6 a.seg).bind fun e =>
 (d.set_feed_Feeder c (⟨a.pen, a.dec, e, (none : Option Nat)⟩ : G_feed_Feeder)).bind fun b =>
 some b
 else
 some sg
theorem c_feed_Feeder_Close (n : Own c0 G F) (i : Rel c0 sg G) (k : Option Nat) {r : Sto} (M : Pt 4 c0 v1 k) (H : f_feed_Feeder_Close sg k = some r) :
    Calls prog 40 #[v1] c0.w (Post c0 fun c v => ∃ G_ : Gm, Own c G_ (F) ∧ Rel c r G_ ∧ v = .tuple #[]) := by
 unfold f_feed_Feeder_Close at H
 refine en func40 rfl rfl (sr (va (v1) (vr (B (!k.isNone)) (by rcases (M).cs with ⟨f, g⟩ | ⟨b_, f, g⟩ <;> (subst f; rw [g]; kernel_rfl)) (wln (cn H (fun T H => ?_) (fun T H => ?_))))))
 ·refine sr (va (v1) (bn H fun g0 U H => ?_))
  obtain ⟨d, rfl, j⟩ := (M).get U
  refine va (Q d) (va (.pointer (some ⟨d, 11, none⟩)) (bn H fun a X H => ?_))
  obtain ⟨v8, v10, A, R, e0⟩ := Rel.open_feed_Feeder i X j
  refine md (gC 44 11 (.pointer none) [v8, I a.dec.held, I a.dec.needs, .int .u8 a.dec.lo, .int .u8 a.dec.hi, I a.dec.bits, B a.seg.some, I a.seg.last, I a.seg.pict, I a.seg.conj, B a.seg.odd, .pointer none] 0 n A ⟨rfl, trivial⟩) ?_
  rintro d0 e o
  refine bn H fun S E H => ?_
  obtain ⟨Z, p, x, D, a0⟩ := Rel.put_feed_Feeder o (i.mono e) (E' := [(Eb d 158 [v8, I a.dec.held, I a.dec.needs, .int .u8 a.dec.lo, .int .u8 a.dec.hi, I a.dec.bits, B a.seg.some, I a.seg.last, I a.seg.pict, I a.seg.conj, B a.seg.odd, .pointer none])]) E ⟨d, v8, (.pointer none), (tm j), rfl, (R.mono e), rfl⟩
  refine wln (W.region (va (Q d) (va (Q d) (va (.pointer (some ⟨d, 6, none⟩)) ?_))))
  have q := p.borrow 0 D rfl
  refine bn H fun b N H => cl (c_seg_State_Reset__feed_Feeder_6 a.seg q N) ?_
  rintro v29 z h ⟨s, rfl⟩
  have t := s.giveB 0 rfl
  refine bn H fun l P H => ?_
  obtain ⟨m, u, y, f0, b0⟩ := Rel.put_feed_Feeder t (x.mono h) (E' := [(Eb d 158 [v8, I a.dec.held, I a.dec.needs, .int .u8 a.dec.lo, .int .u8 a.dec.hi, I a.dec.bits, B b.some, I b.last, I b.pict, I b.conj, B b.odd, .pointer none])]) P ⟨d, v8, (.pointer none), (tm j), rfl, (R.mono (e.trans h)), rfl⟩
  refine WL.nil ?_
  obtain rfl := si H
  exact n0 ⟨_, z, rfl, rfl, pt, m, u, y, rfl⟩
 refine W.skip ?_
 obtain rfl := si H
 exact n0 ⟨_, c0, rfl, rfl, pt, G, n, i, rfl⟩
def f_feed_Feeder_comes (sg : Sto) (p0 : Option Nat) (p1 : Int) : Option (Sto) :=
 (f_basew_Silent p1).bind fun s =>
 if s = true then
 (f_feed_Feeder_Close sg p0).bind fun k =>
 (p0).bind fun r =>
 (k.feed_Feeder[r]?).bind fun n =>
 (f_ctrl_Do k n.pen p1).bind fun p =>
 some p.1
 else
 (f_ucd_Of p1).bind fun e =>
 (p0).bind fun h =>
 (sg.feed_Feeder[h]?).bind fun a =>
 (f_seg_State_Step__feed_Feeder_6 a.seg e).bind fun j =>
 (sg.set_feed_Feeder h (⟨a.pen, a.dec, j.1, a.open_⟩ : G_feed_Feeder)).bind fun b =>
 (andE j.2 (some (!a.open_.isNone))).bind fun l =>
 if l = true then
 (p0).bind fun m =>
 (b.feed_Feeder[m]?).bind fun i =>
 (f_widen_Cluster_Join b i.open_ i.pen p1 e).bind fun q =>
 some q.1
 else
 (p0).bind fun c =>
 (b.feed_Feeder[c]?).bind fun o =>
 (f_widen_Begin b o.pen p1 e).bind fun f =>
 (f.1.feed_Feeder[c]?).bind fun d =>
 (f.1.set_feed_Feeder c (⟨d.pen, d.dec, d.seg, f.2⟩ : G_feed_Feeder)).bind fun g =>
 some g
theorem c_feed_Feeder_comes (O0 : Own c0 G F) (R0 : Rel c0 sg G) (hG : Gl [0, 4] c0) (p0 : Option Nat) (f : Int) {r : Sto} (U : Pt 4 c0 v1 p0) (H : f_feed_Feeder_comes sg p0 f = some r) :
    Calls prog 109 #[v1, J f] c0.w (Post c0 fun c v => ∃ G_ : Gm, Own c G_ (F) ∧ Rel c r G_ ∧ v = .tuple #[]) := by
 unfold f_feed_Feeder_comes at H
 refine en func109 rfl rfl (W.seq (sr (va (J f) (bn H fun e5 h3 H => cl (c_basew_Silent O0 f h3) ?_))))
 rintro v9 c8 N ⟨O5, rfl⟩
 refine wln (cn H (fun w2 H => ?_) (fun w2 H => ?_))
 ·refine sr (va (v1) (bn H fun f5 x2 H => cl (c_feed_Feeder_Close O5 R0.m p0 U.m x2) ?_))
  rintro v17 t4 l16 ⟨r4, g0, j0, rfl⟩
  refine wln (sr (va (v1) (bn H fun z4 z2 H => ?_)))
  obtain ⟨l0, rfl, y2⟩ := ((U.mono (N.trans l16))).get z2
  refine va (Q l0) (va (Q l0) (bn H fun z1 a3 H => ?_))
  obtain ⟨v22, v24, c3, b3, y4⟩ := Rel.open_feed_Feeder j0 a3 y2
  refine vx (le1 0 underlying40 (g0.gon c3 0 rfl)) (va (J f) (bn H fun o4 d3 H => cl (c_ctrl_Do g0 j0 z1.pen f b3 d3) ?_))
  rintro v33 s2 a5 ⟨d2, g2, q2, rfl⟩
  refine wln (W.ret (thr ?_))
  obtain rfl := si H
  exact r0 ⟨_, s2, rfl, rfl, pt, d2, g2, q2, rfl⟩
 refine W.skip (nrm (sr (va (J f) (bn H fun a e3 H => cl (c_ucd_Of O5 f e3) ?_))))
 rintro v40 u4 s ⟨i2, rfl⟩
 refine me (al 33 [I 0, B false, I 0, I 0] i2) ?_
 rintro v44 v4 t ⟨h, rfl, j2⟩
 refine md (sA 33 [I a.Break, B a.Pict, I a.Conj, I a.East] 0 j2 ⟨rfl, rfl, rfl, rfl, trivial⟩) ?_
 rintro t2 u k2
 refine wln (W.seq (W.seq (bn H fun e4 f3 H => bn H fun d g3 H => bn H fun g i3 H => bn H fun P j3 H => bn H fun k1 s0 H => W.join (Jn t2 fun c l => ∃ G_, Own c G_ ((Eb h 33 [I a.Break, B a.Pict, I a.Conj, I a.East]) :: F) ∧ l = [(0, v1), (1, J f), (4, Q h), (28, B k1)] ∧ Rel c P G_) ?_ ?_)))
 ·clear H
  refine rD [4, 9] (Kp G0 [(Eb h 33 [I a.Break, B a.Pict, I a.Conj, I a.East])]) k2 ?_
  intro u2 Z h0
  have v3 : Kp G0 [(Eb h 33 [I a.Break, B a.Pict, I a.Conj, I a.East])] u2 := (Kp.cons (h0.on 0 rfl) Kp.nil0)
  refine ta 0 (v1) ?_
  obtain ⟨j, rfl, t0⟩ := ((U.mono (N.trans (s.trans (t.trans (u.trans Z)))))).get f3
  refine ta 1 (Q j) (ta 2 (.pointer (some ⟨j, 6, none⟩)) (tkx 3 v3 (fun p i k => leN 33 0 [I a.Break, B a.Pict, I a.Conj, I a.East] (k.on 0 rfl)) ?_))
  obtain ⟨v57, v59, l3, k3, u0⟩ := Rel.open_feed_Feeder (R0.mono (N.trans (s.trans (t.trans (u.trans Z))))) g3 t0
  have m2 := h0.borrow 0 l3 rfl
  refine o1 4 (gc 4 (c_seg_State_Step__feed_Feeder_6 d.seg a m2 i3) ?_)
  rintro b5 m0 a0 ⟨n2, rfl⟩
  have o2 := n2.giveB 0 rfl
  obtain ⟨f0, R, k0, m3, s4⟩ := Rel.put_feed_Feeder o2 (R0.mono (N.trans (s.trans (t.trans (u.trans (Z.trans a0)))))) (E' := [(Eb j 158 [v57, I d.dec.held, I d.dec.needs, .int .u8 d.dec.lo, .int .u8 d.dec.hi, I d.dec.bits, B g.1.some, I g.1.last, I g.1.pict, I g.1.conj, B g.1.odd, v59])]) j3 ⟨j, v57, v59, (tm t0), rfl, (k3.mono a0), (u0.mono a0)⟩
  refine ⟨.inl rfl, ?_⟩
  rcases bo (g.2) with q | q
  ·have f2 := anT q s0
   refine AC.takeb 5 q rfl (by kernel_rfl) (by kernel_rfl) (fun p i => (by kernel_rfl)) (ta 6 (Q j) (ta 7 (Q j) (ta 8 (.pointer (some ⟨j, 11, none⟩)) (o1 9 (gl 9 (le1 11 underlying44 (R.gon m3 0 rfl)) (AC.take 10 (B (!d.open_.isNone)) rfl (by kernel_rfl) (by kernel_rfl) (fun p i => (by rcases u0.m.cs with ⟨o0, q0⟩ | ⟨b_, o0, q0⟩ <;> (subst o0; rw [q0]; kernel_rfl))) ?_))))))
   obtain rfl := si f2
   exact ta 11 (B (!d.open_.isNone)) (dn (nrm ⟨m0, _, _, rfl, pt, us, f0, R, rfl, k0⟩))
  obtain rfl := anF q s0
  exact AC.takeb 5 q rfl (by kernel_rfl) (by kernel_rfl) (fun p i => (by kernel_rfl)) (tp 6 (tp 7 (tp 8 (tp 9 (tp 10 (ta 11 (B false) (dn (nrm ⟨m0, _, _, rfl, pt, us, f0, R, rfl, k0⟩))))))))
 rintro e_ w_ ⟨w4, x4, _, rfl, w0, rfl, E, i0, rfl, M⟩
 refine nrm (cn H (fun n3 H => ?_) (fun n3 H => ?_))
 ·refine W.seq (rD [10] (Kp E [(Eb h 33 [I a.Break, B a.Pict, I a.Conj, I a.East])]) i0 ?_)
  intro v2 x0 S
  have e0 : Kp E [(Eb h 33 [I a.Break, B a.Pict, I a.Conj, I a.East])] v2 := (Kp.cons (S.on 0 rfl) (Kp.nil S))
  refine ta 0 (v1) (bn H fun f4 p3 H => ?_)
  obtain ⟨o, rfl, o3⟩ := ((U.mono (N.trans (s.trans (t.trans (u.trans (w0.trans x0))))))).get p3
  refine ta 1 (Q o) (ta 2 (.pointer (some ⟨o, 11, none⟩)) (bn H fun b0 q3 H => ?_))
  obtain ⟨c5, d5, v0, s3, t3⟩ := Rel.open_feed_Feeder (M.mono x0) q3 o3
  refine tkx 3 e0 (fun p i k => le1 11 underlying44 (k.gon v0 0 rfl)) (ta 4 (Q o) (ta 5 (Q o) (ta 6 (Q o) (tkx 7 e0 (fun p i k => le1 0 underlying40 (k.gon v0 0 rfl)) (ta 8 (J f) (tkx 9 e0 (fun p i k => leN 33 0 [I a.Break, B a.Pict, I a.Conj, I a.East] (k.on 0 rfl)) (bn H fun p4 u3 H => o1 10 (gc 10 (c_widen_Cluster_Join S M.m (hG.m.le (by decide)) b0.open_ b0.pen f a t3 s3 u3) ?_))))))))
  rintro j4 h1 h4 ⟨e2, p2, f1, rfl⟩
  refine ⟨.inl rfl, dn (nrm (W.ret (thr ?_)))⟩
  obtain rfl := si H
  have z0 := p2.sD 1 []
  exact r0 ⟨_, h1, rfl, rfl, pt, e2, z0, f1, rfl⟩
 refine W.skip (nrm (rD [7, 10] (Kp E [(Eb h 33 [I a.Break, B a.Pict, I a.Conj, I a.East])]) i0 ?_))
 intro i1 X x
 have d0 : Kp E [(Eb h 33 [I a.Break, B a.Pict, I a.Conj, I a.East])] i1 := (Kp.cons (x.on 0 rfl) (Kp.nil x))
 refine ta 0 (v1) (ta 1 (v1) (bn H fun g4 m1 H => ?_))
 obtain ⟨e, rfl, y⟩ := ((U.mono (N.trans (s.trans (t.trans (u.trans (w0.trans X))))))).get m1
 refine ta 2 (Q e) (ta 3 (Q e) (bn H fun a2 n1 H => ?_))
 obtain ⟨k4, l4, s1, q1, a4⟩ := Rel.open_feed_Feeder (M.mono X) n1 y
 refine tkx 4 d0 (fun p i k => le1 0 underlying40 (k.gon s1 0 rfl)) (ta 5 (J f) (tkx 6 d0 (fun p i k => leN 33 0 [I a.Break, B a.Pict, I a.Conj, I a.East] (k.on 0 rfl)) (bn H fun q4 t1 H => o1 7 (gc 7 (c_widen_Begin x M.m (hG.m.le (by decide)) a2.pen f a q1 t1) ?_))))
 rintro m4 z3 i4 ⟨_, w3, a1, T, rfl, z⟩
 refine ⟨.inl rfl, ta 8 (Q e) (ta 9 (.pointer (some ⟨e, 11, none⟩)) ?_)⟩
 obtain ⟨n, rfl⟩ := (z).form
 refine bn H fun b u1 H => ?_
 obtain ⟨D, n4, x1, w1, b4⟩ := Rel.open_feed_Feeder T u1 (tm y)
 refine o1 10 (gD 10 (gC 44 11 (.pointer n) [D, I b.dec.held, I b.dec.needs, .int .u8 b.dec.lo, .int .u8 b.dec.hi, I b.dec.bits, B b.seg.some, I b.seg.last, I b.seg.pict, I b.seg.conj, B b.seg.odd, .pointer n] 0 a1 x1 ⟨z.one, trivial⟩) ?_)
 rintro j1 A b1
 refine bn H fun c2 y1 H => ?_
 obtain ⟨y0, c1, g1, c4, y3⟩ := Rel.put_feed_Feeder b1 (T.mono A) (E' := [(Eb e 158 [D, I b.dec.held, I b.dec.needs, .int .u8 b.dec.lo, .int .u8 b.dec.hi, I b.dec.bits, B b.seg.some, I b.seg.last, I b.seg.pict, I b.seg.conj, B b.seg.odd, .pointer n])]) y1 ⟨e, D, (.pointer n), (tm y), rfl, (w1.mono A), (z.mono A)⟩
 refine ⟨.inl rfl, dn ?_⟩
 obtain rfl := si H
 have d1 := c1.sD 1 []
 exact n0 ⟨_, j1, rfl, rfl, pt, y0, d1, g1, rfl⟩
def f_feed_Feeder_all (sg : Sto) (p0 : Option Nat) (p1 : List Int) : Option (Sto) :=
 (iter (σ := Int × Sto) (τ := Sto) (((p1.length : Int) - 0).toNat + 1) (fun a =>
 if (decide (a.1 < (p1.length : Int))) = true then
 (idx p1 a.1).bind fun d =>
 (f_feed_Feeder_comes a.2 p0 d).bind fun b =>
 some (.inl ((w64 (a.1 + 1)), b))
 else
 some (.inr (a.2))) (0, sg)).bind fun c =>
 some c
theorem c_feed_Feeder_all (S : Own c0 G F) (T : Rel c0 sg G) (hG : Gl [0, 4] c0) (j : Option Nat) (d : List Int) {r : Sto} (Z : Pt 4 c0 v1 j) (h : Sl (RI .i32) c0 v3 d) (H : f_feed_Feeder_all sg j d = some r) :
    Calls prog 106 #[v1, v3] c0.w (Post c0 fun c v => ∃ G_ : Gm, Own c G_ (F) ∧ Rel c r G_ ∧ v = .tuple #[]) := by
 unfold f_feed_Feeder_all at H
 refine en func106 rfl rfl (sr (va (v3) (vx (ln 3 underlying27 h) (va (I 0) (wln (W.block (bn H fun i0 N p => lp N (fun a => Jn c0 fun c l => ∃ G_, Own c G_ (F) ∧ l = [(0, v1), (6, v3), (7, I (d.length : Int)), (8, I a.1)] ∧ Rel c a.2 G_) (fun i ex e w => ex = .exit 0 ∧ (Jn c0 fun c l => ∃ G_, Own c G_ (F) ∧ l = [] ∧ Rel c i G_) e w) ?_ ?_ ?_)))))))
 ·clear p N
  intro a j0 A R H
  revert A R
  rintro X w_ ⟨U, g8, _, rfl, l7, rfl, k, t, rfl, f⟩
  refine sr (va (B (decide (a.1 < (d.length : Int)))) (wln (W.seq (cn H (fun D H => ?_) (fun D H => ?_)))))
  ·refine W.skip (nrm (W.seq (W.block (sr (bn H fun b g H => ?_)))))
   obtain ⟨b0, E, P⟩ := Sl.at (h.mono l7) (idx_get g)
   obtain rfl := E
   refine vx (ix underlying27 h.m g) (vx (l1 underlying21 (P 0 _ rfl)) (va (J b) (wln (W.region (va (v1) (va (J b) (bn H fun e0 M H => cl (c_feed_Feeder_comes t f (hG.m.le (by decide)) j b Z.m M) ?_)))))))
   rintro v24 y g0 ⟨n, q, u, rfl⟩
   refine WL.nil (bkn (nrm (W.region (va (I (w64 (a.1 + 1))) (va (I (w64 (a.1 + 1))) (WL.nil ?_))))))
   obtain rfl := si H
   exact ⟨_, rfl, ⟨y, _, _, rfl, pt, us, n, q, rfl, u⟩⟩
  refine W.exit (thx ?_)
  obtain rfl := si H
  exact ⟨_, rfl, rfl, ⟨U, _, _, rfl, pt, us, k, t, rfl, f⟩⟩
 ·exact ⟨c0, _, _, rfl, pt, us, G, S, rfl, T⟩
 rintro _ X w_ ⟨rfl, z, f0, _, rfl, h0, rfl, o, s, rfl, x⟩
 refine bke ?_
 obtain rfl := si p
 exact n0 ⟨_, z, rfl, rfl, pt, o, s, x, rfl⟩
def f_utfdec_Dec_Held__feed_Feeder_1 (p0 : G_utfdec_Dec) : Option (Int) :=
 if false = true then
 some 0
 else
 some p0.held
theorem c_utfdec_Dec_Held__feed_Feeder_1 {b : Nat} {r0_0 : Value} {r0_6 : Value} {r0_7 : Value} {r0_8 : Value} {r0_9 : Value} {r0_10 : Value} {r0_11 : Value} (a : G_utfdec_Dec) (e : Own c0 G ((Eb b 158 [r0_0, I a.held, I a.needs, .int .u8 a.lo, .int .u8 a.hi, I a.bits, r0_6, r0_7, r0_8, r0_9, r0_10, r0_11]) :: F)) {r : Int} (H : f_utfdec_Dec_Held__feed_Feeder_1 a = some r) :
    Calls prog 112 #[.pointer (some ⟨b, 1, none⟩)] c0.w (Post c0 fun c v => Own c G ((Eb b 158 [r0_0, I a.held, I a.needs, .int .u8 a.lo, .int .u8 a.hi, I a.bits, r0_6, r0_7, r0_8, r0_9, r0_10, r0_11]) :: F) ∧ v = I r) := by
 unfold f_utfdec_Dec_Held__feed_Feeder_1 at H
 refine en func112 rfl rfl (sr (va (I 0) (wln (W.seq (sr (va (.pointer (some ⟨b, 1, none⟩)) (va (B false) (wln (W.cond (t := false) (by kernel_rfl) (fun d => ?_) (fun d => ?_))))))))))
 ·cases d
 have H := ie d H
 refine W.skip (nrm (sr (va (.pointer (some ⟨b, 1, none⟩)) (va (.pointer (some ⟨b, 1, none⟩)) (va (.pointer (some ⟨b, 1, none⟩)) (vx (le1 1 underlying3 (e.on 0 rfl)) (va (I a.held) (wln (W.ret ?_)))))))))
 obtain rfl := si H
 exact r1 ⟨_, c0, rfl, rfl, pt, e, rfl⟩
def f_utfdec_Dec_Flush__feed_Feeder_1 (p0 : G_utfdec_Dec) : Option (G_utfdec_Dec × (List Int)) :=
 (f_utfdec_Dec_Held__feed_Feeder_1 p0).bind fun a =>
 if (a == 0) = true then
 some (p0, ([] : List Int))
 else
 some ((⟨0, 0, 0, 0, 0⟩ : G_utfdec_Dec), ([65533] : List Int))
theorem c_utfdec_Dec_Flush__feed_Feeder_1 {a : Nat} {r0_0 : Value} {r0_6 : Value} {r0_7 : Value} {r0_8 : Value} {r0_9 : Value} {r0_10 : Value} {r0_11 : Value} (b : G_utfdec_Dec) (q : Own c0 G ((Eb a 158 [r0_0, I b.held, I b.needs, .int .u8 b.lo, .int .u8 b.hi, I b.bits, r0_6, r0_7, r0_8, r0_9, r0_10, r0_11]) :: F)) {r : G_utfdec_Dec × (List Int)} (H : f_utfdec_Dec_Flush__feed_Feeder_1 b = some r) :
    Calls prog 110 #[.pointer (some ⟨a, 1, none⟩)] c0.w (Post c0 fun c v => ∃ d p, Own c G (es true (RI .i32) d 21 p r.2 :: (Eb a 158 [r0_0, I r.1.held, I r.1.needs, .int .u8 r.1.lo, .int .u8 r.1.hi, I r.1.bits, r0_6, r0_7, r0_8, r0_9, r0_10, r0_11]) :: F) ∧ v = d ∧ OA (RI .i32) c d p r.2) := by
 unfold f_utfdec_Dec_Flush__feed_Feeder_1 at H
 refine en func110 rfl rfl (sr (va (Y) (wln (W.seq (sr (va (.pointer (some ⟨a, 1, none⟩)) (bn H fun o s H => cl (c_utfdec_Dec_Held__feed_Feeder_1 b q s) ?_)))))))
 rintro v8 k z ⟨i, rfl⟩
 refine va (B (o == 0)) (wln (cn H (fun t H => ?_) (fun t H => ?_)))
 ·refine sr (va (Y) (wln (W.ret (thr ?_))))
  obtain rfl := si H
  have l : OA (RI .i32) k (Y) [] [] := OA.nil (Nat.succ_pos _)
  have f := i.addHole (e := es true (RI .i32) (Y) 21 [] ([] : List Int)) rfl
  exact r1 ⟨_, k, rfl, rfl, pt, (Y), [], f, rfl, l⟩
 refine W.skip (nrm (sr (va (.pointer (some ⟨a, 1, none⟩)) (va (.agg #[I 0, I 0, .int .u8 0, .int .u8 0, I 0]) (va (.pointer (some ⟨a, 1, none⟩)) (md (sB 154 1 [I 0, I 0, .int .u8 0, .int .u8 0, I 0] [r0_0, I 0, I 0, .int .u8 0, .int .u8 0, I 0, r0_6, r0_7, r0_8, r0_9, r0_10, r0_11] 0 i ⟨rfl, rfl, rfl, rfl, rfl, trivial⟩) ?_))))))
 rintro u x g
 refine wln (sr (me (sl (RI .i32) 21 [[J 65533]] ([65533] : List Int) g ⟨rfl, trivial⟩) ?_))
 rintro v18 j y ⟨n, h, m⟩
 refine va (v18) (wln (W.ret ?_))
 obtain rfl := si H
 exact r1 ⟨_, j, rfl, rfl, pt, v18, n, h, rfl, m⟩
def f_octet_Lead (p0 : Int) : Option (Int) :=
 ((andE (decide (p0 ≥ 240)) (some (decide (p0 ≤ 244)))).bind fun a =>
 if a = true then
 some ((w64 ((w64 ((w64 ((w64 (0 + 1)) + 1)) + 1)) + 1)))
 else
 (andE (decide (p0 ≥ 224)) (some (decide (p0 < 240)))).bind fun b =>
 if b = true then
 some ((w64 ((w64 ((w64 (0 + 1)) + 1)) + 1)))
 else
 (andE (decide (p0 ≥ 194)) (some (decide (p0 < 224)))).bind fun c =>
 if c = true then
 some ((w64 ((w64 (0 + 1)) + 1)))
 else
 if (decide (p0 < 128)) = true then
 some ((w64 (0 + 1)))
 else
 some (0)).bind fun d =>
 some d
theorem c_octet_Lead (A : Own c0 G F) (a : Int) {r : Int} (H : f_octet_Lead a = some r) :
    Calls prog 222 #[.int .u8 a] c0.w (Post c0 fun c v => Own c G (F) ∧ v = I r) := by
 unfold f_octet_Lead at H
 refine en func222 rfl rfl (sr (va (I 0) (wln (sr (va (I 0) (wln (bn H fun k b T => W.seqJ (Jn c0 fun c l => Own c G (F) ∧ l = [(3, I k)]) ?_ ?_)))))))
 ·refine W.block (W.seq (W.block (W.seq (W.block (W.seq (W.block (W.seq (W.block (W.seq (W.seq (W.seq (bn b fun q P b => W.join (Jn c0 fun c l => Own c G (F) ∧ l = [(0, .int .u8 a), (3, I 0), (4, B q)]) ?_ ?_))))))))))))
  ·clear b
   refine W.region (va (.int .u8 a) (va (B (decide (a ≥ 240))) ?_))
   rcases bo (decide (a ≥ 240)) with j | j
   ·have U := anT j P
    refine vb j (wn (va (.int .u8 a) (wn (va (B (decide (a ≤ 244))) ?_))))
    obtain rfl := si U
    exact va (B (decide (a ≤ 244))) (va (B (decide (a ≤ 244))) (wln ⟨c0, _, _, rfl, pt, us, A, rfl⟩))
   obtain rfl := anF j P
   exact vb j (ps (ps (va (B false) (va (B false) (wln ⟨c0, _, _, rfl, pt, us, A, rfl⟩)))))
  rintro u x ⟨m, g7, _, rfl, l6, rfl, p, rfl⟩
  refine nrm (cn b (fun M b => ?_) (fun M b => ?_))
  ·refine W.exit (thx (thx (bke (nrm (W.region (va (I 0) (va (I (w64 (0 + 1))) (va (I (w64 (0 + 1))) (WL.nil (bkn (nrm (W.region (va (I (w64 (0 + 1))) (va (I (w64 ((w64 (0 + 1)) + 1))) (va (I (w64 ((w64 (0 + 1)) + 1))) (WL.nil (bkn (nrm (W.region (va (I (w64 ((w64 (0 + 1)) + 1))) (va (I (w64 ((w64 ((w64 (0 + 1)) + 1)) + 1))) (va (I (w64 ((w64 ((w64 (0 + 1)) + 1)) + 1))) (WL.nil (bkn (nrm (sr (va (I (w64 ((w64 ((w64 (0 + 1)) + 1)) + 1))) (va (I (w64 ((w64 ((w64 ((w64 (0 + 1)) + 1)) + 1)) + 1))) (va (I (w64 ((w64 ((w64 ((w64 (0 + 1)) + 1)) + 1)) + 1))) (wln (W.exit (bke (nrm ?_)))))))))))))))))))))))))))))))))
   obtain rfl := si b
   exact ⟨m, _, _, rfl, pt, us, p, rfl⟩
  refine W.skip (nrm (W.seq (W.seq (bn b fun s n b => W.join (Jn m fun c l => Own c G (F) ∧ l = [(0, .int .u8 a), (3, I 0), (11, B s)]) ?_ ?_))))
  ·clear b
   refine W.region (va (.int .u8 a) (va (B (decide (a ≥ 224))) ?_))
   rcases bo (decide (a ≥ 224)) with d | d
   ·have y := anT d n
    refine vb d (wn (va (.int .u8 a) (wn (va (B (decide (a < 240))) ?_))))
    obtain rfl := si y
    exact va (B (decide (a < 240))) (va (B (decide (a < 240))) (wln ⟨m, _, _, rfl, pt, us, p, rfl⟩))
   obtain rfl := anF d n
   exact vb d (ps (ps (va (B false) (va (B false) (wln ⟨m, _, _, rfl, pt, us, p, rfl⟩)))))
  rintro u x ⟨f, X, _, rfl, l16, rfl, g, rfl⟩
  refine nrm (cn b (fun N b => ?_) (fun N b => ?_))
  ·refine W.exit (thx (thx (bko rfl (thx (bke (nrm (W.region (va (I 0) (va (I (w64 (0 + 1))) (va (I (w64 (0 + 1))) (WL.nil (bkn (nrm (W.region (va (I (w64 (0 + 1))) (va (I (w64 ((w64 (0 + 1)) + 1))) (va (I (w64 ((w64 (0 + 1)) + 1))) (WL.nil (bkn (nrm (sr (va (I (w64 ((w64 (0 + 1)) + 1))) (va (I (w64 ((w64 ((w64 (0 + 1)) + 1)) + 1))) (va (I (w64 ((w64 ((w64 (0 + 1)) + 1)) + 1))) (wln (W.exit (bke (nrm ?_))))))))))))))))))))))))))))
   obtain rfl := si b
   exact ⟨f, _, _, rfl, pt, us, g, rfl⟩
  refine W.skip (nrm (W.seq (W.seq (bn b fun t o b => W.join (Jn f fun c l => Own c G (F) ∧ l = [(0, .int .u8 a), (3, I 0), (18, B t)]) ?_ ?_))))
  ·clear b
   refine W.region (va (.int .u8 a) (va (B (decide (a ≥ 194))) ?_))
   rcases bo (decide (a ≥ 194)) with e | e
   ·have z := anT e o
    refine vb e (wn (va (.int .u8 a) (wn (va (B (decide (a < 224))) ?_))))
    obtain rfl := si z
    exact va (B (decide (a < 224))) (va (B (decide (a < 224))) (wln ⟨f, _, _, rfl, pt, us, g, rfl⟩))
   obtain rfl := anF e o
   exact vb e (ps (ps (va (B false) (va (B false) (wln ⟨f, _, _, rfl, pt, us, g, rfl⟩)))))
  rintro u x ⟨i, Z, _, rfl, b0, rfl, h, rfl⟩
  refine nrm (cn b (fun R b => ?_) (fun R b => ?_))
  ·refine W.exit (thx (thx (bko rfl (thx (bko rfl (thx (bke (nrm (W.region (va (I 0) (va (I (w64 (0 + 1))) (va (I (w64 (0 + 1))) (WL.nil (bkn (nrm (sr (va (I (w64 (0 + 1))) (va (I (w64 ((w64 (0 + 1)) + 1))) (va (I (w64 ((w64 (0 + 1)) + 1))) (wln (W.exit (bke (nrm ?_)))))))))))))))))))))))
   obtain rfl := si b
   exact ⟨i, _, _, rfl, pt, us, h, rfl⟩
  refine W.skip (nrm (sr (va (.int .u8 a) (va (B (decide (a < 128))) (va (B (decide (a < 128))) (wln (cn b (fun S b => ?_) (fun S b => ?_))))))))
  ·refine W.exit (thx (bko rfl (thx (bko rfl (thx (bko rfl (thx (bke (nrm (sr (va (I 0) (va (I (w64 (0 + 1))) (va (I (w64 (0 + 1))) (wln (W.exit (bke (nrm ?_)))))))))))))))))
   obtain rfl := si b
   exact ⟨i, _, _, rfl, pt, us, h, rfl⟩
  refine W.skip (nrm (W.exit (bko rfl (thx (bko rfl (thx (bko rfl (thx (bko rfl (thx (bke (nrm ?_))))))))))))
  obtain rfl := si b
  exact ⟨i, _, _, rfl, pt, us, h, rfl⟩
 rintro u x ⟨E, a0, _, rfl, d0, rfl, D, rfl⟩
 refine sr (va (I k) (va (I k) (wln (W.ret ?_))))
 obtain rfl := si T
 exact r1 ⟨_, E, rfl, rfl, pt, D, rfl⟩
def f_octet_Bits (p0 : Int) : Option (Int) :=
 (f_octet_Lead p0).bind fun a =>
 if (a == 0) = true then
 some 0
 else
 if (a == 1) = true then
 some (w64 p0)
 else
 (shn (w64 (7 - a))).bind fun b =>
 some (ibAnd .i64 (w64 p0) (w64 ((w64 (1 * 2 ^ (min b 64))) - 1)))
theorem c_octet_Bits (j : Own c0 G F) (e : Int) {r : Int} (H : f_octet_Bits e = some r) :
    Calls prog 223 #[.int .u8 e] c0.w (Post c0 fun c v => Own c G (F) ∧ v = I r) := by
 unfold f_octet_Bits at H
 refine en func223 rfl rfl (sr (va (I 0) (wln (sr (va (.int .u8 e) (bn H fun d k H => cl (c_octet_Lead j e k) ?_))))))
 rintro v7 h n ⟨g, rfl⟩
 refine va (I d) (wln (sr (va (I d) (wln (W.block (sr (va (B (d == 0)) (va (B (d == 0)) (wln (cn H (fun l H => ?_) (fun l H => ?_)))))))))))
 ·refine sr (va (I 0) (wln (W.ret (bkr ?_))))
  obtain rfl := si H
  exact r1 ⟨_, h, rfl, rfl, pt, g, rfl⟩
 refine sr (va (B (d == 1)) (va (B (d == 1)) (wln (cn H (fun m H => ?_) (fun m H => ?_)))))
 ·refine sr (va (.int .u8 e) (va (I (w64 e)) (va (I (w64 e)) (wln (W.ret (bkr ?_))))))
  obtain rfl := si H
  exact r1 ⟨_, h, rfl, rfl, pt, g, rfl⟩
 refine sr (va (.int .u8 e) (va (I (w64 e)) (va (I d) (va (I (w64 (7 - d))) (bn H fun f i H => vr (I (w64 (1 * 2 ^ (min f 64)))) (run_shl (k' := .i64) (a := 1) (b := (w64 (7 - d))) i (by kernel_rfl) _) (va (I (w64 ((w64 (1 * 2 ^ (min f 64))) - 1))) (va (I (ibAnd .i64 (w64 e) (w64 ((w64 (1 * 2 ^ (min f 64))) - 1)))) (va (I (ibAnd .i64 (w64 e) (w64 ((w64 (1 * 2 ^ (min f 64))) - 1)))) (wln (W.ret (bkr ?_)))))))))))
 obtain rfl := si H
 exact r1 ⟨_, h, rfl, rfl, pt, g, rfl⟩
def f_octet_Second (p0 : Int) : Option (Int × Int) :=
 (f_octet_Lead p0).bind fun b =>
 if (decide (b < 2)) = true then
 some (0, 0)
 else
 (if (p0 == 224) = true then
 some (160, 191)
 else
 if (p0 == 240) = true then
 some (144, 191)
 else
 if (p0 == 244) = true then
 some (128, (IntKind.u8.wrap ((IntKind.u8.wrap (191 - 16)) - 32)))
 else
 if (p0 == 237) = true then
 some (128, (IntKind.u8.wrap (191 - 32)))
 else
 some (128, 191)).bind fun a =>
 some (a.1, a.2)
theorem c_octet_Second (p : Own c0 G F) (b : Int) {r : Int × Int} (H : f_octet_Second b = some r) :
    Calls prog 224 #[.int .u8 b] c0.w (Post c0 fun c v => Own c G (F) ∧ v = .tuple #[.int .u8 r.1, .int .u8 r.2]) := by
 unfold f_octet_Second at H
 refine en func224 rfl rfl (sr (va (.int .u8 0) (va (.int .u8 0) (wln (W.seq (sr (va (.int .u8 b) (bn H fun o q H => cl (c_octet_Lead p b q) ?_))))))))
 rintro v7 e y ⟨f, rfl⟩
 refine va (B (decide (o < 2))) (wln (cn H (fun s H => ?_) (fun s H => ?_)))
 ·refine sr (va (.int .u8 0) (va (.int .u8 0) (wln (W.ret (thr ?_)))))
  obtain rfl := si H
  exact r2 ⟨_, e, rfl, rfl, pt, f, rfl⟩
 refine W.skip (nrm (sr (va (.int .u8 128) (va (.int .u8 191) (wln (bn H fun d a g => W.seqJ (Jn e fun c l => Own c G (F) ∧ l = [(2, .int .u8 d.1), (3, .int .u8 d.2)]) ?_ ?_))))))
 ·refine sr (va (.int .u8 b) (wln (W.block (W.seq (W.block (W.seq (W.block (W.seq (W.block (W.seq (W.block (W.seq (W.seq (sr (va (B (b == 224)) (va (B (b == 224)) (wln (cn a (fun j a => ?_) (fun j a => ?_)))))))))))))))))))
  ·refine W.exit (thx (thx (bke (nrm (sr (va (.int .u8 160) (wln (W.exit (bko rfl (thx (bko rfl (thx (bko rfl (thx (bke (nrm ?_))))))))))))))))
   obtain rfl := si a
   exact ⟨e, _, _, rfl, pt, us, f, rfl⟩
  refine W.skip (nrm (W.seq (sr (va (B (b == 240)) (va (B (b == 240)) (wln (cn a (fun k a => ?_) (fun k a => ?_))))))))
  ·refine W.exit (thx (thx (bko rfl (thx (bke (nrm (sr (va (.int .u8 144) (wln (W.exit (bko rfl (thx (bko rfl (thx (bke (nrm ?_))))))))))))))))
   obtain rfl := si a
   exact ⟨e, _, _, rfl, pt, us, f, rfl⟩
  refine W.skip (nrm (W.seq (sr (va (B (b == 244)) (va (B (b == 244)) (wln (cn a (fun m a => ?_) (fun m a => ?_))))))))
  ·refine W.exit (thx (thx (bko rfl (thx (bko rfl (thx (bke (nrm (W.region (va (.int .u8 191) (va (.int .u8 (IntKind.u8.wrap (191 - 16))) (va (.int .u8 (IntKind.u8.wrap (191 - 16))) (WL.nil (bkn (nrm (sr (va (.int .u8 (IntKind.u8.wrap (191 - 16))) (va (.int .u8 (IntKind.u8.wrap ((IntKind.u8.wrap (191 - 16)) - 32))) (va (.int .u8 (IntKind.u8.wrap ((IntKind.u8.wrap (191 - 16)) - 32))) (wln (W.exit (bke (nrm ?_)))))))))))))))))))))))
   obtain rfl := si a
   exact ⟨e, _, _, rfl, pt, us, f, rfl⟩
  refine W.skip (nrm (sr (va (B (b == 237)) (va (B (b == 237)) (wln (cn a (fun n a => ?_) (fun n a => ?_)))))))
  ·refine W.exit (thx (bko rfl (thx (bko rfl (thx (bko rfl (thx (bke (nrm (sr (va (.int .u8 191) (va (.int .u8 (IntKind.u8.wrap (191 - 32))) (va (.int .u8 (IntKind.u8.wrap (191 - 32))) (wln (W.exit (bke (nrm ?_)))))))))))))))))
   obtain rfl := si a
   exact ⟨e, _, _, rfl, pt, us, f, rfl⟩
  refine W.skip (nrm (W.exit (bko rfl (thx (bko rfl (thx (bko rfl (thx (bko rfl (thx (bke (nrm ?_))))))))))))
  obtain rfl := si a
  exact ⟨e, _, _, rfl, pt, us, f, rfl⟩
 rintro x z ⟨i, t, _, rfl, u, rfl, h, rfl⟩
 refine sr (va (.int .u8 d.1) (va (.int .u8 d.2) (va (.int .u8 d.1) (va (.int .u8 d.2) (wln (W.ret ?_))))))
 obtain rfl := si g
 exact r2 ⟨_, i, rfl, rfl, pt, h, rfl⟩
def f_utfdec_Dec_begin__feed_Feeder_1 (p0 : G_utfdec_Dec) (p1 : Int) : Option (G_utfdec_Dec × (List Int)) :=
 (f_octet_Lead p1).bind fun a =>
 if (a == 0) = true then
 some (p0, ([65533] : List Int))
 else
 if (a == 1) = true then
 some (p0, ([(w32 p1)] : List Int))
 else
 (f_octet_Bits p1).bind fun c =>
 (f_octet_Second p1).bind fun b =>
 some ((⟨1, (w64 (a - 1)), b.1, b.2, c⟩ : G_utfdec_Dec), ([] : List Int))
theorem c_utfdec_Dec_begin__feed_Feeder_1 {a : Nat} {r0_0 : Value} {r0_6 : Value} {r0_7 : Value} {r0_8 : Value} {r0_9 : Value} {r0_10 : Value} {r0_11 : Value} (f : G_utfdec_Dec) (g : Int) (T : Own c0 G ((Eb a 158 [r0_0, I f.held, I f.needs, .int .u8 f.lo, .int .u8 f.hi, I f.bits, r0_6, r0_7, r0_8, r0_9, r0_10, r0_11]) :: F)) {r : G_utfdec_Dec × (List Int)} (H : f_utfdec_Dec_begin__feed_Feeder_1 f g = some r) :
    Calls prog 179 #[.pointer (some ⟨a, 1, none⟩), .int .u8 g] c0.w (Post c0 fun c v => ∃ k S, Own c G (es true (RI .i32) k 21 S r.2 :: (Eb a 158 [r0_0, I r.1.held, I r.1.needs, .int .u8 r.1.lo, .int .u8 r.1.hi, I r.1.bits, r0_6, r0_7, r0_8, r0_9, r0_10, r0_11]) :: F) ∧ v = k ∧ OA (RI .i32) c k S r.2) := by
 unfold f_utfdec_Dec_begin__feed_Feeder_1 at H
 refine en func179 rfl rfl (sr (va (Y) (wln (W.seq (sr (va (.int .u8 g) (bn H fun b X H => cl (c_octet_Lead T g X) ?_)))))))
 rintro v7 c6 l6 ⟨j, rfl⟩
 refine va (I b) (wln (sr (va (I b) (wln (W.block (sr (va (B (b == 0)) (va (B (b == 0)) (wln (cn H (fun Z H => ?_) (fun Z H => ?_)))))))))))
 ·refine sr (me (sl (RI .i32) 21 [[J 65533]] ([65533] : List Int) j ⟨rfl, trivial⟩) ?_)
  rintro v13 x h0 ⟨P, U, z⟩
  refine va (v13) (wln (W.ret (bkr (thr ?_))))
  obtain rfl := si H
  exact r1 ⟨_, x, rfl, rfl, pt, v13, P, U, rfl, z⟩
 refine sr (va (B (b == 1)) (va (B (b == 1)) (wln (cn H (fun A H => ?_) (fun A H => ?_)))))
 ·refine sr (va (.int .u8 g) (va (J (w32 g)) (me (sl (RI .i32) 21 [[J (w32 g)]] ([(w32 g)] : List Int) j ⟨rfl, trivial⟩) ?_)))
  rintro v19 y i0 ⟨R, l, D⟩
  refine va (v19) (wln (W.ret (bkr (thr ?_))))
  obtain rfl := si H
  exact r1 ⟨_, y, rfl, rfl, pt, v19, R, l, rfl, D⟩
 refine sr (va (.pointer (some ⟨a, 1, none⟩)) (va (.pointer (some ⟨a, 1, none⟩)) (va (.pointer (some ⟨a, 1, none⟩)) (va (I b) (va (I (w64 (b - 1))) (va (.int .u8 g) (bn H fun h E H => cl (c_octet_Bits j g E) ?_)))))))
 rintro v26 a0 j0 ⟨m, rfl⟩
 refine va (.pointer (some ⟨a, 1, none⟩)) (va (.pointer (some ⟨a, 1, none⟩)) (md (sC 3 1 (I 1) [r0_0, I 1, I f.needs, .int .u8 f.lo, .int .u8 f.hi, I f.bits, r0_6, r0_7, r0_8, r0_9, r0_10, r0_11] 0 m ⟨rfl, trivial⟩) ?_))
 rintro b0 k0 n
 refine va (.pointer (some ⟨a, 1, none⟩)) (va (.pointer (some ⟨a, 2, none⟩)) (md (sC 3 2 (I (w64 (b - 1))) [r0_0, I 1, I (w64 (b - 1)), .int .u8 f.lo, .int .u8 f.hi, I f.bits, r0_6, r0_7, r0_8, r0_9, r0_10, r0_11] 0 n ⟨rfl, trivial⟩) ?_))
 rintro d0 l0 o
 refine va (.pointer (some ⟨a, 1, none⟩)) (va (.pointer (some ⟨a, 5, none⟩)) (md (sC 3 5 (I h) [r0_0, I 1, I (w64 (b - 1)), .int .u8 f.lo, .int .u8 f.hi, I h, r0_6, r0_7, r0_8, r0_9, r0_10, r0_11] 0 o ⟨rfl, trivial⟩) ?_))
 rintro e0 m0 p
 refine wln (W.region (va (.pointer (some ⟨a, 1, none⟩)) (va (.pointer (some ⟨a, 1, none⟩)) (va (.int .u8 g) (bn H fun d M H => cl (c_octet_Second p g M) ?_)))))
 rintro v39 f0 o0 ⟨q, rfl⟩
 refine va (.tuple #[.int .u8 d.1, .int .u8 d.2]) (va (.int .u8 d.1) (va (.int .u8 d.2) (va (.pointer (some ⟨a, 1, none⟩)) (va (.pointer (some ⟨a, 3, none⟩)) (md (sC 5 3 (.int .u8 d.1) [r0_0, I 1, I (w64 (b - 1)), .int .u8 d.1, .int .u8 f.hi, I h, r0_6, r0_7, r0_8, r0_9, r0_10, r0_11] 0 q ⟨rfl, trivial⟩) ?_)))))
 rintro g0 q0 s
 refine va (.pointer (some ⟨a, 1, none⟩)) (va (.pointer (some ⟨a, 4, none⟩)) (md (sC 5 4 (.int .u8 d.2) [r0_0, I 1, I (w64 (b - 1)), .int .u8 d.1, .int .u8 d.2, I h, r0_6, r0_7, r0_8, r0_9, r0_10, r0_11] 0 s ⟨rfl, trivial⟩) ?_))
 rintro i s0 t
 refine WL.nil (bkn (nrm (sr (va (Y) (wln (W.ret ?_))))))
 obtain rfl := si H
 have N : OA (RI .i32) i (Y) [] [] := OA.nil (Nat.succ_pos _)
 have u := t.addHole (e := es true (RI .i32) (Y) 21 [] ([] : List Int)) rfl
 exact r1 ⟨_, i, rfl, rfl, pt, (Y), [], u, rfl, N⟩
def f_utfdec_Dec_Step__feed_Feeder_1 (p0 : G_utfdec_Dec) (p1 : Int) : Option (G_utfdec_Dec × (List Int)) :=
 if false = true then
 some (p0, ([] : List Int))
 else
 if (p0.held == 0) = true then
 (f_utfdec_Dec_begin__feed_Feeder_1 p0 p1).bind fun a =>
 some (a.1, a.2)
 else
 (orE (decide (p1 < p0.lo)) (some (decide (p1 > p0.hi)))).bind fun d =>
 if d = true then
 (f_utfdec_Dec_Flush__feed_Feeder_1 p0).bind fun b =>
 (f_utfdec_Dec_begin__feed_Feeder_1 b.1 p1).bind fun c =>
 (app b.2 c.2).bind fun e =>
 some (c.1, e)
 else
 if (decide ((w64 (p0.needs - 1)) > 0)) = true then
 some ((⟨(w64 (p0.held + 1)), (w64 (p0.needs - 1)), 128, 191, (ibOr .i64 (w64 (p0.bits * 2 ^ 6)) (w64 (ibAnd .u8 p1 63)))⟩ : G_utfdec_Dec), ([] : List Int))
 else
 some ((⟨0, 0, 0, 0, 0⟩ : G_utfdec_Dec), ([(w32 (ibOr .i64 (w64 (p0.bits * 2 ^ 6)) (w64 (ibAnd .u8 p1 63))))] : List Int))
theorem c_utfdec_Dec_Step__feed_Feeder_1 {a : Nat} {r0_0 : Value} {r0_6 : Value} {r0_7 : Value} {r0_8 : Value} {r0_9 : Value} {r0_10 : Value} {r0_11 : Value} (b : G_utfdec_Dec) (d : Int) (h : Own c0 G ((Eb a 158 [r0_0, I b.held, I b.needs, .int .u8 b.lo, .int .u8 b.hi, I b.bits, r0_6, r0_7, r0_8, r0_9, r0_10, r0_11]) :: F)) {r : G_utfdec_Dec × (List Int)} (H : f_utfdec_Dec_Step__feed_Feeder_1 b d = some r) :
    Calls prog 107 #[.pointer (some ⟨a, 1, none⟩), .int .u8 d] c0.w (Post c0 fun c v => ∃ x y2, Own c G (es true (RI .i32) x 21 y2 r.2 :: (Eb a 158 [r0_0, I r.1.held, I r.1.needs, .int .u8 r.1.lo, .int .u8 r.1.hi, I r.1.bits, r0_6, r0_7, r0_8, r0_9, r0_10, r0_11]) :: F) ∧ v = x ∧ OA (RI .i32) c x y2 r.2) := by
 unfold f_utfdec_Dec_Step__feed_Feeder_1 at H
 refine en func107 rfl rfl (sr (va (Y) (wln (W.seq (W.block (sr (va (.pointer (some ⟨a, 1, none⟩)) (va (B false) (va (B false) (wln (W.cond (t := false) (by kernel_rfl) (fun s => ?_) (fun s => ?_))))))))))))
 ·cases s
 have H := ie s H
 refine sr (va (.pointer (some ⟨a, 1, none⟩)) (va (.pointer (some ⟨a, 1, none⟩)) (va (.pointer (some ⟨a, 1, none⟩)) (vx (le1 1 underlying3 (h.on 0 rfl)) (va (B (b.held == 0)) (va (B (b.held == 0)) (wln (cn H (fun h2 H => ?_) (fun h2 H => ?_)))))))))
 ·refine sr (va (.pointer (some ⟨a, 1, none⟩)) (va (.int .u8 d) (bn H fun z0 h4 H => cl (c_utfdec_Dec_begin__feed_Feeder_1 b d h h4) ?_)))
  rintro v5 X q1 ⟨_, u6, O9, rfl, h7⟩
  refine va (v5) (wln (W.ret (bkr (thr ?_))))
  obtain rfl := si H
  exact r1 ⟨_, X, rfl, rfl, pt, v5, u6, O9, rfl, h7⟩
 refine W.seq (bn H fun q o H => W.join (Jn c0 fun c l => Own c G ((Eb a 158 [r0_0, I b.held, I b.needs, .int .u8 b.lo, .int .u8 b.hi, I b.bits, r0_6, r0_7, r0_8, r0_9, r0_10, r0_11]) :: F) ∧ l = [(0, .pointer (some ⟨a, 1, none⟩)), (1, .int .u8 d), (18, B q)]) ?_ ?_)
 ·clear H
  refine W.region (va (.int .u8 d) (va (.pointer (some ⟨a, 1, none⟩)) (va (.pointer (some ⟨a, 1, none⟩)) (va (.pointer (some ⟨a, 3, none⟩)) (vx (le1 3 underlying5 (h.on 0 rfl)) (va (B (decide (d < b.lo))) ?_))))))
  rcases bo (decide (d < b.lo)) with f | f
  ·obtain rfl := orT f o
   exact vb f (ps (ps (ps (ps (ps (ps (va (B true) (va (B true) (wln ⟨c0, _, _, rfl, pt, us, h, rfl⟩)))))))))
  have y := orF f o
  refine vb f (wn (va (.int .u8 d) (wn (va (.pointer (some ⟨a, 1, none⟩)) (wn (va (.pointer (some ⟨a, 1, none⟩)) (wn (va (.pointer (some ⟨a, 4, none⟩)) (wn (vx (le1 4 underlying5 (h.on 0 rfl)) (wn (va (B (decide (d > b.hi))) ?_))))))))))))
  obtain rfl := si y
  exact va (B (decide (d > b.hi))) (va (B (decide (d > b.hi))) (wln ⟨c0, _, _, rfl, pt, us, h, rfl⟩))
 rintro e_ w_ ⟨c1, n1, _, rfl, s1, rfl, i, rfl⟩
 refine nrm (cn H (fun b0 H => ?_) (fun b0 H => ?_))
 ·refine sr (va (.pointer (some ⟨a, 1, none⟩)) (bn H fun u d0 H => cl (c_utfdec_Dec_Flush__feed_Feeder_1 b i d0) ?_))
  rintro v26 d1 t1 ⟨_, f2, z, rfl, e0⟩
  refine va (.pointer (some ⟨a, 1, none⟩)) (va (.int .u8 d) ?_)
  have A := z.sD 2 [1, 0]
  refine bn H fun a1 f0 H => cl (c_utfdec_Dec_begin__feed_Feeder_1 u.1 d A f0) ?_
  rintro v37 e1 u1 ⟨_, g2, D, rfl, g0⟩
  obtain ⟨f1, i0, v1, E, h0⟩ := D.frz 0 rfl g0
  refine WL.gh i0 (bn H fun b1 j0 H => me (ap (RI .i32) (J 0) 4 27 2 E e0.m h0 j0 underlying27) ?_)
  rintro v55 Z w1 ⟨q0, M, k0⟩
  refine va (v55) (wln (W.ret (bkr (thr ?_))))
  obtain rfl := si H
  have N := M.sD 3 [2, 1]
  exact r1 ⟨_, Z, rfl, rfl, pt, v55, q0, N, rfl, k0⟩
 refine W.skip (bkn (nrm (sr (va (.pointer (some ⟨a, 1, none⟩)) (va (.pointer (some ⟨a, 1, none⟩)) (va (.pointer (some ⟨a, 1, none⟩)) (va (.pointer (some ⟨a, 5, none⟩)) (vx (le1 5 underlying3 (i.on 0 rfl)) (va (I (w64 (b.bits * 2 ^ 6))) (va (.int .u8 d) (va (.int .u8 (ibAnd .u8 d 63)) (va (I (w64 (ibAnd .u8 d 63))) (va (I (ibOr .i64 (w64 (b.bits * 2 ^ 6)) (w64 (ibAnd .u8 d 63)))) (va (.pointer (some ⟨a, 1, none⟩)) (va (.pointer (some ⟨a, 5, none⟩)) (md (sC 3 5 (I (ibOr .i64 (w64 (b.bits * 2 ^ 6)) (w64 (ibAnd .u8 d 63)))) [r0_0, I b.held, I b.needs, .int .u8 b.lo, .int .u8 b.hi, I (ibOr .i64 (w64 (b.bits * 2 ^ 6)) (w64 (ibAnd .u8 d 63))), r0_6, r0_7, r0_8, r0_9, r0_10, r0_11] 0 i ⟨rfl, trivial⟩) ?_))))))))))))))))
 rintro g1 x1 P
 refine wln (sr (va (.pointer (some ⟨a, 1, none⟩)) (va (.pointer (some ⟨a, 1, none⟩)) (va (.pointer (some ⟨a, 1, none⟩)) (va (.pointer (some ⟨a, 3, none⟩)) (md (sC 5 3 (.int .u8 128) [r0_0, I b.held, I b.needs, .int .u8 128, .int .u8 b.hi, I (ibOr .i64 (w64 (b.bits * 2 ^ 6)) (w64 (ibAnd .u8 d 63))), r0_6, r0_7, r0_8, r0_9, r0_10, r0_11] 0 P ⟨rfl, trivial⟩) ?_))))))
 rintro i1 z1 R
 refine va (.pointer (some ⟨a, 1, none⟩)) (va (.pointer (some ⟨a, 4, none⟩)) (md (sC 5 4 (.int .u8 191) [r0_0, I b.held, I b.needs, .int .u8 128, .int .u8 191, I (ibOr .i64 (w64 (b.bits * 2 ^ 6)) (w64 (ibAnd .u8 d 63))), r0_6, r0_7, r0_8, r0_9, r0_10, r0_11] 0 R ⟨rfl, trivial⟩) ?_))
 rintro j1 a2 j
 refine wln (sr (va (.pointer (some ⟨a, 1, none⟩)) (va (.pointer (some ⟨a, 1, none⟩)) (va (.pointer (some ⟨a, 1, none⟩)) (vx (le1 1 underlying3 (j.on 0 rfl)) (va (I (w64 (b.held + 1))) (va (.pointer (some ⟨a, 1, none⟩)) (va (.pointer (some ⟨a, 1, none⟩)) (md (sC 3 1 (I (w64 (b.held + 1))) [r0_0, I (w64 (b.held + 1)), I b.needs, .int .u8 128, .int .u8 191, I (ibOr .i64 (w64 (b.bits * 2 ^ 6)) (w64 (ibAnd .u8 d 63))), r0_6, r0_7, r0_8, r0_9, r0_10, r0_11] 0 j ⟨rfl, trivial⟩) ?_)))))))))
 rintro k1 b2 k
 refine wln (sr (va (.pointer (some ⟨a, 1, none⟩)) (va (.pointer (some ⟨a, 1, none⟩)) (va (.pointer (some ⟨a, 2, none⟩)) (vx (le1 2 underlying3 (k.on 0 rfl)) (va (I (w64 (b.needs - 1))) (va (.pointer (some ⟨a, 1, none⟩)) (va (.pointer (some ⟨a, 2, none⟩)) (md (sC 3 2 (I (w64 (b.needs - 1))) [r0_0, I (w64 (b.held + 1)), I (w64 (b.needs - 1)), .int .u8 128, .int .u8 191, I (ibOr .i64 (w64 (b.bits * 2 ^ 6)) (w64 (ibAnd .u8 d 63))), r0_6, r0_7, r0_8, r0_9, r0_10, r0_11] 0 k ⟨rfl, trivial⟩) ?_)))))))))
 rintro n c2 g
 refine wln (W.seq (sr (va (.pointer (some ⟨a, 1, none⟩)) (va (.pointer (some ⟨a, 1, none⟩)) (va (.pointer (some ⟨a, 2, none⟩)) (vx (le1 2 underlying3 (g.on 0 rfl)) (va (B (decide ((w64 (b.needs - 1)) > 0))) (wln (cn H (fun l0 H => ?_) (fun l0 H => ?_))))))))))
 ·refine sr (va (Y) (wln (W.ret (thr ?_))))
  obtain rfl := si H
  have m0 : OA (RI .i32) n (Y) [] [] := OA.nil (Nat.succ_pos _)
  have S := g.addHole (e := es true (RI .i32) (Y) 21 [] ([] : List Int)) rfl
  exact r1 ⟨_, n, rfl, rfl, pt, (Y), [], S, rfl, m0⟩
 refine W.skip (nrm (sr (va (.pointer (some ⟨a, 1, none⟩)) (va (.pointer (some ⟨a, 1, none⟩)) (va (.pointer (some ⟨a, 5, none⟩)) (vx (le1 5 underlying3 (g.on 0 rfl)) (va (J (w32 (ibOr .i64 (w64 (b.bits * 2 ^ 6)) (w64 (ibAnd .u8 d 63))))) (va (J (w32 (ibOr .i64 (w64 (b.bits * 2 ^ 6)) (w64 (ibAnd .u8 d 63))))) (wln (sr (va (.pointer (some ⟨a, 1, none⟩)) (va (.agg #[I 0, I 0, .int .u8 0, .int .u8 0, I 0]) (va (.pointer (some ⟨a, 1, none⟩)) (md (sB 154 1 [I 0, I 0, .int .u8 0, .int .u8 0, I 0] [r0_0, I 0, I 0, .int .u8 0, .int .u8 0, I 0, r0_6, r0_7, r0_8, r0_9, r0_10, r0_11] 0 g ⟨rfl, rfl, rfl, rfl, rfl, trivial⟩) ?_))))))))))))))
 rintro m1 d2 T
 refine wln (sr (va (J (w32 (ibOr .i64 (w64 (b.bits * 2 ^ 6)) (w64 (ibAnd .u8 d 63))))) (me (sl (RI .i32) 21 [[J (w32 (ibOr .i64 (w64 (b.bits * 2 ^ 6)) (w64 (ibAnd .u8 d 63))))]] ([(w32 (ibOr .i64 (w64 (b.bits * 2 ^ 6)) (w64 (ibAnd .u8 d 63))))] : List Int) T ⟨rfl, trivial⟩) ?_)))
 rintro p a0 e2 ⟨s0, U, o0⟩
 refine va (p) (wln (W.ret ?_))
 obtain rfl := si H
 exact r1 ⟨_, a0, rfl, rfl, pt, p, s0, U, rfl, o0⟩
def f_feed_Feeder_Bytes (sg : Sto) (p0 : Option Nat) (p1 : List Int) : Option (Sto) :=
 if p0.isNone = true then
 some sg
 else
 (iter (σ := Int × Sto) (τ := Sto) (((p1.length : Int) - 0).toNat + 1) (fun b =>
 if (decide (b.1 < (p1.length : Int))) = true then
 (idx p1 b.1).bind fun f =>
 (p0).bind fun d =>
 (b.2.feed_Feeder[d]?).bind fun a =>
 (f_utfdec_Dec_Step__feed_Feeder_1 a.dec f).bind fun e =>
 (b.2.set_feed_Feeder d (⟨a.pen, e.1, a.seg, a.open_⟩ : G_feed_Feeder)).bind fun c =>
 (f_feed_Feeder_all c p0 e.2).bind fun g =>
 some (.inl ((w64 (b.1 + 1)), g))
 else
 some (.inr (b.2))) (0, sg)).bind fun h =>
 some h
theorem c_feed_Feeder_Bytes (M : Own c0 G F) (R0 : Rel c0 sg G) (hG : Gl [0, 4] c0) (j : Option Nat) (k : List Int) {r : Sto} (t : Pt 4 c0 v1 j) (u : Sl (RI .u8) c0 v3 k) (H : f_feed_Feeder_Bytes sg j k = some r) :
    Calls prog 37 #[v1, v3] c0.w (Post c0 fun c v => ∃ G_ : Gm, Own c G_ (F) ∧ Rel c r G_ ∧ v = .tuple #[]) := by
 unfold f_feed_Feeder_Bytes at H
 refine en func37 rfl rfl (W.seq (sr (va (v1) (vr (B j.isNone) (by rcases (t).cs with ⟨p, s⟩ | ⟨b_, p, s⟩ <;> (subst p; rw [s]; kernel_rfl)) (wln (cn H (fun h5 H => ?_) (fun h5 H => ?_)))))))
 ·refine W.ret (thr ?_)
  obtain rfl := si H
  exact r0 ⟨_, c0, rfl, rfl, pt, G, M, R0, rfl⟩
 refine W.skip (nrm (sr (va (v3) (vx (ln 3 underlying57 u) (va (I 0) (wln (W.block (bn H fun y1 h6 E => lp h6 (fun d => Jn c0 fun c l => ∃ G_, Own c G_ (F) ∧ l = [(0, v1), (8, v3), (9, I (k.length : Int)), (10, I d.1)] ∧ Rel c d.2 G_) (fun x ex e w => ex = .exit 0 ∧ (Jn c0 fun c l => ∃ G_, Own c G_ (F) ∧ l = [] ∧ Rel c x G_) e w) ?_ ?_ ?_))))))))
 ·clear E h6
  intro d a2 i0 c1 H
  revert i0 c1
  rintro e_ w_ ⟨c8, g9, _, rfl, l8, rfl, z, n, rfl, h⟩
  refine sr (va (B (decide (d.1 < (k.length : Int)))) (wln (W.seq (cn H (fun j0 H => ?_) (fun j0 H => ?_)))))
  ·refine W.skip (nrm (W.seq (W.block (sr (bn H fun f o H => ?_)))))
   obtain ⟨h1, k0, b1⟩ := Sl.at (u.mono l8) (idx_get o)
   obtain rfl := k0
   refine vx (ix underlying57 u.m o) (vx (l1 underlying5 (b1 0 _ rfl)) (va (.int .u8 f) (wln (W.region (va (v1) (va (v1) (bn H fun g1 l0 H => ?_)))))))
   obtain ⟨g, rfl, q⟩ := ((t.mono l8)).get l0
   refine va (Q g) (va (.pointer (some ⟨g, 1, none⟩)) (va (.int .u8 f) (bn H fun a m0 H => ?_)))
   obtain ⟨v23, v25, s0, o0, q0⟩ := Rel.open_feed_Feeder h m0 q
   have N := n.borrow 0 s0 rfl
   refine bn H fun b t0 H => cl (c_utfdec_Dec_Step__feed_Feeder_1 a.dec f N t0) ?_
   rintro v31 n1 i ⟨_, z1, P, rfl, u0⟩
   have S := P.sD 2 [1, 0]
   have R := S.giveB 0 rfl
   refine bn H fun y v0 H => ?_
   obtain ⟨k1, T, d0, t1, m1⟩ := Rel.put_feed_Feeder R (h.mono i) (E' := [(Eb g 158 [v23, I b.1.held, I b.1.needs, .int .u8 b.1.lo, .int .u8 b.1.hi, I b.1.bits, B a.seg.some, I a.seg.last, I a.seg.pict, I a.seg.conj, B a.seg.odd, v25])]) v0 ⟨g, v23, v25, (tm q), rfl, (o0.mono i), (q0.mono i)⟩
   obtain ⟨q1, x0, u1, U, w0⟩ := T.frz 0 rfl u0
   refine WL.gh x0 (bn H fun j1 y0 H => cl (c_feed_Feeder_all U d0.m (hG.m.le (by decide)) j b.2 t.m w0 y0) ?_)
   rintro v58 g0 w1 ⟨A, X, e0, rfl⟩
   refine WL.nil (bkn (nrm (W.region (va (I (w64 (d.1 + 1))) (va (I (w64 (d.1 + 1))) (WL.nil ?_))))))
   obtain rfl := si H
   refine ⟨_, rfl, ?_⟩
   have Z := X.sD 1 []
   exact ⟨g0, _, _, rfl, pt, us, A, Z, rfl, e0⟩
  refine W.exit (thx ?_)
  obtain rfl := si H
  exact ⟨_, rfl, rfl, ⟨c8, _, _, rfl, pt, us, z, n, rfl, h⟩⟩
 ·exact ⟨c0, _, _, rfl, pt, us, G, M, rfl, R0⟩
 rintro _ e_ w_ ⟨rfl, h0, s1, _, rfl, x1, rfl, D, a0, rfl, f0⟩
 refine bke ?_
 obtain rfl := si E
 exact n0 ⟨_, h0, rfl, rfl, pt, D, a0, f0, rfl⟩
def f_feed_Feeder_Rune (sg : Sto) (p0 : Option Nat) (p1 : Int) : Option (Sto) :=
 if p0.isNone = true then
 some sg
 else
 ((f_scalar_Valid p1).bind fun b =>
 if (!b) = true then
 some (65533)
 else
 some (p1)).bind fun c =>
 (f_feed_Feeder_comes sg p0 c).bind fun a =>
 some a
theorem c_feed_Feeder_Rune (k : Own c0 G F) (q : Rel c0 sg G) (hG : Gl [0, 4] c0) (d : Option Nat) (e : Int) {r : Sto} (x : Pt 4 c0 v1 d) (H : f_feed_Feeder_Rune sg d e = some r) :
    Calls prog 38 #[v1, J e] c0.w (Post c0 fun c v => ∃ G_ : Gm, Own c G_ (F) ∧ Rel c r G_ ∧ v = .tuple #[]) := by
 unfold f_feed_Feeder_Rune at H
 refine en func38 rfl rfl (W.seq (sr (va (v1) (vr (B d.isNone) (by rcases (x).cs with ⟨g, h⟩ | ⟨T, g, h⟩ <;> (subst g; rw [h]; kernel_rfl)) (wln (cn H (fun A H => ?_) (fun A H => ?_)))))))
 ·refine W.ret (thr ?_)
  obtain rfl := si H
  exact r0 ⟨_, c0, rfl, rfl, pt, G, k, q, rfl⟩
 refine W.skip (nrm (bn H fun b a i => W.seqJ (Jn c0 fun c l => Own c G (F) ∧ l = [(0, v1), (1, J b)]) ?_ ?_))
 ·refine sr (va (J e) (bn a fun z D a => cl (c_scalar_Valid k e D) ?_))
  rintro v12 f P ⟨p, rfl⟩
  refine va (B (!z)) (wln (cn a (fun u a => ?_) (fun u a => ?_)))
  ·refine W.region (va (J 65533) (wln ?_))
   obtain rfl := si a
   exact ⟨f, _, _, rfl, pt, us, p, rfl⟩
  refine W.skip (nrm ?_)
  obtain rfl := si a
  exact ⟨f, _, _, rfl, pt, us, p, rfl⟩
 rintro U X ⟨M, N, _, rfl, R, rfl, n, rfl⟩
 refine W.region (va (v1) (va (J b) (bn i fun E y i => cl (c_feed_Feeder_comes n q.m (hG.m.le (by decide)) d b x.m y) ?_)))
 rintro v26 t S ⟨j, o, s, rfl⟩
 refine WL.nil ?_
 obtain rfl := si i
 exact n0 ⟨_, t, rfl, rfl, pt, j, o, s, rfl⟩
def f_feed_Feeder_Flush (sg : Sto) (p0 : Option Nat) : Option (Sto) :=
 if p0.isNone = true then
 some sg
 else
 (p0).bind fun c =>
 (sg.feed_Feeder[c]?).bind fun a =>
 (f_utfdec_Dec_Flush__feed_Feeder_1 a.dec).bind fun d =>
 (sg.set_feed_Feeder c (⟨a.pen, d.1, a.seg, a.open_⟩ : G_feed_Feeder)).bind fun b =>
 (f_feed_Feeder_all b p0 d.2).bind fun f =>
 (f_feed_Feeder_Close f p0).bind fun e =>
 some e
theorem c_feed_Feeder_Flush (l : Own c0 G F) (j : Rel c0 sg G) (hG : Gl [0, 4] c0) (f : Option Nat) {r : Sto} (g : Pt 4 c0 v1 f) (H : f_feed_Feeder_Flush sg f = some r) :
    Calls prog 39 #[v1] c0.w (Post c0 fun c v => ∃ G_ : Gm, Own c G_ (F) ∧ Rel c r G_ ∧ v = .tuple #[]) := by
 unfold f_feed_Feeder_Flush at H
 refine en func39 rfl rfl (W.seq (sr (va (v1) (vr (B f.isNone) (by rcases (g).cs with ⟨h, i⟩ | ⟨b_, h, i⟩ <;> (subst h; rw [i]; kernel_rfl)) (wln (cn H (fun h3 H => ?_) (fun h3 H => ?_)))))))
 ·refine W.ret (thr ?_)
  obtain rfl := si H
  exact r0 ⟨_, c0, rfl, rfl, pt, G, l, j, rfl⟩
 refine W.skip (nrm (sr (va (v1) (va (v1) (bn H fun s0 h6 H => ?_)))))
 obtain ⟨d, rfl, h5⟩ := (g).get h6
 refine va (Q d) (va (.pointer (some ⟨d, 1, none⟩)) (bn H fun a h7 H => ?_))
 obtain ⟨v8, v10, N, h9, M⟩ := Rel.open_feed_Feeder j h7 h5
 have n := l.borrow 0 N rfl
 refine bn H fun b P H => cl (c_utfdec_Dec_Flush__feed_Feeder_1 a.dec n P) ?_
 rintro v16 l0 e ⟨_, w0, o, rfl, R⟩
 have q := o.sD 2 [1, 0]
 have p := q.giveB 0 rfl
 refine bn H fun b0 S H => ?_
 obtain ⟨i0, s, z, q0, k0⟩ := Rel.put_feed_Feeder p (j.mono e) (E' := [(Eb d 158 [v8, I b.1.held, I b.1.needs, .int .u8 b.1.lo, .int .u8 b.1.hi, I b.1.bits, B a.seg.some, I a.seg.last, I a.seg.pict, I a.seg.conj, B a.seg.odd, v10])]) S ⟨d, v8, v10, (tm h5), rfl, (h9.mono e), (M.mono e)⟩
 obtain ⟨m0, U, t0, t, T⟩ := s.frz 0 rfl R
 refine WL.gh U (bn H fun x0 X H => cl (c_feed_Feeder_all t z.m (hG.m.le (by decide)) f b.2 g.m T X) ?_)
 rintro v43 o0 u0 ⟨j0, u, A, rfl⟩
 refine wln (W.region (va (Q d) (bn H fun h0 Z H => cl (c_feed_Feeder_Close u A f g.m Z) ?_)))
 rintro v50 E v0 ⟨k, x, D, rfl⟩
 refine WL.nil ?_
 obtain rfl := si H
 have y := x.sD 1 []
 exact n0 ⟨_, E, rfl, rfl, pt, k, y, D, rfl⟩
def f_feed_Feeder_Held (sg : Sto) (p0 : Option Nat) : Option (Int) :=
 if p0.isNone = true then
 some 0
 else
 (p0).bind fun c =>
 (sg.feed_Feeder[c]?).bind fun a =>
 (f_utfdec_Dec_Held__feed_Feeder_1 a.dec).bind fun b =>
 some b
theorem c_feed_Feeder_Held (h : Own c0 G F) (q : Rel c0 sg G) (f : Option Nat) {r : Int} (p : Pt 4 c0 v1 f) (H : f_feed_Feeder_Held sg f = some r) :
    Calls prog 41 #[v1] c0.w (Post c0 fun c v => Own c G (F) ∧ v = I r) := by
 unfold f_feed_Feeder_Held at H
 refine en func41 rfl rfl (sr (va (I 0) (wln (W.seq (sr (va (v1) (vr (B f.isNone) (by rcases (p).cs with ⟨d, e⟩ | ⟨D, d, e⟩ <;> (subst d; rw [e]; kernel_rfl)) (wln (cn H (fun s H => ?_) (fun s H => ?_))))))))))
 ·refine sr (va (I 0) (wln (W.ret (thr ?_))))
  obtain rfl := si H
  exact r1 ⟨_, c0, rfl, rfl, pt, h, rfl⟩
 refine W.skip (nrm (sr (va (v1) (bn H fun z u H => ?_))))
 obtain ⟨m, rfl, t⟩ := (p).get u
 refine va (Q m) (va (.pointer (some ⟨m, 1, none⟩)) (bn H fun a x H => ?_))
 obtain ⟨v8, v10, b, E, y⟩ := Rel.open_feed_Feeder q x t
 have i := h.borrow 0 b rfl
 refine bn H fun g o H => cl (c_utfdec_Dec_Held__feed_Feeder_1 a.dec i o) ?_
 rintro v21 n A ⟨j, rfl⟩
 have k := j.giveB 0 rfl
 have l := Own.back k b rfl
 refine va (I g) (wln (W.ret ?_))
 obtain rfl := si H
 exact r1 ⟨_, n, rfl, rfl, pt, l, rfl⟩
def f_feed_Feeder_Open (sg : Sto) (p0 : Option Nat) : Option (List Int) :=
 if p0.isNone = true then
 some ([] : List Int)
 else
 (p0).bind fun c =>
 (sg.feed_Feeder[c]?).bind fun a =>
 (f_widen_Cluster_Text sg a.open_).bind fun b =>
 some b
theorem c_feed_Feeder_Open (d : Own c0 G F) (j : Rel c0 sg G) (g : Option Nat) {r : List Int} (q : Pt 4 c0 v1 g) (H : f_feed_Feeder_Open sg g = some r) :
    Calls prog 42 #[v1] c0.w (Post c0 fun c v => ∃ h t, Own c G (es true (RI .i32) h 21 t r :: F) ∧ v = h ∧ OA (RI .i32) c h t r) := by
 unfold f_feed_Feeder_Open at H
 refine en func42 rfl rfl (sr (va (Y) (wln (W.seq (sr (va (v1) (vr (B g.isNone) (by rcases (q).cs with ⟨a, b⟩ | ⟨R, a, b⟩ <;> (subst a; rw [b]; kernel_rfl)) (wln (cn H (fun x H => ?_) (fun x H => ?_))))))))))
 ·refine sr (va (Y) (wln (W.ret (thr ?_))))
  obtain rfl := si H
  have y : OA (RI .i32) c0 (Y) [] [] := OA.nil (Nat.succ_pos _)
  have u := d.addHole (e := es true (RI .i32) (Y) 21 [] ([] : List Int)) rfl
  exact r1 ⟨_, c0, rfl, rfl, pt, (Y), [], u, rfl, y⟩
 refine W.skip (nrm (sr (va (v1) (bn H fun N A H => ?_))))
 obtain ⟨k, rfl, z⟩ := (q).get A
 refine va (Q k) (va (.pointer (some ⟨k, 11, none⟩)) (bn H fun f D H => ?_))
 obtain ⟨v10, v12, n, M, m⟩ := Rel.open_feed_Feeder j D z
 refine vx (le1 11 underlying44 (d.gon n 0 rfl)) (bn H fun E o H => cl (c_widen_Cluster_Text d j f.open_ m o) ?_)
 rintro v16 l P ⟨_, s, i, rfl, p⟩
 refine va (v16) (wln (W.ret ?_))
 obtain rfl := si H
 exact r1 ⟨_, l, rfl, rfl, pt, v16, s, i, rfl, p⟩
end Go.Proofs.YthokmpbbkpjhbaaGreatDoor
namespace Go.Proofs.YthokmpbbkpjhbaaGreatDoor
open Go Go.Lt
set_option maxRecDepth 10000
set_option linter.unusedVariables false
attribute [local irreducible] W WL AC
open Tryz
variable {c0 : Cx} {G : Gm} {F : List En} {sg : Sto} {v1 v2 v3 v4 v5 v6 v7 v8 v9 v10 v11 v12 v13 v14 v15 v16 v17 v18 v19 v20 v21 v22 v23 v24 v25 v26 v27 v28 v29 v30 v31 v32 v33 v34 v35 v36 v37 v38 v39 v40 v41 v42 v43 v44 v45 v46 v47 v48 v49 v50 v51 v52 v53 v54 v55 v56 v57 v58 v59 v60 : Value}
def f_linotypelaw37_works (sg : Sto) : Option (Sto × Bool) :=
 (f_place_New sg 3 1).bind fun c =>
 (f_feed_New c.1 c.2).bind fun b =>
 if b.2.isNone = true then
 some (b.1, false)
 else
 (f_feed_Feeder_Bytes b.1 b.2 ([101] : List Int)).bind fun h =>
 (f_feed_Feeder_Bytes h b.2 ([204] : List Int)).bind fun i =>
 (f_feed_Feeder_Bytes i b.2 ([129] : List Int)).bind fun a =>
 (c.2).bind fun f =>
 (a.place_Pen[f]?).bind fun g =>
 (f_grid_Grid_Row a g.G 0).bind fun j =>
 (f_row_Row_Cell a j 0).bind fun k =>
 (f_linotyperef01_Same k.1.Text ([101, 769] : List Int)).bind fun l =>
 (andE l ((f_feed_Feeder_Held a b.2).bind fun m =>
 some (m == 0))).bind fun d =>
 (andE d ((f_feed_Feeder_Open a b.2).bind fun n =>
 some ((n.length : Int) == 2))).bind fun e =>
 some (a, e)
theorem c_linotypelaw37_works (O0 : Own c0 G F) (R0 : Rel c0 sg G) (hG : Gl [0, 4] c0) {r : Sto × Bool} (H : f_linotypelaw37_works sg = some r) :
    Calls prog 44 #[] c0.w (Post c0 fun c v => ∃ G_ : Gm, Own c G_ (F) ∧ Rel c r.1 G_ ∧ v = B r.2) := by
 unfold f_linotypelaw37_works at H
 refine en func44 rfl rfl (sr (va (B false) (wln (sr (bn H fun o3 h1 H => cl (c_place_New O0 R0 3 1 h1) ?_)))))
 rintro v2 c8 l8 ⟨_, G4, O5, R6, a7, rfl, h3⟩
 refine va (v2) (wln (sr (va (v2) (bn H fun g a2 H => cl (c_feed_New O5 R6 o3.2 h3 a2) ?_))))
 rintro v11 z1 z2 ⟨_, i1, R, T, a16, rfl, f⟩
 refine va (v11) (wln (W.seq (sr (va (v11) (vr (B g.2.isNone) (by rcases (f).cs with ⟨Z, a0⟩ | ⟨b_, Z, a0⟩ <;> (subst Z; rw [a0]; kernel_rfl)) (wln (cn H (fun b2 H => ?_) (fun b2 H => ?_))))))))
 ·refine sr (va (B false) (wln (W.ret (thr ?_))))
  obtain rfl := si H
  exact r1 ⟨_, z1, rfl, rfl, pt, i1, R, T, rfl⟩
 refine W.skip (nrm (sr (va (v11) (me (sl (RI .u8) 5 [[.int .u8 101]] ([101] : List Int) R ⟨rfl, trivial⟩) ?_))))
 rintro v24 q4 a3 ⟨k3, j1, c2⟩
 obtain ⟨r4, e2, b3, k1, d2⟩ := j1.frz 0 rfl c2
 refine WL.gh e2 (bn H fun l4 f2 H => cl (c_feed_Feeder_Bytes k1 T.m (hG.m.le (by decide)) g.2 ([101] : List Int) f.m d2 f2) ?_)
 rintro v35 s4 c3 ⟨o4, m1, x1, rfl⟩
 refine wln (sr (va (v11) (me (sl (RI .u8) 5 [[.int .u8 204]] ([204] : List Int) m1 ⟨rfl, trivial⟩) ?_)))
 rintro v40 t4 d3 ⟨l3, n1, h2⟩
 obtain ⟨u4, j2, e3, p1, i2⟩ := n1.frz 0 rfl h2
 refine WL.gh j2 (bn H fun m4 k2 H => cl (c_feed_Feeder_Bytes p1 x1.m (hG.m.le (by decide)) g.2 ([204] : List Int) f.m i2 k2) ?_)
 rintro v51 v4 f3 ⟨p4, q1, y1, rfl⟩
 refine wln (sr (va (v11) (me (sl (RI .u8) 5 [[.int .u8 129]] ([129] : List Int) q1 ⟨rfl, trivial⟩) ?_)))
 rintro v56 w4 g3 ⟨m3, s1, l2⟩
 obtain ⟨x4, n2, i3, t1, m2⟩ := s1.frz 0 rfl l2
 refine WL.gh n2 (bn H fun n4 o2 H => cl (c_feed_Feeder_Bytes t1 y1.m (hG.m.le (by decide)) g.2 ([129] : List Int) f.m m2 o2) ?_)
 rintro e5 y4 j3 ⟨P, S, e, rfl⟩
 refine wln (sr (va (v2) (bn H fun b4 q2 H => ?_)))
 obtain ⟨U, rfl, p2⟩ := ((h3.mono (z2.trans (a3.trans (b3.trans (c3.trans (d3.trans (e3.trans (f3.trans (g3.trans (i3.trans j3))))))))))).get q2
 refine va (Q U) (va (Q U) (bn H fun e1 s2 H => ?_))
 obtain ⟨f5, u2, t2⟩ := Rel.open_place_Pen e s2 p2
 refine vx (le1 0 underlying35 (S.gon u2 0 rfl)) (bn H fun f1 w2 H => cl (c_grid_Grid_Row S e e1.G 0 t2 w2) ?_)
 rintro g5 z4 c5 ⟨_, u1, rfl, x2⟩
 refine bn H fun a y2 H => cl (c_row_Row_Cell u1 e.m f1 0 x2 y2) ?_
 rintro h5 a5 d5 ⟨d0, n3, v1, rfl, N⟩
 refine va (.tuple #[.agg #[I a.1.Kind, d0], B a.2]) (va (.agg #[I a.1.Kind, d0]) (va (B a.2) (me (al 101 [I 0, Y] v1) ?_)))
 rintro i5 b5 b0 ⟨X, rfl, w1⟩
 obtain ⟨A, D, k, rfl⟩ := ((N.mono b0)).form
 refine md (sA 101 [I a.1.Kind, .slice A D k] 0 w1 ⟨rfl, N.m.one, trivial⟩) ?_
 rintro l0 b1 x
 refine va (B a.2) (wln (W.seq (bn H fun g1 t0 H => bn H fun x3 E H => bn H fun s0 n H => W.join (Jn l0 fun c l => ∃ q o, Own c P (es false (RI .i32) q 21 o ([101, 769] : List Int) :: (Eb X 101 [I a.1.Kind, .slice A D k]) :: es false (RI .i32) (.slice A D k) 21 n3 a.1.Text :: es false (RI .u8) v56 5 m3 ([129] : List Int) :: es false (RI .u8) v40 5 l3 ([204] : List Int) :: es false (RI .u8) v24 5 k3 ([101] : List Int) :: F) ∧ l = [(0, B s0)] ∧ OA (RI .i32) c q o ([101, 769] : List Int)) ?_ ?_)))
 ·clear H
  refine W.region (va (.pointer (some ⟨X, 1, none⟩)) (vx (le1 1 underlying27 (x.on 0 rfl)) (me (sl (RI .i32) 21 [[J 101], [J 769]] ([101, 769] : List Int) x ⟨rfl, rfl, trivial⟩) ?_)))
  rintro s u3 c1 ⟨p, e0, h⟩
  obtain ⟨v3, v0, d1, f0, u0⟩ := e0.frz 2 rfl (N.mono (b0.trans (b1.trans c1)))
  refine WL.gh v0 ?_
  obtain ⟨w3, x0, c4, g0, w0⟩ := f0.frz 0 rfl (h.mono d1)
  refine WL.gh x0 (cl (c_linotyperef01_Same g0 a.1.Text ([101, 769] : List Int) u0.m w0 t0) ?_)
  rintro i4 m0 d4 ⟨y, rfl⟩
  rcases bo (g1) with b | b
  ·have i := anT b E
   refine vb b (wn (va (v11) (wn (bn i fun t y0 i => cl (c_feed_Feeder_Held y e.m g.2 f.m y0) ?_))))
   rintro j4 o0 e4 ⟨z, rfl⟩
   refine wn (va (B (t == 0)) ?_)
   obtain rfl := si i
   refine va (B (t == 0)) ?_
   rcases bo (t == 0) with d | d
   ·have j := anT d n
    refine vb d (wn (va (v11) (wn (bn j fun u z0 j => cl (c_feed_Feeder_Open z e.m g.2 f.m z0) ?_))))
    rintro k4 p0 f4 ⟨_, h4, h0, rfl, a1⟩
    refine wn (vx (lnO 3 underlying27 a1) (wn (va (B ((u.length : Int) == 2)) ?_)))
    obtain rfl := si j
    refine va (B ((u.length : Int) == 2)) (va (B ((u.length : Int) == 2)) (wln ?_))
    have i0 := h0.sD 7 [1, 2, 3, 4, 5, 6]
    exact ⟨p0, _, _, rfl, pt, us, s, p, i0, rfl, h.m⟩
   obtain rfl := anF d n
   exact vb d (ps (ps (ps (ps (va (B false) (va (B false) (wln ⟨o0, _, _, rfl, pt, us, s, p, z, rfl, h.m⟩)))))))
  obtain rfl := anF b E
  refine vb b (ps (ps (ps (va (B false) ?_))))
  have M : false = false := rfl
  obtain rfl := anF M n
  exact vb M (ps (ps (ps (ps (va (B false) (va (B false) (wln ⟨m0, _, _, rfl, pt, us, s, p, y, rfl, h.m⟩)))))))
 rintro e_ w_ ⟨q0, y3, _, rfl, g4, rfl, q, o, j0, rfl, a4⟩
 refine nrm (W.ret ?_)
 obtain rfl := si H
 have k0 := j0.sD 6 []
 exact r1 ⟨_, q0, rfl, rfl, pt, P, k0, e.m, rfl⟩
end Go.Proofs.YthokmpbbkpjhbaaGreatDoor
namespace Go.Proofs.YthokmpbbkpjhbaaGreatDoor
open Go Go.Lt
set_option maxRecDepth 10000
set_option linter.unusedVariables false
attribute [local irreducible] W WL AC
open Tryz
variable {c0 : Cx} {G : Gm} {F : List En} {sg : Sto} {v1 v2 v3 v4 v5 v6 v7 v8 v9 v10 v11 v12 v13 v14 v15 v16 v17 v18 v19 v20 v21 v22 v23 v24 v25 v26 v27 v28 v29 v30 v31 v32 v33 v34 v35 v36 v37 v38 v39 v40 v41 v42 v43 v44 v45 v46 v47 v48 v49 v50 v51 v52 v53 v54 v55 v56 v57 v58 v59 v60 : Value}
def f_linotypelaw37_FeedNone (sg : Sto) (p0 : List Int) (p1 : Int) : Option (Sto × Bool) :=
 (f_feed_Feeder_Bytes sg (none : Option Nat) p0).bind fun n =>
 (f_feed_Feeder_Rune n (none : Option Nat) p1).bind fun j =>
 (f_feed_Feeder_Flush j (none : Option Nat)).bind fun k =>
 (f_feed_Feeder_Close k (none : Option Nat)).bind fun b =>
 (f_feed_Feeder_Held b (none : Option Nat)).bind fun l =>
 (andE (l == 0) ((f_feed_Feeder_Open b (none : Option Nat)).bind fun m =>
 some ((m.length : Int) == 0))).bind fun i =>
 (if i = true then (f_feed_New b (none : Option Nat)).bind fun f =>
 some (f.2.isNone, f.1) else some (false, b)).bind fun a =>
 (if a.1 = true then (some (a.2.add_place_Pen (⟨(none : Option Nat), (⟨0, 0, false⟩ : G_api_Cursor), false⟩ : G_place_Pen))).bind fun d =>
 (f_feed_New d (some a.2.place_Pen.length)).bind fun g =>
 some (g.2.isNone, g.1) else some (false, a.2)).bind fun c =>
 (if c.1 = true then (f_linotypelaw37_works c.2).bind fun h =>
 some (h.2, h.1) else some (false, c.2)).bind fun e =>
 some (e.2, e.1)
theorem c_linotypelaw37_FeedNone (O0 : Own c0 G F) (R0 : Rel c0 sg G) (hG : Gl [0, 4] c0) (p0 : List Int) (X : Int) {r : Sto × Bool} (h2 : Sl (RI .u8) c0 v1 p0) (H : f_linotypelaw37_FeedNone sg p0 X = some r) :
    Calls prog 6 #[v1, J X] c0.w (Post c0 fun c v => ∃ G_ : Gm, Own c G_ (F) ∧ Rel c r.1 G_ ∧ v = B r.2) := by
 unfold f_linotypelaw37_FeedNone at H
 refine en func6 rfl rfl (sr (va (B false) (wln (sr (va (.pointer none) (wln (sr (va (.pointer none) (va (v1) (bn H fun c4 h3 H => cl (c_feed_Feeder_Bytes O0 R0 (hG.le (by decide)) (none : Option Nat) p0 rfl h2 h3) ?_))))))))))
 rintro v9 c8 l8 ⟨G4, O5, R6, rfl⟩
 refine wln (sr (va (.pointer none) (va (J X) (bn H fun c3 u1 H => cl (c_feed_Feeder_Rune O5 R6 (hG.m.le (by decide)) (none : Option Nat) X rfl u1) ?_))))
 rintro v16 m3 s3 ⟨f3, a1, h1, rfl⟩
 refine wln (sr (va (.pointer none) (bn H fun d3 w1 H => cl (c_feed_Feeder_Flush a1 h1 (hG.m.le (by decide)) (none : Option Nat) rfl w1) ?_)))
 rintro v23 n3 t3 ⟨g3, b1, i1, rfl⟩
 refine wln (sr (va (.pointer none) (bn H fun e3 x1 H => cl (c_feed_Feeder_Close b1 i1 (none : Option Nat) rfl x1) ?_)))
 rintro v30 k1 u3 ⟨Z, c1, f, rfl⟩
 refine wln (W.seq (bn H fun T y1 H => bn H fun t2 i0 H => bn H fun u2 S H => bn H fun v2 s H => bn H fun z j H => W.join (Jn k1 fun c l => ∃ G_, Own c G_ (F) ∧ l = [(4, B z.1)] ∧ Rel c z.2 G_) ?_ ?_))
 ·clear H
  refine W.region (va (.pointer none) (cl (c_feed_Feeder_Held c1 f (none : Option Nat) rfl y1) ?_))
  rintro v41 m1 v3 ⟨a0, rfl⟩
  refine va (B (T == 0)) ?_
  rcases bo (T == 0) with k | k
  ·have t := anT k i0
   refine vb k (wn (va (.pointer none) (wn (bn t fun d z1 t => cl (c_feed_Feeder_Open a0 f.m (none : Option Nat) rfl z1) ?_))))
   rintro v45 n1 w3 ⟨_, m2, b0, rfl, a2⟩
   refine wn (vx (lnO 3 underlying27 a2) (wn (va (B ((d.length : Int) == 0)) ?_)))
   obtain rfl := si t
   refine va (B ((d.length : Int) == 0)) ?_
   rcases bo ((d.length : Int) == 0) with n | n
   ·have u := it n S
    refine vb n (wn (bn u fun a b2 u => cl (c_feed_New b0 f.m (none : Option Nat) rfl b2) ?_))
    rintro v57 q1 x3 ⟨_, x0, d0, f0, j3, rfl, c2⟩
    refine wn (vr (B a.2.isNone) (by rcases (c2).cs with ⟨h, i⟩ | ⟨b_, h, i⟩ <;> (subst h; rw [i]; kernel_rfl)) ?_)
    obtain rfl := si u
    refine va (B a.2.isNone) ?_
    rcases bo (a.2.isNone) with o | o
    ·have e := it o s
     refine vb o (wn (va (.agg #[.pointer none, I 0, I 0, B false, B false]) (wn (me (al 42 [.pointer none, I 0, I 0, B false, B false] d0) ?_))))
     rintro a4 o3 l2 ⟨g, rfl, d1⟩
     have e1 := d1.sD 2 [0, 1]
     refine bn e fun w0 d2 e => ?_
     obtain ⟨s1, i3, e2, y3, f2, f1, g0, p3, q3, k3⟩ := Rel.new_place_Pen (E := [(Eb g 42 [.pointer none, I 0, I 0, B false, B false])]) (F := es true (RI .i32) v45 21 m2 d :: F) (x := (⟨(none : Option Nat), (⟨0, 0, false⟩ : G_api_Cursor), false⟩ : G_place_Pen)) (b := g) e1 (f0.mono l2) (fun c_ hle_ => ⟨g, (.pointer none), rfl, rfl, rfl⟩)
     rw [Option.some.inj d2] at g0
     refine WL.gh e2.1 ?_
     have g2 : Pt 2 s1 (Q g) (some a.1.place_Pen.length) := ⟨g, rfl, f2⟩
     refine wn (bn e fun q i2 e => cl (c_feed_New f1 g0 (some a.1.place_Pen.length) g2 i2) ?_)
     rintro b4 t1 z3 ⟨_, y0, e0, h0, l3, rfl, j2⟩
     refine wn (vr (B q.2.isNone) (by rcases (j2).cs with ⟨h, i⟩ | ⟨b_, h, i⟩ <;> (subst h; rw [i]; kernel_rfl)) ?_)
     obtain rfl := si e
     refine va (B q.2.isNone) ?_
     rcases bo (q.2.isNone) with p | p
     ·have y := it p j
      refine vb p (wn (bn y fun U k2 y => cl (c_linotypelaw37_works e0 h0 (hG.m.le (by decide)) k2) ?_))
      rintro b3 t0 z2 ⟨z0, g1, j1, rfl⟩
      obtain rfl := si y
      refine va (B U.2) (va (B U.2) (wln ?_))
      have k0 := g1.sD 1 []
      exact ⟨t0, _, _, rfl, pt, us, z0, k0, rfl, j1⟩
     obtain rfl := Option.some.inj (ie p j)
     refine vb p (ps (va (B false) (va (B false) (wln ?_))))
     have l0 := e0.sD 1 []
     exact ⟨t1, _, _, rfl, pt, us, y0, l0, rfl, h0⟩
    obtain rfl := Option.some.inj (ie o s)
    refine vb o (ps (ps (ps (ps (va (B false) ?_)))))
    have A : false = false := rfl
    obtain rfl := Option.some.inj (ie A j)
    refine vb A (ps (va (B false) (va (B false) (wln ?_))))
    have m0 := d0.sD 1 []
    exact ⟨q1, _, _, rfl, pt, us, x0, m0, rfl, f0⟩
   obtain rfl := Option.some.inj (ie n S)
   refine vb n (ps (ps (va (B false) ?_)))
   have D : false = false := rfl
   obtain rfl := Option.some.inj (ie D s)
   refine vb D (ps (ps (ps (ps (va (B false) ?_)))))
   have M : false = false := rfl
   obtain rfl := Option.some.inj (ie M j)
   refine vb M (ps (va (B false) (va (B false) (wln ?_))))
   have o0 := b0.sD 1 []
   exact ⟨n1, _, _, rfl, pt, us, Z, o0, rfl, f.m⟩
  obtain rfl := anF k i0
  refine vb k (ps (ps (ps (ps (va (B false) ?_)))))
  have N : false = false := rfl
  obtain rfl := Option.some.inj (ie N S)
  refine vb N (ps (ps (va (B false) ?_)))
  have P : false = false := rfl
  obtain rfl := Option.some.inj (ie P s)
  refine vb P (ps (ps (ps (ps (va (B false) ?_)))))
  have R : false = false := rfl
  obtain rfl := Option.some.inj (ie R j)
  exact vb R (ps (va (B false) (va (B false) (wln ⟨m1, _, _, rfl, pt, us, Z, a0, rfl, f.m⟩))))
 rintro e_ w_ ⟨u0, w2, _, rfl, a3, rfl, j0, q0, rfl, s0⟩
 refine nrm (W.ret ?_)
 obtain rfl := si H
 exact r1 ⟨_, u0, rfl, rfl, pt, j0, q0, s0, rfl⟩
def f_linotypelaw37_FeedPlays (sg : Sto) (p0 : Int) (p1 : Int) (p2 : List G_linotypelaw37_Act) : Option (Sto × Bool) :=
 (f_linotypelaw37_works sg).bind fun m =>
 (orE (!m.2) (some (decide ((p2.length : Int) > 40)))).bind fun N =>
 if N = true then
 (f_linotypelaw37_works m.1).bind fun l =>
 some (l.1, l.2)
 else
 (f_place_New m.1 (w64 (1 + (w64 ((IntKind.u64.wrap p0).tmod 9)))) (w64 (1 + (w64 ((IntKind.u64.wrap p1).tmod 5))))).bind fun j =>
 (f_feed_New j.1 j.2).bind fun g =>
 (f_linotyperef34_New (w64 (1 + (w64 ((IntKind.u64.wrap p0).tmod 9)))) (w64 (1 + (w64 ((IntKind.u64.wrap p1).tmod 5))))).bind fun i =>
 (iter (σ := Int × (List G_api_Line) × Int × Int × Bool × Bool × (List Int) × (List Int) × Int × Sto) (τ := (Sto × Bool) ⊕ ((List G_api_Line) × Int × Int × Bool × Bool × (List Int) × (List Int) × Int × Sto)) (((p2.length : Int) - 0).toNat + 1) (fun a =>
 if (decide (a.1 < (p2.length : Int))) = true then
 (idx p2 a.1).bind fun z =>
 if (decide ((z.B.length : Int) > 60)) = true then
 some (.inr (.inl (a.2.2.2.2.2.2.2.2.2, true)))
 else
 ((idx p2 a.1).bind fun k =>
 if (k.Kind == 0) = true then
 (idx p2 a.1).bind fun A =>
 (f_feed_Feeder_Bytes a.2.2.2.2.2.2.2.2.2 g.2 A.B).bind fun D =>
 (idx p2 a.1).bind fun E =>
 (f_linotyperef37_Feed_Bytes (⟨(⟨a.2.1, (⟨a.2.2.1, a.2.2.2.1, a.2.2.2.2.1⟩ : G_api_Cursor), a.2.2.2.2.2.1⟩ : G_linotyperef34_Pen), a.2.2.2.2.2.2.1, a.2.2.2.2.2.2.2.1, a.2.2.2.2.2.2.2.2.1⟩ : G_linotyperef37_Feed) E.B).bind fun f =>
 some (f.P.L, f.P.At.Row, f.P.At.Col, f.P.At.Pending, f.P.Auto, f.Group, f.Raw, f.Parts, D)
 else
 if (k.Kind == 1) = true then
 (idx p2 a.1).bind fun H =>
 (f_feed_Feeder_Rune a.2.2.2.2.2.2.2.2.2 g.2 H.R).bind fun M =>
 (idx p2 a.1).bind fun p =>
 (f_linotyperef37_Feed_Rune (⟨(⟨a.2.1, (⟨a.2.2.1, a.2.2.2.1, a.2.2.2.2.1⟩ : G_api_Cursor), a.2.2.2.2.2.1⟩ : G_linotyperef34_Pen), a.2.2.2.2.2.2.1, a.2.2.2.2.2.2.2.1, a.2.2.2.2.2.2.2.2.1⟩ : G_linotyperef37_Feed) p.R).bind fun c =>
 some (c.P.L, c.P.At.Row, c.P.At.Col, c.P.At.Pending, c.P.Auto, c.Group, c.Raw, c.Parts, M)
 else
 if (k.Kind == 2) = true then
 (f_feed_Feeder_Flush a.2.2.2.2.2.2.2.2.2 g.2).bind fun q =>
 (f_linotyperef37_Feed_Flush (⟨(⟨a.2.1, (⟨a.2.2.1, a.2.2.2.1, a.2.2.2.2.1⟩ : G_api_Cursor), a.2.2.2.2.2.1⟩ : G_linotyperef34_Pen), a.2.2.2.2.2.2.1, a.2.2.2.2.2.2.2.1, a.2.2.2.2.2.2.2.2.1⟩ : G_linotyperef37_Feed)).bind fun d =>
 some (d.P.L, d.P.At.Row, d.P.At.Col, d.P.At.Pending, d.P.Auto, d.Group, d.Raw, d.Parts, q)
 else
 (f_feed_Feeder_Close a.2.2.2.2.2.2.2.2.2 g.2).bind fun r =>
 (f_linotyperef37_Feed_Close (⟨(⟨a.2.1, (⟨a.2.2.1, a.2.2.2.1, a.2.2.2.2.1⟩ : G_api_Cursor), a.2.2.2.2.2.1⟩ : G_linotyperef34_Pen), a.2.2.2.2.2.2.1, a.2.2.2.2.2.2.2.1, a.2.2.2.2.2.2.2.2.1⟩ : G_linotyperef37_Feed)).bind fun e =>
 some (e.P.L, e.P.At.Row, e.P.At.Col, e.P.At.Pending, e.P.Auto, e.Group, e.Raw, e.Parts, r)).bind fun b =>
 (f_linotyperef37_Feed_Pen (⟨(⟨b.1, (⟨b.2.1, b.2.2.1, b.2.2.2.1⟩ : G_api_Cursor), b.2.2.2.2.1⟩ : G_linotyperef34_Pen), b.2.2.2.2.2.1, b.2.2.2.2.2.2.1, b.2.2.2.2.2.2.2.1⟩ : G_linotyperef37_Feed)).bind fun s =>
 (f_linotypelaw34_Alike b.2.2.2.2.2.2.2.2 j.2 s).bind fun t =>
 (orE (!t) ((f_feed_Feeder_Held b.2.2.2.2.2.2.2.2 g.2).bind fun u =>
 (f_linotyperef37_Feed_Held (⟨(⟨b.1, (⟨b.2.1, b.2.2.1, b.2.2.2.1⟩ : G_api_Cursor), b.2.2.2.2.1⟩ : G_linotyperef34_Pen), b.2.2.2.2.2.1, b.2.2.2.2.2.2.1, b.2.2.2.2.2.2.2.1⟩ : G_linotyperef37_Feed)).bind fun v =>
 some (u != v))).bind fun n =>
 (orE n ((f_feed_Feeder_Open b.2.2.2.2.2.2.2.2 g.2).bind fun w =>
 (f_linotyperef37_Feed_Open (⟨(⟨b.1, (⟨b.2.1, b.2.2.1, b.2.2.2.1⟩ : G_api_Cursor), b.2.2.2.2.1⟩ : G_linotyperef34_Pen), b.2.2.2.2.2.1, b.2.2.2.2.2.2.1, b.2.2.2.2.2.2.2.1⟩ : G_linotyperef37_Feed)).bind fun x =>
 (f_linotyperef01_Same w x).bind fun y =>
 some (!y))).bind fun o =>
 if o = true then
 some (.inr (.inl (b.2.2.2.2.2.2.2.2, false)))
 else
 some (.inl ((w64 (a.1 + 1)), b.1, b.2.1, b.2.2.1, b.2.2.2.1, b.2.2.2.2.1, b.2.2.2.2.2.1, b.2.2.2.2.2.2.1, b.2.2.2.2.2.2.2.1, b.2.2.2.2.2.2.2.2))
 else
 some (.inr (.inr (a.2.1, a.2.2.1, a.2.2.2.1, a.2.2.2.2.1, a.2.2.2.2.2.1, a.2.2.2.2.2.2.1, a.2.2.2.2.2.2.2.1, a.2.2.2.2.2.2.2.2.1, a.2.2.2.2.2.2.2.2.2)))) (0, i.L, i.At.Row, i.At.Col, i.At.Pending, i.Auto, ([] : List Int), ([] : List Int), 0, g.1)).bind fun h =>
 match h with
 | .inl h =>
 some h
 | .inr h =>
 some (h.2.2.2.2.2.2.2.2, true)
set_option maxHeartbeats 4000000 in
theorem c_linotypelaw37_FeedPlays (O0 : Own c0 G F) (R0 : Rel c0 sg G) (hG : Gl [0, 4] c0) (E : Int) (M : Int) (p2 : List G_linotypelaw37_Act) {r : Sto × Bool} (x : Sl R_linotypelaw37_Act c0 v1 p2) (H : f_linotypelaw37_FeedPlays sg E M p2 = some r) :
    Calls prog 7 #[I E, I M, v1] c0.w (Post c0 fun c v => ∃ G_ : Gm, Own c G_ (F) ∧ Rel c r.1 G_ ∧ v = B r.2) := by
 unfold f_linotypelaw37_FeedPlays at H
 refine en func7 rfl rfl (sr (va (B false) (wln (W.seq (W.seq (bn H fun d5 h3 H => bn H fun d_5 h4 H => W.join (Jn c0 fun c l => ∃ G_, Own c G_ (F) ∧ l = [(0, I E), (1, I M), (2, v1), (17, B d_5)] ∧ Rel c d5.1 G_) ?_ ?_))))))
 ·clear H
  refine W.region (cl (c_linotypelaw37_works O0 R0 (hG.le (by decide)) h3) ?_)
  rintro v10 c9 l9 ⟨G5, O6, R7, rfl⟩
  refine va (B (!d5.2)) ?_
  rcases bo (!d5.2) with v0 | v0
  ·obtain rfl := orT v0 h4
   exact vb v0 (ps (ps (ps (va (B true) (wln ⟨c9, _, _, rfl, pt, us, G5, O6, rfl, R7⟩)))))
  have H12 := orF v0 h4
  refine vb v0 (wn (va (v1) (wn (vx (ln 3 underlying78 x.m) (wn (va (B (decide ((p2.length : Int) > 40))) ?_))))))
  obtain rfl := si H12
  exact va (B (decide ((p2.length : Int) > 40))) (wln ⟨c9, _, _, rfl, pt, us, G5, O6, rfl, R7⟩)
 rintro e_ w_ ⟨c13, g14, _, rfl, h0, rfl, G16, k5, rfl, l5⟩
 refine nrm (cn H (fun h19 H => ?_) (fun h19 H => ?_))
 ·refine sr (bn H fun x_11 h20 H => cl (c_linotypelaw37_works k5 l5 (hG.m.le (by decide)) h20) ?_)
  rintro v26 c25 l25 ⟨G21, O22, R23, rfl⟩
  refine va (B x_11.2) (wln (W.ret (thr ?_)))
  obtain rfl := si H
  exact r1 ⟨_, c25, rfl, rfl, pt, G21, O22, R23, rfl⟩
 refine W.skip (nrm (sr (va (I E) (va (.int .u64 (IntKind.u64.wrap E)) (va (.int .u64 ((IntKind.u64.wrap E).tmod 9)) (va (I (w64 ((IntKind.u64.wrap E).tmod 9))) (va (I (w64 (1 + (w64 ((IntKind.u64.wrap E).tmod 9))))) (va (I M) (va (.int .u64 (IntKind.u64.wrap M)) (va (.int .u64 ((IntKind.u64.wrap M).tmod 5)) (va (I (w64 ((IntKind.u64.wrap M).tmod 5))) (va (I (w64 (1 + (w64 ((IntKind.u64.wrap M).tmod 5))))) (va (I (w64 (1 + (w64 ((IntKind.u64.wrap E).tmod 9))))) (va (I (w64 (1 + (w64 ((IntKind.u64.wrap M).tmod 5))))) (wln (sr (va (I (w64 (1 + (w64 ((IntKind.u64.wrap E).tmod 9))))) (va (I (w64 (1 + (w64 ((IntKind.u64.wrap M).tmod 5))))) (bn H fun c5 h27 H => cl (c_place_New k5 l5 (w64 (1 + (w64 ((IntKind.u64.wrap E).tmod 9)))) (w64 (1 + (w64 ((IntKind.u64.wrap M).tmod 5)))) h27) ?_)))))))))))))))))))
 rintro v28 c34 i0 ⟨_, G30, O31, R32, a33, rfl, m5⟩
 refine va (v28) (wln (sr (va (v28) (bn H fun N h36 H => cl (c_feed_New O31 R32 c5.2 m5 h36) ?_))))
 rintro v37 c43 j0 ⟨_, G39, O40, R41, a42, rfl, g0⟩
 refine va (v37) (wln (sr (va (I (w64 (1 + (w64 ((IntKind.u64.wrap E).tmod 9))))) (va (I (w64 (1 + (w64 ((IntKind.u64.wrap M).tmod 5))))) (bn H fun s h45 H => cl (c_linotyperef34_New O40 (w64 (1 + (w64 ((IntKind.u64.wrap E).tmod 9)))) (w64 (1 + (w64 ((IntKind.u64.wrap M).tmod 5)))) h45) ?_)))))
 rintro v54 c53 k0 ⟨v46, u47, O50, rfl, t4⟩
 obtain ⟨c4, d4, e4, rfl⟩ := (t4).form
 refine va (.agg #[.slice c4 d4 e4, I s.At.Row, I s.At.Col, B s.At.Pending, B s.Auto, Y, Y, I 0]) (me (al 83 [Y, I 0, I 0, B false, B false, Y, Y, I 0] O50) ?_)
 rintro v61 c60 a0 ⟨f, rfl, O59⟩
 refine md (sA 83 [.slice c4 d4 e4, I s.At.Row, I s.At.Col, B s.At.Pending, B s.Auto, Y, Y, I 0] 0 O59 ⟨t4.m.one, rfl, rfl, rfl, rfl, rfl, rfl, rfl, trivial⟩) ?_
 rintro k4 b0 O62
 refine wln (W.seq (sr (va (I 0) (wln (W.block (bn H fun t1 n5 x1 => lp n5 (fun a => Jn k4 fun c l => ∃ n o p G_, Own c G_ ((Eb f 83 [n, I a.2.2.1, I a.2.2.2.1, B a.2.2.2.2.1, B a.2.2.2.2.2.1, o, p, I a.2.2.2.2.2.2.2.2.1]) :: F) ∧ l = [(2, v1), (7, v28), (8, v37), (9, Q f), (10, I a.1)] ∧ Rel c a.2.2.2.2.2.2.2.2.2 G_ ∧ Sl R_api_Line c n a.2.1 ∧ Sl (RI .i32) c o a.2.2.2.2.2.2.1 ∧ Sl (RI .u8) c p a.2.2.2.2.2.2.2.1) (fun t => match t with | .inl x_ => (fun q5 ex e w => ex = .ret ∧ (Jn k4 fun c l => ∃ G_, Own c G_ (F) ∧ l = [(6, B q5.2)] ∧ Rel c q5.1 G_) e w) x_ | .inr x_ => (fun j ex e w => ex = .exit 0 ∧ (Jn k4 fun c l => ∃ y4 z4 a5 G_, Own c G_ ((Eb f 83 [y4, I j.2.1, I j.2.2.1, B j.2.2.2.1, B j.2.2.2.2.1, z4, a5, I j.2.2.2.2.2.2.2.1]) :: F) ∧ l = [] ∧ Rel c j.2.2.2.2.2.2.2.2 G_ ∧ Sl R_api_Line c y4 j.1 ∧ Sl (RI .i32) c z4 j.2.2.2.2.2.1 ∧ Sl (RI .u8) c a5 j.2.2.2.2.2.2.1) e w) x_) ?_ ?_ ?_))))))
 ·clear x1 n5
  intro a xx_ ee_ ww_ H
  revert ee_ ww_
  rintro e_ w_ ⟨l4, g73, _, rfl, l0, rfl, n, o, p, j5, e0, rfl, f0, w0, x0, y0⟩
  refine W.seq (sr (va (I a.1) (va (v1) (vx (ln 3 underlying78 x.m) (va (B (decide (a.1 < (p2.length : Int)))) (wln (cn H (fun h81 H => ?_) (fun h81 H => ?_))))))))
  ·refine W.skip (nrm (W.seq (W.block (W.seq (sr (va (v1) (va (I a.1) (bn H fun x_53 o5 H => ?_))))))))
   obtain ⟨l_83, h84, m85⟩ := Sl.at (x.mono (h0.trans (i0.trans (j0.trans (k0.trans (a0.trans (b0.trans l0))))))) (idx_get o5)
   obtain ⟨v86, rfl, h87⟩ := h84
   refine vx (ix underlying78 x.m o5) (va (.pointer (some ⟨sb v1, so v1 + a.1.toNat * 3 + 1, none⟩)) (vx (l1 underlying57 (m85 1 _ rfl)) (vx (ln 3 underlying57 h87) (va (B (decide ((x_53.B.length : Int) > 60))) (wln (cn H (fun h88 H => ?_) (fun h88 H => ?_)))))))
   ·refine sr (va (B true) (wln (W.ret (thr (bkr (thr ?_))))))
    obtain rfl := si H
    refine ⟨_, rfl, ⟨rfl, ?_⟩⟩
    have O89 := e0.sD 1 []
    exact ⟨l4, _, _, rfl, pt, us, j5, O89, rfl, f0⟩
   refine W.skip (nrm (bn H fun b d k => W.seqJ (Jn l4 fun c l => ∃ g h i G_, Own c G_ ((Eb f 83 [g, I b.2.1, I b.2.2.1, B b.2.2.2.1, B b.2.2.2.2.1, h, i, I b.2.2.2.2.2.2.2.1]) :: F) ∧ l = [(2, v1), (7, v28), (8, v37), (9, Q f), (10, I a.1)] ∧ Rel c b.2.2.2.2.2.2.2.2 G_ ∧ Sl R_api_Line c g b.1 ∧ Sl (RI .i32) c h b.2.2.2.2.2.1 ∧ Sl (RI .u8) c i b.2.2.2.2.2.2.1) ?_ ?_))
   ·refine sr (va (v1) (va (I a.1) (bn d fun S p5 d => ?_)))
    obtain ⟨l_96, h97, m98⟩ := Sl.at (x.mono (h0.trans (i0.trans (j0.trans (k0.trans (a0.trans (b0.trans l0))))))) (idx_get p5)
    obtain ⟨v99, rfl, h100⟩ := h97
    refine vx (ix underlying78 x.m p5) (va (.pointer (some ⟨sb v1, so v1 + a.1.toNat * 3, none⟩)) (vx (l1 underlying3 (m98 0 _ rfl)) (wln (W.block (sr (va (B (S.Kind == 0)) (va (B (S.Kind == 0)) (wln (cn d (fun s7 d => ?_) (fun s7 d => ?_))))))))))
    ·refine sr (va (v37) (va (v1) (va (I a.1) (bn d fun x_74 n4 d => ?_))))
     obtain ⟨l_103, t7, r9⟩ := Sl.at (x.mono (h0.trans (i0.trans (j0.trans (k0.trans (a0.trans (b0.trans l0))))))) (idx_get n4)
     obtain ⟨v106, rfl, u7⟩ := t7
     refine vx (ix underlying78 x.m n4) (va (.pointer (some ⟨sb v1, so v1 + a.1.toNat * 3 + 1, none⟩)) (vx (l1 underlying57 (r9 1 _ rfl)) (bn d fun x_77 v7 d => cl (c_feed_Feeder_Bytes e0 f0 (hG.m.le (by decide)) N.2 x_74.B g0.m u7 v7) ?_)))
     rintro v114 c113 h9 ⟨r5, x5, t6, rfl⟩
     refine wln (rD [7] (Kp G0 [(Eb f 83 [n, I a.2.2.1, I a.2.2.2.1, B a.2.2.2.2.1, B a.2.2.2.2.2.1, o, p, I a.2.2.2.2.2.2.2.2.1])]) x5 ?_)
     intro z6 i9 y1
     have v9 : Kp G0 [(Eb f 83 [n, I a.2.2.1, I a.2.2.2.1, B a.2.2.2.2.1, B a.2.2.2.2.2.1, o, p, I a.2.2.2.2.2.2.2.2.1])] z6 := (Kp.cons (y1.on 0 rfl) Kp.nil0)
     refine tkx 0 v9 (fun D q hk => leN 83 0 [n, I a.2.2.1, I a.2.2.2.1, B a.2.2.2.2.1, B a.2.2.2.2.2.1, o, p, I a.2.2.2.2.2.2.2.2.1] (hk.on 0 rfl)) (ta 1 (v1) (ta 2 (I a.1) (bn d fun x_82 o4 d => ?_)))
     obtain ⟨l_119, w7, s9⟩ := Sl.at (x.mono (h0.trans (i0.trans (j0.trans (k0.trans (a0.trans (b0.trans (l0.trans (h9.trans i9))))))))) (idx_get o4)
     obtain ⟨v122, rfl, x7⟩ := w7
     refine tx 3 (fun D q => ix underlying78 x.m o4) (ta 4 (.pointer (some ⟨sb v1, so v1 + a.1.toNat * 3 + 1, none⟩)) (tx 5 (fun D q => l1 underlying57 ((mm s9) 1 _ rfl)) (bn d fun d0 y7 d => o1 6 (gc 6 (c_linotyperef37_Feed_Bytes y1 (⟨(⟨a.2.1, (⟨a.2.2.1, a.2.2.2.1, a.2.2.2.2.1⟩ : G_api_Cursor), a.2.2.2.2.2.1⟩ : G_linotyperef34_Pen), a.2.2.2.2.2.2.1, a.2.2.2.2.2.2.2.1, a.2.2.2.2.2.2.2.2.1⟩ : G_linotyperef37_Feed) x_82.B w0.m x0.m y0.m x7 y7) ?_))))
     rintro v136 a7 l135 ⟨v125, v127, v129, z1, rfl, c1, d1, e1⟩
     have w9 : Kp G0 [(Eb f 83 [n, I a.2.2.1, I a.2.2.2.1, B a.2.2.2.2.1, B a.2.2.2.2.2.1, o, p, I a.2.2.2.2.2.2.2.2.1])] a7 := (Kp.cons (z1.on 0 rfl) Kp.nil0)
     refine ⟨.inr w9, ?_⟩
     obtain ⟨o2, q2, s2, rfl⟩ := (c1).form
     obtain ⟨t2, u2, v2, rfl⟩ := (d1).form
     obtain ⟨w2, x2, y2, rfl⟩ := (e1).form
     refine o1 7 (gD 7 (sA 83 [.slice o2 q2 s2, I d0.P.At.Row, I d0.P.At.Col, B d0.P.At.Pending, B d0.P.Auto, .slice t2 u2 v2, .slice w2 x2 y2, I d0.Parts] 0 z1 ⟨c1.one, rfl, rfl, rfl, rfl, d1.one, e1.one, rfl, trivial⟩) ?_)
     rintro b7 l148 y5
     refine ⟨.inl rfl, dn (bkn (nrm ?_))⟩
     obtain rfl := si d
     exact ⟨b7, _, _, rfl, pt, us, (.slice o2 q2 s2), (.slice t2 u2 v2), (.slice w2 x2 y2), r5, y5, rfl, t6.m, c1.m, d1.m, e1.m⟩
    refine sr (va (B (S.Kind == 1)) (va (B (S.Kind == 1)) (wln (cn d (fun z7 d => ?_) (fun z7 d => ?_)))))
    ·refine sr (va (v37) (va (v1) (va (I a.1) (bn d fun x_94 p4 d => ?_))))
     obtain ⟨l_151, a8, t9⟩ := Sl.at (x.mono (h0.trans (i0.trans (j0.trans (k0.trans (a0.trans (b0.trans l0))))))) (idx_get p4)
     obtain ⟨v154, rfl, h155⟩ := a8
     refine vx (ix underlying78 x.m p4) (va (.pointer (some ⟨sb v1, so v1 + a.1.toNat * 3 + 2, none⟩)) (vx (l1 underlying21 (t9 2 _ rfl)) (bn d fun x_97 b8 d => cl (c_feed_Feeder_Rune e0 f0 (hG.m.le (by decide)) N.2 x_94.R g0.m b8) ?_)))
     rintro v162 c161 j9 ⟨s5, z5, u6, rfl⟩
     refine wln (rD [7] (Kp G0 [(Eb f 83 [n, I a.2.2.1, I a.2.2.2.1, B a.2.2.2.2.1, B a.2.2.2.2.2.1, o, p, I a.2.2.2.2.2.2.2.2.1])]) z5 ?_)
     intro c7 k9 a2
     have x9 : Kp G0 [(Eb f 83 [n, I a.2.2.1, I a.2.2.2.1, B a.2.2.2.2.1, B a.2.2.2.2.2.1, o, p, I a.2.2.2.2.2.2.2.2.1])] c7 := (Kp.cons (a2.on 0 rfl) Kp.nil0)
     refine tkx 0 x9 (fun D q hk => leN 83 0 [n, I a.2.2.1, I a.2.2.2.1, B a.2.2.2.2.1, B a.2.2.2.2.2.1, o, p, I a.2.2.2.2.2.2.2.2.1] (hk.on 0 rfl)) (ta 1 (v1) (ta 2 (I a.1) (bn d fun f5 q4 d => ?_)))
     obtain ⟨l_167, c8, u9⟩ := Sl.at (x.mono (h0.trans (i0.trans (j0.trans (k0.trans (a0.trans (b0.trans (l0.trans (j9.trans k9))))))))) (idx_get q4)
     obtain ⟨v170, rfl, h171⟩ := c8
     refine tx 3 (fun D q => ix underlying78 x.m q4) (ta 4 (.pointer (some ⟨sb v1, so v1 + a.1.toNat * 3 + 2, none⟩)) (tx 5 (fun D q => l1 underlying21 ((mm u9) 2 _ rfl)) (bn d fun y d8 d => o1 6 (gc 6 (c_linotyperef37_Feed_Rune a2 (⟨(⟨a.2.1, (⟨a.2.2.1, a.2.2.2.1, a.2.2.2.2.1⟩ : G_api_Cursor), a.2.2.2.2.2.1⟩ : G_linotyperef34_Pen), a.2.2.2.2.2.2.1, a.2.2.2.2.2.2.2.1, a.2.2.2.2.2.2.2.2.1⟩ : G_linotyperef37_Feed) f5.R w0.m x0.m y0.m d8) ?_))))
     rintro v185 d7 l184 ⟨v173, v175, u176, v178, b2, rfl, f1, g1, h1⟩
     have y9 : Kp G0 [(Eb f 83 [n, I a.2.2.1, I a.2.2.2.1, B a.2.2.2.2.1, B a.2.2.2.2.2.1, o, p, I a.2.2.2.2.2.2.2.2.1])] d7 := (Kp.cons (b2.on 1 rfl) Kp.nil0)
     refine ⟨.inr y9, ?_⟩
     obtain ⟨z2, a3, b3, rfl⟩ := (f1).form
     obtain ⟨c3, d3, e3, rfl⟩ := (g1).form
     obtain ⟨f3, g3, i3, rfl⟩ := (h1).form
     refine o1 7 (gD 7 (sA 83 [.slice z2 a3 b3, I y.P.At.Row, I y.P.At.Col, B y.P.At.Pending, B y.P.Auto, .slice c3 d3 e3, .slice f3 g3 i3, I y.Parts] 1 b2 ⟨f1.one, rfl, rfl, rfl, rfl, (g1).one, h1.one, rfl, trivial⟩) ?_)
     rintro c197 m9 a6
     refine ⟨.inl rfl, dn (bkn (nrm ?_))⟩
     obtain rfl := si d
     obtain ⟨e7, f8, l200, b6, e8⟩ := a6.frz 0 rfl (g1.mono m9)
     have c6 := b6.sD 2 [1]
     exact ⟨e7, _, _, f8.symm, pt, us, (.slice z2 a3 b3), (.slice c3 d3 e3), (.slice f3 g3 i3), s5, c6, rfl, u6.m, f1.m, e8, h1.m⟩
    refine sr (va (B (S.Kind == 2)) (va (B (S.Kind == 2)) (wln (cn d (fun g8 d => ?_) (fun g8 d => ?_)))))
    ·refine sr (va (v37) (bn d fun x_112 h8 d => cl (c_feed_Feeder_Flush e0 f0 (hG.m.le (by decide)) N.2 g0.m h8) ?_))
     rintro v210 c209 l209 ⟨t5, c2, v6, rfl⟩
     refine wln (W.region (vx (leN 83 0 [n, I a.2.2.1, I a.2.2.2.1, B a.2.2.2.2.1, B a.2.2.2.2.2.1, o, p, I a.2.2.2.2.2.2.2.2.1] (c2.on 0 rfl)) (bn d fun z i8 d => cl (c_linotyperef37_Feed_Flush c2 (⟨(⟨a.2.1, (⟨a.2.2.1, a.2.2.2.1, a.2.2.2.2.1⟩ : G_api_Cursor), a.2.2.2.2.2.1⟩ : G_linotyperef34_Pen), a.2.2.2.2.2.2.1, a.2.2.2.2.2.2.2.1, a.2.2.2.2.2.2.2.2.1⟩ : G_linotyperef37_Feed) w0.m x0.m y0.m i8) ?_)))
     rintro v224 c223 l223 ⟨v212, v214, u215, v217, d6, rfl, i1, j1, k1⟩
     obtain ⟨j3, k3, l3, rfl⟩ := (i1).form
     obtain ⟨m3, n3, o3, rfl⟩ := (j1).form
     obtain ⟨p3, q3, s3, rfl⟩ := (k1).form
     refine md (sA 83 [.slice j3 k3 l3, I z.P.At.Row, I z.P.At.Col, B z.P.At.Pending, B z.P.Auto, .slice m3 n3 o3, .slice p3 q3 s3, I z.Parts] 1 d6 ⟨i1.one, rfl, rfl, rfl, rfl, (j1).one, k1.one, rfl, trivial⟩) ?_
     rintro c235 n9 e6
     refine WL.nil (bkn (nrm ?_))
     obtain rfl := si d
     obtain ⟨f7, k8, l238, f6, j8⟩ := e6.frz 0 rfl (j1.mono n9)
     have g6 := f6.sD 2 [1]
     exact ⟨f7, _, _, k8.symm, pt, us, (.slice j3 k3 l3), (.slice m3 n3 o3), (.slice p3 q3 s3), t5, g6, rfl, v6.m, i1.m, j8, k1.m⟩
    refine sr (va (v37) (bn d fun x_119 l8 d => cl (c_feed_Feeder_Close e0 f0 N.2 g0.m l8) ?_))
    rintro v247 c246 l246 ⟨u5, d2, w6, rfl⟩
    refine wln (W.region (vx (leN 83 0 [n, I a.2.2.1, I a.2.2.2.1, B a.2.2.2.2.1, B a.2.2.2.2.2.1, o, p, I a.2.2.2.2.2.2.2.2.1] (d2.on 0 rfl)) (bn d fun A m8 d => cl (c_linotyperef37_Feed_Close d2 (⟨(⟨a.2.1, (⟨a.2.2.1, a.2.2.2.1, a.2.2.2.2.1⟩ : G_api_Cursor), a.2.2.2.2.2.1⟩ : G_linotyperef34_Pen), a.2.2.2.2.2.2.1, a.2.2.2.2.2.2.2.1, a.2.2.2.2.2.2.2.2.1⟩ : G_linotyperef37_Feed) w0.m x0.m y0.m m8) ?_)))
    rintro v261 c260 l260 ⟨v249, v251, u252, v254, h6, rfl, m1, n1, q1⟩
    obtain ⟨t3, u3, v3, rfl⟩ := (m1).form
    obtain ⟨w3, x3, y3, rfl⟩ := (n1).form
    obtain ⟨z3, a4, b4, rfl⟩ := (q1).form
    refine md (sA 83 [.slice t3 u3 v3, I A.P.At.Row, I A.P.At.Col, B A.P.At.Pending, B A.P.Auto, .slice w3 x3 y3, .slice z3 a4 b4, I A.Parts] 1 h6 ⟨m1.one, rfl, rfl, rfl, rfl, (n1).one, q1.one, rfl, trivial⟩) ?_
    rintro c272 o9 i6
    refine WL.nil (bkn (nrm ?_))
    obtain rfl := si d
    obtain ⟨g7, o8, l275, j6, n8⟩ := i6.frz 0 rfl (n1.mono o9)
    have k6 := j6.sD 2 [1]
    exact ⟨g7, _, _, o8.symm, pt, us, (.slice t3 u3 v3), (.slice w3 x3 y3), (.slice z3 a4 b4), u5, k6, rfl, w6.m, m1.m, n8, q1.m⟩
   rintro e_ w_ ⟨h7, g279, _, rfl, l278, rfl, g, h, i, z0, l6, rfl, U, m0, o0, q0⟩
   refine W.seq (bn k fun g5 p8 k => bn k fun u1 q8 k => bn k fun d_130 r4 k => bn k fun e5 s1 k => W.join (Jn h7 fun c l => Own c z0 ((Eb f 83 [g, I b.2.1, I b.2.2.1, B b.2.2.2.1, B b.2.2.2.2.1, h, i, I b.2.2.2.2.2.2.2.1]) :: F) ∧ l = [(2, v1), (7, v28), (8, v37), (9, Q f), (10, I a.1), (117, B e5)]) ?_ ?_)
   ·clear k
    refine rD [] (Kp G0 [(Eb f 83 [g, I b.2.1, I b.2.2.1, B b.2.2.2.1, B b.2.2.2.2.1, h, i, I b.2.2.2.2.2.2.2.1])]) l6 ?_
    intro i7 l291 e2
    have z9 : Kp G0 [(Eb f 83 [g, I b.2.1, I b.2.2.1, B b.2.2.2.1, B b.2.2.2.2.1, h, i, I b.2.2.2.2.2.2.2.1])] i7 := (Kp.cons (e2.on 0 rfl) Kp.nil0)
    refine ta 0 (v28) (tkx 1 z9 (fun D q hk => leN 83 0 [g, I b.2.1, I b.2.2.1, B b.2.2.2.1, B b.2.2.2.2.1, h, i, I b.2.2.2.2.2.2.2.1] (hk.on 0 rfl)) (o1 2 (gc 2 (c_linotyperef37_Feed_Pen e2 (⟨(⟨b.1, (⟨b.2.1, b.2.2.1, b.2.2.2.1⟩ : G_api_Cursor), b.2.2.2.2.1⟩ : G_linotyperef34_Pen), b.2.2.2.2.2.1, b.2.2.2.2.2.2.1, b.2.2.2.2.2.2.2.1⟩ : G_linotyperef37_Feed) m0.m o0.m q0.m p8) ?_)))
    rintro v301 j7 l300 ⟨v294, f2, rfl, r8⟩
    have p302 : Kp G0 [(Eb f 83 [g, I b.2.1, I b.2.2.1, B b.2.2.2.1, B b.2.2.2.2.1, h, i, I b.2.2.2.2.2.2.2.1])] j7 := (Kp.cons (f2.on 0 rfl) Kp.nil0)
    refine ⟨.inr p302, o1 3 (gc 3 (c_linotypelaw34_Alike f2 U.m c5.2 g5 m5.m r8 q8) ?_)⟩
    rintro v308 f4 l307 ⟨a1, rfl⟩
    have w4 : Kp G0 [(Eb f 83 [g, I b.2.1, I b.2.2.1, B b.2.2.2.1, B b.2.2.2.2.1, h, i, I b.2.2.2.2.2.2.2.1])] f4 := (Kp.cons (a1.on 0 rfl) Kp.nil0)
    refine ⟨.inr w4, ta 4 (B (!u1)) ?_⟩
    rcases bo (!u1) with X | X
    ·obtain rfl := orT X r4
     refine AC.takeb 5 X rfl (by kernel_rfl) (by kernel_rfl) (fun D q => (by kernel_rfl)) (tp 6 (tp 8 (tp 7 (tp 9 (tp 10 (ta 11 (B true) ?_))))))
     have s4 : true = true := rfl
     obtain rfl := orT s4 s1
     exact AC.takeb 12 s4 rfl (by kernel_rfl) (by kernel_rfl) (fun D q => (by kernel_rfl)) (tp 13 (tp 15 (tp 14 (tp 16 (tp 17 (tp 18 (ta 19 (B true) (dn (nrm ⟨f4, _, _, rfl, pt, us, a1, rfl⟩)))))))))
    have T := orF X r4
    refine bn T fun t0 s8 T => bn T fun u0 t8 T => AC.takeb 5 X rfl (by kernel_rfl) (by kernel_rfl) (fun D q => (by kernel_rfl)) (ta 6 (v37) (tkx 8 w4 (fun D q hk => leN 83 0 [g, I b.2.1, I b.2.2.1, B b.2.2.2.1, B b.2.2.2.2.1, h, i, I b.2.2.2.2.2.2.2.1] (hk.on 0 rfl)) (o1 7 (gc 7 (c_feed_Feeder_Held a1 U.m N.2 g0.m s8) ?_))))
    rintro v320 k7 l319 ⟨g2, rfl⟩
    have p321 : Kp G0 [(Eb f 83 [g, I b.2.1, I b.2.2.1, B b.2.2.2.1, B b.2.2.2.2.1, h, i, I b.2.2.2.2.2.2.2.1])] k7 := (Kp.cons (g2.on 0 rfl) Kp.nil0)
    refine ⟨.inr p321, o1 9 (gc 9 (c_linotyperef37_Feed_Held g2 (⟨(⟨b.1, (⟨b.2.1, b.2.2.1, b.2.2.2.1⟩ : G_api_Cursor), b.2.2.2.2.1⟩ : G_linotyperef34_Pen), b.2.2.2.2.2.1, b.2.2.2.2.2.2.1, b.2.2.2.2.2.2.2.1⟩ : G_linotyperef37_Feed) m0.m o0.m q0.m t8) ?_)⟩
    rintro v327 g4 l326 ⟨b1, rfl⟩
    have x4 : Kp G0 [(Eb f 83 [g, I b.2.1, I b.2.2.1, B b.2.2.2.1, B b.2.2.2.2.1, h, i, I b.2.2.2.2.2.2.2.1])] g4 := (Kp.cons (b1.on 0 rfl) Kp.nil0)
    refine ⟨.inr x4, ta 10 (B (t0 != u0)) ?_⟩
    obtain rfl := si T
    refine ta 11 (B (t0 != u0)) ?_
    rcases bo (t0 != u0) with Z | Z
    ·obtain rfl := orT Z s1
     exact AC.takeb 12 Z rfl (by kernel_rfl) (by kernel_rfl) (fun D q => (by kernel_rfl)) (tp 13 (tp 15 (tp 14 (tp 16 (tp 17 (tp 18 (ta 19 (B true) (dn (nrm ⟨g4, _, _, rfl, pt, us, b1, rfl⟩)))))))))
    have u := orF Z s1
    refine bn u fun h5 u8 u => bn u fun i5 v8 u => bn u fun w1 w8 u => AC.takeb 12 Z rfl (by kernel_rfl) (by kernel_rfl) (fun D q => (by kernel_rfl)) (ta 13 (v37) (tkx 15 x4 (fun D q hk => leN 83 0 [g, I b.2.1, I b.2.2.1, B b.2.2.2.1, B b.2.2.2.2.1, h, i, I b.2.2.2.2.2.2.2.1] (hk.on 0 rfl)) (o1 14 (gc 14 (c_feed_Feeder_Open b1 U.m N.2 g0.m u8) ?_))))
    rintro v334 l7 l341 ⟨_, u335, i2, rfl, x8⟩
    have p343 : Kp G0 [(Eb f 83 [g, I b.2.1, I b.2.2.1, B b.2.2.2.1, B b.2.2.2.2.1, h, i, I b.2.2.2.2.2.2.2.1])] l7 := (Kp.cons (i2.on 1 rfl) Kp.nil0)
    refine ⟨.inr p343, o1 16 (gc 16 (c_linotyperef37_Feed_Open i2 (⟨(⟨b.1, (⟨b.2.1, b.2.2.1, b.2.2.2.1⟩ : G_api_Cursor), b.2.2.2.2.1⟩ : G_linotyperef34_Pen), b.2.2.2.2.2.1, b.2.2.2.2.2.2.1, b.2.2.2.2.2.2.2.1⟩ : G_linotyperef37_Feed) m0.m o0.m q0.m v8) ?_)⟩
    rintro v344 m7 p9 ⟨_, u345, j2, rfl, y8⟩
    have p353 : Kp G0 [(Eb f 83 [g, I b.2.1, I b.2.2.1, B b.2.2.2.1, B b.2.2.2.2.1, h, i, I b.2.2.2.2.2.2.2.1])] m7 := (Kp.cons (j2.on 2 rfl) Kp.nil0)
    refine ⟨.inr p353, ?_⟩
    obtain ⟨n7, a9, u4, k2, z8⟩ := j2.frz 1 rfl (x8.mono p9)
    have p358 : Kp G0 [(Eb f 83 [g, I b.2.1, I b.2.2.1, B b.2.2.2.1, B b.2.2.2.2.1, h, i, I b.2.2.2.2.2.2.2.1])] n7 := (Kp.cons (k2.on 2 rfl) Kp.nil0)
    refine AC.gh a9 u4 (fun _ => p358) ?_
    obtain ⟨o7, d9, q9, l2, b9⟩ := k2.frz 0 rfl (y8.mono u4)
    have p363 : Kp G0 [(Eb f 83 [g, I b.2.1, I b.2.2.1, B b.2.2.2.1, B b.2.2.2.2.1, h, i, I b.2.2.2.2.2.2.2.1])] o7 := (Kp.cons (l2.on 2 rfl) Kp.nil0)
    refine AC.gh d9 q9 (fun _ => p363) (o1 17 (gc 17 (c_linotyperef01_Same l2 h5 i5 z8.m b9 w8) ?_))
    rintro v369 i4 l368 ⟨m2, rfl⟩
    have p370 : Kp G0 [(Eb f 83 [g, I b.2.1, I b.2.2.1, B b.2.2.2.1, B b.2.2.2.2.1, h, i, I b.2.2.2.2.2.2.2.1])] i4 := (Kp.cons (m2.on 2 rfl) Kp.nil0)
    refine ⟨.inr p370, ta 18 (B (!w1)) ?_⟩
    obtain rfl := si u
    refine ta 19 (B (!w1)) (dn (nrm ?_))
    have m6 := m2.sD 3 [2]
    exact ⟨i4, _, _, rfl, pt, us, m6, rfl⟩
   rintro e_ w_ ⟨j4, g373, _, rfl, l372, rfl, n2, rfl⟩
   refine nrm (cn k (fun e9 k => ?_) (fun e9 k => ?_))
   ·refine sr (va (B false) (wln (W.ret (bkr (thr ?_)))))
    obtain rfl := si k
    refine ⟨_, rfl, ⟨rfl, ?_⟩⟩
    have n6 := n2.sD 1 []
    exact ⟨j4, _, _, rfl, pt, us, z0, n6, rfl, U.m⟩
   refine W.skip (bkn (nrm (W.region (va (I a.1) (va (I (w64 (a.1 + 1))) (va (I (w64 (a.1 + 1))) (WL.nil ?_)))))))
   obtain rfl := si k
   exact ⟨_, rfl, ⟨j4, _, _, rfl, pt, us, g, h, i, z0, n2, rfl, U.m, m0.m, o0.m, q0.m⟩⟩
  refine W.exit (thx ?_)
  obtain rfl := si H
  exact ⟨_, rfl, rfl, ⟨l4, _, _, rfl, pt, us, n, o, p, j5, e0, rfl, f0, w0, x0, y0⟩⟩
 ·obtain ⟨p7, g9, l382, o6, f9⟩ := O62.frz 1 rfl (t4.mono (a0.trans b0))
  have p6 := o6.sD 2 [0]
  exact ⟨p7, _, _, g9.symm, pt, us, (.slice c4 d4 e4), (Y), (Y), G39, p6, rfl, R41.m, f9, (Sl.nl _ _), (Sl.nl _ _)⟩
 rcases t1 with t1 | t1
 ·intro ex_; revert ex_
  rintro _ e_ w_ ⟨rfl, q7, g386, _, rfl, l385, rfl, v5, q6, rfl, x6⟩
  refine bkr (thr ?_)
  obtain rfl := si x1
  exact r1 ⟨_, q7, rfl, rfl, pt, v5, q6, x6, rfl⟩
 rintro _ e_ w_ ⟨rfl, r7, g392, _, rfl, l391, rfl, y4, z4, a5, w5, r6, rfl, y6, h394, h395, h396⟩
 refine bke (nrm (sr (va (B true) (wln (W.ret ?_)))))
 obtain rfl := si x1
 have s6 := r6.sD 1 []
 exact r1 ⟨_, r7, rfl, rfl, pt, w5, s6, y6, rfl⟩
end Go.Proofs.YthokmpbbkpjhbaaGreatDoor
namespace Go.Proofs.YthokmpbbkpjhbaaGreatDoor
structure Sg where
 some : Bool
 last : Int
 pict : Int
 conj : Int
 odd : Bool
def sg0 : Sg := ⟨false, 0, 0, 0, false⟩
def nxP (s : Int) (p : G_api_Prop) : Int := if p.Pict = true then 1 else if s = 1 ∧ p.Break = 4 then 1 else if s = 1 ∧ p.Break = 5 then 2 else 0
def nxC (s : Int) (p : G_api_Prop) : Int := if p.Conj = 1 then 1 else if s = 0 then 0 else if p.Conj = 2 then 2 else if p.Conj = 3 then s else 0
def sgN (s : Sg) (p : G_api_Prop) : Sg := ⟨true, p.Break, nxP s.pict p, nxC s.conj p, p.Break == 6 && !(s.some && s.last == 6 && s.odd)⟩
def sgF (l : List G_api_Prop) : Sg := l.foldl sgN sg0
def sgJ (pj : Int → Int → Int) (s : Sg) (p : G_api_Prop) : Bool :=
 s.some && ((p.Conj == 1 && s.conj == 2) || (p.Pict && s.pict == 2) || pj s.last p.Break == 1 || (pj s.last p.Break == 2 && s.last == 6 && s.odd))
def cj : List G_api_Prop → Nat → Bool
 | [], _ => false
 | x :: l, n => if x.Conj = 1 then decide (0 < n) else if x.Conj = 2 then cj l (n + 1) else if x.Conj = 3 then cj l n else false
def pk : List G_api_Prop → Bool
 | [] => false
 | x :: l => if x.Pict = true then true else if x.Break = 4 then pk l else false
def ri : List G_api_Prop → Nat
 | [] => 0
 | x :: l => if x.Break = 6 then ri l + 1 else 0
def rj (pj : Int → Int → Int) (l : List G_api_Prop) (p : G_api_Prop) : Bool :=
 match l with
 | [] => false
 | a :: l' => pj a.Break p.Break == 1 || (p.Conj == 1 && cj (a :: l') 0) || (p.Pict && (!a.Pict && a.Break == 5 && pk l')) || (pj a.Break p.Break == 2 && p.Break == 6 && ri (a :: l') % 2 == 1)
def pst : List G_api_Prop → Int
 | [] => 0
 | x :: l => nxP (pst l) x
def cst : List G_api_Prop → Int
 | [] => 0
 | x :: l => nxC (cst l) x
def hb : List G_api_Prop → Int
 | [] => 0
 | x :: _ => x.Break
def od : List G_api_Prop → Bool
 | [] => false
 | x :: l => x.Break == 6 && !(!l.isEmpty && hb l == 6 && od l)
theorem sgF_eq (l : List G_api_Prop) : sgF l = ⟨!l.reverse.isEmpty, hb l.reverse, pst l.reverse, cst l.reverse, od l.reverse⟩ := by
 have key : ∀ r : List G_api_Prop, sgF r.reverse = ⟨!r.isEmpty, hb r, pst r, cst r, od r⟩ := by
  intro r
  induction r with
  | nil => rfl
  | cons x r ih =>
   unfold sgF at ih ⊢
   rw [List.reverse_cons, List.foldl_append, ih]
   rfl
 have := key l.reverse
 rwa [List.reverse_reverse] at this
theorem pk_pst (l : List G_api_Prop) : pk l = decide (pst l = 1) := by
 induction l with
 | nil => rfl
 | cons x l ih =>
  unfold pk pst nxP
  by_cases h1 : x.Pict = true
  ·rw [if_pos h1, if_pos h1]; rfl
  ·rw [if_neg h1, if_neg h1]
   by_cases h2 : x.Break = 4
   ·rw [if_pos h2, ih]
    by_cases h3 : pst l = 1
    ·rw [if_pos ⟨h3, h2⟩]; simp [h3]
    ·rw [if_neg (fun q => h3 q.1), if_neg (fun q => h3 q.1)]; simp [h3]
   ·rw [if_neg h2, if_neg (fun q => h2 q.2)]
    split <;> rfl
theorem cj_cst (l : List G_api_Prop) (n : Nat) : cj l n = decide (cst l = 2 ∨ (cst l ≠ 0 ∧ 0 < n)) := by
 induction l generalizing n with
 | nil => rfl
 | cons x l ih =>
  unfold cj cst nxC
  by_cases h1 : x.Conj = 1
  ·rw [if_pos h1, if_pos h1]
   simp
  ·rw [if_neg h1, if_neg h1]
   by_cases h2 : x.Conj = 2
   ·rw [if_pos h2, ih]
    by_cases h0 : cst l = 0
    ·rw [if_pos h0]; simp [h0]
    ·rw [if_neg h0, if_pos h2]; simp [h0]
   ·rw [if_neg h2]
    by_cases h3 : x.Conj = 3
    ·rw [if_pos h3, ih]
     by_cases h0 : cst l = 0
     ·rw [if_pos h0, h0]
     ·rw [if_neg h0, if_neg h2, if_pos h3]
    ·rw [if_neg h3]
     by_cases h0 : cst l = 0
     ·rw [if_pos h0]; rfl
     ·rw [if_neg h0, if_neg h2, if_neg h3]; rfl
theorem ri_od (l : List G_api_Prop) : od l = (ri l % 2 == 1) := by
 induction l with
 | nil => rfl
 | cons x l ih =>
  unfold od ri
  by_cases h : x.Break = 6
  ·rw [if_pos h, ih]
   have hb' : (x.Break == 6) = true := by simp [h]
   rw [hb', Bool.true_and]
   cases l with
   | nil => rfl
   | cons y l =>
    by_cases h2 : y.Break = 6
    ·have e : (hb (y :: l) == 6) = true := by simp [hb, h2]
     rw [e]
     simp only [List.isEmpty_cons, Bool.not_false, Bool.true_and]
     rw [Bool.eq_iff_iff]
     simp only [Bool.not_eq_true', beq_eq_false_iff_ne, beq_iff_eq]
     omega
    ·have e : (hb (y :: l) == 6) = false := by simp [hb, h2]
     rw [e]
     simp only [Bool.and_false, Bool.false_and, Bool.not_false]
     have : ri (y :: l) = 0 := by unfold ri; rw [if_neg h2]
     rw [this]
     rfl
  ·rw [if_neg h]
   simp [h]
theorem sgJ_eq (pj : Int → Int → Int) (hp : ∀ a b, pj a b = 2 → (a = 6 ↔ b = 6)) (l : List G_api_Prop) (p : G_api_Prop) : sgJ pj (sgF l) p = rj pj l.reverse p := by
 rw [sgF_eq]
 generalize l.reverse = r
 cases r with
 | nil => rfl
 | cons a r =>
  unfold sgJ rj
  simp only [List.isEmpty_cons, Bool.not_false, Bool.true_and, hb]
  rw [cj_cst, pk_pst, ← ri_od]
  have e1 : (cst (a :: r) == 2) = decide (cst (a :: r) = 2 ∨ (cst (a :: r) ≠ 0 ∧ 0 < 0)) := by
   rw [Bool.eq_iff_iff]; simp
  have e2 : (pst (a :: r) == 2) = (!a.Pict && a.Break == 5 && decide (pst r = 1)) := by
   rw [Bool.eq_iff_iff]
   simp only [beq_iff_eq, Bool.and_eq_true, Bool.not_eq_true', decide_eq_true_eq]
   show nxP (pst r) a = 2 ↔ _
   unfold nxP
   by_cases h1 : a.Pict = true
   ·rw [if_pos h1, h1]; simp
   ·rw [if_neg h1]
    simp only [Bool.not_eq_true] at h1
    by_cases h2 : pst r = 1 ∧ a.Break = 4
    ·rw [if_pos h2]; simp [h1, h2]
    ·rw [if_neg h2]
     by_cases h3 : pst r = 1 ∧ a.Break = 5
     ·rw [if_pos h3]; simp [h1, h3]
     ·rw [if_neg h3]
      simp only [h1]
      constructor
      ·intro e; exact absurd e (by decide)
      ·rintro ⟨⟨_, q1⟩, q2⟩; exact absurd ⟨q2, q1⟩ h3
  have e3 : (pj a.Break p.Break == 2 && a.Break == 6 && od (a :: r)) = (pj a.Break p.Break == 2 && p.Break == 6 && od (a :: r)) := by
   by_cases h : pj a.Break p.Break = 2
   ·have e6 : (a.Break == 6) = (p.Break == 6) := by
     rw [Bool.eq_iff_iff, beq_iff_eq, beq_iff_eq]
     exact hp _ _ h
    rw [e6]
   ·have e7 : (pj a.Break p.Break == 2) = false := by rw [beq_eq_false_iff_ne]; exact h
    rw [e7]
    rfl
  rw [e1, e2, e3]
  cases (p.Conj == 1 && decide (cst (a :: r) = 2 ∨ (cst (a :: r) ≠ 0 ∧ 0 < 0))) <;> cases (p.Pict && (!a.Pict && a.Break == 5 && decide (pst r = 1))) <;> cases (pj a.Break p.Break == 1) <;> rfl
structure Sq (s t : Sg) : Prop where
 pict : s.pict = t.pict
 conj : s.conj = t.conj
 odd : s.odd = t.odd
theorem sgN_sq {s t : Sg} (h : Sq s t) (h1 : s.odd = true → s.some = true ∧ s.last = 6) (h2 : t.odd = true → t.some = true ∧ t.last = 6) (p : G_api_Prop) : sgN s p = sgN t p := by
 unfold sgN
 rw [h.pict, h.conj]
 congr 2
 have : (s.some && s.last == 6 && s.odd) = (t.some && t.last == 6 && t.odd) := by
  have ho := h.odd
  rw [Bool.eq_iff_iff]
  simp only [Bool.and_eq_true, beq_iff_eq]
  constructor
  ·rintro ⟨_, q⟩
   have := h2 (ho ▸ q)
   exact ⟨this, ho ▸ q⟩
  ·rintro ⟨_, q⟩
   have := h1 (ho ▸ q)
   exact ⟨this, ho ▸ q⟩
 rw [this]
end Go.Proofs.YthokmpbbkpjhbaaGreatDoor
namespace Go.Proofs.YthokmpbbkpjhbaaGreatDoor
def addL (c : List (List Int)) (r : Int) : List (List Int) := c.dropLast ++ [c.getLast?.getD [] ++ [r]]
theorem addL_snoc (c : List (List Int)) (x : List Int) (r : Int) : addL (c ++ [x]) r = c ++ [x ++ [r]] := by
 unfold addL
 simp
section
variable (pj : Int → Int → Int) (pr : Int → G_api_Prop)
def clS (l : List Int) : List (List Int) × Sg := l.foldl (fun a r => (if sgJ pj a.2 (pr r) = true then addL a.1 r else a.1 ++ [[r]], sgN a.2 (pr r))) ([], sg0)
def cls (l : List Int) : List (List Int) := (clS pj pr l).1
def jn (l : List Int) (r : Int) : Bool := sgJ pj (sgF (l.map pr)) (pr r)
theorem sgF_snoc (l : List G_api_Prop) (x : G_api_Prop) : sgF (l ++ [x]) = sgN (sgF l) x := by
 unfold sgF
 rw [List.foldl_append]
 rfl
theorem clS_2 (l : List Int) : (clS pj pr l).2 = sgF (l.map pr) := by
 have key : ∀ (l : List Int) (a : List (List Int) × Sg), (l.foldl (fun a r => (if sgJ pj a.2 (pr r) = true then addL a.1 r else a.1 ++ [[r]], sgN a.2 (pr r))) a).2 = (l.map pr).foldl sgN a.2 := by
  intro l
  induction l with
  | nil => intro a; rfl
  | cons r l ih => intro a; rw [List.foldl_cons, ih, List.map_cons, List.foldl_cons]
 exact key l _
theorem cls_nil : cls pj pr [] = [] := rfl
theorem cls_snoc (l : List Int) (r : Int) : cls pj pr (l ++ [r]) = if jn pj pr l r = true then addL (cls pj pr l) r else cls pj pr l ++ [[r]] := by
 unfold cls jn
 rw [← clS_2 pj]
 unfold clS
 rw [List.foldl_append]
 rfl
theorem jn_ne {l : List Int} {r : Int} (h : jn pj pr l r = true) : l ≠ [] := by
 rintro rfl
 simp [jn, sgJ, sgF, sg0] at h
end
theorem snoc_ind {P : List Int → Prop} (h0 : P []) (h1 : ∀ l r, P l → P (l ++ [r])) (l : List Int) : P l := by
 have key : ∀ l : List Int, P l.reverse := by
  intro l
  induction l with
  | nil => exact h0
  | cons r l ih => rw [List.reverse_cons]; exact h1 _ _ ih
 have := key l.reverse
 rwa [List.reverse_reverse] at this
theorem snoc_cases {α : Type} {l : List α} (h : l ≠ []) : ∃ l0 x, l = l0 ++ [x] := ⟨l.dropLast, l.getLast h, (List.dropLast_concat_getLast h).symm⟩
variable {pj : Int → Int → Int} {pr : Int → G_api_Prop}
theorem cls_flat (l : List Int) : (cls pj pr l).flatten = l ∧ (∀ c ∈ cls pj pr l, c ≠ []) ∧ (l ≠ [] → cls pj pr l ≠ []) := by
 refine snoc_ind (P := fun l => (cls pj pr l).flatten = l ∧ (∀ c ∈ cls pj pr l, c ≠ []) ∧ (l ≠ [] → cls pj pr l ≠ [])) ⟨rfl, fun c hc => by simp [cls_nil] at hc, fun h => absurd rfl h⟩ (fun l r ih => ?_) l
 obtain ⟨h1, h2, h3⟩ := ih
 rw [cls_snoc]
 split
 ·rename_i hj
  obtain ⟨c0, x, e⟩ := snoc_cases (h3 (jn_ne pj pr hj))
  rw [e] at h1 h2 ⊢
  rw [addL_snoc]
  refine ⟨?_, fun c hc => ?_, fun _ => by simp⟩
  ·rw [← h1]; simp
  ·rcases List.mem_append.1 hc with hc | hc
   ·exact h2 c (List.mem_append_left _ hc)
   ·rw [List.mem_singleton.1 hc]; simp
 ·refine ⟨by rw [List.flatten_append, h1]; simp, fun c hc => ?_, fun _ => by simp⟩
  rcases List.mem_append.1 hc with hc | hc
  ·exact h2 c hc
  ·rw [List.mem_singleton.1 hc]; simp
theorem cls_last {l : List Int} {x : Int} {c0 : List (List Int)} {c : List Int} (h : cls pj pr (l ++ [x]) = c0 ++ [c]) : ∃ c', c = c' ++ [x] := by
 obtain ⟨h1, h2, _⟩ := cls_flat (pj := pj) (pr := pr) (l ++ [x])
 rw [h] at h1 h2
 obtain ⟨c', y, rfl⟩ := snoc_cases (h2 c (by simp))
 refine ⟨c', ?_⟩
 rw [List.flatten_append] at h1
 simp only [List.flatten_cons, List.flatten_nil, List.append_nil] at h1
 rw [← List.append_assoc] at h1
 have := List.append_inj_right' h1 rfl
 rw [List.singleton_inj.1 this]
section
variable (pj : Int → Int → Int) (pr : Int → G_api_Prop)
def sts (l : List Int) : List Nat := (List.range l.length).filter fun i => !jn pj pr (l.take i) (l.getD i 0)
theorem sts_snoc (l : List Int) (r : Int) : sts pj pr (l ++ [r]) = sts pj pr l ++ (if jn pj pr l r = true then [] else [l.length]) := by
 unfold sts
 rw [List.length_append, List.length_singleton, List.range_succ, List.filter_append]
 congr 1
 ·refine List.filter_congr fun i hi => ?_
  have hi := List.mem_range.1 hi
  rw [List.take_append_of_le_length (by omega)]
  congr 2
  rw [List.getD_eq_getElem?_getD, List.getD_eq_getElem?_getD, List.getElem?_append_left hi]
 ·rw [List.filter_cons, List.filter_nil]
  have e1 : (l ++ [r]).take l.length = l := by simp
  have e2 : (l ++ [r]).getD l.length 0 = r := by simp
  rw [e1, e2]
  cases jn pj pr l r <;> rfl
end
theorem sts_lt {l : List Int} {i : Nat} (h : i ∈ sts pj pr l) : i < l.length := by
 unfold sts at h
 exact List.mem_range.1 (List.mem_filter.1 h).1
theorem sts_ne {l : List Int} (h : l ≠ []) : sts pj pr l ≠ [] := by
 refine snoc_ind (P := fun l => l ≠ [] → sts pj pr l ≠ []) (fun h => absurd rfl h) (fun l r ih _ => ?_) l h
 rw [sts_snoc]
 split
 ·rename_i hj
  intro e
  exact ih (jn_ne pj pr hj) (by simpa using e)
 ·simp
def slx (l : List Int) (a b : Nat) : List Int := (l.drop a).take (b - a)
def pcs (l : List Int) (a : List Nat) : List (List Int) := (List.range (a.length - 1)).map fun i => slx l (a.getD i 0) (a.getD (i + 1) 0)
theorem pcs_snoc (l : List Int) (B : List Nat) (a b : Nat) : pcs l (B ++ [a] ++ [b]) = pcs l (B ++ [a]) ++ [slx l a b] := by
 unfold pcs
 have e1 : (B ++ [a] ++ [b]).length - 1 = B.length + 1 := by simp
 have e2 : (B ++ [a]).length - 1 = B.length := by simp
 rw [e1, e2, List.range_succ, List.map_append]
 congr 1
 ·refine List.map_congr_left fun i hi => ?_
  have hi := List.mem_range.1 hi
  have g : ∀ j, j < B.length + 1 → (B ++ [a] ++ [b]).getD j 0 = (B ++ [a]).getD j 0 := fun j hj => by
   rw [List.getD_eq_getElem?_getD, List.getD_eq_getElem?_getD, List.getElem?_append_left (by simp; omega)]
  rw [g i (by omega), g (i + 1) (by omega)]
 ·simp
theorem slx_app {l : List Int} {a b : Nat} (h : b ≤ l.length) (r : List Int) : slx (l ++ r) a b = slx l a b := by
 unfold slx
 rcases Nat.lt_or_ge a l.length with ha | ha
 ·rw [List.drop_append_of_le_length (by omega), List.take_append_of_le_length (by simp; omega)]
 ·rw [show b - a = 0 by omega, List.take_zero, List.take_zero]
theorem pcs_app {l : List Int} {A : List Nat} (h : ∀ a ∈ A, a ≤ l.length) (r : List Int) : pcs (l ++ r) A = pcs l A := by
 unfold pcs
 refine List.map_congr_left fun i hi => ?_
 have hi := List.mem_range.1 hi
 refine slx_app ?_ r
 rw [List.getD_eq_getElem?_getD, List.getElem?_eq_getElem (by omega)]
 exact h _ (List.getElem_mem _)
theorem slx_last {l : List Int} {a : Nat} (h : a ≤ l.length) (r : Int) : slx (l ++ [r]) a (l.length + 1) = slx l a l.length ++ [r] := by
 unfold slx
 rw [List.drop_append_of_le_length h, List.take_of_length_le (by simp; omega), List.take_of_length_le (by simp)]
theorem pcs_cls (l : List Int) : pcs l (sts pj pr l ++ [l.length]) = cls pj pr l := by
 refine snoc_ind (P := fun l => pcs l (sts pj pr l ++ [l.length]) = cls pj pr l) rfl (fun l r ih => ?_) l
 have hle : ∀ a ∈ sts pj pr l ++ [l.length], a ≤ l.length := fun a ha => by
  rcases List.mem_append.1 ha with ha | ha
  ·exact Nat.le_of_lt (sts_lt ha)
  ·rw [List.mem_singleton.1 ha]; exact Nat.le_refl _
 rw [cls_snoc, sts_snoc, List.length_append, List.length_singleton]
 split
 ·rename_i hj
  obtain ⟨B, a, e⟩ := snoc_cases (sts_ne (pj := pj) (pr := pr) (jn_ne pj pr hj))
  rw [e] at ih hle ⊢
  rw [List.append_nil, pcs_snoc, ← ih, pcs_snoc, addL_snoc, slx_last (hle a (by simp)), pcs_app (fun x hx => hle x (List.mem_append_left _ hx))]
 ·rw [pcs_snoc, pcs_app hle, ih, slx_last (Nat.le_refl _)]
  simp [slx]
structure Sil (pj : Int → Int → Int) (pr : Int → G_api_Prop) (sil : Int → Bool) : Prop where
 s : ∀ r, sil r = true → ((pr r).Break = 1 ∨ (pr r).Break = 2 ∨ (pr r).Break = 3) ∧ (pr r).Pict = false ∧ (pr r).Conj = 0
 ja : ∀ a b, (a = 1 ∨ a = 2 ∨ a = 3) → pj a b ≠ 0 → a = 1 ∧ b = 2
 jb : ∀ a b, (b = 1 ∨ b = 2 ∨ b = 3) → pj a b ≠ 0 → a = 1 ∧ b = 2
 b : ∀ r, (pr r).Break = 1 ∨ (pr r).Break = 2 → sil r = true
variable {sil : Int → Bool}
theorem Sil.state (h : Sil pj pr sil) (l : List Int) {x : Int} (hx : sil x = true) : sgF ((l ++ [x]).map pr) = ⟨true, (pr x).Break, 0, 0, false⟩ := by
 obtain ⟨h1, h2, h3⟩ := h.s x hx
 rw [List.map_append, List.map_singleton, sgF_snoc]
 unfold sgN nxP nxC
 rw [h2, h3, if_neg (by simp), if_neg (by omega), if_neg (by omega), if_neg (by omega)]
 congr 1
 ·split <;> rfl
 ·have e : ((pr x).Break == 6) = false := by rw [beq_eq_false_iff_ne]; omega
  rw [e, Bool.false_and]
theorem Sil.no (h : Sil pj pr sil) (l : List Int) {x r : Int} (hx : sil x = true) (hr : sil r = false) : jn pj pr (l ++ [x]) r = false := by
 obtain ⟨h1, _, _⟩ := h.s x hx
 unfold jn
 rw [h.state l hx]
 have hz : pj (pr x).Break (pr r).Break = 0 := Classical.byContradiction fun hne => by
  have := h.b r (.inr (h.ja _ _ h1 hne).2)
  rw [hr] at this
  cases this
 simp [sgJ, hz]
theorem Sil.new (h : Sil pj pr sil) (l : List Int) {x : Int} (hx : sil x = true) (p : G_api_Prop) : sgN (sgF ((l ++ [x]).map pr)) p = sgN sg0 p := by
 rw [h.state l hx]
 exact sgN_sq (s := ⟨true, (pr x).Break, 0, 0, false⟩) (t := sg0) ⟨rfl, rfl, rfl⟩ (fun e => by simp at e) (fun e => by simp [sg0] at e) p
theorem Sil.yes (h : Sil pj pr sil) {l : List Int} {r : Int} (hr : sil r = true) (hj : jn pj pr l r = true) : ∃ l0 x, l = l0 ++ [x] ∧ sil x = true := by
 obtain ⟨l0, x, rfl⟩ := snoc_cases (jn_ne pj pr hj)
 refine ⟨l0, x, rfl, ?_⟩
 obtain ⟨h1, h2, h3⟩ := h.s r hr
 unfold jn at hj
 rw [List.map_append, List.map_singleton, sgF_snoc] at hj
 have hl : (sgN (sgF (l0.map pr)) (pr x)).last = (pr x).Break := rfl
 unfold sgJ at hj
 rw [h2, h3, hl] at hj
 have hz : pj (pr x).Break (pr r).Break ≠ 0 := fun e => by
  rw [e] at hj
  simp at hj
 exact h.b x (.inl (h.jb _ _ h1 hz).1)
theorem Sil.all (h : Sil pj pr sil) (l : List Int) : ∀ c ∈ cls pj pr l, (∀ x ∈ c, sil x = true) ∨ ∀ x ∈ c, sil x = false := by
 refine snoc_ind (P := fun l => ∀ c ∈ cls pj pr l, (∀ x ∈ c, sil x = true) ∨ ∀ x ∈ c, sil x = false) (fun c hc => by simp [cls_nil] at hc) (fun l r ih => ?_) l
 rw [cls_snoc]
 split
 ·rename_i hj
  obtain ⟨l0, x, rfl⟩ := snoc_cases (jn_ne pj pr hj)
  obtain ⟨c0, c, e⟩ := snoc_cases ((cls_flat (pj := pj) (pr := pr) (l0 ++ [x])).2.2 (by simp))
  obtain ⟨c', rfl⟩ := cls_last e
  rw [e] at ih ⊢
  rw [addL_snoc]
  intro d hd
  rcases List.mem_append.1 hd with hd | hd
  ·exact ih d (List.mem_append_left _ hd)
  ·rw [List.mem_singleton.1 hd]
   have hc := ih (c' ++ [x]) (by simp)
   cases hr : sil r with
   | true =>
    obtain ⟨l1, y, e1, hy⟩ := h.yes hr hj
    have : x = y := List.singleton_inj.1 (List.append_inj_right' e1 rfl)
    subst this
    left
    rcases hc with hc | hc
    ·intro z hz
     rcases List.mem_append.1 hz with hz | hz
     ·exact hc z hz
     ·rw [List.mem_singleton.1 hz]; exact hr
    ·have := hc x (by simp)
     rw [hy] at this
     cases this
   | false =>
    right
    rcases hc with hc | hc
    ·have := h.no l0 (hc x (by simp)) hr
     rw [this] at hj
     cases hj
    ·intro z hz
     rcases List.mem_append.1 hz with hz | hz
     ·exact hc z hz
     ·rw [List.mem_singleton.1 hz]; exact hr
 ·intro d hd
  rcases List.mem_append.1 hd with hd | hd
  ·exact ih d hd
  ·rw [List.mem_singleton.1 hd]
   cases hr : sil r with
   | true => left; intro z hz; rw [List.mem_singleton.1 hz]; exact hr
   | false => right; intro z hz; rw [List.mem_singleton.1 hz]; exact hr
end Go.Proofs.YthokmpbbkpjhbaaGreatDoor
namespace Go.Lt
theorem w64_in {n : Int} (h : -9223372036854775808 ≤ n ∧ n ≤ 9223372036854775807) : w64 n = n := by
 unfold w64
 rw [IntKind.wrap_i64]
 omega
theorem w32_in {n : Int} (h : -2147483648 ≤ n ∧ n ≤ 2147483647) : w32 n = n := by
 unfold w32
 rw [IntKind.wrap_i32]
 omega
theorem bsm {α β : Type} (a : α) (f : α → Option β) : (some a).bind f = f a := by simp
theorem iter_inv {σ τ : Type} {step : σ → Option (σ ⊕ τ)} (Inv : σ → Prop) (μ : σ → Nat) (post : τ → Prop)
  (h : ∀ s, Inv s → (∃ s', step s = some (.inl s') ∧ Inv s' ∧ μ s' < μ s) ∨ ∃ t, step s = some (.inr t) ∧ post t) :
  ∀ (fuel : Nat) (s : σ), Inv s → μ s < fuel → ∃ t, iter fuel step s = some t ∧ post t := by
 intro fuel
 induction fuel with
 | zero => intro s _ hm; omega
 | succ k ih =>
  intro s hs hm
  rcases h s hs with ⟨s', h1, h2, h3⟩ | ⟨t, h1, h2⟩
  ·obtain ⟨t, h4, h5⟩ := ih s' h2 (by omega)
   exact ⟨t, by simp [iter, h1, h4], h5⟩
  ·exact ⟨t, by simp [iter, h1], h2⟩
theorem iter_eq {σ τ : Type} {step : σ → Option (σ ⊕ τ)} (Inv : σ → Prop) (μ : σ → Nat) {t : τ}
  (h : ∀ s, Inv s → (∃ s', step s = some (.inl s') ∧ Inv s' ∧ μ s' < μ s) ∨ step s = some (.inr t)) {fuel : Nat} {s : σ} (h0 : Inv s) (hm : μ s < fuel) : iter fuel step s = some t := by
 obtain ⟨t', h1, h2⟩ := iter_inv Inv μ (fun x => x = t) (fun s hs => (h s hs).imp id fun h => ⟨t, h, rfl⟩) fuel s h0 hm
 rw [h1, h2]
theorem orE_some (a b : Bool) : orE a (some b) = some (a || b) := by cases a <;> rfl
theorem andE_some (a b : Bool) : andE a (some b) = some (a && b) := by cases a <;> rfl
theorem orE_true (x : Option Bool) : orE true x = some true := rfl
theorem orE_false (x : Option Bool) : orE false x = x := rfl
theorem andE_true (x : Option Bool) : andE true x = x := rfl
theorem andE_false (x : Option Bool) : andE false x = some false := rfl
theorem idx_nat {α : Type} (xs : List α) (i : Nat) : idx xs (i : Int) = xs[i]? := by
 unfold idx
 rw [if_pos (Int.natCast_nonneg i)]
 rfl
theorem idx_at {α : Type} {xs : List α} {i : Nat} (h : i < xs.length) : idx xs (i : Int) = some xs[i] := by
 rw [idx_nat, List.getElem?_eq_getElem h]
theorem sets_nat {α : Type} {xs : List α} {i : Nat} (h : i < xs.length) (x : α) : sets xs (i : Int) x = some (xs.set i x) := by
 unfold sets
 rw [if_pos ⟨Int.natCast_nonneg i, by omega⟩]
 rfl
theorem app_eq {α : Type} {xs ys : List α} (h : xs.length + ys.length ≤ 1099511627776) : app xs ys = some (xs ++ ys) := by
 unfold app far
 rw [if_pos h]
theorem rep_eq {α : Type} {n : Int} (x : α) (h : 0 ≤ n ∧ n ≤ 1099511627776) : rep n x = some (List.replicate n.toNat x) := by
 unfold rep far
 rw [if_pos (by omega)]
theorem slc_eq {α : Type} {xs : List α} {i j : Nat} (h : i ≤ j) (h2 : j ≤ xs.length) : slc xs i j = some ((xs.drop i).take (j - i)) := by
 unfold slc
 rw [if_pos (by omega)]
 congr 2
 omega
theorem imax_eq (x y : Int) : imax x y = max x y := by unfold imax; split <;> omega
theorem imin_eq (x y : Int) : imin x y = min x y := by unfold imin; split <;> omega
theorem iter_count {τ : Type} {step : Int → Option (Int ⊕ τ)} {n : Nat} (hn : n ≤ 9223372036854775807) (post : τ → Prop) (Inv : Nat → Prop) (h0 : Inv 0)
  (h : ∀ i : Nat, i < n → Inv i → (step i = some (.inl ((i + 1 : Nat) : Int)) ∧ Inv (i + 1)) ∨ ∃ t, step i = some (.inr t) ∧ post t)
  (hend : Inv n → ∃ t, step n = some (.inr t) ∧ post t) : ∃ t, iter (((n : Int) - 0).toNat + 1) step 0 = some t ∧ post t := by
 refine iter_inv (fun s : Int => ∃ i : Nat, s = (i : Int) ∧ i ≤ n ∧ Inv i) (fun s : Int => n - s.toNat) post (fun s ⟨i, hs, hi, hI⟩ => ?_) _ _ ⟨0, rfl, Nat.zero_le _, h0⟩ (by simp)
 subst hs
 rcases Nat.lt_or_ge i n with hlt | hge
 ·rcases h i hlt hI with ⟨h1, h2⟩ | h1
  ·exact .inl ⟨_, h1, ⟨i + 1, rfl, hlt, h2⟩, by simp; omega⟩
  ·exact .inr h1
 ·obtain rfl : i = n := by omega
  exact .inr (hend hI)
theorem iter_for {σ τ : Type} {step : σ → Option (σ ⊕ τ)} {n : Nat} (Inv : Nat → σ → Prop) (post : τ → Prop)
  (h : ∀ i s, i < n → Inv i s → (∃ s', step s = some (.inl s') ∧ Inv (i + 1) s') ∨ ∃ t, step s = some (.inr t) ∧ post t)
  (hend : ∀ s, Inv n s → ∃ t, step s = some (.inr t) ∧ post t) {fuel : Nat} {s : σ} (h0 : Inv 0 s) (hf : n < fuel) : ∃ t, iter fuel step s = some t ∧ post t := by
 have key : ∀ fuel i s, i ≤ n → n - i < fuel → Inv i s → ∃ t, iter fuel step s = some t ∧ post t := by
  intro fuel
  induction fuel with
  | zero => intro i s _ hm; omega
  | succ k ih =>
   intro i s hi hm hs
   rcases Nat.lt_or_ge i n with hlt | hge
   ·rcases h i s hlt hs with ⟨s', h1, h2⟩ | ⟨t, h1, h2⟩
    ·obtain ⟨t, h4, h5⟩ := ih (i + 1) s' hlt (by omega) h2
     exact ⟨t, by simp [iter, h1, h4], h5⟩
    ·exact ⟨t, by simp [iter, h1], h2⟩
   ·obtain rfl : i = n := by omega
    obtain ⟨t, h1, h2⟩ := hend s hs
    exact ⟨t, by simp [iter, h1], h2⟩
 exact key fuel 0 s (Nat.zero_le _) (by omega) h0
theorem iter_forB {σ τ β : Type} {step : σ → Option (σ ⊕ τ)} {n : Nat} (Inv : Nat → σ → Prop) (post : τ → Prop) {fuel : Nat} {s : σ} {k : τ → Option β} {r : Option β}
  (h : ∀ i s, i < n → Inv i s → (∃ s', step s = some (.inl s') ∧ Inv (i + 1) s') ∨ ∃ t, step s = some (.inr t) ∧ post t)
  (hend : ∀ s, Inv n s → ∃ t, step s = some (.inr t) ∧ post t) (h0 : Inv 0 s) (hf : n < fuel) (hk : ∀ t, post t → k t = r) : (iter fuel step s).bind k = r := by
 obtain ⟨t, h1, h2⟩ := iter_for Inv post h hend h0 hf
 rw [h1]
 exact hk t h2
theorem iter_forE {σ τ β : Type} {step : σ → Option (σ ⊕ τ)} {n : Nat} (Inv : Nat → σ → Prop) (post : τ → Prop) {fuel : Nat} {s : σ} {k : τ → Option β} {p : β → Prop}
  (h : ∀ i s, i < n → Inv i s → (∃ s', step s = some (.inl s') ∧ Inv (i + 1) s') ∨ ∃ t, step s = some (.inr t) ∧ post t)
  (hend : ∀ s, Inv n s → ∃ t, step s = some (.inr t) ∧ post t) (h0 : Inv 0 s) (hf : n < fuel) (hk : ∀ t, post t → ∃ r, k t = some r ∧ p r) : ∃ r, (iter fuel step s).bind k = some r ∧ p r := by
 obtain ⟨t, h1, h2⟩ := iter_for Inv post h hend h0 hf
 rw [h1]
 exact hk t h2
theorem iter_forL {σ τ γ : Type} {step : σ → Option (σ ⊕ τ)} {n : Nat} (Inv : Nat → σ → Prop) (post : τ → Prop) {fuel : Nat} {s : σ} {k : τ → Option (γ × Bool)}
  (h : ∀ i s, i < n → Inv i s → (∃ s', step s = some (.inl s') ∧ Inv (i + 1) s') ∨ ∃ t, step s = some (.inr t) ∧ post t)
  (hend : ∀ s, Inv n s → ∃ t, step s = some (.inr t) ∧ post t) (h0 : Inv 0 s) (hf : n < fuel) (hk : ∀ t, post t → ∃ r, k t = some (r, true)) : ∃ r, (iter fuel step s).bind k = some (r, true) := by
 obtain ⟨t, h1, h2⟩ := iter_for Inv post h hend h0 hf
 rw [h1]
 exact hk t h2
theorem w64_succ {i n : Nat} (h : i < n) (hn : n ≤ 9223372036854775807) : w64 ((i : Int) + 1) = ((i + 1 : Nat) : Int) := by
 rw [w64_in (by omega)]
 simp
theorem dlt {i n : Nat} (h : i < n) : decide ((i : Int) < (n : Int)) = true := by simp; exact h
theorem dnl (n : Nat) : decide ((n : Int) < (n : Int)) = false := by simp
end Go.Lt
namespace Go.Lt
theorem iter_invB {σ τ β : Type} {step : σ → Option (σ ⊕ τ)} {fuel : Nat} {s : σ} {k : τ → Option β} {r : Option β} (Inv : σ → Prop) (μ : σ → Nat) (post : τ → Prop)
  (h : ∀ s, Inv s → (∃ s', step s = some (.inl s') ∧ Inv s' ∧ μ s' < μ s) ∨ ∃ t, step s = some (.inr t) ∧ post t) (h0 : Inv s) (hf : μ s < fuel) (hk : ∀ t, post t → k t = r) : (iter fuel step s).bind k = r := by
 obtain ⟨t, e1, e2⟩ := iter_inv Inv μ post h fuel s h0 hf
 rw [e1]
 exact hk t e2
theorem iter_invE {σ τ β : Type} {step : σ → Option (σ ⊕ τ)} {fuel : Nat} {s : σ} {k : τ → Option β} {p : β → Prop} (Inv : σ → Prop) (μ : σ → Nat) (post : τ → Prop)
  (h : ∀ s, Inv s → (∃ s', step s = some (.inl s') ∧ Inv s' ∧ μ s' < μ s) ∨ ∃ t, step s = some (.inr t) ∧ post t) (h0 : Inv s) (hf : μ s < fuel) (hk : ∀ t, post t → ∃ r, k t = some r ∧ p r) : ∃ r, (iter fuel step s).bind k = some r ∧ p r := by
 obtain ⟨t, e1, e2⟩ := iter_inv Inv μ post h fuel s h0 hf
 rw [e1]
 exact hk t e2
theorem bind_or {α σ τ : Type} {x : Option α} {k : α → Option (σ ⊕ τ)} {A : σ → Prop} {B : τ → Prop} (post : α → Prop) (hx : ∃ t, x = some t ∧ post t)
  (hk : ∀ t, post t → (∃ s', k t = some (.inl s') ∧ A s') ∨ ∃ u, k t = some (.inr u) ∧ B u) : (∃ s', x.bind k = some (.inl s') ∧ A s') ∨ ∃ t, x.bind k = some (.inr t) ∧ B t := by
 obtain ⟨t, e1, e2⟩ := hx
 rw [e1]
 exact hk t e2
variable {α : Type} {lo hi : α → Int}
def srtd (lo hi : α → Int) : List α → Bool
 | [] => true
 | x :: l => decide (lo x ≤ hi x) && (match l with | [] => true | y :: _ => decide (hi x < lo y)) && srtd lo hi l
theorem srtd_lo : ∀ {T : List α}, srtd lo hi T = true → ∀ i (h : i < T.length), lo T[i] ≤ hi T[i]
 | [], _, i, h => by simp at h
 | x :: l, hs, i, h => by
  simp only [srtd, Bool.and_eq_true, decide_eq_true_eq] at hs
  cases i with
  | zero => exact hs.1.1
  | succ i => exact srtd_lo hs.2 i (by simpa using h)
theorem srtd_lt : ∀ {T : List α}, srtd lo hi T = true → ∀ i j (h : j < T.length), (hij : i < j) → hi (T[i]'(by omega)) < lo T[j]
 | [], _, i, j, h, _ => by simp at h
 | x :: l, hs, i, j, h, hij => by
  have hs0 := hs
  simp only [srtd, Bool.and_eq_true, decide_eq_true_eq] at hs
  cases j with
  | zero => omega
  | succ j =>
   have hj : j < l.length := by simpa using h
   cases i with
   | succ i => exact srtd_lt hs.2 i j hj (by omega)
   | zero =>
    cases l with
    | nil => simp at hj
    | cons y l' =>
     have h1 : hi x < lo y := by simpa using hs.1.2
     cases j with
     | zero => exact h1
     | succ j =>
      have h2 := srtd_lt hs.2 0 (j + 1) hj (by omega)
      have h3 := srtd_lo hs.2 0 (by simp)
      simp only [List.getElem_cons_zero] at h2 h3
      simp only [List.getElem_cons_zero, List.getElem_cons_succ] at h2 ⊢
      omega
def onn (lo hi : α → Int) (r : Int) (x : α) : Bool := decide (lo x ≤ r) && decide (r ≤ hi x)
theorem onn_iff {r : Int} {x : α} : onn lo hi r x = true ↔ lo x ≤ r ∧ r ≤ hi x := by simp [onn]
theorem onn_uniq {T : List α} (hs : srtd lo hi T = true) {r : Int} {i j : Nat} (hi' : i < T.length) (hj : j < T.length) (h1 : onn lo hi r T[i] = true) (h2 : onn lo hi r T[j] = true) : i = j := by
 rw [onn_iff] at h1 h2
 rcases Nat.lt_trichotomy i j with h | h | h
 ·have := srtd_lt hs i j hj h
  omega
 ·exact h
 ·have := srtd_lt hs j i hi' h
  omega
def fnd (lo hi : α → Int) (T : List α) (r : Int) : Option α := T.find? (onn lo hi r)
theorem fnd_of {T : List α} (hs : srtd lo hi T = true) {r : Int} {x : α} (hx : x ∈ T) (h : onn lo hi r x = true) : fnd lo hi T r = some x := by
 unfold fnd
 obtain ⟨i, hi', rfl⟩ := List.mem_iff_getElem.1 hx
 rw [List.find?_eq_some_iff_getElem]
 refine ⟨h, i, hi', rfl, fun j hj => ?_⟩
 cases hb : onn lo hi r (T[j]'(by omega)) with
 | false => rfl
 | true => exact absurd (onn_uniq hs (by omega) hi' hb h) (by omega)
theorem fnd_none {T : List α} {r : Int} (h : ∀ i (h : i < T.length), onn lo hi r T[i] = false) : fnd lo hi T r = none := by
 unfold fnd
 rw [List.find?_eq_none]
 intro x hx
 obtain ⟨i, hi', rfl⟩ := List.mem_iff_getElem.1 hx
 simp [h i hi']
theorem fnd_mem {T : List α} {r : Int} {x : α} (h : fnd lo hi T r = some x) : x ∈ T ∧ onn lo hi r x = true := ⟨List.mem_of_find?_eq_some h, List.find?_some h⟩
theorem fnd_at {T : List α} (hs : srtd lo hi T = true) {r : Int} {i : Nat} (h1 : ∀ j (h : j < T.length), j < i → hi T[j] < r) (h2 : ∀ j (h : j < T.length), i ≤ j → r ≤ hi T[j]) :
  fnd lo hi T r = if h : i < T.length then (if lo T[i] ≤ r then some T[i] else none) else none := by
 have hno : ∀ j (h : j < T.length), j ≠ i → onn lo hi r T[j] = false := fun j h hne => by
  cases hb : onn lo hi r T[j] with
  | false => rfl
  | true =>
   rw [onn_iff] at hb
   rcases Nat.lt_or_ge j i with hj | hj
   ·have := h1 j h hj
    omega
   ·have h3 := srtd_lt hs i j h (by omega)
    have h4 := h2 i (by omega) (Nat.le_refl _)
    omega
 split
 ·rename_i hi'
  split
  ·rename_i hl
   exact fnd_of hs (List.getElem_mem hi') (onn_iff.2 ⟨hl, h2 i hi' (Nat.le_refl _)⟩)
  ·rename_i hl
   refine fnd_none fun j h => ?_
   by_cases hj : j = i
   ·subst hj
    cases hb : onn lo hi r T[j] with
    | false => rfl
    | true => exact absurd (onn_iff.1 hb).1 hl
   ·exact hno j h hj
 ·rename_i hi'
  exact fnd_none fun j h => hno j h (by omega)
theorem half {a b : Nat} (h : a + b ≤ 4611686018427387904) : w64 ((IntKind.u64.wrap (w64 ((a : Int) + (b : Int)))).fdiv (2 ^ 1)) = (((a + b) / 2 : Nat) : Int) := by
 have e0 : w64 ((a : Int) + (b : Int)) = ((a + b : Nat) : Int) := by rw [w64_in (by omega)]; simp
 have h1 : IntKind.u64.wrap ((a + b : Nat) : Int) = ((a + b : Nat) : Int) := by
  have : ((a + b : Nat) : Int) % 18446744073709551616 = ((a + b : Nat) : Int) := Int.emod_eq_of_lt (by omega) (by omega)
  simpa [IntKind.wrap, IntKind.bits, IntKind.signed] using this
 have e2 : (((a + b : Nat) : Int)).fdiv (2 ^ 1) = (((a + b) / 2 : Nat) : Int) := by
  rw [Int.fdiv_eq_ediv_of_nonneg _ (by decide)]
  omega
 rw [e0, h1, e2, w64_in (by omega)]
theorem search_eq {T : List α} (hs : srtd lo hi T = true) (hl : T.length ≤ 1000000) (r : Int) {step : Int × Int → Option (Int × Int ⊕ Int)}
  (h1 : ∀ a b : Nat, (hab : a < b) → (hb : b ≤ T.length) → step ((a : Int), (b : Int)) = some (.inl (if r ≤ hi (T[(a + b) / 2]'(by omega)) then ((a : Int), (((a + b) / 2 : Nat) : Int)) else (((((a + b) / 2 + 1 : Nat) : Int)), (b : Int)))))
  (h2 : ∀ a : Nat, step ((a : Int), (a : Int)) = some (.inr (a : Int))) :
  ∃ i : Nat, iter (((T.length : Int) - 0).toNat + 1) step (0, (T.length : Int)) = some (i : Int) ∧ i ≤ T.length ∧ (∀ j (h : j < T.length), j < i → hi T[j] < r) ∧ (∀ j (h : j < T.length), i ≤ j → r ≤ hi T[j]) := by
 have hmono : ∀ j k (h : k < T.length), (hjk : j ≤ k) → hi (T[j]'(by omega)) ≤ hi T[k] := fun j k h hjk => by
  rcases Nat.lt_or_ge j k with hlt | hge
  ·have e1 := srtd_lt hs j k h hlt
   have e2 := srtd_lo hs k h
   omega
  ·obtain rfl : j = k := by omega
   exact Int.le_refl _
 obtain ⟨t, e1, i, e2, e3, e4, e5⟩ := iter_inv (step := step) (fun q => ∃ a b : Nat, q = ((a : Int), (b : Int)) ∧ a ≤ b ∧ b ≤ T.length ∧ (∀ j (h : j < T.length), j < a → hi T[j] < r) ∧ (∀ j (h : j < T.length), b ≤ j → r ≤ hi T[j]))
  (fun q => (q.2 - q.1).toNat) (fun t => ∃ i : Nat, t = (i : Int) ∧ i ≤ T.length ∧ (∀ j (h : j < T.length), j < i → hi T[j] < r) ∧ (∀ j (h : j < T.length), i ≤ j → r ≤ hi T[j]))
  (by
   rintro q ⟨a, b, rfl, hab, hb, c1, c2⟩
   rcases Nat.lt_or_ge a b with hlt | hge
   ·left
    rw [h1 a b hlt hb]
    refine ⟨_, rfl, ?_⟩
    by_cases hr : r ≤ hi (T[(a + b) / 2]'(by omega))
    ·rw [if_pos hr]
     exact ⟨⟨a, (a + b) / 2, rfl, by omega, by omega, c1, fun j h hj => Int.le_trans hr (hmono _ _ h hj)⟩, by simp only; omega⟩
    ·rw [if_neg hr]
     refine ⟨⟨(a + b) / 2 + 1, b, rfl, by omega, hb, fun j h hj => ?_, c2⟩, by simp only; omega⟩
     have := hmono j ((a + b) / 2) (by omega) (by omega)
     omega
   ·right
    obtain rfl : a = b := by omega
    exact ⟨_, h2 a, a, rfl, hb, c1, c2⟩)
  (((T.length : Int) - 0).toNat + 1) (0, (T.length : Int)) ⟨0, T.length, rfl, Nat.zero_le _, Nat.le_refl _, fun j h hj => by omega, fun j h hj => by omega⟩ (by simp only; omega)
 subst e2
 exact ⟨i, e1, e3, e4, e5⟩
def osum (v : Option Int) : Int ⊕ Unit := match v with | some x => .inl x | none => .inr ()
theorem lists_eq {n : Nat} (hn : n ≤ 1000000) {v : Option Int} {step : Int → Option (Int ⊕ (Int ⊕ Unit))}
  (h1 : ∀ k : Nat, k < n → step (k : Int) = if v = some ((k : Int) + 1) then some (.inr (.inl ((k : Int) + 1))) else some (.inl ((k + 1 : Nat) : Int)))
  (h2 : step (n : Int) = some (.inr (.inr ()))) (hv : ∀ x, v = some x → 1 ≤ x ∧ x ≤ n) : iter (((n : Int) - 0).toNat + 1) step 0 = some (osum v) := by
 refine iter_eq (fun s => ∃ k : Nat, s = (k : Int) ∧ k ≤ n ∧ ∀ j : Nat, j < k → v ≠ some ((j : Int) + 1)) (fun s => ((n : Int) - s).toNat) ?_ ⟨0, rfl, Nat.zero_le _, fun j hj => by omega⟩ (by omega)
 rintro s ⟨k, rfl, hk, hno⟩
 rcases Nat.lt_or_ge k n with hlt | hge
 ·rw [h1 k hlt]
  by_cases he : v = some ((k : Int) + 1)
  ·rw [if_pos he]
   right
   subst he
   rfl
  ·rw [if_neg he]
   refine .inl ⟨_, rfl, ⟨k + 1, rfl, by omega, fun j hj => ?_⟩, by omega⟩
   by_cases hjk : j = k
   ·subst hjk; exact he
   ·exact hno j (by omega)
 ·obtain rfl : k = n := by omega
  rw [h2]
  right
  cases v with
  | none => rfl
  | some x =>
   obtain ⟨e1, e2⟩ := hv x rfl
   exact absurd (show some x = some (((x - 1).toNat : Int) + 1) by congr 1; omega) (hno (x - 1).toNat (by omega))
theorem lists_eqB {n fuel : Nat} {β : Type} {kk : Int ⊕ Unit → Option β} {rr : Option β} (hn : n ≤ 1000000) {v : Option Int} {step : Int → Option (Int ⊕ (Int ⊕ Unit))}
  (h1 : ∀ k : Nat, k < n → step (k : Int) = if v = some ((k : Int) + 1) then some (.inr (.inl ((k : Int) + 1))) else some (.inl ((k + 1 : Nat) : Int)))
  (h2 : step (n : Int) = some (.inr (.inr ()))) (hv : ∀ x, v = some x → 1 ≤ x ∧ x ≤ n) (hf : fuel = ((n : Int) - 0).toNat + 1) (hk : kk (osum v) = rr) : (iter fuel step 0).bind kk = rr := by
 subst hf
 rw [lists_eq hn h1 h2 hv]
 exact hk
def lk (T : List (Int × Int × Int)) (r : Int) : Option Int := (fnd (fun x => x.1) (fun x => x.2.1) T r).map (fun x => x.2.2)
def inl_ (l : List (Int × Int)) (r : Int) : Bool := l.any (onn (fun x => x.1) (fun x => x.2) r)
def ofv (T : List (Int × Int × Int)) (v : Int) : List (Int × Int) := (T.filter (fun x => x.2.2 == v)).map (fun x => (x.1, x.2.1))
theorem inl_ofv {T : List (Int × Int × Int)} (hs : srtd (fun x => x.1) (fun x => x.2.1) T = true) (v r : Int) : inl_ (ofv T v) r = decide (lk T r = some v) := by
 unfold inl_ ofv lk
 rw [List.any_map, List.any_filter]
 cases hf : fnd (fun x => x.1) (fun x => x.2.1) T r with
 | none =>
  simp only [Option.map_none, reduceCtorEq, decide_false]
  rw [List.any_eq_false]
  intro x hx
  unfold fnd at hf
  have := List.find?_eq_none.1 hf x hx
  simp only [Function.comp, Bool.and_eq_true, not_and]
  intro _
  simpa [onn] using this
 | some x =>
  obtain ⟨h1, h2⟩ := fnd_mem hf
  simp only [Option.map_some, Option.some.injEq]
  by_cases hv : x.2.2 = v
  ·rw [decide_eq_true hv, List.any_eq_true]
   exact ⟨x, h1, by simp only [Function.comp, Bool.and_eq_true, beq_iff_eq]; exact ⟨hv, h2⟩⟩
  ·rw [decide_eq_false hv, List.any_eq_false]
   intro y hy
   simp only [Function.comp, Bool.and_eq_true, beq_iff_eq, not_and]
   intro e
   cases hb : onn (fun x : Int × Int => x.1) (fun x => x.2) r (y.1, y.2.1) with
   | false => simp
   | true =>
    have := fnd_of hs hy (show onn (fun x : Int × Int × Int => x.1) (fun x => x.2.1) r y = true from hb)
    rw [hf] at this
    cases this
    exact absurd e hv
theorem lk_in {T : List (Int × Int × Int)} {p : Int → Bool} (h : T.all (fun x => p x.2.2) = true) {r v : Int} (hv : lk T r = some v) : p v = true := by
 unfold lk at hv
 obtain ⟨x, hx, rfl⟩ := Option.map_eq_some_iff.1 hv
 exact List.all_eq_true.1 h x (fnd_mem hx).1
end Go.Lt
