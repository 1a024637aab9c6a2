/- Parts of the proofs of MirrorGroups: the walk through the code, and plain Lean. No condition. -/
import Derived.Test.YtclmdpamofdoiaaGreatDoorMgA
import Derived.Test.YtclmdpamofdoiaaGreatDoorProg
import Derived.Test.YtclmdpamofdoiaaGreatDoorMgB
import Derived.RangeFuncSeq
import Derived.RangeFuncRecord
import Derived.RangeFuncLeaves
import Derived.OpenShut
import Derived.LaidLaws
import Derived.Handed
import Derived.Lay
import Derived.JoinedOf
import Derived.KernelRfl
import Derived.SizedLaws
set_option linter.unusedVariables false
set_option linter.unusedSimpArgs false
namespace Go.Proofs.YtclmdpamofdoiaaGreatDoor
open Go Go.Lt
set_option maxRecDepth 10000
set_option linter.unusedVariables false
attribute [local irreducible] W WL AC
def co (p0:List (List Int)) (p1:List aY):Option (List (List Int)):=
 (cw (σ:=List (List Int)×Int) (τ:=List (List Int)) (((p1.length:Int) - 0).toNat+1) (fun s_1=>
 if (decide (s_1.2 < (p1.length:Int)))=true then
 (idx p1 s_1.2).bind fun x_17=>
 (idx s_1.1 (w64 ((p0.length:Int) - 1))).bind fun x_29=>
 (app x_29 ([x_17.R]:List Int)).bind fun x_34=>
 (gM s_1.1 (w64 ((p0.length:Int) - 1)) x_34).bind fun w_37=>
 some (.inl (w_37,(w64 (s_1.2+1))))
 else
 some (.inr (s_1.1))) (p0,0)).bind fun o_1=>
 some o_1
theorem gg {c0:Cx} {G:Gm} {F:List En} {b:Nat} {rv hv cv v1:Value} {n:Int} {hvs hs cvs:List Value} {cur:List Int} (p0:List (List Int)) (O0:Own c0 G (⟨.pointer (some ⟨b,0,none⟩),99,[rv,.int .i64 n,hv],0⟩ :: es true (RI .i32) cv 21 cvs cur :: es true R_V hv 32 hvs hs :: F)) (N0:NS c0 cv cvs cur hv hvs hs p0) (p1:List aY) {r:List (List Int)} (h2:Sl bN c0 v1 p1) (H:co p0 p1=some r): Calls Tryz.prog 102 #[.pointer (some ⟨b,0,none⟩),v1] c0.w (aI c0 fun c v=>∃(cv':Value) (cvs':List Value) (cur':List Int) (hvs' hs':List Value),Own c G (⟨.pointer (some ⟨b,0,none⟩),99,[rv,.int .i64 n,hv],0⟩ :: es true (RI .i32) cv' 21 cvs' cur' :: es true R_V hv 32 hvs' hs' :: F)∧v= .tuple #[]∧NS c cv' cvs' cur' hv hvs' hs' r):=by
 unfold co at H;refine enter (l:=[.pointer (some ⟨b,0,none⟩),v1]) Tryz.func102 rfl rfl rfl ?_;refine sr ?_;refine va (.pointer (some ⟨b,0,none⟩)) ?_;refine va (.pointer (some ⟨b,0,none⟩)) ?_;refine va (.pointer (some ⟨b,2,none⟩)) ?_;refine WL.val0 (v:=hv) rfl (rx (by kernel_rfl) (ee (j:=2) Tryz.underlying25 rfl (O0.on 0 rfl) rfl rfl)) ?_;refine WL.val0 (v:= .int .i64 (p0.length:Int)) rfl (rx (by kernel_rfl) (by rw [←N0.len]; exact mc (ty:=3) Tryz.underlying25 N0.2.1 _)) ?_;refine va (.int .i64 (w64 ((p0.length:Int) - 1))) ?_;refine va (.int .i64 (w64 ((p0.length:Int) - 1))) ?_;refine wln ?_;refine sr ?_;refine va (v1) ?_;refine WL.val0 (v:= .int .i64 (p1.length:Int)) rfl (rx (by kernel_rfl) (jH (ty:=3) Tryz.underlying150 h2 _)) ?_;refine va (.int .i64 0) ?_;refine wln ?_;refine W.block ?_;obtain ⟨o_1,h11,H12⟩:=bs H;refine W.loop (σ:=List (List Int)×Int) (τ:=List (List Int)) (fun s_1=>fun e w=>∃(c:Cx) (g:Nat→Value) (cv1:Value) (cvs1:List Value) (cur1:List Int) (hvs1 hs1:List Value),w=c.w∧c0.le c∧Own c G (⟨.pointer (some ⟨b,0,none⟩),99,[rv,.int .i64 n,hv],0⟩ :: es true (RI .i32) cv1 21 cvs1 cur1 :: es true R_V hv 32 hvs1 hs1 :: F)∧e=ups g [(0,.pointer (some ⟨b,0,none⟩)),(4,.int .i64 (w64 ((p0.length:Int) - 1))),(13,v1),(14,.int .i64 (p1.length:Int)),(15,.int .i64 s_1.2)]∧NS c cv1 cvs1 cur1 hv hvs1 hs1 s_1.1∧s_1.1.length=p0.length)
  (fun o_ ex e w=>ex= .exit 0∧(fun e w=>∃(c:Cx) (g:Nat→Value) (cv1:Value) (cvs1:List Value) (cur1:List Int) (hvs1 hs1:List Value),w=c.w∧c0.le c∧Own c G (⟨.pointer (some ⟨b,0,none⟩),99,[rv,.int .i64 n,hv],0⟩ :: es true (RI .i32) cv1 21 cvs1 cur1 :: es true R_V hv 32 hvs1 hs1 :: F)∧e=ups g []∧NS c cv1 cvs1 cur1 hv hvs1 hs1 o_) e w) ?_ h11 ?_ ?_
 ·clear H12 h11;intro s_1 xx_ ee_ ww_ H;revert ee_ ww_;rintro e_ w_ ⟨c1,g1,cv1,cvs1,cur1,hvs1,hs1,rfl,l1,O1,rfl,N1,Z1⟩;refine sr ?_;refine va (.bool (decide (s_1.2 < (p1.length:Int)))) ?_;refine wln ?_;refine W.seq ?_;refine W.cond (t:=decide (s_1.2 < (p1.length:Int))) (by kernel_rfl) (fun h16=>?_) (fun h16=>?_)
  ·have H:=it h16 H;refine W.skip ?_;refine nrm ?_;obtain ⟨x_17,h17,H⟩:=bs H;refine W.seq ?_;refine W.block ?_;refine sr ?_;obtain ⟨l_22,h23,m24⟩:=Sl.at (h2.mono l1) (aW h17);obtain rfl:=h23;refine WL.val0 (v:= .pointer (some ⟨sb v1,so v1+s_1.2.toNat * 5,none⟩)) rfl (rx (by kernel_rfl) (jI (k:= .i64) Tryz.underlying150 (by kernel_rfl) (h2.mono l1) h17 _)) ?_;refine WL.val0 (v:= .agg #[.int .i32 x_17.R,.int .i64 x_17.At,.int .i64 x_17.Len,.int .i64 x_17.Known,.bool x_17.Bad]) rfl (rx (by kernel_rfl) (kQ (T:=224) (by kernel_rfl) (by kernel_rfl) m24)) ?_;refine WL.mem rfl (Own.al (T:=224) (vs:=[.int .i32 0,.int .i64 0,.int .i64 0,.int .i64 0,.bool false]) O1 (by kernel_rfl)) ?_;rintro v30 c2 l2 ⟨b27,rfl,O2⟩;refine WL.memD rfl (Own.st (T:=224) (j:=0) (us:=[.int .i32 x_17.R,.int .i64 x_17.At,.int .i64 x_17.Len,.int .i64 x_17.Known,.bool x_17.Bad]) (nw:=[.int .i32 x_17.R,.int .i64 x_17.At,.int .i64 x_17.Len,.int .i64 x_17.Known,.bool x_17.Bad]) (v:= .agg #[.int .i32 x_17.R,.int .i64 x_17.At,.int .i64 x_17.Len,.int .i64 x_17.Known,.bool x_17.Bad]) 0 O2 (by kernel_rfl) rfl rfl rfl rfl (by kernel_rfl) ⟨rfl,rfl,rfl,rfl,rfl,trivial⟩ rfl rfl) ?_;rintro c3 l3 O3;refine wln ?_;refine W.regionD [17] (Kp G0 [⟨.pointer (some ⟨b27,0,none⟩),224,[.int .i32 x_17.R,.int .i64 x_17.At,.int .i64 x_17.Len,.int .i64 x_17.Known,.bool x_17.Bad],0⟩,⟨.pointer (some ⟨b,0,none⟩),99,[rv,.int .i64 n,hv],0⟩,es true R_V hv 32 hvs1 hs1]) O3 (by kernel_rfl) ?_;intro c4 l4 O4;have p4:Kp G0 [⟨.pointer (some ⟨b27,0,none⟩),224,[.int .i32 x_17.R,.int .i64 x_17.At,.int .i64 x_17.Len,.int .i64 x_17.Known,.bool x_17.Bad],0⟩,⟨.pointer (some ⟨b,0,none⟩),99,[rv,.int .i64 n,hv],0⟩,es true R_V hv 32 hvs1 hs1] c4:=(Kp.cons (O4.on 0 rfl) (Kp.cons (O4.on 1 rfl) (Kp.cons (O4.on 3 rfl) Kp.nil0)));have N4:=N1.mono (l2.trans (l3.trans l4));obtain ⟨x_29,h29,H⟩:=bs H;obtain ⟨rfl,i1,i2⟩:=N4.last Z1 h29;refine ta 0 (.pointer (some ⟨b,0,none⟩)) ?_;refine ta 1 (.pointer (some ⟨b,0,none⟩)) ?_;refine ta 2 (.pointer (some ⟨b,2,none⟩)) ?_;refine AC.takeK 3 (hv) p4 rfl (by kernel_rfl) (by kernel_rfl) (by kernel_rfl) (fun c' hle hk=>(rx (by kernel_rfl) (ee (j:=2) Tryz.underlying25 rfl (hk.on 1 rfl) rfl rfl))) ?_;refine ta 4 (.int .i64 (w64 ((p0.length:Int) - 1))) ?_;refine ta 5 (.pointer (some ⟨b,0,none⟩)) ?_;refine ta 6 (.pointer (some ⟨b,0,none⟩)) ?_;refine ta 7 (.pointer (some ⟨b,2,none⟩)) ?_;refine AC.takeK 8 (hv) p4 rfl (by kernel_rfl) (by kernel_rfl) (by kernel_rfl) (fun c' hle hk=>(rx (by kernel_rfl) (ee (j:=2) Tryz.underlying25 rfl (hk.on 1 rfl) rfl rfl))) ?_;refine ta 9 (.int .i64 (w64 ((p0.length:Int) - 1))) ?_;refine AC.take 10 (.pointer (some ⟨sb hv,(w64 ((p0.length:Int) - 1)).toNat * 1,none⟩)) rfl (by kernel_rfl) (by kernel_rfl) (fun c' hle=>(rx (by kernel_rfl) (gx (k:= .i64) Tryz.underlying25 (by kernel_rfl) N4.2.1 i1 _))) ?_;obtain ⟨l_222,h223,m224⟩:=OA.at N4.2.1 i1;obtain ⟨rfl,_⟩:=h223;refine AC.takeK 11 (cv1) p4 rfl (by kernel_rfl) (by kernel_rfl) (by kernel_rfl) (fun c' hle hk=>(rx (by kernel_rfl) (ee Tryz.underlying32 rfl (hk.on 2 rfl) (N4.2.1.blk i1) (at1 (j:=0) m224 rfl)))) ?_;refine ta 12 (.pointer (some ⟨b27,0,none⟩)) ?_;refine AC.takeK 13 (.int .i32 x_17.R) p4 rfl (by kernel_rfl) (by kernel_rfl) (by kernel_rfl) (fun c' hle hk=>(rx (by kernel_rfl) (ee (j:=0) Tryz.underlying21 rfl (hk.on 0 rfl) rfl rfl))) ?_;refine AC.one 14 (by kernel_rfl) (Go1.mem 14 rfl (by kernel_rfl) (by kernel_rfl) (Own.sl (R:=(RI .i32)) (E:=21) (ls:=[[.int .i32 x_17.R]]) (vs:=[.int .i32 x_17.R]) (xs:=([x_17.R]:List Int)) true O4 (aJ _) rfl ⟨rfl,trivial⟩ (by kernel_rfl) (by kernel_rfl)) ?_);rintro v40 c5 l5 ⟨u37,O5,h38⟩;have p5:=Kp.cons (O5.on 1 rfl) (Kp.cons (O5.on 2 rfl) (Kp.cons (O5.on 4 rfl) (Kp.nil0)));refine ⟨.inr p5,?_⟩;obtain ⟨c6,h45,l6,O6,h43⟩:=O5.frz 0 rfl h38;have p6:=Kp.cons (O6.on 1 rfl) (Kp.cons (O6.on 2 rfl) (Kp.cons (O6.on 4 rfl) (Kp.nil0)));refine AC.gh h45 l6 (fun _=>p6) ?_;obtain ⟨x_34,h47,H⟩:=bs H;refine AC.one 15 (by kernel_rfl) (Go1.mem 15 rfl (by kernel_rfl) (by kernel_rfl) (Own.app (R:=(RI .i32)) (z:= .int .i32 0) (by_:=4) (ty:=32) 3 O6 rfl (N4.1.mono (l5.trans l6)) h43 h47 Tryz.underlying32 (by kernel_rfl) rfl (by kernel_rfl) (by kernel_rfl)) ?_);rintro v52 c7 l7 ⟨u49,O7,h50⟩;have p7:=Kp.cons (O7.on 1 rfl) (Kp.cons (O7.on 2 rfl) (Kp.cons (O7.on 4 rfl) (Kp.nil0)));refine ⟨.inr p7,?_⟩;refine AC.take 16 (.pointer (some ⟨sb hv,(w64 ((p0.length:Int) - 1)).toNat * 1,none⟩)) rfl (by kernel_rfl) (by kernel_rfl) (fun c' hle=>(rx (by kernel_rfl) (gx (k:= .i64) Tryz.underlying25 (by kernel_rfl) (N4.2.1.mono (l5.trans (l6.trans l7))) i1 _))) ?_;obtain ⟨w_37,h57,H⟩:=bs H;obtain ⟨hs',s1,s2⟩:=i2 v52;have q52:=h50.one;obtain ⟨y1,y2,y3,rfl⟩:=h50.form;refine AC.one 17 (by kernel_rfl) (Go1.memD 17 rfl (by kernel_rfl) (by kernel_rfl) (Own.stW (R:=R_V) (T:=32) (us:=[.slice y1 y2 y3]) (x':= .slice y1 y2 y3) (u:= .slice y1 y2 y3) 4 O7 (by kernel_rfl) rfl (N4.2.1.mono (l5.trans (l6.trans l7))) s1 rfl (by kernel_rfl) ⟨q52,trivial⟩ rfl ⟨rfl,q52⟩) ?_);rintro c8 l8 ⟨u241,O8,h242⟩;refine ⟨.inl rfl,?_⟩;refine AC.done (by kernel_rfl) ?_;refine bkn ?_;refine nrm ?_;refine W.region ?_;refine va (.int .i64 (w64 (s_1.2+1))) ?_;refine va (.int .i64 (w64 (s_1.2+1))) ?_;refine WL.nil ?_;obtain rfl:=az H;refine ⟨_,rfl,?_⟩;have O9:=O8.selD 5 [2,3,4] (by kernel_rfl) (by kernel_rfl);obtain ⟨M1,M2⟩:=s2 _ _ _ _ _ _ h57 (l5.trans (l6.trans (l7.trans l8))) (h50.mono l8) h242;exact ⟨c8,_,_,u49,_,u241,_,rfl,(l1.trans (l2.trans (l3.trans (l4.trans (l5.trans (l6.trans (l7.trans l8))))))),O9,cJ ⟨rfl,rfl,rfl,rfl,rfl,trivial⟩,M1,M2⟩
  ·have H:=ie h16 H;refine W.exit ?_;refine thx ?_;obtain rfl:=az H;refine ⟨_,rfl,rfl,?_⟩;exact ⟨c1,_,cv1,cvs1,cur1,hvs1,hs1,rfl,l1,O1,cJ trivial,N1⟩
 ·skip;exact ⟨c0,_,cv,cvs,cur,hvs,hs,rfl,(Cx.le.refl _),O0,cJ ⟨rfl,rfl,rfl,rfl,rfl,trivial⟩,N0,rfl⟩
 ·skip;rintro _ e_ w_ ⟨rfl,c9,g9,cv9,cvs9,cur9,hvs9,hs9,rfl,l9,O9,rfl,N9⟩;refine bke ?_;obtain rfl:=az H12;exact qW rfl ⟨_,c9,rfl,rfl,l9,cv9,cvs9,cur9,hvs9,hs9,O9,rfl,N9⟩
def cp (p0:List Int) (n:Int) (p1:List (List Int)) (p2:List Int):Option (List Int×Int×List (List Int)):=
 (app p0 p2).bind fun x_11=>
 (dY x_11).bind fun x_18=>
 (eQ x_11).bind fun x_23=>
 (if (decide (x_23 > 0))=true then
 (slc x_18 0 (w64 ((x_18.length:Int) - 1))).bind fun x_29=>
 some x_29
 else
 some x_18).bind fun z_3=>
 (slc z_3 n (z_3.length:Int)).bind fun x_36=>
 (co p1 x_36).bind fun x_37=>
 some (x_11,(z_3.length:Int),x_37)
theorem jz {c0:Cx} {G:Gm} {F:List En} {b:Nat} {rv hv cv v2:Value} {n:Int} {rvs hvs hs cvs:List Value} {cur:List Int} (p0:List Int) (p1:List (List Int)) (O0:Own c0 G (⟨.pointer (some ⟨b,0,none⟩),99,[rv,.int .i64 n,hv],0⟩ :: es false (RI .u8) rv 5 rvs p0 :: es true (RI .i32) cv 21 cvs cur :: es true R_V hv 32 hvs hs :: F)) (hr:OA (RI .u8) c0 rv rvs p0) (N0:NS c0 cv cvs cur hv hvs hs p1) (p2:List Int) {r:List Int×Int×List (List Int)} (h2:Sl (RI .u8) c0 v2 p2) (H:cp p0 n p1 p2=some r): Calls Tryz.prog 60 #[.pointer (some ⟨b,0,none⟩),v2] c0.w (aI c0 fun c v=>∃(rv':Value) (rvs':List Value) (cv':Value) (cvs':List Value) (cur':List Int) (hvs' hs':List Value),Own c G (⟨.pointer (some ⟨b,0,none⟩),99,[rv',.int .i64 r.2.1,hv],0⟩ :: es false (RI .u8) rv' 5 rvs' r.1 :: es true (RI .i32) cv' 21 cvs' cur' :: es true R_V hv 32 hvs' hs' :: F)∧v= .tuple #[]∧OA (RI .u8) c rv' rvs' r.1∧NS c cv' cvs' cur' hv hvs' hs' r.2.2):=by
 unfold cp at H;refine enter (l:=[.pointer (some ⟨b,0,none⟩),v2]) Tryz.func60 rfl rfl rfl ?_;refine sr ?_;refine va (.pointer (some ⟨b,0,none⟩)) ?_;refine va (.pointer (some ⟨b,0,none⟩)) ?_;refine va (.pointer (some ⟨b,0,none⟩)) ?_;refine va (.pointer (some ⟨b,0,none⟩)) ?_;refine WL.val0 (v:=rv) rfl (rx (by kernel_rfl) (ee (j:=0) Tryz.underlying33 rfl (O0.on 0 rfl) rfl rfl)) ?_;refine va (v2) ?_;obtain ⟨x_11,h3,H⟩:=bs H;refine WL.mem rfl (Own.app (R:=(RI .u8)) (z:= .int .u8 0) (by_:=1) (ty:=33) 1 O0 rfl hr h2 h3 Tryz.underlying33 (by kernel_rfl) rfl (by kernel_rfl) (by kernel_rfl)) ?_;rintro rv1 c1 l1 ⟨rvs1,O1,hr1⟩;refine va (.pointer (some ⟨b,0,none⟩)) ?_;refine va (.pointer (some ⟨b,0,none⟩)) ?_;have q1:=hr1.one;obtain ⟨a1,a2,a3,rfl⟩:=hr1.form;refine WL.memD rfl (Own.st (T:=33) (j:=0) (us:=[.slice a1 a2 a3]) (nw:=[.slice a1 a2 a3,.int .i64 n,hv]) (v:= .slice a1 a2 a3) 0 O1 (by kernel_rfl) rfl rfl rfl rfl (by kernel_rfl) ⟨q1,trivial⟩ rfl rfl) ?_;rintro c2 l2 O2;refine wln ?_;refine sr ?_;refine va (.pointer (some ⟨b,0,none⟩)) ?_;refine va (.pointer (some ⟨b,0,none⟩)) ?_;refine va (.pointer (some ⟨b,0,none⟩)) ?_;refine WL.val0 (v:= .slice a1 a2 a3) rfl (rx (by kernel_rfl) (ee (j:=0) Tryz.underlying33 rfl (O2.on 0 rfl) rfl rfl)) ?_;obtain ⟨x_18,h4,H⟩:=bs H;have S2:=O2.slf 1 rfl (hr1.mono l2);refine WL.callP rfl (by kernel_rfl) (iR O2 x_11 S2 h4) ?_;rintro v18 c3 l3 ⟨q,y2,O3,hq,h5⟩;subst hq;obtain ⟨c4,e4,l4,O4,h6⟩:=O3.frz 0 rfl h5;refine WL.gh e4 ?_;refine va (v18) ?_;refine wln ?_;obtain ⟨x_23,h7,H⟩:=bs H;obtain ⟨z_3,H8,H9⟩:=bs H;refine W.seqJ (fun e w=>∃(c:Cx) (g:Nat→Value) (v4:Value),w=c.w∧c4.le c∧Own c G (es false bN v18 224 y2 x_18 :: ⟨.pointer (some ⟨b,0,none⟩),99,[.slice a1 a2 a3,.int .i64 n,hv],0⟩ :: es false (RI .u8) (.slice a1 a2 a3) 5 rvs1 x_11 :: es true (RI .i32) cv 21 cvs cur :: es true R_V hv 32 hvs hs :: F)∧e=ups g [(0,.pointer (some ⟨b,0,none⟩)),(4,v4)]∧Sl bN c v4 z_3) ?_ ?_
 ·skip;refine sr ?_;refine va (.pointer (some ⟨b,0,none⟩)) ?_;refine va (.pointer (some ⟨b,0,none⟩)) ?_;refine va (.pointer (some ⟨b,0,none⟩)) ?_;refine WL.val0 (v:= .slice a1 a2 a3) rfl (rx (by kernel_rfl) (ee (j:=0) Tryz.underlying33 rfl (O4.on 1 rfl) rfl rfl)) ?_;refine WL.callP rfl (by kernel_rfl) (mJ O4 x_11 (S2.mono (l3.trans l4)) h7) ?_;rintro v23 c5 l5 ⟨O5,rfl⟩;refine va (.bool (decide (x_23 > 0))) ?_;refine wln ?_;refine W.cond (t:=decide (x_23 > 0)) (by kernel_rfl) (fun h9=>?_) (fun h9=>?_)
  ·have H8:=it h9 H8;refine W.region ?_;refine va (v18) ?_;refine va (v18) ?_;refine WL.val0 (v:= .int .i64 (x_18.length:Int)) rfl (rx (by kernel_rfl) (jH (ty:=3) Tryz.underlying150 (h6.mono l5) _)) ?_;refine va (.int .i64 (w64 ((x_18.length:Int) - 1))) ?_;obtain ⟨x_29,h10,H8⟩:=bs H8;obtain ⟨v29,h11,h12⟩:=kv (k':= .i64) Tryz.underlying150 (by kernel_rfl) (h6.mono l5) h10;refine WL.val0 (v:=v29) rfl (rx (by kernel_rfl) (h11 _)) ?_;refine va (v29) ?_;refine wln ?_;obtain rfl:=az H8;exact ⟨c5,_,v29,rfl,l5,O5,cJ ⟨rfl,rfl,trivial⟩,h12⟩
  ·have H8:=ie h9 H8;refine W.skip ?_;refine nrm ?_;obtain rfl:=az H8;exact ⟨c5,_,v18,rfl,l5,O5,cJ ⟨rfl,rfl,trivial⟩,h6.mono l5⟩
 ·skip;rintro e_ w_ ⟨c6,g6,v4,rfl,l6,O6,rfl,h13⟩;refine sr ?_;refine va (.pointer (some ⟨b,0,none⟩)) ?_;refine va (v4) ?_;refine va (.pointer (some ⟨b,0,none⟩)) ?_;refine va (.pointer (some ⟨b,0,none⟩)) ?_;refine va (.pointer (some ⟨b,1,none⟩)) ?_;refine WL.val0 (v:= .int .i64 n) rfl (rx (by kernel_rfl) (ee (j:=1) Tryz.underlying3 rfl (O6.on 1 rfl) rfl rfl)) ?_;obtain ⟨x_36,h14,H9⟩:=bs H9;obtain ⟨v36,h15,h16⟩:=jk (k:= .i64) Tryz.underlying150 (by kernel_rfl) h13 h14;refine WL.val0 (v:=v36) rfl (rx (by kernel_rfl) (h15 _)) ?_;obtain ⟨x_37,h17,H9⟩:=bs H9;have O7:=O6.selD 5 [1,3,4,2,0] (by kernel_rfl) (by kernel_rfl);refine WL.callP rfl (by kernel_rfl) (gg p1 O7 (N0.mono (l1.trans (l2.trans (l3.trans (l4.trans l6))))) x_36 h16 h17) ?_;rintro v37 c7 l7 ⟨cv7,cvs7,cur7,hvs7,hs7,O8,rfl,N8⟩;refine wln ?_;refine W.region ?_;refine va (.pointer (some ⟨b,0,none⟩)) ?_;refine va (v4) ?_;refine WL.val0 (v:= .int .i64 (z_3.length:Int)) rfl (rx (by kernel_rfl) (jH (ty:=3) Tryz.underlying150 (h13.mono l7) _)) ?_;refine va (.pointer (some ⟨b,0,none⟩)) ?_;refine va (.pointer (some ⟨b,1,none⟩)) ?_;refine WL.memD rfl (Own.st (T:=3) (j:=1) (us:=[.int .i64 (z_3.length:Int)]) (nw:=[.slice a1 a2 a3,.int .i64 (z_3.length:Int),hv]) (v:= .int .i64 (z_3.length:Int)) 0 O8 (by kernel_rfl) rfl rfl rfl rfl (by kernel_rfl) ⟨rfl,trivial⟩ rfl rfl) ?_;rintro c8 l8 O9;refine WL.nil ?_;obtain rfl:=az H9;have O10:=O9.selD 5 [0,3,1,2] (by kernel_rfl) (by kernel_rfl);exact qW rfl ⟨_,c8,rfl,rfl,(l1.trans (l2.trans (l3.trans (l4.trans (l6.trans (l7.trans l8)))))),_,rvs1,cv7,cvs7,cur7,hvs7,hs7,O10,rfl,hr1.mono (l2.trans (l3.trans (l4.trans (l6.trans (l7.trans l8))))),N8.mono l8⟩
def bZ (p0:List Int) (n:Int) (p1:List (List Int)):Option (List (List Int)):=
 (dY p0).bind fun x_7=>
 (slc x_7 n (x_7.length:Int)).bind fun x_12=>
 (co p1 x_12).bind fun x_13=>
 some x_13
theorem jd {c0:Cx} {G:Gm} {F:List En} {b:Nat} {rv hv cv:Value} {n:Int} {rvs hvs hs cvs:List Value} {cur:List Int} (p0:List Int) (p1:List (List Int)) (O0:Own c0 G (⟨.pointer (some ⟨b,0,none⟩),99,[rv,.int .i64 n,hv],0⟩ :: es false (RI .u8) rv 5 rvs p0 :: es true (RI .i32) cv 21 cvs cur :: es true R_V hv 32 hvs hs :: F)) (hr:OA (RI .u8) c0 rv rvs p0) (N0:NS c0 cv cvs cur hv hvs hs p1) {r:List (List Int)} (H:bZ p0 n p1=some r): Calls Tryz.prog 61 #[.pointer (some ⟨b,0,none⟩)] c0.w (aI c0 fun c v=>∃(rv':Value) (rvs':List Value) (cv':Value) (cvs':List Value) (cur':List Int) (hvs' hs':List Value),Own c G (⟨.pointer (some ⟨b,0,none⟩),99,[rv',.int .i64 0,hv],0⟩ :: es false (RI .u8) rv' 5 rvs' ([]:List Int) :: es true (RI .i32) cv' 21 cvs' cur' :: es true R_V hv 32 hvs' hs' :: F)∧v= .tuple #[]∧OA (RI .u8) c rv' rvs' ([]:List Int)∧NS c cv' cvs' cur' hv hvs' hs' r):=by
 unfold bZ at H;refine enter (l:=[.pointer (some ⟨b,0,none⟩)]) Tryz.func61 rfl rfl rfl ?_;refine W.seq ?_;refine W.regionD [] (Kp G0 [⟨.pointer (some ⟨b,0,none⟩),99,[rv,.int .i64 n,hv],0⟩]) O0 (by kernel_rfl) ?_;intro c1 l1 O1;have p2:=Kp.cons (O1.on 0 rfl) (Kp.nil0);refine ta 0 (.pointer (some ⟨b,0,none⟩)) ?_;refine ta 1 (.pointer (some ⟨b,0,none⟩)) ?_;refine ta 2 (.pointer (some ⟨b,0,none⟩)) ?_;refine ta 3 (.pointer (some ⟨b,0,none⟩)) ?_;refine AC.takeK 4 (rv) p2 rfl (by kernel_rfl) (by kernel_rfl) (by kernel_rfl) (fun c' hle hk=>(rx (by kernel_rfl) (ee (j:=0) Tryz.underlying33 rfl (hk.on 0 rfl) rfl rfl))) ?_;refine ta 6 (.pointer (some ⟨b,0,none⟩)) ?_;refine ta 7 (.pointer (some ⟨b,0,none⟩)) ?_;refine ta 8 (.pointer (some ⟨b,1,none⟩)) ?_;refine AC.takeK 9 (.int .i64 n) p2 rfl (by kernel_rfl) (by kernel_rfl) (by kernel_rfl) (fun c' hle hk=>(rx (by kernel_rfl) (ee (j:=1) Tryz.underlying3 rfl (hk.on 0 rfl) rfl rfl))) ?_;obtain ⟨x_7,h4,H⟩:=bs H;have S2:=O1.slf 1 rfl (hr.mono l1);refine AC.one 5 (by kernel_rfl) (Go1.callP 5 rfl (by kernel_rfl) (by kernel_rfl) (by kernel_rfl) (iR O1 p0 S2 h4) ?_);rintro v18 c3 l3 ⟨q,y2,O3,hq,h5⟩;subst hq;have p3:=Kp.cons (O3.on 1 rfl) (Kp.nil0);refine ⟨.inr p3,?_⟩;obtain ⟨c4,e4,l4,O4,h6⟩:=O3.frz 0 rfl h5;have p4:=Kp.cons (O4.on 1 rfl) (Kp.nil0);refine AC.gh e4 l4 (fun _=>p4) ?_;obtain ⟨x_12,h14,H⟩:=bs H;obtain ⟨v36,h15,h16⟩:=jk (k:= .i64) Tryz.underlying150 (by kernel_rfl) h6 h14;refine AC.take 10 (v36) rfl (by kernel_rfl) (by kernel_rfl) (fun c' hle=>(rx (by kernel_rfl) (h15 _))) ?_;obtain ⟨x_13,h17,H⟩:=bs H;have O7:=O4.selD 5 [1,3,4,2,0] (by kernel_rfl) (by kernel_rfl);refine AC.one 11 (by kernel_rfl) (Go1.callP 11 rfl (by kernel_rfl) (by kernel_rfl) (by kernel_rfl) (gg p1 O7 (N0.mono (l1.trans (l3.trans l4))) x_12 h16 h17) ?_);rintro v37 c7 l7 ⟨cv7,cvs7,cur7,hvs7,hs7,O8,rfl,N8⟩;refine ⟨.inr (Kp.cons (O8.on 0 rfl) Kp.nil0),?_⟩;refine AC.done (by kernel_rfl) ?_;refine nrm ?_;refine W.region ?_;refine va (.pointer (some ⟨b,0,none⟩)) ?_;refine va (.pointer (some ⟨b,0,none⟩)) ?_;refine va (.pointer (some ⟨b,0,none⟩)) ?_;refine va (.pointer (some ⟨b,0,none⟩)) ?_;refine WL.memD rfl (Own.st (T:=33) (j:=0) (us:=[.slice none 0 0]) (nw:=[.slice none 0 0,.int .i64 n,hv]) (v:= .slice none 0 0) 0 O8 (by kernel_rfl) rfl rfl rfl rfl (by kernel_rfl) ⟨rfl,trivial⟩ rfl rfl) ?_;rintro c8 l8 O9;refine va (.pointer (some ⟨b,0,none⟩)) ?_;refine va (.pointer (some ⟨b,1,none⟩)) ?_;refine WL.memD rfl (Own.st (T:=3) (j:=1) (us:=[.int .i64 0]) (nw:=[.slice none 0 0,.int .i64 0,hv]) (v:= .int .i64 0) 0 O9 (by kernel_rfl) rfl rfl rfl rfl (by kernel_rfl) ⟨rfl,trivial⟩ rfl rfl) ?_;rintro c9 l9 O10;refine WL.nil ?_;obtain rfl:=az H;have O11:=O10.addHole (e:=es false (RI .u8) (.slice none 0 0) 5 [] ([]:List Int)) rfl;have O12:=O11.selD 6 [1,0,2,3] (by kernel_rfl) (by kernel_rfl);exact qW rfl ⟨_,c9,rfl,rfl,(l1.trans (l3.trans (l4.trans (l7.trans (l8.trans l9))))),_,[],cv7,cvs7,cur7,hvs7,hs7,O12,rfl,OA.nil (aJ _),N8.mono (l8.trans l9)⟩
def cY (p0:List aw):Option (List (List Int)):=
 (cw (σ:=List Int×Int×List (List Int)×Int) (τ:=List (List Int)) (((p0.length:Int) - 0).toNat+1) (fun s_3=>
 if (decide (s_3.2.2.2 < (p0.length:Int)))=true then
 ((idx p0 s_3.2.2.2).bind fun x_13=>
 (if (x_13.Kind==0)=true then
 (cp s_3.1 s_3.2.1 s_3.2.2.1 x_13.Bytes).bind fun x_22=>
 some x_22
 else
 if (x_13.Kind==1)=true then
 (bZ s_3.1 s_3.2.1 s_3.2.2.1).bind fun x_28=>
 some (([]:List Int),(0:Int),x_28)
 else
 some (s_3.1,s_3.2.1,s_3.2.2.1)).bind fun z_2=>
 (dB x_13).bind fun x_30=>
 if x_30=true then
 (app z_2.2.2 ([[]]:List (List Int))).bind fun x_37=>
 some (z_2.1,z_2.2.1,x_37)
 else
 some z_2).bind fun z_1=>
 some (.inl (z_1.1,z_1.2.1,z_1.2.2,(w64 (s_3.2.2.2+1))))
 else
 some (.inr (s_3.2.2.1))) (([]:List Int),0,[[]],0)).bind fun o_3=>
 some o_3
theorem gq {c0:Cx} {G:Gm} {F:List En} {v1:Value} (O0:Own c0 G F) (hG:Gl [2,4] c0) (p0:List aw) {r:List (List Int)} (h2:Sl gj c0 v1 p0) (H:cY p0=some r): Calls Tryz.prog 13 #[v1] c0.w (aI c0 fun c v=>∃y1:Value,∃y2:List Value,Own c G (es true (RL (RI .i32)) y1 32 y2 r :: F)∧v=y1∧OA (RL (RI .i32)) c y1 y2 r):=by
 unfold cY at H;refine enter (l:=[v1]) Tryz.func13 rfl rfl rfl ?_;refine sr ?_;refine va (.slice none 0 0) ?_;refine wln ?_;refine sr ?_;have hrep:rep (1:Int) (Value.slice none 0 0)=some [Value.slice none 0 0]:=rfl;refine WL.mem rfl (Own.mkS (kl:= .i64) (kc:= .i64) (R:=R_V) (z:= .slice none 0 0) (lz:=[.slice none 0 0]) (x:=(.slice none 0 0:Value)) (by_:=24) (i:=1) (j:=1) true O0 (aJ _) hrep (oQ _) (ni hrep) Tryz.underlying25 (by kernel_rfl) rfl rfl (fun _=>⟨rfl,rfl⟩) (by kernel_rfl) (by kernel_rfl)) ?_;rintro v6 c1 l1 ⟨u6,O1,h6⟩;obtain ⟨a1,a2,a3,rfl⟩:=h6.form;refine va (.agg #[.slice none 0 0,.int .i64 0,.slice a1 a2 a3]) ?_;refine WL.mem rfl (Own.al (T:=99) (vs:=[.slice none 0 0,.int .i64 0,.slice a1 a2 a3]) O1 (by kernel_rfl)) ?_;rintro v8 c2 l2 ⟨b,rfl,O2⟩;refine va (.pointer (some ⟨b,0,none⟩)) ?_;refine wln ?_;refine W.seq ?_;refine sr ?_;refine va (v1) ?_;refine WL.val0 (v:= .int .i64 (p0.length:Int)) rfl (rx (by kernel_rfl) (jH (ty:=3) Tryz.underlying22 (h2.mono (l1.trans l2)) _)) ?_;refine va (.int .i64 0) ?_;refine wln ?_;refine W.block ?_;obtain ⟨o_3,h11,H12⟩:=bs H;refine W.loop (σ:=List Int×Int×List (List Int)×Int) (τ:=List (List Int)) (fun s_3=>fun e w=>∃(c:Cx) (g:Nat→Value) (rv1:Value) (rvs1:List Value) (cv1:Value) (cvs1:List Value) (cur1:List Int) (hv1:Value) (hvs1 hs1:List Value),w=c.w∧c2.le c∧Own c G (⟨.pointer (some ⟨b,0,none⟩),99,[rv1,.int .i64 s_3.2.1,hv1],0⟩ :: es false (RI .u8) rv1 5 rvs1 s_3.1 :: es true (RI .i32) cv1 21 cvs1 cur1 :: es true R_V hv1 32 hvs1 hs1 :: F)∧e=ups g [(3,.pointer (some ⟨b,0,none⟩)),(9,v1),(10,.int .i64 (p0.length:Int)),(11,.int .i64 s_3.2.2.2)]∧OA (RI .u8) c rv1 rvs1 s_3.1∧NS c cv1 cvs1 cur1 hv1 hvs1 hs1 s_3.2.2.1)
  (fun o_ ex e w=>ex= .exit 0∧(fun e w=>∃(c:Cx) (g:Nat→Value) (n1:Int) (rv1:Value) (E1:En) (cv1:Value) (cvs1:List Value) (cur1:List Int) (hv1:Value) (hvs1 hs1:List Value),w=c.w∧c2.le c∧Own c G (⟨.pointer (some ⟨b,0,none⟩),99,[rv1,.int .i64 n1,hv1],0⟩ :: E1 :: es true (RI .i32) cv1 21 cvs1 cur1 :: es true R_V hv1 32 hvs1 hs1 :: F)∧e=ups g [(3,.pointer (some ⟨b,0,none⟩))]∧NS c cv1 cvs1 cur1 hv1 hvs1 hs1 o_) e w) ?_ h11 ?_ ?_
 ·clear H12 h11;intro s_3 xx_ ee_ ww_ H;revert ee_ ww_;rintro e_ w_ ⟨c3,g3,rv1,rvs1,cv1,cvs1,cur1,hv1,hvs1,hs1,rfl,l3,O3,rfl,hr3,N3⟩;refine sr ?_;refine va (.bool (decide (s_3.2.2.2 < (p0.length:Int)))) ?_;refine wln ?_;refine W.seq ?_;refine W.cond (t:=decide (s_3.2.2.2 < (p0.length:Int))) (by kernel_rfl) (fun h16=>?_) (fun h16=>?_)
  ·have H:=it h16 H;refine W.skip ?_;refine nrm ?_;obtain ⟨z_1,H17,H18⟩:=bs H;refine W.seqJ (fun e w=>∃(c:Cx) (g:Nat→Value) (rv1:Value) (rvs1:List Value) (cv1:Value) (cvs1:List Value) (cur1:List Int) (hv1:Value) (hvs1 hs1:List Value),w=c.w∧c3.le c∧Own c G (⟨.pointer (some ⟨b,0,none⟩),99,[rv1,.int .i64 z_1.2.1,hv1],0⟩ :: es false (RI .u8) rv1 5 rvs1 z_1.1 :: es true (RI .i32) cv1 21 cvs1 cur1 :: es true R_V hv1 32 hvs1 hs1 :: F)∧e=ups g [(3,.pointer (some ⟨b,0,none⟩)),(9,v1),(10,.int .i64 (p0.length:Int)),(11,.int .i64 s_3.2.2.2)]∧OA (RI .u8) c rv1 rvs1 z_1.1∧NS c cv1 cvs1 cur1 hv1 hvs1 hs1 z_1.2.2) ?_ ?_
   ·skip;refine W.block ?_;refine sr ?_;obtain ⟨x_13,h17,H17⟩:=bs H17;obtain ⟨l_22,h23,m24⟩:=Sl.at (h2.mono (l1.trans (l2.trans l3))) (aW h17);obtain ⟨v25,rfl,h26⟩:=h23;refine WL.val0 (v:= .pointer (some ⟨sb v1,so v1+s_3.2.2.2.toNat * 4,none⟩)) rfl (rx (by kernel_rfl) (jI (k:= .i64) Tryz.underlying22 (by kernel_rfl) (h2.mono (l1.trans (l2.trans l3))) h17 _)) ?_;refine WL.val0 (v:= .agg #[.int .i64 x_13.Kind,.int .i64 x_13.A,.int .i64 x_13.B,v25]) rfl (rx (by kernel_rfl) (kQ (T:=38) (by kernel_rfl) (by kernel_rfl) m24)) ?_;refine WL.mem rfl (Own.al (T:=38) (vs:=[.int .i64 0,.int .i64 0,.int .i64 0,.slice none 0 0]) O3 (by kernel_rfl)) ?_;rintro v30 c4 l4 ⟨b5,rfl,O4⟩;obtain ⟨d1,d2,d3,rfl⟩:=(h26.mono l4).form;refine WL.memD rfl (Own.st (T:=38) (j:=0) (us:=[.int .i64 x_13.Kind,.int .i64 x_13.A,.int .i64 x_13.B,.slice d1 d2 d3]) (nw:=[.int .i64 x_13.Kind,.int .i64 x_13.A,.int .i64 x_13.B,.slice d1 d2 d3]) (v:= .agg #[.int .i64 x_13.Kind,.int .i64 x_13.A,.int .i64 x_13.B,.slice d1 d2 d3]) 0 O4 (by kernel_rfl) rfl rfl rfl rfl (by kernel_rfl) ⟨rfl,rfl,rfl,(h26.mono l4).one,trivial⟩ rfl rfl) ?_;rintro c5 l5 O5;refine wln ?_;have hr5:=hr3.mono (l4.trans l5);have N5:=N3.mono (l4.trans l5);have h27:=h26.mono (l4.trans l5);obtain ⟨z_2,H19,H20⟩:=bs H17;refine W.seqJ (fun e w=>∃(c:Cx) (g:Nat→Value) (rv1:Value) (rvs1:List Value) (cv1:Value) (cvs1:List Value) (cur1:List Int) (hv1:Value) (hvs1 hs1:List Value),w=c.w∧c5.le c∧Own c G (⟨.pointer (some ⟨b5,0,none⟩),38,[.int .i64 x_13.Kind,.int .i64 x_13.A,.int .i64 x_13.B,.slice d1 d2 d3],0⟩ :: ⟨.pointer (some ⟨b,0,none⟩),99,[rv1,.int .i64 z_2.2.1,hv1],0⟩ :: es false (RI .u8) rv1 5 rvs1 z_2.1 :: es true (RI .i32) cv1 21 cvs1 cur1 :: es true R_V hv1 32 hvs1 hs1 :: F)∧e=ups g [(3,.pointer (some ⟨b,0,none⟩)),(5,.pointer (some ⟨b5,0,none⟩)),(9,v1),(10,.int .i64 (p0.length:Int)),(11,.int .i64 s_3.2.2.2)]∧OA (RI .u8) c rv1 rvs1 z_2.1∧NS c cv1 cvs1 cur1 hv1 hvs1 hs1 z_2.2.2) ?_ ?_
    ·skip;refine W.block ?_;refine sr ?_;refine va (.pointer (some ⟨b5,0,none⟩)) ?_;refine WL.val0 (v:= .int .i64 x_13.Kind) rfl (rx (by kernel_rfl) (ee (j:=0) Tryz.underlying3 rfl (O5.on 0 rfl) rfl rfl)) ?_;refine va (.bool (x_13.Kind==0)) ?_;refine va (.bool (x_13.Kind==0)) ?_;refine wln ?_;refine W.cond (t:=x_13.Kind==0) (by kernel_rfl) (fun h28=>?_) (fun h28=>?_)
     ·have H19:=it h28 H19;refine W.region ?_;refine va (.pointer (some ⟨b,0,none⟩)) ?_;refine va (.pointer (some ⟨b5,3,none⟩)) ?_;refine WL.val0 (v:= .slice d1 d2 d3) rfl (rx (by kernel_rfl) (ee (j:=3) Tryz.underlying33 rfl (O5.on 0 rfl) rfl rfl)) ?_;obtain ⟨x_22,h29,H19⟩:=bs H19;have O6:=O5.selD 5 [1,2,3,4,0] (by kernel_rfl) (by kernel_rfl);refine WL.callP rfl (by kernel_rfl) (jz s_3.1 s_3.2.2.1 O6 hr5 N5 x_13.Bytes h27 h29) ?_;rintro v31 c7 l7 ⟨rv7,rvs7,cv7,cvs7,cur7,hvs7,hs7,O7,rfl,hr7,N7⟩;refine WL.nil ?_;refine bkn ?_;obtain rfl:=az H19;have O8:=O7.selD 5 [4,0,1,2,3] (by kernel_rfl) (by kernel_rfl);exact ⟨c7,_,rv7,rvs7,cv7,cvs7,cur7,hv1,hvs7,hs7,rfl,l7,O8,cJ ⟨rfl,rfl,rfl,rfl,rfl,trivial⟩,hr7,N7⟩
     ·have H19:=ie h28 H19;refine sr ?_;refine va (.pointer (some ⟨b5,0,none⟩)) ?_;refine WL.val0 (v:= .int .i64 x_13.Kind) rfl (rx (by kernel_rfl) (ee (j:=0) Tryz.underlying3 rfl (O5.on 0 rfl) rfl rfl)) ?_;refine va (.bool (x_13.Kind==1)) ?_;refine va (.bool (x_13.Kind==1)) ?_;refine wln ?_;refine W.cond (t:=x_13.Kind==1) (by kernel_rfl) (fun h30=>?_) (fun h30=>?_)
      ·have H19:=it h30 H19;refine W.region ?_;refine va (.pointer (some ⟨b,0,none⟩)) ?_;obtain ⟨x_28,h29,H19⟩:=bs H19;have O6:=O5.selD 5 [1,2,3,4,0] (by kernel_rfl) (by kernel_rfl);refine WL.callP rfl (by kernel_rfl) (jd s_3.1 s_3.2.2.1 O6 hr5 N5 h29) ?_;rintro v31 c7 l7 ⟨rv7,rvs7,cv7,cvs7,cur7,hvs7,hs7,O7,rfl,hr7,N7⟩;refine WL.nil ?_;refine bkn ?_;obtain rfl:=az H19;have O8:=O7.selD 5 [4,0,1,2,3] (by kernel_rfl) (by kernel_rfl);exact ⟨c7,_,rv7,rvs7,cv7,cvs7,cur7,hv1,hvs7,hs7,rfl,l7,O8,cJ ⟨rfl,rfl,rfl,rfl,rfl,trivial⟩,hr7,N7⟩
      ·have H19:=ie h30 H19;refine W.skip ?_;refine bkn ?_;obtain rfl:=az H19;exact ⟨c5,_,rv1,rvs1,cv1,cvs1,cur1,hv1,hvs1,hs1,rfl,(Cx.le.refl _),O5,cJ ⟨rfl,rfl,rfl,rfl,rfl,trivial⟩,hr5,N5⟩
    ·skip;rintro e_ w_ ⟨c7,g7,rv7,rvs7,cv7,cvs7,cur7,hv7,hvs7,hs7,rfl,l7,O7,rfl,hr7,N7⟩;refine sr ?_;refine WL.val0 (v:= .agg #[.int .i64 x_13.Kind,.int .i64 x_13.A,.int .i64 x_13.B,.slice d1 d2 d3]) rfl (rx (by kernel_rfl) (qS (T:=38) (j:=0) (l:=[.int .i64 x_13.Kind,.int .i64 x_13.A,.int .i64 x_13.B,.slice d1 d2 d3]) (by kernel_rfl) (by kernel_rfl) (O7.on 0 rfl) rfl rfl)) ?_;obtain ⟨x_30,h31,H20⟩:=bs H20;refine WL.callP rfl (by kernel_rfl) (iZ O7 (hG.mono (l1.trans (l2.trans (l3.trans (l4.trans (l5.trans l7)))))) x_13 (h27.mono l7) h31) ?_;rintro v32 c8 l8 ⟨O8,rfl⟩;refine wln ?_;have N8:=N7.mono l8;have hr8:=hr7.mono l8;refine W.cond (t:=x_30) (by kernel_rfl) (fun h33=>?_) (fun h33=>?_)
     ·have H20:=it h33 H20;refine W.region ?_;refine va (.pointer (some ⟨b,0,none⟩)) ?_;refine va (.pointer (some ⟨b,0,none⟩)) ?_;refine va (.pointer (some ⟨b,0,none⟩)) ?_;refine va (.pointer (some ⟨b,2,none⟩)) ?_;refine WL.val0 (v:=hv7) rfl (rx (by kernel_rfl) (ee (j:=2) Tryz.underlying25 rfl (O8.on 1 rfl) rfl rfl)) ?_;refine WL.mem rfl (Own.sl (R:=R_V) (E:=32) (ls:=[[.slice none 0 0]]) (vs:=[.slice none 0 0]) (xs:=([.slice none 0 0]:List Value)) true O8 (aJ _) rfl ⟨⟨rfl,rfl⟩,trivial⟩ (by kernel_rfl) (by kernel_rfl)) ?_;rintro v39 c9 l9 ⟨u36,O9,h37⟩;obtain ⟨c10,h43,l10,O10,h41⟩:=O9.frz 0 rfl h37;refine WL.gh h43 ?_;obtain ⟨x_37,h44,H20⟩:=bs H20;refine WL.mem rfl (Own.app (R:=R_V) (z:= .slice none 0 0) (by_:=24) (ty:=25) 5 O10 rfl (N8.2.1.mono (l9.trans l10)) h41 (rN N8 h44 _) Tryz.underlying25 (by kernel_rfl) rfl (by kernel_rfl) (by kernel_rfl)) ?_;rintro v49 c11 l11 ⟨u46,O11,h47⟩;obtain ⟨c12,e60,l12,O12,h60⟩:=O11.frz 4 rfl (N8.1.mono (l9.trans (l10.trans l11)));refine WL.gh e60 ?_;refine va (.pointer (some ⟨b,0,none⟩)) ?_;refine va (.pointer (some ⟨b,2,none⟩)) ?_;have q47:=h47.one;have h48:=h47;obtain ⟨y1,y2,y3,rfl⟩:=h48.form;refine WL.memD rfl (Own.st (T:=25) (j:=2) (us:=[.slice y1 y2 y3]) (nw:=[rv7,.int .i64 z_2.2.1,.slice y1 y2 y3]) (v:= .slice y1 y2 y3) 2 O12 (by kernel_rfl) rfl rfl rfl rfl (by kernel_rfl) ⟨q47,trivial⟩ rfl rfl) ?_;rintro c13 l13 O13;refine WL.nil ?_;refine bkn ?_;obtain rfl:=az H20;have O14:=O13.addHole (e:=es true (RI .i32) (.slice none 0 0) 21 [] ([]:List Int)) rfl;have O15:=O14.selD 7 [3,4,0,6] (by kernel_rfl) (by kernel_rfl);have k1:=l9.trans (l10.trans (l11.trans (l12.trans l13)));exact ⟨c13,_,rv7,rvs7,(.slice none 0 0),[],[],_,u46,_,rfl,(l4.trans (l5.trans (l7.trans (l8.trans k1)))),O15,cJ ⟨rfl,rfl,rfl,rfl,trivial⟩,hr8.mono k1,N8.next k1 (h60.mono l13) h44 rfl (h47.mono (l12.trans l13))⟩
     ·have H20:=ie h33 H20;refine W.skip ?_;refine bkn ?_;obtain rfl:=az H20;have O15:=O8.selD 5 [1,2,3,4] (by kernel_rfl) (by kernel_rfl);exact ⟨c8,_,rv7,rvs7,cv7,cvs7,cur7,hv7,hvs7,hs7,rfl,(l4.trans (l5.trans (l7.trans l8))),O15,cJ ⟨rfl,rfl,rfl,rfl,trivial⟩,hr8,N8⟩
   ·skip;rintro e_ w_ ⟨c7,g7,rv7,rvs7,cv7,cvs7,cur7,hv7,hvs7,hs7,rfl,l7,O7,rfl,hr7,N7⟩;refine W.region ?_;refine va (.int .i64 (w64 (s_3.2.2.2+1))) ?_;refine va (.int .i64 (w64 (s_3.2.2.2+1))) ?_;refine WL.nil ?_;obtain rfl:=az H18;refine ⟨_,rfl,?_⟩;exact ⟨c7,_,rv7,rvs7,cv7,cvs7,cur7,hv7,hvs7,hs7,rfl,(l3.trans l7),O7,cJ ⟨rfl,rfl,rfl,rfl,trivial⟩,hr7,N7⟩
  ·have H:=ie h16 H;refine W.exit ?_;refine thx ?_;obtain rfl:=az H;refine ⟨_,rfl,rfl,?_⟩;exact ⟨c3,_,s_3.2.1,rv1,_,cv1,cvs1,cur1,hv1,hvs1,hs1,rfl,l3,O3,cJ ⟨rfl,trivial⟩,N3⟩
 ·skip;have O3:=O2.addHole (e:=es true (RI .i32) (.slice none 0 0) 21 [] ([]:List Int)) rfl;have O4:=O3.addHole (e:=es false (RI .u8) (.slice none 0 0) 5 [] ([]:List Int)) rfl;have O5:=O4.selD 4 [2,0,1,3] (by kernel_rfl) (by kernel_rfl);exact ⟨c2,_,(.slice none 0 0),[],(.slice none 0 0),[],[],_,u6,_,rfl,(Cx.le.refl _),O5,cJ ⟨rfl,rfl,rfl,rfl,trivial⟩,OA.nil (aJ _),⟨OA.nil (aJ _),h6.mono l2,.inr ⟨[],[],rfl,rfl,rfl,fun i x g p=>by simp at p⟩⟩⟩
 ·skip;rintro _ e_ w_ ⟨rfl,c7,g7,n7,rv7,E7,cv7,cvs7,cur7,hv7,hvs7,hs7,rfl,l7,O7,rfl,N7⟩;refine bke ?_;refine nrm ?_;refine sr ?_;obtain ⟨c8,e8,l8,O8,h8⟩:=O7.frz 2 rfl N7.1;refine WL.gh e8 ?_;refine va (.pointer (some ⟨b,0,none⟩)) ?_;refine va (.pointer (some ⟨b,0,none⟩)) ?_;refine va (.pointer (some ⟨b,2,none⟩)) ?_;refine WL.val0 (v:=hv7) rfl (rx (by kernel_rfl) (ee (j:=2) Tryz.underlying25 rfl (O8.on 0 rfl) rfl rfl)) ?_;refine va (hv7) ?_;refine wln ?_;refine W.ret ?_;obtain rfl:=az H12;have O9:=O8.selD 4 [3] (by kernel_rfl) (by kernel_rfl);exact pZ (v:=hv7) rfl (by kernel_rfl) ⟨_,c8,rfl,rfl,(l1.trans (l2.trans (l7.trans l8))),hv7,hvs7,O9,rfl,N7.all l8 h8⟩
end Go.Proofs.YtclmdpamofdoiaaGreatDoor
namespace Go.Proofs.YtclmdpamofdoiaaGreatDoor
open Go Go.Lt
set_option maxRecDepth 10000
set_option linter.unusedVariables false
attribute [local irreducible] W WL AC
open Tryz
variable {c0:Cx} {G:Gm} {F:List En} {sg:Sto} {v1 v2 v3 v4 v5 v6 v7 v8 v9 v10 v11 v12 v13 v14 v15 v16 v17 v18 v19 v20 v21 v22 v23 v24 v25 v26 v27 v28 v29 v30 v31 v32 v33 v34 v35 v36 v37 v38 v39 v40 v41 v42 v43 v44 v45 v46 v47 v48 v49 v50 v51 v52 v53 v54 v55 v56 v57 v58 v59 v60:Value}
def cq (p0:List Int) (p1:Int):Option (Bool):=
 (idx p0 0).bind fun c=>
 (idx ([0,0,192,224,240]:List Int) p1).bind fun d=>
 (orE (decide ((w64 ((w64 c) - d)) < 0)) ((idx ([0,128,32,16,8]:List Int) p1).bind fun l=>
 some (decide ((w64 ((w64 c) - d))≥l)))).bind fun j=>
 if j=true then
 some false
 else
 (cw (σ:=Int×Int×Int) (τ:=Bool ⊕ (Int×Int)) ((p1 - 1).toNat+1) (fun a=>
 if (decide (a.2.2 < p1))=true then
 if (decide (a.2.2 < (p0.length:Int)))=true then
 (idx p0 a.2.2).bind fun e=>
 (orE (decide ((w64 ((w64 e) - 128)) < 0)) (some (decide ((w64 ((w64 e) - 128)) > 63)))).bind fun k=>
 if k=true then
 some (.inr (.inl false))
 else
 some (.inl ((w64 ((w64 (a.1 * 64))+(w64 ((w64 e) - 128)))),(w64 ((w64 ((w64 ((w64 (a.2.1 * 64))+63)) - 63))+(w64 ((w64 e) - 128)))),(w64 (a.2.2+1))))
 else
 some (.inl ((w64 (a.1 * 64)),(w64 ((w64 (a.2.1 * 64))+63)),(w64 (a.2.2+1))))
 else
 some (.inr (.inr (a.1,a.2.1)))) ((w64 ((w64 c) - d)),(w64 ((w64 c) - d)),1)).bind fun b=>
 match b with
 | .inl b=>
 some b
 | .inr b=>
 (idx ([0,0,128,2048,65536]:List Int) p1).bind fun f=>
 (idx ([0,127,2047,65535,1114111]:List Int) p1).bind fun g=>
 (bS (decide ((aD b.1 f)≤(ax b.2 g))) ((orE (decide ((aD b.1 f) < 55296)) (some (decide ((ax b.2 g) > 57343)))).bind fun i=>
 some i)).bind fun h=>
 some h
theorem jA (O0:Own c0 G F) (p0:List Int) (n:Int) {r:Bool} (Z:Sl (RI .u8) c0 v1 p0) (H:cq p0 n=some r): Calls prog 163 #[v1,I n] c0.w (aI c0 fun c v=>Own c G (F)∧v=B r):=by
 unfold cq at H;refine en func163 rfl rfl (sr (va (B false) (wln (sr (me (sl (RI .i64) 3 [[I 0],[I 0],[I 192],[I 224],[I 240]] ([0,0,192,224,240]:List Int) O0 ⟨rfl,rfl,rfl,rfl,rfl,trivial⟩) ?_)))));rintro v7 c6 l6 ⟨z,O3,h5⟩;refine va (v7) (wln (sr (me (sl (RI .i64) 3 [[I 0],[I 128],[I 32],[I 16],[I 8]] ([0,128,32,16,8]:List Int) O3 ⟨rfl,rfl,rfl,rfl,rfl,trivial⟩) ?_)));rintro v12 o3 i0 ⟨u9,O8,X⟩;refine va (v12) (wln (W.seq (rD [] (Kp G0 [es true (RI .i64) v7 3 z ([0,0,192,224,240]:List Int)]) O8 ?_)));intro N R E;have w2:Kp G0 [es true (RI .i64) v7 3 z ([0,0,192,224,240]:List Int)] N:=(Kp.cons (E.on 1 rfl) Kp.nil0);refine ta 0 (v1) (bn H fun f u0 H=>?_);obtain ⟨i3,z1,p2⟩:=Sl.at (Z.mono (l6.trans (i0.trans R))) (aW u0);obtain rfl:=z1;refine tx 1 (fun c' h0=>ix dX Z.m u0) (tx 2 (fun c' h0=>l1 u_5 ((mm p2) 0 _ rfl)) (ta 3 (I (w64 f)) (ta 4 (v7) (ta 5 (I n) (bn H fun h a0 H=>tx 6 (fun c' h0=>ixO pM h5.m a0) ?_)))));obtain ⟨j3,b2,q2⟩:=OA.at (h5.mono (i0.trans R)) a0;obtain rfl:=b2;refine AC.takeK 7 (I h) w2 rfl (by kernel_rfl) (by kernel_rfl) (by kernel_rfl) (fun c' h0 hk=>(rx (by kernel_rfl) (ee u_3 rfl (hk.on 0 rfl) (h5.m.blk a0) (at1 (j:=0) q2 rfl)))) (ta 8 (I (w64 ((w64 f) - h))) (ta 9 (I (w64 ((w64 f) - h))) (dn (nrm (W.seq (W.seq (bn H fun f1 v0 H=>W.join (Jn N fun c l=>Own c G (es true (RI .i64) v12 3 u9 ([0,128,32,16,8]:List Int) :: es true (RI .i64) v7 3 z ([0,0,192,224,240]:List Int) :: F)∧l= [(0,v1),(1,I n),(7,I (w64 ((w64 f) - h))),(34,B f1)]) ?_ ?_)))))))
 ·clear H;refine W.region (va (I (w64 ((w64 f) - h))) (va (B (decide ((w64 ((w64 f) - h)) < 0))) ?_));rcases bo (decide ((w64 ((w64 f) - h)) < 0)) with s | s
  ·obtain rfl:=orT s v0;exact vb s (pz (pz (pz (va (B true) (wln (jn N ⟨E,rfl⟩))))))
  have T:=orF s v0;refine vb s (wa (I (w64 ((w64 f) - h))) (wa (v12) (wa (I n) (wn (bn T fun A b0 T=>vx (ixO pM X.m b0) (wn ?_))))));obtain ⟨k3,c2,s2⟩:=OA.at (X.mono R) b0;obtain rfl:=c2;refine vr (I A) (rx (by kernel_rfl) (ee u_3 rfl (E.on 0 rfl) (X.m.blk b0) (at1 (j:=0) s2 rfl))) (wa (B (decide ((w64 ((w64 f) - h))≥A))) ?_);obtain rfl:=si T;exact va (B (decide ((w64 ((w64 f) - h))≥A))) (wln (jn N ⟨E,rfl⟩))
 rintro U w_ ⟨p,s3,_,rfl,l2,rfl,q0,rfl⟩;refine nrm (cn H (fun d2 H=>?_) (fun d2 H=>?_))
 ·refine sr (va (B false) (wln (W.ret (thr ?_))));obtain rfl:=si H;have n1:=q0.sD 2 [];exact r1 (qq p ⟨n1,rfl⟩)
 refine W.skip (nrm (sr (vv (I (w64 ((w64 f) - h))) (vv (I (w64 ((w64 f) - h))) (wln (W.seq (sr (va (I 1) (wln (W.block (bn H fun b w0 k=>lp w0 (fun a=>Jn p fun c l=>Own c G (es true (RI .i64) v12 3 u9 ([0,128,32,16,8]:List Int) :: es true (RI .i64) v7 3 z ([0,0,192,224,240]:List Int) :: F)∧l= [(0,v1),(1,I n),(8,I a.1),(9,I a.2.1),(10,I a.2.2)]) (fun t=>match t with | .inl x_=>(fun x2 ex e w=>ex= .ret∧(Jn p fun c l=>Own c G (F)∧l= [(4,B x2)]) e w) x_ | .inr x_=>(fun S ex e w=>ex= .exit 0∧(Jn p fun c l=>Own c G (es true (RI .i64) v12 3 u9 ([0,128,32,16,8]:List Int) :: es true (RI .i64) v7 3 z ([0,0,192,224,240]:List Int) :: F)∧l= [(1,I n),(8,I S.1),(9,I S.2)]) e w) x_) ?_ ?_ ?_)))))))))))
 ·clear k w0;intro a b4 x1 a3 H;revert x1 a3;rintro U w_ ⟨q,t3,_,rfl,m2,rfl,M,rfl⟩;refine W.seq (sr (va (I a.2.2) (va (I n) (va (B (decide (a.2.2 < n))) (wln (cn H (fun e2 H=>?_) (fun e2 H=>?_)))))))
  ·refine W.skip (nrm (W.seq (W.block (sr (va (I a.1) (vv (I (w64 (a.1 * 64))) (wln (sr (va (I a.2.1) (va (I (w64 (a.2.1 * 64))) (vv (I (w64 ((w64 (a.2.1 * 64))+63))) (wln (sr (va (I a.2.2) (va (v1) (vx (ln 3 dX Z.m) (va (B (decide (a.2.2 < (p0.length:Int)))) (wln (cn H (fun f2 H=>?_) (fun f2 H=>?_))))))))))))))))))))
   ·refine sr (va (v1) (va (I a.2.2) (bn H fun d x0 H=>?_)));obtain ⟨l3,g2,t2⟩:=Sl.at (Z.mono (l6.trans (i0.trans (R.trans (l2.trans m2))))) (aW x0);obtain rfl:=g2;refine vx (ix dX Z.m x0) (vx (l1 u_5 (t2 0 _ rfl)) (va (I (w64 d)) (vv (I (w64 ((w64 d) - 128))) (wln (W.seq (W.seq (bn H fun g1 y0 H=>W.join (Jn q fun c l=>Own c G (es true (RI .i64) v12 3 u9 ([0,128,32,16,8]:List Int) :: es true (RI .i64) v7 3 z ([0,0,192,224,240]:List Int) :: F)∧l= [(0,v1),(1,I n),(8,I (w64 (a.1 * 64))),(9,I (w64 ((w64 (a.2.1 * 64))+63))),(10,I a.2.2),(11,I (w64 ((w64 d) - 128))),(62,B g1)]) ?_ ?_)))))))
    ·clear H;refine W.region (va (I (w64 ((w64 d) - 128))) (va (B (decide ((w64 ((w64 d) - 128)) < 0))) ?_));rcases bo (decide ((w64 ((w64 d) - 128)) < 0)) with u | u
     ·obtain rfl:=orT u y0;exact vb u (pz (va (B true) (wln (jn q ⟨M,rfl⟩))))
     have k1:=orF u y0;refine vb u (wa (I (w64 ((w64 d) - 128))) (wa (B (decide ((w64 ((w64 d) - 128)) > 63))) ?_));obtain rfl:=si k1;exact va (B (decide ((w64 ((w64 d) - 128)) > 63))) (wln (jn q ⟨M,rfl⟩))
    rintro U w_ ⟨t0,u3,_,rfl,x3,rfl,s0,rfl⟩;refine nrm (cn H (fun i2 H=>?_) (fun i2 H=>?_))
    ·refine sr (va (B false) (wln (W.ret (thr (bkr (thr ?_))))));obtain rfl:=si H;refine ⟨_,rfl,⟨rfl,?_⟩⟩;have q1:=s0.sD 2 [];exact jn t0 ⟨q1,rfl⟩
    refine W.skip (nrm (sr (va (I (w64 (a.1 * 64))) (va (I (w64 ((w64 d) - 128))) (vv (I (w64 ((w64 (a.1 * 64))+(w64 ((w64 d) - 128))))) (wln (W.region (va (I (w64 ((w64 (a.2.1 * 64))+63))) (va (I (w64 ((w64 ((w64 (a.2.1 * 64))+63)) - 63))) (va (I (w64 ((w64 d) - 128))) (vv (I (w64 ((w64 ((w64 ((w64 (a.2.1 * 64))+63)) - 63))+(w64 ((w64 d) - 128))))) (WL.nil (bkn (nrm (W.region (va (I a.2.2) (vv (I (w64 (a.2.2+1))) (WL.nil ?_))))))))))))))))));obtain rfl:=si H;exact ⟨_,rfl,jn t0 ⟨s0,rfl⟩⟩
   refine W.skip (bkn (nrm (W.region (va (I a.2.2) (vv (I (w64 (a.2.2+1))) (WL.nil ?_))))));obtain rfl:=si H;exact ⟨_,rfl,jn q ⟨M,rfl⟩⟩
  refine W.exit (thx ?_);obtain rfl:=si H;exact ⟨_,rfl,rfl,jn q ⟨M,rfl⟩⟩
 ·exact jn p ⟨q0,rfl⟩
 rcases b with b | b
 ·intro y1; revert y1;rintro _ U w_ ⟨rfl,w1,v3,_,rfl,y3,rfl,s1,rfl⟩;refine bkr (thr ?_);obtain rfl:=si k;exact r1 (qq w1 ⟨s1,rfl⟩)
 rintro _ U w_ ⟨rfl,p3,w3,_,rfl,z3,rfl,t1,rfl⟩;refine bke (nrm (sr (me (sl (RI .i64) 3 [[I 0],[I 0],[I 128],[I 2048],[I 65536]] ([0,0,128,2048,65536]:List Int) t1 ⟨rfl,rfl,rfl,rfl,rfl,trivial⟩) ?_)));rintro k0 q3 a4 ⟨y2,u1,d0⟩;refine va (k0) (wln (sr (me (sl (RI .i64) 3 [[I 0],[I 127],[I 2047],[I 65535],[I 1114111]] ([0,127,2047,65535,1114111]:List Int) u1 ⟨rfl,rfl,rfl,rfl,rfl,trivial⟩) ?_)));rintro l0 P o2 ⟨z2,o,e0⟩;refine va (l0) (wln (sr (va (I b.1) (va (k0) (va (I n) (bn k fun i f0 k=>vx (ixO pM d0.m f0) ?_))))));obtain ⟨m3,j2,u2⟩:=OA.at (d0.mono o2) f0;obtain rfl:=j2;refine vr (I i) (rx (by kernel_rfl) (ee u_3 rfl (o.on 1 rfl) (d0.m.blk f0) (at1 (j:=0) u2 rfl))) (vv (I (aD b.1 i)) (wln (sr (va (I b.2) (va (l0) (va (I n) (bn k fun g g0 k=>vx (ixO pM e0 g0) ?_)))))));obtain ⟨n3,k2,v2⟩:=OA.at e0 g0;obtain rfl:=k2;refine vr (I g) (rx (by kernel_rfl) (ee u_3 rfl (o.on 0 rfl) (e0.blk g0) (at1 (j:=0) v2 rfl))) (vv (I (ax b.2 g)) (wln (W.seq (bn k fun o0 z0 k=>W.join (Jn P fun c l=>Own c G (es true (RI .i64) l0 3 z2 ([0,127,2047,65535,1114111]:List Int) :: es true (RI .i64) k0 3 y2 ([0,0,128,2048,65536]:List Int) :: es true (RI .i64) v12 3 u9 ([0,128,32,16,8]:List Int) :: es true (RI .i64) v7 3 z ([0,0,192,224,240]:List Int) :: F)∧l= [(4,B o0)]) ?_ ?_))))
 ·clear k;refine W.region (va (I (aD b.1 i)) (va (I (ax b.2 g)) (va (B (decide ((aD b.1 i)≤(ax b.2 g)))) ?_)));rcases bo (decide ((aD b.1 i)≤(ax b.2 g))) with x | x
  ·have D:=anT x z0;refine vb x (wa (I (aD b.1 i)) (wa (B (decide ((aD b.1 i) < 55296))) (wn (bn D fun b3 a1 D=>?_))));rcases bo (decide ((aD b.1 i) < 55296)) with y | y
   ·obtain rfl:=orT y a1;refine vb y (pz (wa (B true) ?_));obtain rfl:=si D;exact vv (B true) (wln (jn P ⟨o,rfl⟩))
   have m1:=orF y a1;refine vb y (wa (I (ax b.2 g)) (wa (B (decide ((ax b.2 g) > 57343))) (wn ?_)));obtain rfl:=si m1;refine va (B (decide ((ax b.2 g) > 57343))) ?_;obtain rfl:=si D;exact vv (B (decide ((ax b.2 g) > 57343))) (wln (jn P ⟨o,rfl⟩))
  obtain rfl:=anF x z0;exact vb x (pz (pz (pz (vv (B false) (wln (jn P ⟨o,rfl⟩))))))
 rintro U w_ ⟨e1,f3,_,rfl,h3,rfl,b1,rfl⟩;refine nrm (W.ret ?_);obtain rfl:=si k;have c1:=b1.sD 4 [];exact r1 (qq e1 ⟨c1,rfl⟩)
def aQ (p0:List Int):Option (Int):=
 (cw (σ:=Int) (τ:=Int ⊕ Unit) (((4:Int) - 1).toNat+2) (fun a=>
 if (decide (a≤4))=true then
 (bS (decide ((p0.length:Int)≥1)) (some (decide ((p0.length:Int)≤a)))).bind fun c=>
 (bS c ((cq p0 a).bind fun e=>
 some e)).bind fun d=>
 if d=true then
 some (.inr (.inl a))
 else
 some (.inl ((w64 (a+1))))
 else
 some (.inr (.inr ()))) (1)).bind fun b=>
 match b with
 | .inl b=>
 some b
 | .inr b=>
 some 0
theorem dh (O0:Own c0 G F) (f:List Int) {r:Int} (y:Sl (RI .u8) c0 v1 f) (H:aQ f=some r): Calls prog 105 #[v1] c0.w (aI c0 fun c v=>Own c G (F)∧v=I r):=by
 unfold aQ at H;refine en func105 rfl rfl (sr (va (I 0) (wln (W.seq (sr (va (I 1) (wln (W.block (bn H fun i h3 s=>lp h3 (fun a=>Jn c0 fun c l=>Own c G (F)∧l= [(0,v1),(3,I a)]) (fun t=>match t with | .inl A=>(fun e0 ex e w=>ex= .ret∧(Jn c0 fun c l=>Own c G (F)∧l= [(2,I e0)]) e w) A | .inr A=>(fun i0 ex e w=>ex= .exit 0∧(Jn c0 fun c l=>Own c G (F)∧l= []) e w) A) ?_ ?_ ?_)))))))))
 ·clear s h3;intro a t0 U f0 H;revert U f0;rintro x z ⟨k,g6,_,rfl,l5,rfl,j,rfl⟩;refine W.seq (sr (va (I a) (va (B (decide (a≤4))) (wln (cn H (fun Z H=>?_) (fun Z H=>?_))))))
  ·refine W.skip (nrm (W.seq (W.block (W.seq (bn H fun h0 p H=>bn H fun u h H=>W.join (Jn k fun c l=>Own c G (F)∧l= [(0,v1),(3,I a),(21,B u)]) ?_ ?_)))))
   ·clear H;refine W.region (va (v1) (vx (ln 3 dX y.m) (va (B (decide ((f.length:Int)≥1))) ?_)));rcases bo (decide ((f.length:Int)≥1)) with b | b
    ·have E:=anT b p;refine vb b (wa (v1) (wn (vx (ln 3 dX y.m) (wa (I a) (wa (B (decide ((f.length:Int)≤a))) ?_)))));obtain rfl:=si E;refine va (B (decide ((f.length:Int)≤a))) ?_;rcases bo (decide ((f.length:Int)≤a)) with d | d
     ·have g:=anT d h;refine vb d (wa (v1) (wa (I a) (wn (bn g fun D a0 g=>cl (jA j f a y.m a0) ?_))));rintro v24 R m0 ⟨M,rfl⟩;obtain rfl:=si g;exact va (B D) (wln (jn R ⟨M,rfl⟩))
     obtain rfl:=anF d h;exact vb d (pz (ps (va (B false) (wln (jn k ⟨j,rfl⟩)))))
    obtain rfl:=anF b p;refine vb b (pz (pz (va (B false) ?_)));have q:false=false:=rfl;obtain rfl:=anF q h;exact vb q (pz (ps (va (B false) (wln (jn k ⟨j,rfl⟩)))))
   rintro x z ⟨o,j0,_,rfl,o0,rfl,n,rfl⟩;refine nrm (cn H (fun d0 H=>?_) (fun d0 H=>?_))
   ·refine sr (vv (I a) (wln (W.ret (bkr (thr ?_)))));obtain rfl:=si H;exact ⟨_,rfl,⟨rfl,jn o ⟨n,rfl⟩⟩⟩
   refine W.skip (bkn (nrm (W.region (va (I a) (vv (I (w64 (a+1))) (WL.nil ?_))))));obtain rfl:=si H;exact ⟨_,rfl,jn o ⟨n,rfl⟩⟩
  refine W.exit (thx ?_);obtain rfl:=si H;exact ⟨_,rfl,rfl,jn k ⟨j,rfl⟩⟩
 ·exact jn c0 ⟨O0,rfl⟩
 rcases i with i | i
 ·intro X; revert X;rintro _ x z ⟨rfl,S,k0,_,rfl,q0,rfl,N,rfl⟩;refine bkr (thr ?_);obtain rfl:=si s;exact r1 (qq S ⟨N,rfl⟩)
 rintro _ x z ⟨rfl,T,l0,_,rfl,s0,rfl,P,rfl⟩;refine bke (nrm (sr (va (I 0) (wln (W.ret ?_)))));obtain rfl:=si s;exact r1 (qq T ⟨P,rfl⟩)
def ca (p0:List Int):Option (Int):=
 (idx p0 0).bind fun e=>
 (idx ([0,0,192,224,240]:List Int) (p0.length:Int)).bind fun c=>
 (cw (σ:=Int×Int) (τ:=Int) (((p0.length:Int) - 1).toNat+1) (fun a=>
 if (decide (a.2 < (p0.length:Int)))=true then
 (idx p0 a.2).bind fun d=>
 some (.inl ((w64 ((w64 ((w64 (a.1 * 64))+(w64 d))) - 128)),(w64 (a.2+1))))
 else
 some (.inr (a.1))) ((w64 ((w64 e) - c)),1)).bind fun b=>
 some (w32 b)
theorem fC (O0:Own c0 G F) (E:List Int) {r:Int} (h:Sl (RI .u8) c0 v1 E) (H:ca E=some r): Calls prog 164 #[v1] c0.w (aI c0 fun c v=>Own c G (F)∧v=J r):=by
 unfold ca at H;refine en func164 rfl rfl (sr (va (J 0) (wln (sr (me (sl (RI .i64) 3 [[I 0],[I 0],[I 192],[I 224],[I 240]] ([0,0,192,224,240]:List Int) O0 ⟨rfl,rfl,rfl,rfl,rfl,trivial⟩) ?_)))));rintro v7 c6 l6 ⟨q,O3,A⟩;refine va (v7) (wln (W.seq (rD [] (Kp G0 [es true (RI .i64) v7 3 q ([0,0,192,224,240]:List Int)]) O3 ?_)));intro o D P;have g0:Kp G0 [es true (RI .i64) v7 3 q ([0,0,192,224,240]:List Int)] o:=(Kp.cons (P.on 0 rfl) Kp.nil0);refine ta 0 (v1) (bn H fun k x H=>?_);obtain ⟨m0,T,d0⟩:=Sl.at (h.mono (l6.trans D)) (aW x);obtain rfl:=T;refine tx 1 (fun n g=>ix dX h.m x) (tx 2 (fun n g=>l1 u_5 ((mm d0) 0 _ rfl)) (ta 3 (I (w64 k)) (ta 4 (v7) (ta 5 (v1) (tx 6 (fun n g=>ln 3 dX h.m) (bn H fun f i H=>tx 7 (fun n g=>ixO pM A.m i) ?_))))));obtain ⟨o0,U,e0⟩:=OA.at (A.mono D) i;obtain rfl:=U;refine AC.takeK 8 (I f) g0 rfl (by kernel_rfl) (by kernel_rfl) (by kernel_rfl) (fun n g hk=>(rx (by kernel_rfl) (ee u_3 rfl (hk.on 0 rfl) (A.m.blk i) (at1 (j:=0) e0 rfl)))) (ta 9 (I (w64 ((w64 k) - f))) (ta 10 (I (w64 ((w64 k) - f))) (dn (nrm (W.seq (sr (va (I 1) (wln (W.block (bn H fun d y s=>lp y (fun a=>Jn o fun c l=>Own c G (es true (RI .i64) v7 3 q ([0,0,192,224,240]:List Int) :: F)∧l= [(0,v1),(4,I a.1),(5,I a.2)]) (fun p ex e w=>ex= .exit 0∧(Jn o fun c l=>Own c G (es true (RI .i64) v7 3 q ([0,0,192,224,240]:List Int) :: F)∧l= [(4,I p)]) e w) ?_ ?_ ?_))))))))))
 ·clear s y;intro a w0 S h0 H;revert S h0;rintro e_ w_ ⟨u,t0,_,rfl,a0,rfl,t,rfl⟩;refine W.seq (sr (va (I a.2) (va (v1) (vx (ln 3 dX h.m) (va (B (decide (a.2 < (E.length:Int)))) (wln (cn H (fun X H=>?_) (fun X H=>?_))))))))
  ·refine W.skip (nrm (W.seq (W.block (W.region (va (I a.1) (va (I (w64 (a.1 * 64))) (va (v1) (va (I a.2) (bn H fun b z H=>?_)))))))));obtain ⟨q0,Z,f0⟩:=Sl.at (h.mono (l6.trans (D.trans a0))) (aW z);obtain rfl:=Z;refine vx (ix dX h.m z) (vx (l1 u_5 (f0 0 _ rfl)) (va (I (w64 b)) (va (I (w64 ((w64 (a.1 * 64))+(w64 b)))) (vv (I (w64 ((w64 ((w64 (a.1 * 64))+(w64 b))) - 128))) (WL.nil (bkn (nrm (W.region (va (I a.2) (vv (I (w64 (a.2+1))) (WL.nil ?_)))))))))));obtain rfl:=si H;exact ⟨_,rfl,jn u ⟨t,rfl⟩⟩
  refine W.exit (thx ?_);obtain rfl:=si H;exact ⟨_,rfl,rfl,jn u ⟨t,rfl⟩⟩
 ·exact jn o ⟨P,rfl⟩
 rintro _ e_ w_ ⟨rfl,R,u0,_,rfl,v0,rfl,M,rfl⟩;refine bke (nrm (sr (va (I d) (vv (J (w32 d)) (wln (W.ret ?_))))));obtain rfl:=si s;have N:=M.sD 1 [];exact r1 (qq R ⟨N,rfl⟩)
def dS (p0:List Int) (p1:Int):Option ((List Int)×(List Int)):=none
theorem iz (g:Own c0 G F) (b:List Int) (d:Int) {r:(List Int)×(List Int)} (h:Sl (RI .u8) c0 v1 b) (H:dS b d=some r):
    Calls prog 106 #[v1,.int .u8 d] c0.w (aI c0 fun c v=>∃a e f,Own c G (es true (RI .i32) a 21 e r.1 :: F)∧v= .tuple #[a,f]∧OA (RI .i32) c a e r.1∧Sl (RI .u8) c f r.2):=by
 unfold dS at H
 cases H
def bP (p0:List Int) (p1:Int):Option ((List Int)×(List Int)):=
 (app ([]:List Int) p0).bind fun g=>
 (app g ([p1]:List Int)).bind fun b=>
 (aQ b).bind fun a=>
 (bS (decide (a > 0)) (some (decide (a > (b.length:Int))))).bind fun d=>
 if d=true then
 some (([]:List Int),b)
 else
 if (decide (a > 0))=true then
 (ca b).bind fun e=>
 some (([e]:List Int),([]:List Int))
 else
 if ((p0.length:Int)==0)=true then
 some (([65533]:List Int),([]:List Int))
 else
 (dS ([]:List Int) p1).bind fun c=>
 (app ([65533]:List Int) c.1).bind fun f=>
 some (f,c.2)
theorem iy (O0:Own c0 G F) (P:List Int) (d:Int) {r:(List Int)×(List Int)} (h2:Sl (RI .u8) c0 v1 P) (H:bP P d=some r): Calls prog 106 #[v1,.int .u8 d] c0.w (aI c0 fun c v=>∃R y2 y3,Own c G (es true (RI .i32) R 21 y2 r.1 :: F)∧v= .tuple #[R,y3]∧OA (RI .i32) c R y2 r.1∧Sl (RI .u8) c y3 r.2):=by
 unfold bP at H;refine en func106 rfl rfl (sr (vv (Y) (wln (sr (me (sl (RI .u8) 5 [] ([]:List Int) O0 trivial) ?_)))));rintro v7 c6 l6 ⟨u4,O3,h5⟩;refine va (v1) (bn H fun o3 h8 H=>me (ap (RI .u8) (.int .u8 0) 1 107 0 O3 h5 h2.m h8 jR) ?_);rintro v13 n2 z2 ⟨i3,O9,o0⟩;refine va (.int .u8 d) (me (sl (RI .u8) 5 [[.int .u8 d]] ([d]:List Int) O9 ⟨rfl,trivial⟩) ?_);rintro v18 o2 a3 ⟨u1,T,q0⟩;obtain ⟨p2,u0,b3,U,t0⟩:=T.frz 0 rfl q0;refine WL.gh u0 (bn H fun h v0 H=>me (ap (RI .u8) (.int .u8 0) 1 107 1 U o0.m t0 v0 jR) ?_);rintro v28 q2 c3 ⟨w1,X,i⟩;refine va (v28) (wln (sr (va (v28) ?_)));obtain ⟨s2,x0,u,Z,w0⟩:=X.frz 1 rfl i;refine WL.gh x0 (bn H fun a y0 H=>cl (dh Z h w0 y0) ?_);rintro v39 k x ⟨p,rfl⟩;refine va (I a) (wln (W.seq (W.seq (bn H fun M t H=>W.join (Jn k fun c l=>Own c G (es false (RI .u8) v18 5 u1 ([d]:List Int) :: es false (RI .u8) v28 5 w1 h :: F)∧l= [(0,v1),(1,.int .u8 d),(6,v28),(7,I a),(25,B M)]) ?_ ?_))))
 ·clear H;refine W.region (va (I a) (va (B (decide (a > 0))) ?_));rcases bo (decide (a > 0)) with g | g
  ·have S:=anT g t;refine vb g (wa (I a) (wa (v28) (wn (vx (lnO 3 jR i.m) (wa (B (decide (a > (h.length:Int)))) ?_)))));obtain rfl:=si S;exact va (B (decide (a > (h.length:Int)))) (wln (jn k ⟨p,rfl⟩))
  obtain rfl:=anF g t;exact vb g (pz (pz (va (B false) (wln (jn k ⟨p,rfl⟩)))))
 rintro e_ w_ ⟨s,x2,_,rfl,y,rfl,f,rfl⟩;refine nrm (cn H (fun z0 H=>?_) (fun z0 H=>?_))
 ·refine sr (va (v28) (va (Y) (va (v28) (wln (W.ret (thr ?_))))));obtain rfl:=si H;have a1:OA (RI .i32) s (Y) [] []:=OA.nil (aJ _);have q:=f.addHole (e:=es true (RI .i32) (Y) 21 [] ([]:List Int)) rfl;have b1:=q.slf 2 rfl (i.mono (u.trans (x.trans y)));have a0:=q.sD 3 [0];exact r2 (qq s ⟨(Y),[],v28,a0,rfl,a1,b1⟩)
 refine W.skip (nrm (W.seq (sr (va (I a) (va (B (decide (a > 0))) (wln (cn H (fun c1 H=>?_) (fun c1 H=>?_))))))))
 ·refine sr (va (v28) ?_);have d1:=f.slf 1 rfl (i.mono (u.trans (x.trans y)));refine bn H fun o e1 H=>cl (fC f h d1 e1) ?_;rintro l3 t2 d3 ⟨b0,rfl⟩;refine me (sl (RI .i32) 21 [[J o]] ([o]:List Int) b0 ⟨rfl,trivial⟩) ?_;rintro z l0 e3 ⟨x1,d0,f1⟩;refine va (z) (va (Y) (wln (W.ret (thr ?_))));obtain rfl:=si H;have e0:=d0.sD 3 [0];exact r2 (qq l0 ⟨z,x1,(Y),e0,rfl,f1,(Sl.nl _ _)⟩)
 refine W.skip (nrm (W.seq (sr (va (v1) (vx (ln 3 jR h2.m) (va (B ((P.length:Int)==0)) (wln (cn H (fun g1 H=>?_) (fun g1 H=>?_)))))))))
 ·refine sr (me (sl (RI .i32) 21 [[J 65533]] ([65533]:List Int) f ⟨rfl,trivial⟩) ?_);rintro A m0 f3 ⟨z1,f0,h1⟩;refine va (A) (va (Y) (wln (W.ret (thr ?_))));obtain rfl:=si H;have g0:=f0.sD 3 [0];exact r2 (qq m0 ⟨A,z1,(Y),g0,rfl,h1,(Sl.nl _ _)⟩)
 refine W.skip (nrm (sr (va (.int .u8 d) (bn H fun l2 i1 H=>cl (iz f ([]:List Int) d (Sl.nl _ _) i1) ?_))));rintro m3 u2 g3 ⟨j,j3,b,h0,rfl,j1,k1⟩;refine va (.tuple #[j,b]) (va (j) (va (b) (va (j) (va (b) (wln (sr (me (sl (RI .i32) 21 [[J 65533]] ([65533]:List Int) h0 ⟨rfl,trivial⟩) ?_)))))));rintro n3 v2 t1 ⟨k3,i0,m1⟩;refine va (j) ?_;obtain ⟨w2,q1,h3,j0,n1⟩:=i0.frz 1 rfl (j1.mono t1);refine WL.gh q1 (bn H fun m2 s1 H=>me (ap (RI .i32) (J 0) 4 32 0 j0 m1.m n1 s1 cj) ?_);rintro n E k2 ⟨b2,k0,N⟩;refine va (b) (va (n) (va (b) (wln (W.ret ?_))));obtain rfl:=si H;have D:=k0.sD 4 [0];exact r2 (qq E ⟨n,b2,b,D,rfl,N,k1.m⟩)
def cU (p0:List Int) (p1:Int):Option ((List Int)×(List Int)):=
 (app ([]:List Int) p0).bind fun g=>
 (app g ([p1]:List Int)).bind fun b=>
 (aQ b).bind fun a=>
 (bS (decide (a > 0)) (some (decide (a > (b.length:Int))))).bind fun d=>
 if d=true then
 some (([]:List Int),b)
 else
 if (decide (a > 0))=true then
 (ca b).bind fun e=>
 some (([e]:List Int),([]:List Int))
 else
 if ((p0.length:Int)==0)=true then
 some (([65533]:List Int),([]:List Int))
 else
 (bP ([]:List Int) p1).bind fun c=>
 (app ([65533]:List Int) c.1).bind fun f=>
 some (f,c.2)
theorem jB (O0:Own c0 G F) (P:List Int) (d:Int) {r:(List Int)×(List Int)} (h2:Sl (RI .u8) c0 v1 P) (H:cU P d=some r): Calls prog 106 #[v1,.int .u8 d] c0.w (aI c0 fun c v=>∃R y2 y3,Own c G (es true (RI .i32) R 21 y2 r.1 :: F)∧v= .tuple #[R,y3]∧OA (RI .i32) c R y2 r.1∧Sl (RI .u8) c y3 r.2):=by
 unfold cU at H;refine en func106 rfl rfl (sr (vv (Y) (wln (sr (me (sl (RI .u8) 5 [] ([]:List Int) O0 trivial) ?_)))));rintro v7 c6 l6 ⟨u4,O3,h5⟩;refine va (v1) (bn H fun o3 h8 H=>me (ap (RI .u8) (.int .u8 0) 1 107 0 O3 h5 h2.m h8 jR) ?_);rintro v13 n2 z2 ⟨i3,O9,o0⟩;refine va (.int .u8 d) (me (sl (RI .u8) 5 [[.int .u8 d]] ([d]:List Int) O9 ⟨rfl,trivial⟩) ?_);rintro v18 o2 a3 ⟨u1,T,q0⟩;obtain ⟨p2,u0,b3,U,t0⟩:=T.frz 0 rfl q0;refine WL.gh u0 (bn H fun h v0 H=>me (ap (RI .u8) (.int .u8 0) 1 107 1 U o0.m t0 v0 jR) ?_);rintro v28 q2 c3 ⟨w1,X,i⟩;refine va (v28) (wln (sr (va (v28) ?_)));obtain ⟨s2,x0,u,Z,w0⟩:=X.frz 1 rfl i;refine WL.gh x0 (bn H fun a y0 H=>cl (dh Z h w0 y0) ?_);rintro v39 k x ⟨p,rfl⟩;refine va (I a) (wln (W.seq (W.seq (bn H fun M t H=>W.join (Jn k fun c l=>Own c G (es false (RI .u8) v18 5 u1 ([d]:List Int) :: es false (RI .u8) v28 5 w1 h :: F)∧l= [(0,v1),(1,.int .u8 d),(6,v28),(7,I a),(25,B M)]) ?_ ?_))))
 ·clear H;refine W.region (va (I a) (va (B (decide (a > 0))) ?_));rcases bo (decide (a > 0)) with g | g
  ·have S:=anT g t;refine vb g (wa (I a) (wa (v28) (wn (vx (lnO 3 jR i.m) (wa (B (decide (a > (h.length:Int)))) ?_)))));obtain rfl:=si S;exact va (B (decide (a > (h.length:Int)))) (wln (jn k ⟨p,rfl⟩))
  obtain rfl:=anF g t;exact vb g (pz (pz (va (B false) (wln (jn k ⟨p,rfl⟩)))))
 rintro e_ w_ ⟨s,x2,_,rfl,y,rfl,f,rfl⟩;refine nrm (cn H (fun z0 H=>?_) (fun z0 H=>?_))
 ·refine sr (va (v28) (va (Y) (va (v28) (wln (W.ret (thr ?_))))));obtain rfl:=si H;have a1:OA (RI .i32) s (Y) [] []:=OA.nil (aJ _);have q:=f.addHole (e:=es true (RI .i32) (Y) 21 [] ([]:List Int)) rfl;have b1:=q.slf 2 rfl (i.mono (u.trans (x.trans y)));have a0:=q.sD 3 [0];exact r2 (qq s ⟨(Y),[],v28,a0,rfl,a1,b1⟩)
 refine W.skip (nrm (W.seq (sr (va (I a) (va (B (decide (a > 0))) (wln (cn H (fun c1 H=>?_) (fun c1 H=>?_))))))))
 ·refine sr (va (v28) ?_);have d1:=f.slf 1 rfl (i.mono (u.trans (x.trans y)));refine bn H fun o e1 H=>cl (fC f h d1 e1) ?_;rintro l3 t2 d3 ⟨b0,rfl⟩;refine me (sl (RI .i32) 21 [[J o]] ([o]:List Int) b0 ⟨rfl,trivial⟩) ?_;rintro z l0 e3 ⟨x1,d0,f1⟩;refine va (z) (va (Y) (wln (W.ret (thr ?_))));obtain rfl:=si H;have e0:=d0.sD 3 [0];exact r2 (qq l0 ⟨z,x1,(Y),e0,rfl,f1,(Sl.nl _ _)⟩)
 refine W.skip (nrm (W.seq (sr (va (v1) (vx (ln 3 jR h2.m) (va (B ((P.length:Int)==0)) (wln (cn H (fun g1 H=>?_) (fun g1 H=>?_)))))))))
 ·refine sr (me (sl (RI .i32) 21 [[J 65533]] ([65533]:List Int) f ⟨rfl,trivial⟩) ?_);rintro A m0 f3 ⟨z1,f0,h1⟩;refine va (A) (va (Y) (wln (W.ret (thr ?_))));obtain rfl:=si H;have g0:=f0.sD 3 [0];exact r2 (qq m0 ⟨A,z1,(Y),g0,rfl,h1,(Sl.nl _ _)⟩)
 refine W.skip (nrm (sr (va (.int .u8 d) (bn H fun l2 i1 H=>cl (iy f ([]:List Int) d (Sl.nl _ _) i1) ?_))));rintro m3 u2 g3 ⟨j,j3,b,h0,rfl,j1,k1⟩;refine va (.tuple #[j,b]) (va (j) (va (b) (va (j) (va (b) (wln (sr (me (sl (RI .i32) 21 [[J 65533]] ([65533]:List Int) h0 ⟨rfl,trivial⟩) ?_)))))));rintro n3 v2 t1 ⟨k3,i0,m1⟩;refine va (j) ?_;obtain ⟨w2,q1,h3,j0,n1⟩:=i0.frz 1 rfl (j1.mono t1);refine WL.gh q1 (bn H fun m2 s1 H=>me (ap (RI .i32) (J 0) 4 32 0 j0 m1.m n1 s1 cj) ?_);rintro n E k2 ⟨b2,k0,N⟩;refine va (b) (va (n) (va (b) (wln (W.ret ?_))));obtain rfl:=si H;have D:=k0.sD 4 [0];exact r2 (qq E ⟨n,b2,b,D,rfl,N,k1.m⟩)
def bQ (p0:List Int) (p1:List Int):Option ((List Int)×(List Int)):=
 (cw (σ:=(List Int)×(List Int)×Int) (τ:=((List Int)×(List Int))) (((p1.length:Int) - 0).toNat+1) (fun a=>
 if (decide (a.2.2 < (p1.length:Int)))=true then
 (idx p1 a.2.2).bind fun d=>
 (cU a.1 d).bind fun b=>
 (app a.2.1 b.1).bind fun e=>
 some (.inl (b.2,e,(w64 (a.2.2+1))))
 else
 some (.inr (a.1,a.2.1))) (p0,([]:List Int),0)).bind fun c=>
 some (c.2,c.1)
theorem gi (O0:Own c0 G F) (p0:List Int) (n:List Int) {r:(List Int)×(List Int)} (h2:Sl (RI .u8) c0 v1 p0) (k:Sl (RI .u8) c0 v3 n) (H:bQ p0 n=some r): Calls prog 65 #[v1,v3] c0.w (aI c0 fun c v=>∃p y2 y3,Own c G (es true (RI .i32) p 21 y2 r.1 :: F)∧v= .tuple #[p,y3]∧OA (RI .i32) c p y2 r.1∧Sl (RI .u8) c y3 r.2):=by
 unfold bQ at H;refine en func65 rfl rfl (sr (vv (Y) (wln (sr (va (Y) (wln (W.seq (sr (va (I 0) (wln (W.block (bn H fun f1 h5 q=>lp h5 (fun a=>Jn c0 fun c l=>∃v7 f v9,Own c G (es true (RI .i32) v7 21 f a.2.1 :: F)∧l= [(0,v9),(1,v3),(6,v7),(7,I a.2.2)]∧OA (RI .i32) c v7 f a.2.1∧Sl (RI .u8) c v9 a.1) (fun b ex e w=>ex= .exit 0∧(Jn c0 fun c l=>∃v10 d v12,Own c G (es true (RI .i32) v10 21 d b.2 :: F)∧l= [(0,v12),(6,v10)]∧OA (RI .i32) c v10 d b.2∧Sl (RI .u8) c v12 b.1) e w) ?_ ?_ ?_))))))))))))
 ·clear q h5;intro a h1 M k0 H;revert M k0;rintro e_ w_ ⟨A,z0,_,rfl,g0,rfl,v7,f,v9,g,rfl,h,i⟩;refine W.seq (sr (va (I a.2.2) (va (v3) (vx (ln 3 dX k.m) (va (B (decide (a.2.2 < (n.length:Int)))) (wln (cn H (fun N H=>?_) (fun N H=>?_))))))))
  ·refine W.skip (nrm (W.seq (W.block (sr (va (Y) (wln (sr (va (v9) (va (v3) (va (I a.2.2) (bn H fun o j H=>?_)))))))))));obtain ⟨t0,P,h0⟩:=Sl.at (k.mono g0) (aW j);obtain rfl:=P;refine vx (ix dX k.m j) (vx (l1 u_5 (h0 0 _ rfl)) (bn H fun v0 R H=>cl (jB g a.1 o i R) ?_));rintro v37 x0 b1 ⟨v27,g1,v30,s,rfl,S,T⟩;refine va (.tuple #[v27,v30]) (va (v27) (va (v30) (va (v27) (va (v30) (wln (W.region (va (v7) (va (v27) ?_))))))));obtain ⟨y0,X,c1,t,U⟩:=s.frz 0 rfl S;refine WL.gh X (bn H fun w0 Z H=>me (ap (RI .i32) (J 0) 4 32 1 t h.m U Z cj) ?_);rintro v47 D d1 ⟨j0,u,a0⟩;refine va (v47) (WL.nil (bkn (nrm (W.region (va (I a.2.2) (vv (I (w64 (a.2.2+1))) (WL.nil ?_)))))));obtain rfl:=si H;refine ⟨_,rfl,?_⟩;have x:=u.sD 2 [1];exact jn D ⟨v47,j0,v30,x,rfl,a0,T.m⟩
  refine W.exit (thx ?_);obtain rfl:=si H;exact ⟨_,rfl,rfl,jn A ⟨v7,f,v9,g,rfl,h,i⟩⟩
 ·have d0:OA (RI .i32) c0 (Y) [] []:=OA.nil (aJ _);have y:=O0.addHole (e:=es true (RI .i32) (Y) 21 [] ([]:List Int)) rfl;exact jn c0 ⟨(Y),[],v1,y,rfl,d0,h2⟩
 rintro _ e_ w_ ⟨rfl,E,a1,_,rfl,e1,rfl,v10,d,v12,z,rfl,e0,f0⟩;refine bke (nrm (sr (va (v10) (va (v12) (va (v10) (va (v12) (wln (W.ret ?_))))))));obtain rfl:=si q;exact r2 (qq E ⟨v10,d,v12,z,rfl,e0,f0⟩)
def de (p0:List Int):Option (List aT):=
 (cw (σ:=(List aT)×Int) (τ:=(List aT)) (((p0.length:Int) - 0).toNat+1) (fun a=>
 if (decide (a.2 < (p0.length:Int)))=true then
 (cw (σ:=Int) (τ:=Int) (((p0.length:Int) - (w64 (a.2+0))).toNat+1) (fun c=>
 (bS (decide ((w64 (a.2+c)) < (p0.length:Int))) ((slc p0 a.2 (w64 ((w64 (a.2+c))+1))).bind fun h=>
 (aQ h).bind fun i=>
 some (decide (i > 0)))).bind fun g=>
 if g=true then
 (slc p0 a.2 (w64 (a.2+(w64 (c+1))))).bind fun j=>
 (aQ j).bind fun k=>
 if (k==(w64 (c+1)))=true then
 some (.inr ((w64 (c+1))))
 else
 some (.inl ((w64 (c+1))))
 else
 some (.inr (c))) (0)).bind fun b=>
 (if (decide (b > 0))=true then
 (slc p0 a.2 (w64 (a.2+b))).bind fun l=>
 (bQ ([]:List Int) l).bind fun e=>
 if ((e.2.length:Int)==0)=true then
 (idx e.1 0).bind fun m=>
 some (m,b,(w64 (a.2+b)),false)
 else
 some (65533,(aD b 1),(ax (w64 ((w64 (a.2+b))+1)) (p0.length:Int)),true)
 else
 some (65533,(aD b 1),(w64 (a.2+1)),true)).bind fun d=>
 (app a.1 ([(⟨d.1,a.2,d.2.1,d.2.2.1,d.2.2.2⟩:aT)]:List aT)).bind fun f=>
 some (.inl (f,(w64 (a.2+d.2.1))))
 else
 some (.inr (a.1))) (([]:List aT),0)).bind fun n=>
 some n
theorem jO (O0:Own c0 G F) (n:List Int) {r:List aT} (u:Sl (RI .u8) c0 v1 n) (H:de n=some r): Calls prog 64 #[v1] c0.w (aI c0 fun c v=>∃y1 y2,Own c G (es true aE y1 106 y2 r :: F)∧v=y1∧OA aE c y1 y2 r):=by
 unfold de at H;refine en func64 rfl rfl (sr (va (Y) (wln (sr (va (Y) (wln (sr (va (I 0) (wln (W.seq (W.block (bn H fun p4 h3 H4=>lp h3 (fun a=>Jn c0 fun c l=>∃v5 o,Own c G (es true aE v5 106 o a.1 :: F)∧l= [(0,v1),(3,v5),(4,I a.2)]∧OA aE c v5 o a.1) (fun P ex e w=>ex= .exit 0∧(Jn c0 fun c l=>∃v7 u8,Own c G (es true aE v7 106 u8 P :: F)∧l= [(3,v7)]∧OA aE c v7 u8 P) e w) ?_ ?_ ?_))))))))))))
 ·clear H4 h3;intro a m3 E T H;revert E T;rintro D S ⟨X,h4,_,rfl,l9,rfl,v5,o,d0,rfl,l0⟩;refine W.seq (sr (va (I a.2) (va (v1) (vx (ln 3 dX u.m) (va (B (decide (a.2 < (n.length:Int)))) (wln (cn H (fun i2 H=>?_) (fun i2 H=>?_))))))))
  ·refine W.skip (nrm (W.block (sr (va (I 0) (wln (W.seq (W.block (bn H fun b m0 b0=>lp m0 (fun f=>Jn X fun c l=>Own c G (es true aE v5 106 o a.1 :: F)∧l= [(0,v1),(3,v5),(4,I a.2),(5,I f)]) (fun Z ex e w=>ex= .exit 2∧(Jn X fun c l=>Own c G (es true aE v5 106 o a.1 :: F)∧l= [(0,v1),(3,v5),(4,I a.2),(5,I Z)]) e w) ?_ ?_ ?_))))))))
   ·clear b0 m0;intro f m3 E T H;revert E T;rintro D S ⟨i0,i4,_,rfl,q0,rfl,e0,rfl⟩;refine W.seq (W.seq (bn H fun z0 o0 H=>W.join (Jn i0 fun c l=>Own c G (es true aE v5 106 o a.1 :: F)∧l= [(0,v1),(3,v5),(4,I a.2),(5,I f),(29,B z0)]) ?_ ?_))
    ·clear H;refine W.region (va (I a.2) (va (I f) (va (I (w64 (a.2+f))) (va (v1) (vx (ln 3 dX u.m) (va (B (decide ((w64 (a.2+f)) < (n.length:Int)))) ?_))))));rcases bo (decide ((w64 (a.2+f)) < (n.length:Int))) with i | i
     ·have h:=anT i o0;refine vb i (wa (v1) (wa (I a.2) (wa (I a.2) (wa (I f) (wa (I (w64 (a.2+f))) (wa (I (w64 ((w64 (a.2+f))+1))) (wn (bn h fun j1 j2 h=>?_))))))));obtain ⟨v29,l2,m2⟩:=nh (k:= .i64) (k':= .i64) dX (by kernel_rfl) (u.mono (l9.trans q0)) j2;refine vr v29 (rx (by kernel_rfl) (l2 _)) (wn (bn h fun U n2 h=>cl (dh e0 j1 m2 n2) ?_));rintro v38 d2 l4 ⟨t1,rfl⟩;refine wa (B (decide (U > 0))) ?_;obtain rfl:=si h;exact va (B (decide (U > 0))) (wln (jn d2 ⟨t1,rfl⟩))
     obtain rfl:=anF i o0;exact vb i (pz (pz (pz (pz (ps (va (B false) (wln (jn i0 ⟨e0,rfl⟩))))))))
    rintro D S ⟨e2,j4,_,rfl,e3,rfl,f0,rfl⟩;refine nrm (cn H (fun o2 H=>?_) (fun o2 H=>?_))
    ·refine W.skip (nrm (W.block (sr (va (I f) (vv (I (w64 (f+1))) (wln (sr (va (v1) (vv (I a.2) (va (I (w64 (f+1))) (va (I (w64 (a.2+(w64 (f+1))))) (bn H fun k1 p2 H=>?_))))))))))));obtain ⟨v47,q2,s2⟩:=nh (k:= .i64) (k':= .i64) dX (by kernel_rfl) (u.mono (l9.trans (q0.trans e3))) p2;refine vr v47 (rx (by kernel_rfl) (q2 _)) (bn H fun m1 t2 H=>cl (dh f0 k1 s2 t2) ?_);rintro v56 j0 m4 ⟨g0,rfl⟩;refine va (I (w64 (f+1))) (va (B (m1==(w64 (f+1)))) (wln (cn H (fun u2 H=>?_) (fun u2 H=>?_))))
     ·refine W.exit (bko rfl ?_);obtain rfl:=si H;exact ⟨_,rfl,rfl,jn j0 ⟨g0,rfl⟩⟩
     refine W.skip (bkn ?_);obtain rfl:=si H;exact ⟨_,rfl,jn j0 ⟨g0,rfl⟩⟩
    refine W.exit (thx ?_);obtain rfl:=si H;exact ⟨_,rfl,rfl,jn e2 ⟨f0,rfl⟩⟩
   ·exact jn X ⟨d0,rfl⟩
   rintro _ D S ⟨rfl,e4,k4,_,rfl,f3,rfl,u1,rfl⟩;refine bke (nrm (sr (va (I a.2) (va (I b) (va (I (aD b 1)) (va (I a.2) (va (I (w64 (a.2+1))) (va (.agg #[J 65533,I a.2,I (aD b 1),I (w64 (a.2+1)),B true]) (me (al 106 [J 0,I 0,I 0,I 0,B false] u1) ?_)))))))));rintro r4 f4 g3 ⟨q,rfl,w1⟩;refine md (sA 106 [J 65533,I a.2,I (aD b 1),I (w64 (a.2+1)),B true] 0 w1 ⟨rfl,rfl,rfl,rfl,rfl,trivial⟩) ?_;rintro k0 i3 h0;refine wln (bn b0 fun d g x=>W.seqJ (Jn k0 fun c l=>Own c G ((Eb q 106 [J d.1,I a.2,I d.2.1,I d.2.2.1,B d.2.2.2]) :: es true aE v5 106 o a.1 :: F)∧l= [(0,v1),(3,v5),(4,I a.2),(6,Q q)]) ?_ ?_)
   ·refine sr (va (I b) (va (B (decide (b > 0))) (wln (cn g (fun v2 g=>?_) (fun v2 g=>?_)))))
    ·refine sr (va (v1) (vv (I a.2) (va (I b) (va (I (w64 (a.2+b))) (bn g fun n1 w2 g=>?_)))));obtain ⟨l3,x2,z2⟩:=nh (k:= .i64) (k':= .i64) dX (by kernel_rfl) (u.mono (l9.trans (f3.trans (g3.trans i3)))) w2;refine vr l3 (rx (by kernel_rfl) (x2 _)) (bn g fun p1 a3 g=>cl (gi h0 ([]:List Int) n1 (Sl.nl _ _) z2 a3) ?_);rintro s4 g4 n4 ⟨s,q4,t,x1,rfl,M,b3⟩;refine va (.tuple #[s,t]) (va (s) (va (t) (va (s) (va (t) (wln (sr (va (I a.2) (va (I b) (va (I (w64 (a.2+b))) (va (I (w64 ((w64 (a.2+b))+1))) (va (v1) (vx (ln 3 dX u.m) (va (I (ax (w64 ((w64 (a.2+b))+1)) (n.length:Int))) (va (Qo q 3) (md (sC 3 3 (I (ax (w64 ((w64 (a.2+b))+1)) (n.length:Int))) [J 65533,I a.2,I (aD b 1),I (ax (w64 ((w64 (a.2+b))+1)) (n.length:Int)),B true] 1 x1 ⟨rfl,trivial⟩) ?_)))))))))))))));rintro f2 j3 A;refine wln (sr (va (t) (vx (ln 3 jR b3.m) (va (B ((p1.2.length:Int)==0)) (wln (cn g (fun c3 g=>?_) (fun c3 g=>?_)))))))
     ·refine W.region (va (s) (bn g fun p N g=>vx (ixO cj M.m N) ?_));obtain ⟨b4,d3,k3⟩:=OA.at (M.mono j3) N;obtain rfl:=d3;refine vr (J p) (rx (by kernel_rfl) (ee gW rfl (A.on 0 rfl) (M.m.blk N) (at1 (j:=0) k3 rfl))) (va (I a.2) (va (I b) (va (I a.2) (va (I b) (va (I (w64 (a.2+b))) (va (.agg #[J p,I a.2,I b,I (w64 (a.2+b)),B false]) (md (sA 106 [J p,I a.2,I b,I (w64 (a.2+b)),B false] 1 A ⟨rfl,rfl,rfl,rfl,rfl,trivial⟩) ?_)))))));rintro g2 o4 z1;refine wln ?_;obtain rfl:=si g;have b2:=z1.sD 3 [1,2];exact jn g2 ⟨b2,rfl⟩
     refine W.skip (nrm ?_);obtain rfl:=si g;have c2:=A.sD 3 [1,2];exact jn f2 ⟨c2,rfl⟩
    refine W.skip (nrm ?_);obtain rfl:=si g;exact jn k0 ⟨h0,rfl⟩
   rintro D S ⟨q3,u3,_,rfl,w3,rfl,y,rfl⟩;refine sr (va (v5) (vx (leN 106 0 [J d.1,I a.2,I d.2.1,I d.2.2.1,B d.2.2.2] (y.on 0 rfl)) (me (sl aE 106 [[J d.1,I a.2,I d.2.1,I d.2.2.1,B d.2.2.2]] ([(⟨d.1,a.2,d.2.1,d.2.2.1,d.2.2.2⟩:aT)]:List aT) y ⟨rfl,trivial⟩) ?_)));rintro d4 s3 x3 ⟨c4,s0,a1⟩;obtain ⟨t3,c1,y3,t0,b1⟩:=s0.frz 0 rfl a1;refine WL.gh c1 (bn x fun o3 d1 x=>me (ap aE (.agg #[J 0,I 0,I 0,I 0,B false]) 40 103 2 t0 l0.m b1 d1 mR) ?_);rintro R x0 z3 ⟨i1,z,e1⟩;refine va (R) (wln (W.region (va (I a.2) (va (Qo q 2) (vx (le1 2 u_3 (z.on 1 rfl)) (vv (I (w64 (a.2+d.2.1))) (WL.nil (bkn ?_))))))));obtain rfl:=si x;refine ⟨_,rfl,?_⟩;have u0:=z.sD 3 [2];exact jn x0 ⟨R,i1,u0,rfl,e1⟩
  refine W.exit (thx ?_);obtain rfl:=si H;exact ⟨_,rfl,rfl,jn X ⟨v5,o,d0,rfl,l0⟩⟩
 ·have f1:OA aE c0 (Y) [] []:=OA.nil (aJ _);have v0:=O0.addHole (e:=es true aE (Y) 106 [] ([]:List aT)) rfl;exact jn c0 ⟨(Y),[],v0,rfl,f1⟩
 rintro _ D S ⟨rfl,y0,v3,_,rfl,a4,rfl,v7,u8,w0,rfl,g1⟩;refine bke (nrm (sr (vv (v7) (wln (W.ret ?_)))));obtain rfl:=si H4;exact r1 (qq y0 ⟨v7,u8,w0,rfl,g1⟩)
def bm (p0:ag):Option (Int):=
 (bQ ([]:List Int) p0.Raw).bind fun a=>
 some (a.2.length:Int)
theorem eN (u:Own c0 G F) (a:ag) {r:Int} (A:Sl aK c0 v1 a.P.L) (D:Sl (RI .i32) c0 v3 a.Group) (q:Sl (RI .u8) c0 v5 a.Raw) (H:bm a=some r): Calls prog 17 #[.agg #[v1,I a.P.At.Row,I a.P.At.Col,B a.P.At.Pending,B a.P.Auto,v3,v5,I a.Parts]] c0.w (aI c0 fun c v=>Own c G (F)∧v=I r):=by
 unfold bm at H;refine en func17 rfl rfl (sr ?_);obtain ⟨x,y,z,rfl⟩:=(A).form;obtain ⟨f,g,h,rfl⟩:=(D).form;obtain ⟨i,j,k,rfl⟩:=(q).form;refine me (bx 35 [.slice x y z,I a.P.At.Row,I a.P.At.Col,B a.P.At.Pending,B a.P.Auto,.slice f g h,.slice i j k,I a.Parts] u) ?_;rintro v20 E N ⟨l,rfl,b,s⟩;refine va (I 0) (wln (sr (va (Qo l (0+6)) (vx (l1 dX (s 6 _ rfl)) (bn H fun t o H=>cl (gi b ([]:List Int) a.Raw (Sl.nl _ _) q.m o) ?_)))));rintro v32 n R ⟨v22,S,v25,d,rfl,M,p⟩;refine va (.tuple #[v22,v25]) (va (v22) (va (v25) (va (v22) (va (v25) (wln (sr (va (v25) (vx (ln 3 jR p) (va (I (t.2.length:Int)) (wln (W.ret ?_)))))))))));obtain rfl:=si H;have e:=d.sD 1 [];exact r1 (qq n ⟨e,rfl⟩)
def bB (p0:ag) (p1:List Int):Option (ag):=
 (app ([]:List Int) p0.Raw).bind fun k=>
 (app k p1).bind fun d=>
 (de d).bind fun c=>
 ((bm (⟨p0.P,p0.Group,d,p0.Parts⟩:ag)).bind fun f=>
 if (decide (f > 0))=true then
 (slc c 0 (w64 ((c.length:Int) - 1))).bind fun g=>
 some (g)
 else
 some (c)).bind fun b=>
 (cw (σ:=Int×(List Int)) (τ:=(List Int)) (((b.length:Int) - p0.Parts).toNat+1) (fun a=>
 if (decide (a.1 < (b.length:Int)))=true then
 (idx b a.1).bind fun h=>
 (app ([]:List Int) a.2).bind fun i=>
 (app i ([h.R]:List Int)).bind fun j=>
 some (.inl ((w64 (a.1+1)),j))
 else
 some (.inr (a.2))) (p0.Parts,p0.Group)).bind fun e=>
 some (⟨p0.P,e,d,(b.length:Int)⟩:ag)
theorem gJ (O0:Own c0 G F) (a:ag) (p1:List Int) {r:ag} (h2:Sl aK c0 v1 a.P.L) (h4:Sl (RI .i32) c0 v3 a.Group) (h6:Sl (RI .u8) c0 v5 a.Raw) (h8:Sl (RI .u8) c0 v7 p1) (H:bB a p1=some r): Calls prog 16 #[.agg #[v1,I a.P.At.Row,I a.P.At.Col,B a.P.At.Pending,B a.P.Auto,v3,v5,I a.Parts],v7] c0.w (aI c0 fun c v=>∃y1 y2 y3,Own c G (F)∧v= .agg #[y1,I r.P.At.Row,I r.P.At.Col,B r.P.At.Pending,B r.P.Auto,y2,y3,I r.Parts]∧Sl aK c y1 r.P.L∧Sl (RI .i32) c y2 r.Group∧Sl (RI .u8) c y3 r.Raw):=by
 unfold bB at H;refine en func16 rfl rfl (sr ?_);obtain ⟨j,h,i,rfl⟩:=(h2).form;obtain ⟨E,M,N,rfl⟩:=(h4).form;obtain ⟨r6,a16,s6,rfl⟩:=(h6).form;refine me (al 35 [.slice j h i,I a.P.At.Row,I a.P.At.Col,B a.P.At.Pending,B a.P.Auto,.slice E M N,.slice r6 a16 s6,I a.Parts] O0) ?_;rintro v21 o9 z9 ⟨g,rfl,l6⟩;refine me (al 35 [Y,I 0,I 0,B false,B false,Y,Y,I 0] l6) ?_;rintro v25 p9 l24 ⟨u,rfl,m6⟩;refine wln (sr (me (sl (RI .u8) 5 [] ([]:List Int) m6 trivial) ?_));rintro v30 q9 l29 ⟨u27,p2,y6⟩;refine va (.pointer (some ⟨g,6,none⟩)) (vx (le1 6 dX (p2.on 2 rfl)) (bn H fun x_7 z6 H=>me (ap (RI .u8) (.int .u8 0) 1 33 0 p2 y6 h6.m z6 dX) ?_));rintro v36 r9 l35 ⟨u33,n6,a7⟩;refine va (v7) (bn H fun A b7 H=>me (ap (RI .u8) (.int .u8 0) 1 33 0 n6 a7 h8.m b7 dX) ?_);rintro v42 s9 l41 ⟨a1,o6,z⟩;refine va (.pointer (some ⟨g,6,none⟩)) ?_;obtain ⟨b,d,f,rfl⟩:=(z).form;refine md (sC 33 6 (.slice b d f) [.slice j h i,I a.P.At.Row,I a.P.At.Col,B a.P.At.Pending,B a.P.Auto,.slice E M N,.slice b d f,I a.Parts] 2 o6 ⟨(z).one,trivial⟩) ?_;rintro t9 i2 q2;refine wln (sr (va (Qo g 6) (vx (le1 6 dX (q2.on 2 rfl)) ?_)));obtain ⟨u9,d7,z2,p6,c7⟩:=q2.frz 0 rfl (z.mono i2);refine WL.gh d7 (bn H fun y e7 H=>cl (jO p6 A c7 e7) ?_);rintro v53 u6 a3 ⟨_,b1,w1,rfl,y0⟩;refine va (v53) (wln (bn H fun s t o=>W.seqJ (Jn u6 fun c l=>∃p,Own c G (es false aE v53 106 b1 y :: es false (RI .u8) (.slice b d f) 5 a1 A :: (Eb u 35 [Y,I 0,I 0,B false,B false,Y,Y,I 0]) :: (Eb g 35 [.slice j h i,I a.P.At.Row,I a.P.At.Col,B a.P.At.Pending,B a.P.Auto,.slice E M N,.slice b d f,I a.Parts]) :: F)∧l= [(2,Q g),(4,Q u),(5,p)]∧Sl aE c p s) ?_ ?_))
 ·refine sr (vx (leN 35 0 [.slice j h i,I a.P.At.Row,I a.P.At.Col,B a.P.At.Pending,B a.P.Auto,.slice E M N,.slice b d f,I a.Parts] (w1.on 3 rfl)) ?_);have g7:=w1.slf 1 rfl (z.mono (i2.trans (z2.trans a3)));refine bn t fun k6 h7 t=>cl (eN w1 (⟨a.P,a.Group,A,a.Parts⟩:ag) h2.m h4.m g7 h7) ?_;rintro v72 v9 j2 ⟨s2,rfl⟩;refine va (B (decide (k6 > 0))) (wln (cn t (fun i7 t=>?_) (fun i7 t=>?_)))
  ·refine W.region (vv (v53) (vx (lnO 3 mR y0.m) (va (I (w64 ((y.length:Int) - 1))) (bn t fun m9 j7 t=>?_))));obtain ⟨v6,l7,l77,q6,k7⟩:=s2.frz 0 rfl (y0.mono j2);refine WL.gh l7 ?_;obtain ⟨k2,m7,n7⟩:=kv (k':= .i64) mR (by kernel_rfl) k7 j7;refine vr k2 (rx (by kernel_rfl) (m7 _)) (va (k2) (wln ?_));obtain rfl:=si t;exact jn v6 ⟨k2,q6,rfl,n7⟩
  refine W.skip (nrm ?_);obtain rfl:=si t;obtain ⟨w6,o7,q7,t2,y9⟩:=s2.frz 0 rfl (y0.mono j2);have p7:=t2.slf 0 rfl (y0.mono (j2.trans q7));exact ⟨w6,_,_,o7.symm,pt,us,v53,t2,rfl,p7⟩
 rintro e_ w_ ⟨z1,w9,_,rfl,r7,rfl,p,u2,rfl,z0⟩;refine W.seq (sr (va (Qo g 7) (vx (le1 7 u_3 (u2.on 3 rfl)) (va (I a.Parts) (wln (W.block (bn o fun x8 w2 o2=>lp w2 (fun n=>Jn z1 fun c l=>∃k,Own c G (es false aE v53 106 b1 y :: es false (RI .u8) (.slice b d f) 5 a1 A :: (Eb u 35 [Y,I 0,I 0,B false,B false,Y,Y,I 0]) :: (Eb g 35 [.slice j h i,I a.P.At.Row,I a.P.At.Col,B a.P.At.Pending,B a.P.Auto,k,.slice b d f,I a.Parts]) :: F)∧l= [(2,Q g),(4,Q u),(5,p),(6,I n.1)]∧Sl (RI .i32) c k n.2) (fun n2 ex e w=>ex= .exit 0∧(Jn z1 fun c l=>∃S,Own c G (es false aE v53 106 b1 y :: es false (RI .u8) (.slice b d f) 5 a1 A :: (Eb u 35 [Y,I 0,I 0,B false,B false,Y,Y,I 0]) :: (Eb g 35 [.slice j h i,I a.P.At.Row,I a.P.At.Col,B a.P.At.Pending,B a.P.Auto,S,.slice b d f,I a.Parts]) :: F)∧l= [(2,Q g),(4,Q u),(5,p)]∧Sl (RI .i32) c S n2) e w) ?_ ?_ ?_)))))))
 ·clear o2 w2;intro n xx_ x6 u7 o;revert x6 u7;rintro e_ w_ ⟨v2,x9,_,rfl,s7,rfl,k,c1,rfl,D⟩;refine W.seq (sr (va (I n.1) (va (p) (vx (ln 3 mR z0.m) (va (B (decide (n.1 < (s.length:Int)))) (wln (cn o (fun i4 o=>?_) (fun i4 o=>?_))))))))
  ·refine W.skip (nrm (W.seq (W.block (bn o fun q b2 o=>bn o fun n9 m0 o=>bn o fun l2 o0 o=>W.join (Jn v2 fun c l=>∃x0 v0 x w0,Own c G (es false (RI .i32) x0 21 v0 ([q.R]:List Int) :: es true (RI .i32) x 21 w0 l2 :: es false aE v53 106 b1 y :: es false (RI .u8) (.slice b d f) 5 a1 A :: (Eb u 35 [Y,I 0,I 0,B false,B false,Y,Y,I 0]) :: (Eb g 35 [.slice j h i,I a.P.At.Row,I a.P.At.Col,B a.P.At.Pending,B a.P.Auto,x,.slice b d f,I a.Parts]) :: F)∧l= [(2,Q g),(4,Q u),(5,p),(6,I n.1)]∧OA (RI .i32) c x0 v0 ([q.R]:List Int)∧OA (RI .i32) c x w0 l2) ?_ ?_))))
   ·clear o;refine rD [12] (Kp G0 [(Eb g 35 [.slice j h i,I a.P.At.Row,I a.P.At.Col,B a.P.At.Pending,B a.P.Auto,k,.slice b d f,I a.Parts])]) c1 ?_;intro k3 z4 T;have j5:Kp G0 [(Eb g 35 [.slice j h i,I a.P.At.Row,I a.P.At.Col,B a.P.At.Pending,B a.P.Auto,k,.slice b d f,I a.Parts])] k3:=(Kp.cons (T.on 3 rfl) Kp.nil0);refine ta 1 (.pointer (some ⟨g,5,none⟩)) (tkx 2 j5 (fun c' x2 hk=>le1 5 cj (hk.on 0 rfl)) (ta 4 (p) (ta 5 (I n.1) ?_)));obtain ⟨z7,j4,i5⟩:=Sl.at (z0.mono (s7.trans z4)) (aW b2);obtain rfl:=j4;refine tx 6 (fun c' x2=>ix mR z0.m b2) (ta 7 (Qo (sb p) (so p+n.1.toNat * 5)) (tx 8 (fun c' x2=>l1 gW ((mm i5) 0 _ rfl)) (mn2 0 9 ?_ ?_)))
    ·refine gm 0 (sl (RI .i32) 21 [] ([]:List Int) T trivial) ?_;rintro e9 l3 k8 ⟨y8,U,c2⟩;have k5:Kp G0 [(Eb g 35 [.slice j h i,I a.P.At.Row,I a.P.At.Col,B a.P.At.Pending,B a.P.Auto,k,.slice b d f,I a.Parts])] l3:=(Kp.cons (U.on 4 rfl) Kp.nil0);refine ⟨.inr k5,mn2 3 9 ?_ ?_⟩
     ·refine gm 3 (ap (RI .i32) (J 0) 4 32 0 U c2 D.m m0 cj) ?_;rintro f9 m3 l8 ⟨z8,d1,k4⟩;have l5:Kp G0 [(Eb g 35 [.slice j h i,I a.P.At.Row,I a.P.At.Col,B a.P.At.Pending,B a.P.Auto,k,.slice b d f,I a.Parts])] m3:=(Kp.cons (d1.on 4 rfl) Kp.nil0);refine ⟨.inr l5,o1 9 (gm 9 (sl (RI .i32) 21 [[J q.R]] ([q.R]:List Int) d1 ⟨rfl,trivial⟩) ?_)⟩;rintro f6 n3 m8 ⟨z5,e1,d2⟩;have m5:Kp G0 [(Eb g 35 [.slice j h i,I a.P.At.Row,I a.P.At.Col,B a.P.At.Pending,B a.P.Auto,k,.slice b d f,I a.Parts])] n3:=(Kp.cons (e1.on 5 rfl) Kp.nil0);refine ⟨.inr m5,?_⟩;obtain ⟨o3,m4,a5,f1,l4⟩:=e1.frz 0 rfl d2;have n5:Kp G0 [(Eb g 35 [.slice j h i,I a.P.At.Row,I a.P.At.Col,B a.P.At.Pending,B a.P.Auto,k,.slice b d f,I a.Parts])] o3:=(Kp.cons (f1.on 5 rfl) Kp.nil0);refine AC.gh m4 a5 (fun _=>n5) (o1 10 (gm 10 (ap (RI .i32) (J 0) 4 32 1 f1 k4.m l4 o0 cj) ?_));rintro g9 p3 n8 ⟨a6,g1,q0⟩;have o5:Kp G0 [(Eb g 35 [.slice j h i,I a.P.At.Row,I a.P.At.Col,B a.P.At.Pending,B a.P.Auto,k,.slice b d f,I a.Parts])] p3:=(Kp.cons (g1.on 5 rfl) Kp.nil0);refine ⟨.inr o5,ta 11 (.pointer (some ⟨g,5,none⟩)) ?_⟩;obtain ⟨Z,a0,b0,rfl⟩:=(q0).form;refine o1 12 (gD 12 (sC 32 5 (.slice Z a0 b0) [.slice j h i,I a.P.At.Row,I a.P.At.Col,B a.P.At.Pending,B a.P.Auto,.slice Z a0 b0,.slice b d f,I a.Parts] 5 g1 ⟨(q0).one,trivial⟩) ?_);rintro q3 o8 b3;exact ⟨.inl rfl,dn (nrm (jn q3 ⟨f6,z5,(.slice Z a0 b0),a6,b3,rfl,d2.m,q0.m⟩))⟩
     refine gm 9 (sl (RI .i32) 21 [[J q.R]] ([q.R]:List Int) U ⟨rfl,trivial⟩) ?_;rintro g6 s3 p8 ⟨b6,h1,e2⟩;have p5:Kp G0 [(Eb g 35 [.slice j h i,I a.P.At.Row,I a.P.At.Col,B a.P.At.Pending,B a.P.Auto,k,.slice b d f,I a.Parts])] s3:=(Kp.cons (h1.on 5 rfl) Kp.nil0);refine ⟨.inr p5,o1 3 (gm 3 (ap (RI .i32) (J 0) 4 32 1 h1 c2.m D.m m0 cj) ?_)⟩;rintro h9 t3 b5 ⟨b9,i1,n4⟩;have q5:Kp G0 [(Eb g 35 [.slice j h i,I a.P.At.Row,I a.P.At.Col,B a.P.At.Pending,B a.P.Auto,k,.slice b d f,I a.Parts])] t3:=(Kp.cons (i1.on 5 rfl) Kp.nil0);refine ⟨.inr q5,?_⟩;obtain ⟨u3,p4,c5,j1,o4⟩:=i1.frz 0 rfl (e2.mono b5);have r5:Kp G0 [(Eb g 35 [.slice j h i,I a.P.At.Row,I a.P.At.Col,B a.P.At.Pending,B a.P.Auto,k,.slice b d f,I a.Parts])] u3:=(Kp.cons (j1.on 5 rfl) Kp.nil0);refine AC.gh p4 c5 (fun _=>r5) (o1 10 (gm 10 (ap (RI .i32) (J 0) 4 32 1 j1 n4.m o4 o0 cj) ?_));rintro i9 w3 q8 ⟨c6,k1,s0⟩;have s5:Kp G0 [(Eb g 35 [.slice j h i,I a.P.At.Row,I a.P.At.Col,B a.P.At.Pending,B a.P.Auto,k,.slice b d f,I a.Parts])] w3:=(Kp.cons (k1.on 5 rfl) Kp.nil0);refine ⟨.inr s5,ta 11 (.pointer (some ⟨g,5,none⟩)) ?_⟩;obtain ⟨d0,e0,f0,rfl⟩:=(s0).form;refine o1 12 (gD 12 (sC 32 5 (.slice d0 e0 f0) [.slice j h i,I a.P.At.Row,I a.P.At.Col,B a.P.At.Pending,B a.P.Auto,.slice d0 e0 f0,.slice b d f,I a.Parts] 5 k1 ⟨(s0).one,trivial⟩) ?_);rintro x3 r8 c3;exact ⟨.inl rfl,dn (nrm (jn x3 ⟨g6,b6,(.slice d0 e0 f0),c6,c3,rfl,e2.m,s0.m⟩))⟩
    refine gm 9 (sl (RI .i32) 21 [[J q.R]] ([q.R]:List Int) T ⟨rfl,trivial⟩) ?_;rintro i6 z3 s8 ⟨d6,m1,f2⟩;have t5:Kp G0 [(Eb g 35 [.slice j h i,I a.P.At.Row,I a.P.At.Col,B a.P.At.Pending,B a.P.Auto,k,.slice b d f,I a.Parts])] z3:=(Kp.cons (m1.on 4 rfl) Kp.nil0);refine ⟨.inr t5,o1 0 (gm 0 (sl (RI .i32) 21 [] ([]:List Int) m1 trivial) ?_)⟩;rintro j9 a4 d5 ⟨c9,n1,q4⟩;have u5:Kp G0 [(Eb g 35 [.slice j h i,I a.P.At.Row,I a.P.At.Col,B a.P.At.Pending,B a.P.Auto,k,.slice b d f,I a.Parts])] a4:=(Kp.cons (n1.on 5 rfl) Kp.nil0);refine ⟨.inr u5,o1 3 (gm 3 (ap (RI .i32) (J 0) 4 32 0 n1 q4 D.m m0 cj) ?_)⟩;rintro k9 b4 e5 ⟨d9,q1,r4⟩;have w5:Kp G0 [(Eb g 35 [.slice j h i,I a.P.At.Row,I a.P.At.Col,B a.P.At.Pending,B a.P.Auto,k,.slice b d f,I a.Parts])] b4:=(Kp.cons (q1.on 5 rfl) Kp.nil0);refine ⟨.inr w5,?_⟩;obtain ⟨c4,t4,f5,s1,s4⟩:=q1.frz 1 rfl (f2.mono (d5.trans e5));have x5:Kp G0 [(Eb g 35 [.slice j h i,I a.P.At.Row,I a.P.At.Col,B a.P.At.Pending,B a.P.Auto,k,.slice b d f,I a.Parts])] c4:=(Kp.cons (s1.on 5 rfl) Kp.nil0);refine AC.gh t4 f5 (fun _=>x5) (o1 10 (gm 10 (ap (RI .i32) (J 0) 4 32 0 s1 r4.m s4 o0 cj) ?_));rintro l9 d4 t8 ⟨e6,t1,t0⟩;have y5:Kp G0 [(Eb g 35 [.slice j h i,I a.P.At.Row,I a.P.At.Col,B a.P.At.Pending,B a.P.Auto,k,.slice b d f,I a.Parts])] d4:=(Kp.cons (t1.on 5 rfl) Kp.nil0);refine ⟨.inr y5,ta 11 (.pointer (some ⟨g,5,none⟩)) ?_⟩;obtain ⟨g0,h0,i0,rfl⟩:=(t0).form;refine o1 12 (gD 12 (sC 32 5 (.slice g0 h0 i0) [.slice j h i,I a.P.At.Row,I a.P.At.Col,B a.P.At.Pending,B a.P.Auto,.slice g0 h0 i0,.slice b d f,I a.Parts] 5 t1 ⟨(t0).one,trivial⟩) ?_);rintro e4 u8 d3;refine ⟨.inl rfl,dn (nrm ?_)⟩;have e3:=d3.sD 6 [1,0,2,3,4,5];exact jn e4 ⟨i6,d6,(.slice g0 h0 i0),e6,e3,rfl,f2.m,t0.m⟩
   rintro e_ w_ ⟨b8,e8,_,rfl,v8,rfl,x0,v0,x,w0,f3,rfl,g8,u4⟩;refine bkn (nrm (W.region (va (I n.1) (vv (I (w64 (n.1+1))) (WL.nil ?_)))));obtain rfl:=si o;refine ⟨_,rfl,?_⟩;obtain ⟨f4,w4,w8,g3,v4⟩:=f3.frz 1 rfl u4;have h3:=g3.sD 6 [2,3,4,5];exact ⟨f4,_,_,w4.symm,pt,us,x,h3,rfl,v4⟩
  refine W.exit (thx ?_);obtain rfl:=si o;exact ⟨_,rfl,rfl,jn v2 ⟨k,c1,rfl,D⟩⟩
 ·exact jn z1 ⟨(.slice E M N),u2,rfl,h4.m⟩
 rintro _ e_ w_ ⟨rfl,c8,f8,_,rfl,g5,rfl,S,i3,rfl,u0⟩;refine bke (nrm (sr (va (p) (vx (ln 3 mR z0.m) (va (Qo g 7) (md (sC 3 7 (I (s.length:Int)) [.slice j h i,I a.P.At.Row,I a.P.At.Col,B a.P.At.Pending,B a.P.Auto,S,.slice b d f,I (s.length:Int)] 3 i3 ⟨rfl,trivial⟩) ?_))))));rintro d8 g2 u1;refine wln (sr (vx (leN 35 0 [.slice j h i,I a.P.At.Row,I a.P.At.Col,B a.P.At.Pending,B a.P.Auto,S,.slice b d f,I (s.length:Int)] (u1.on 3 rfl)) ?_));obtain ⟨j0,k0,l0,rfl⟩:=((u0.mono g2)).form;refine md (sA 35 [.slice j h i,I a.P.At.Row,I a.P.At.Col,B a.P.At.Pending,B a.P.Auto,.slice j0 k0 l0,.slice b d f,I (s.length:Int)] 2 u1 ⟨h2.m.one,rfl,rfl,rfl,rfl,u0.m.one,z.m.one,rfl,trivial⟩) ?_;rintro x1 h5 X;refine wln (W.ret ?_);obtain rfl:=si o2;have x4:=X.slf 1 rfl (z.mono (i2.trans (z2.trans (a3.trans (r7.trans (g5.trans (g2.trans h5)))))));have j3:=X.sD 4 [];exact iD (c:=x1) (vs:=[.slice j h i,I a.P.At.Row,I a.P.At.Col,B a.P.At.Pending,B a.P.Auto,.slice j0 k0 l0,.slice b d f,I (s.length:Int)]) rfl (by kernel_rfl) (by kernel_rfl) (by kernel_rfl) (X.on 2 rfl _ rfl).1 ⟨_,x1,rfl,rfl,pt,(.slice j h i),(.slice j0 k0 l0),(.slice b d f),j3,rfl,h2.m,u0.m,x4⟩
def bD (p0:ag) (p1:Int):Option (ag):=
 ((bz p1).bind fun c=>
 if (!c)=true then
 some (65533)
 else
 some (p1)).bind fun d=>
 (app ([]:List Int) p0.Group).bind fun a=>
 (app a ([d]:List Int)).bind fun b=>
 some (⟨p0.P,b,p0.Raw,p0.Parts⟩:ag)
theorem gO (O0:Own c0 G F) (a:ag) (t:Int) {r:ag} (S:Sl aK c0 v1 a.P.L) (h4:Sl (RI .i32) c0 v3 a.Group) (T:Sl (RI .u8) c0 v5 a.Raw) (H:bD a t=some r): Calls prog 18 #[.agg #[v1,I a.P.At.Row,I a.P.At.Col,B a.P.At.Pending,B a.P.Auto,v3,v5,I a.Parts],J t] c0.w (aI c0 fun c v=>∃y1 U y3 y4,Own c G (es true (RI .i32) U 21 y3 r.Group :: F)∧v= .agg #[y1,I r.P.At.Row,I r.P.At.Col,B r.P.At.Pending,B r.P.Auto,U,y4,I r.Parts]∧Sl aK c y1 r.P.L∧OA (RI .i32) c U y3 r.Group∧Sl (RI .u8) c y4 r.Raw):=by
 unfold bD at H;refine en func18 rfl rfl (sr ?_);obtain ⟨k,n,o,rfl⟩:=(S).form;obtain ⟨A,D,E,rfl⟩:=(h4).form;obtain ⟨d,e,f,rfl⟩:=(T).form;refine me (al 35 [.slice k n o,I a.P.At.Row,I a.P.At.Col,B a.P.At.Pending,B a.P.Auto,.slice A D E,.slice d e f,I a.Parts] O0) ?_;rintro v19 d1 n1 ⟨p,rfl,X⟩;refine me (al 35 [Y,I 0,I 0,B false,B false,Y,Y,I 0] X) ?_;rintro v23 h0 q1 ⟨M,rfl,Z⟩;refine wln (bn H fun s b j=>W.seqJ (Jn h0 fun c l=>Own c G ((Eb M 35 [Y,I 0,I 0,B false,B false,Y,Y,I 0]) :: (Eb p 35 [.slice k n o,I a.P.At.Row,I a.P.At.Col,B a.P.At.Pending,B a.P.Auto,.slice A D E,.slice d e f,I a.Parts]) :: F)∧l= [(1,J s),(2,Q p),(4,Q M)]) ?_ ?_)
 ·refine sr (va (J t) (bn b fun w0 i0 b=>cl (jf Z t i0) ?_));rintro v32 N s1 ⟨u,rfl⟩;refine va (B (!w0)) (wln (cn b (fun j0 b=>?_) (fun j0 b=>?_)))
  ·refine W.region (va (J 65533) (wln ?_));obtain rfl:=si b;exact jn N ⟨u,rfl⟩
  refine W.skip (nrm ?_);obtain rfl:=si b;exact jn N ⟨u,rfl⟩
 rintro e_ w_ ⟨e1,m1,_,rfl,t1,rfl,a0,rfl⟩;refine sr (me (sl (RI .i32) 21 [] ([]:List Int) a0 trivial) ?_);rintro v44 f1 u1 ⟨e2,x,l0⟩;refine va (.pointer (some ⟨p,5,none⟩)) (vx (le1 5 cj (x.on 2 rfl)) (bn j fun b1 m0 j=>me (ap (RI .i32) (J 0) 4 32 0 x l0 h4.m m0 cj) ?_));rintro v50 g1 w1 ⟨f2,b0,o0⟩;refine va (J s) (me (sl (RI .i32) 21 [[J s]] ([s]:List Int) b0 ⟨rfl,trivial⟩) ?_);rintro v55 h1 x1 ⟨g2,d0,q0⟩;obtain ⟨i1,t0,z1,e0,s0⟩:=d0.frz 0 rfl q0;refine WL.gh t0 (bn j fun c1 u0 j=>me (ap (RI .i32) (J 0) 4 32 1 e0 o0.m s0 u0 cj) ?_);rintro i2 j1 b2 ⟨v0,f0,q⟩;refine va (.pointer (some ⟨p,5,none⟩)) ?_;obtain ⟨g,h,i,rfl⟩:=(q).form;refine md (sC 32 5 (.slice g h i) [.slice k n o,I a.P.At.Row,I a.P.At.Col,B a.P.At.Pending,B a.P.Auto,.slice g h i,.slice d e f,I a.Parts] 3 f0 ⟨(q).one,trivial⟩) ?_;rintro k1 c2 y;refine wln (sr (vx (leN 35 0 [.slice k n o,I a.P.At.Row,I a.P.At.Col,B a.P.At.Pending,B a.P.Auto,.slice g h i,.slice d e f,I a.Parts] (y.on 3 rfl)) (md (sA 35 [.slice k n o,I a.P.At.Row,I a.P.At.Col,B a.P.At.Pending,B a.P.Auto,.slice g h i,.slice d e f,I a.Parts] 2 y ⟨S.m.one,rfl,rfl,rfl,rfl,q.m.one,T.m.one,rfl,trivial⟩) ?_)));rintro R d2 z;refine wln (W.ret ?_);obtain rfl:=si j;have g0:=z.sD 4 [1];exact iD (c:=R) (vs:=[.slice k n o,I a.P.At.Row,I a.P.At.Col,B a.P.At.Pending,B a.P.Auto,.slice g h i,.slice d e f,I a.Parts]) rfl (by kernel_rfl) (by kernel_rfl) (by kernel_rfl) (z.on 2 rfl _ rfl).1 ⟨_,R,rfl,rfl,pt,(.slice k n o),(.slice g h i),v0,(.slice d e f),g0,rfl,S.m,q.m,T.m⟩
def cD (p0:Int) (p1:Int):Option (ag):=
 (db (aD 1 (ax p0 1024)) (aD 1 (ax p1 1024))).bind fun a=>
 some (⟨a,([]:List Int),([]:List Int),0⟩:ag)
theorem jL (A:Own c0 G F) (g:Int) (h:Int) {r:ag} (H:cD g h=some r): Calls prog 14 #[I g,I h] c0.w (aI c0 fun c v=>∃k x l y n z,Own c G (es true aK k 48 x r.P.L :: es true (RI .i32) l 21 y r.Group :: es true (RI .u8) n 5 z r.Raw :: F)∧v= .agg #[k,I r.P.At.Row,I r.P.At.Col,B r.P.At.Pending,B r.P.Auto,l,n,I r.Parts]∧OA aK c k x r.P.L∧OA (RI .i32) c l y r.Group∧OA (RI .u8) c n z r.Raw):=by
 unfold cD at H;refine en func14 rfl rfl (sr (me (al 35 [Y,I 0,I 0,B false,B false,Y,Y,I 0] A) ?_));rintro v4 U X ⟨T,rfl,D⟩;refine wln (sr (va (I g) (va (I (ax g 1024)) (va (I (aD 1 (ax g 1024))) (va (I h) (va (I (ax h 1024)) (va (I (aD 1 (ax h 1024))) (bn H fun a E H=>cl (jM D (aD 1 (ax g 1024)) (aD 1 (ax h 1024)) E) ?_))))))));rintro v14 N R ⟨v6,M,o,rfl,j⟩;obtain ⟨b,a16,d,rfl⟩:=(j).form;refine va (.agg #[.slice b a16 d,I a.At.Row,I a.At.Col,B a.At.Pending,B a.Auto,Y,Y,I 0]) (md (sA 35 [.slice b a16 d,I a.At.Row,I a.At.Col,B a.At.Pending,B a.Auto,Y,Y,I 0] 1 o ⟨(j).one,rfl,rfl,rfl,rfl,rfl,rfl,rfl,trivial⟩) ?_);rintro f S p;refine wln (W.ret ?_);obtain rfl:=si H;have t:OA (RI .i32) f (Y) [] []:=OA.nil (aJ _);have q:=p.addHole (e:=es true (RI .i32) (Y) 21 [] ([]:List Int)) rfl;have u:OA (RI .u8) f (Y) [] []:=OA.nil (aJ _);have i:=q.addHole (e:=es true (RI .u8) (Y) 5 [] ([]:List Int)) rfl;have s:=i.sD 4 [2,1,0];exact iD (c:=f) (vs:=[.slice b a16 d,I a.At.Row,I a.At.Col,B a.At.Pending,B a.Auto,Y,Y,I 0]) rfl (by kernel_rfl) (by kernel_rfl) (by kernel_rfl) (i.on 3 rfl _ rfl).1 ⟨_,f,rfl,rfl,pt,(.slice b a16 d),M,(Y),[],(Y),[],s,rfl,j.m,t,u⟩
def cK (p0:List aw):Option (Bool):=
 (cw (σ:=Int×Int) (τ:=Bool ⊕ Unit) (((p0.length:Int) - 0).toNat+1) (fun a=>
 (bS (decide (a.2 < (p0.length:Int))) (some (decide (a.2 < 60)))).bind fun d=>
 if d=true then
 (idx p0 a.2).bind fun c=>
 (orE (decide ((w64 (a.1+(c.Bytes.length:Int))) > 600)) ((idx p0 a.2).bind fun h=>
 (bS (h.Kind==13) ((idx p0 a.2).bind fun i=>
 some (decide (i.A > 60)))).bind fun f=>
 (bS f ((idx p0 a.2).bind fun j=>
 some (decide (j.B > 60)))).bind fun g=>
 some g)).bind fun e=>
 if e=true then
 some (.inr (.inl true))
 else
 some (.inl ((w64 (a.1+(c.Bytes.length:Int))),(w64 (a.2+1))))
 else
 some (.inr (.inr ()))) (0,0)).bind fun b=>
 match b with
 | .inl b=>
 some b
 | .inr b=>
 some (decide ((p0.length:Int) > 50))
theorem jg (O0:Own c0 G F) (s:List aw) {r:Bool} (f:Sl gj c0 v1 s) (H:cK s=some r): Calls prog 12 #[v1] c0.w (aI c0 fun c v=>Own c G (F)∧v=B r):=by
 unfold cK at H;refine en func12 rfl rfl (sr (va (B false) (wln (sr (va (I 0) (wln (W.seq (sr (va (I 0) (wln (W.block (bn H fun y h3 H4=>lp h3 (fun a=>Jn c0 fun c l=>Own c G (F)∧l= [(0,v1),(3,I a.1),(4,I a.2)]) (fun t=>match t with | .inl x_=>(fun i1 ex e w=>ex= .ret∧(Jn c0 fun c l=>Own c G (F)∧l= [(2,B i1)]) e w) x_ | .inr x_=>(fun t1 ex e w=>ex= .exit 0∧(Jn c0 fun c l=>Own c G (F)∧l= [(0,v1)]) e w) x_) ?_ ?_ ?_))))))))))))
 ·clear H4 h3;intro a g2 t0 j1 H;revert t0 j1;rintro D M ⟨c5,g6,_,rfl,E,rfl,O7,rfl⟩;refine W.seq (W.seq (bn H fun g0 R H=>W.join (Jn c5 fun c l=>Own c G (F)∧l= [(0,v1),(3,I a.1),(4,I a.2),(12,B g0)]) ?_ ?_))
  ·clear H;refine W.region (va (I a.2) (va (v1) (vx (ln 3 mH f.m) (va (B (decide (a.2 < (s.length:Int)))) ?_))));rcases bo (decide (a.2 < (s.length:Int))) with i | i
   ·have k0:=anT i R;refine vb i (wa (I a.2) (wa (B (decide (a.2 < 60))) ?_));obtain rfl:=si k0;exact va (B (decide (a.2 < 60))) (wln (jn c5 ⟨O7,rfl⟩))
   obtain rfl:=anF i R;exact vb i (pz (va (B false) (wln (jn c5 ⟨O7,rfl⟩))))
  rintro D M ⟨g,u1,_,rfl,q,rfl,h,rfl⟩;refine nrm (cn H (fun v0 H=>?_) (fun v0 H=>?_))
  ·refine W.skip (nrm (W.seq (W.block (sr (va (I a.1) (va (v1) (va (I a.2) (bn H fun d S H=>?_))))))));obtain ⟨n1,w0,e1⟩:=Sl.at (f.mono (E.trans q)) (aW S);obtain ⟨v25,rfl,x0⟩:=w0;refine vx (ix mH f.m S) (va (Qo (sb v1) (so v1+a.2.toNat * 4+3)) (vx (l1 dX (e1 3 _ rfl)) (vx (ln 3 dX x0) (vv (I (w64 (a.1+(d.Bytes.length:Int)))) (wln (W.seq (bn H fun h0 T H=>W.join (Jn g fun c l=>Own c G (F)∧l= [(0,v1),(3,I (w64 (a.1+(d.Bytes.length:Int)))),(4,I a.2),(48,B h0)]) ?_ ?_)))))))
   ·clear H;refine W.region (va (I (w64 (a.1+(d.Bytes.length:Int)))) (va (B (decide ((w64 (a.1+(d.Bytes.length:Int))) > 600))) ?_));rcases bo (decide ((w64 (a.1+(d.Bytes.length:Int))) > 600)) with j | j
    ·obtain rfl:=orT j T;exact vb j (pz (pz (pz (pz (pz (pz (pz (pz (pz (pz (pz (va (B true) (wln (jn g ⟨h,rfl⟩))))))))))))))
    have b:=orF j T;refine vb j (wa (v1) (wa (I a.2) (wn (bn b fun z U b=>?_))));obtain ⟨p1,z0,f1⟩:=Sl.at (f.mono (E.trans q)) (aW U);obtain ⟨v34,rfl,z1⟩:=z0;refine vx (ix mH f.m U) (wa (Qo (sb v1) (so v1+a.2.toNat * 4)) (wn (vx (l1 u_3 (f1 0 _ rfl)) (wa (B (z.Kind==13)) (wn (bn b fun m1 X b=>?_))))));rcases bo (z.Kind==13) with k | k
    ·have u:=anT k X;refine vb k (wa (v1) (wa (I a.2) (wn (bn u fun o Z u=>?_))));obtain ⟨q1,a1,g1⟩:=Sl.at (f.mono (E.trans q)) (aW Z);obtain ⟨v43,rfl,b2⟩:=a1;refine vx (ix mH f.m Z) (wa (Qo (sb v1) (so v1+a.2.toNat * 4+1)) (wn (vx (l1 u_3 (g1 1 _ rfl)) (wa (B (decide (o.A > 60))) (wn ?_)))));obtain rfl:=si u;refine va (B (decide (o.A > 60))) (wn (bn b fun i0 a0 b=>?_));rcases bo (decide (o.A > 60)) with n | n
     ·have x:=anT n a0;refine vb n (wa (v1) (wa (I a.2) (wn (bn x fun p b0 x=>?_))));obtain ⟨s1,b1,h1⟩:=Sl.at (f.mono (E.trans q)) (aW b0);obtain ⟨v52,rfl,c2⟩:=b1;refine vx (ix mH f.m b0) (wa (Qo (sb v1) (so v1+a.2.toNat * 4+2)) (wn (vx (l1 u_3 (h1 2 _ rfl)) (wa (B (decide (p.B > 60))) (wn ?_)))));obtain rfl:=si x;refine va (B (decide (p.B > 60))) ?_;obtain rfl:=si b;exact va (B (decide (p.B > 60))) (wln (jn g ⟨h,rfl⟩))
     obtain rfl:=anF n a0;refine vb n (pz (pz (pz (wa (B false) ?_))));obtain rfl:=si b;exact va (B false) (wln (jn g ⟨h,rfl⟩))
    obtain rfl:=anF k X;refine vb k (pz (pz (pz (wa (B false) (wn (bn b fun i0 c1 b=>?_))))));have d0:false=false:=rfl;obtain rfl:=anF d0 c1;refine vb d0 (pz (pz (pz (wa (B false) ?_))));obtain rfl:=si b;exact va (B false) (wln (jn g ⟨h,rfl⟩))
   rintro D M ⟨P,w1,_,rfl,d2,rfl,N,rfl⟩;refine nrm (cn H (fun d1 H=>?_) (fun d1 H=>?_))
   ·refine sr (va (B true) (wln (W.ret (bkr (thr ?_)))));obtain rfl:=si H;exact ⟨_,rfl,⟨rfl,jn P ⟨N,rfl⟩⟩⟩
   refine W.skip (bkn (nrm (W.region (va (I a.2) (vv (I (w64 (a.2+1))) (WL.nil ?_))))));obtain rfl:=si H;exact ⟨_,rfl,jn P ⟨N,rfl⟩⟩
  refine W.exit (thx ?_);obtain rfl:=si H;exact ⟨_,rfl,rfl,jn g ⟨h,rfl⟩⟩
 ·exact jn c0 ⟨O0,rfl⟩
 rcases y with y | y
 ·intro u0; revert u0;rintro _ D M ⟨rfl,q0,x1,_,rfl,e2,rfl,l0,rfl⟩;refine bkr (thr ?_);obtain rfl:=si H4;exact r1 (qq q0 ⟨l0,rfl⟩)
 rintro _ D M ⟨rfl,s0,y1,_,rfl,f2,rfl,o0,rfl⟩;refine bke (nrm (sr (va (v1) (vx (ln 3 mH f.m) (vv (B (decide ((s.length:Int) > 50))) (wln (W.ret ?_)))))));obtain rfl:=si H4;exact r1 (qq s0 ⟨o0,rfl⟩)
end Go.Proofs.YtclmdpamofdoiaaGreatDoor
namespace Go.Lt
set_option linter.unusedVariables false
def isC:Obj→Bool
  | .cells _ _ _=>true
  | _=>false
section
variable {P:Program} {n:Nat} {df:List Deferred} {Q:List Deferred→Exit→(Nat→Value)→World→Prop} {e:Nat→Value} {w:World} {a b:Code}
def WR (P:Program) (n:Nat) (c:Code) (Q:List Deferred→Exit→(Nat→Value)→World→Prop) (df:List Deferred) (e:Nat→Value) (w:World):Prop:=
  c.wpIn (fen none) 0 P (fun x a w=>rW x∧∃e d,a=act ⟨n,d,none⟩ e∧Q d x e w) (act ⟨n,df,none⟩ e) w
theorem WR.of (h:W P ⟨n,df,none⟩ a (Q df) e w):WR P n a Q df e w:=fz h fun x a w ⟨ht,e,ha,hq⟩=>⟨ht,e,df,ha,hq⟩
theorem WR.seq (h:WR P n a (fun d=>ji (fun e w=>WR P n b Q d e w) (Q d)) df e w):WR P n (a.seq b) Q df e w:=
  wpIn_seq (fz h fun x a' w' ⟨ht,e',d,ha,hQ⟩=>by
    subst ha
    cases x with
    | normal=>exact hQ
    | _=>exact ⟨ht,e',d,rfl,hQ⟩)
theorem WR.block {id:Nat} (h:WR P n a (fun d=>fu id (Q d)) df e w):WR P n (.block id a) Q df e w:=
  wpIn_block (fz h fun x a' w' ⟨ht,e',d,ha,hQ⟩=>by
    subst ha
    cases x with
    | exit i=>
      simp only [Exit.inBlock];by_cases hi:i=id
      · subst hi
        rw [aj rfl];exact ⟨trivial,e',d,rfl,by simpa [fu] using hQ⟩
      · rw [am hi]
        have:Nat.beq i id=false:=by
          cases hb:Nat.beq i id with
          | false=>rfl
          | true=>exact absurd (gU hb) hi
        exact ⟨trivial,e',d,rfl,by simpa [fu,this] using hQ⟩
    | _=>exact ⟨ht,e',d,rfl,hQ⟩)
def qt (P:Program) (fn:Func) (n:Nat) (R:Ending→World→Prop) (df:List Deferred):Exit→(Nat→Value)→World→Prop
  | .normal,e,w=>LeavesInM (fen none) 0 P fn (act ⟨n,[],none⟩ e).tmps R df .returning w
  | .ret,e,w=>LeavesInM (fen none) 0 P fn (act ⟨n,[],none⟩ e).tmps R df .returning w
  | _,_,_=>False
theorem enR {f:FuncId} {fn:Func} {code:Code} {l:List Value} {R:Ending→World→Prop} (hf:P.funcs[f]? = some fn) (hb:fn.body=some code) (hn:fn.ntmps=n)
    (h:WR P n code (qt P fn n R) [] (ar l) w) (hl:Nat.ble l.length n=true:=by rfl):Calls P f l.toArray w R:=by
  subst hn;have hl:=bf hl;refine (rL (n:=0)).1 (callsIn_of_wp_marks hf hb trivial ?_);rw [ka,←qx _ l hl];refine fz h ?_;rintro x a w' ⟨_,e',d,rfl,hq⟩
  cases x <;> first | exact hq | exact hq.elim
def mark (D:Nat):Deferred:={ target:= .collected D,args:= #[]}
theorem qh {fn:Func} {tm:Array Value} {R:Ending→World→Prop} {D:Nat} {v:Value} (hD:w.heap[D]? = some (.deferred (some [])))
    (hr:(results fn tm).run P (w.putObj D (.deferred none))= .ok v (w.putObj D (.deferred none))) (hR:R (.returned v) (w.putObj D (.deferred none))):LeavesInM (fen none) 0 P fn tm R [mark D] .returning w:=
  ⟨by simp,.inl ⟨D,_,rfl,run_takeDeferred hD,v,hr,hR⟩⟩
def qJ (fn:FuncId) (tm:Array Value) (ps:Array Tmp) (assign body:Code) (D:Nat) (st:LoopState) (pe:Option Code):Loop:={ state:=st,pending:=pe,fn,tmps:=tm,params:=ps,assign,body,defers:=D}
theorem WR.range {g:Operand} {ps:Array Tmp} {assign body:Code} {gf:Nat} {lb:Array Value} (hg:ev n e g= .func (.func gf) #[] lb) (eg:∀args w,(callFunc gf args).run P w= .ok (.enter gf args) w)
    (h:∀(fn:FuncId) (rc:LoopState→Option Code→Loop),rc=qJ fn (act ⟨n,df,none⟩ e).tmps ps assign body w.heap.size→Calls P gf (#[.func (.yield (w.heap.size+1)) #[] #[]]++lb) ((w.alloc (.deferred (some []))).alloc (.loop (rc .ready none)))
      fun x w3=>∃v,x= .returned v∧
        ((w3.heap[w.heap.size+1]? = some (.loop (rc .ready none))∧Q (mark w.heap.size :: df) .normal e (w3.putObj (w.heap.size+1) (.loop (rc .exhausted none))))∨
         ∃c,w3.heap[w.heap.size+1]? = some (.loop (rc .done (some c)))∧WR P n c Q (mark w.heap.size :: df) e (w3.putObj (w.heap.size+1) (.loop (rc .exhausted (some c)))))):
    WR P n (.rangeFunc g ps assign body) Q df e w:=by
  refine wpIn_rangeFunc (fun fn _=>?_);have hg':(act ⟨n,df,none⟩ e).eval g= .func (.func gf) #[] lb:=by rw [fv]; exact hg
  have h:=h fn _ rfl;have h1:=run_enterLoop_outer (P:=P) (w:=w) fn (act ⟨n,df,none⟩ e).tmps ps assign body;have h2:∀W:World,(resolve (act ⟨n,df,none⟩ e).eval (rangeCall g (w.heap.size+1)) 0).run P W= .ok { target:= .fn (.func gf) lb,args:= #[.func (.yield (w.heap.size+1)) #[] #[]]} W:=fun W=>by
    simp only [resolve,hg'];simp [go_sem]
  have h3:∀W:World,(invoke (.fn (.func gf) lb) #[.func (.yield (w.heap.size+1)) #[] #[]]).run P W= .ok (.enter gf (#[.func (.yield (w.heap.size+1)) #[] #[]]++lb)) W:=fun W=>by
    simp [invoke,go_sem,eg]
  refine Exists.intro (w.heap.size+1) (Exists.intro [mark w.heap.size] (Exists.intro _ (Exists.intro { target:= .fn (.func gf) lb,args:= #[.func (.yield (w.heap.size+1)) #[] #[]]} (Exists.intro _ (Exists.intro gf (Exists.intro (#[.func (.yield (w.heap.size+1)) #[] #[]]++lb) (Exists.intro _ ⟨h1,h2 _,fun _ _=>trivial,h3 _,fun hd=>(by cases hd),?_⟩)))))));refine lG (h.mono fun x w3 hx=>?_);obtain ⟨v,rfl,hv⟩:=hx;rcases hv with ⟨k1,k2⟩ | ⟨c,k1,k2⟩
  · exact ⟨none,_,run_endLoop k1 (by simp [qJ]),trivial,e,mark w.heap.size :: df,rfl,k2⟩
  · exact ⟨some c,_,run_endLoop k1 (by simp [qJ]),k2⟩
end
theorem WL.round {P:Program} {ops:Array Oper} {n:Fr} {Q:Exit→(Nat→Value)→World→Prop} {rest:List Oper} {e:Nat→Value} {o:Oper} {w:World} {l:Nat} {args:Array Value} (hg:o.guard=none)
    (hr:(execOp (ev n e) o).run P w=(Instr.yield l args).run P w) (hy:YieldAt (fen n.ro) 0 P l args w fun x w'=>∃v,x= .returned v∧WL P ops n Q rest (upO e o.dst v) w'):WL P ops n Q (o :: rest) e w:=by
  obtain ⟨fn,tm,assign,body,hy1,hR⟩:=hy;refine lW hg fun K hK=>⟨fun _ _=>trivial,?_⟩;rw [fv,jj (hr.trans hy1) (by simp),Oper.uponIn_round];refine ⟨fun h=>(by cases h),hR.mono ?_⟩;rintro x w' ⟨v,rfl,h⟩;simp only [iU];exact hK _ _ h
theorem ym {F:Fence} {m:Nat} {P:Program} {l:Nat} {args:Array Value} {w:World} {R R':Ending→World→Prop} (h:YieldAt F m P l args w R) (hr:∀x w',R x w'→R' x w'):YieldAt F m P l args w R':=by
  obtain ⟨fn,tm,assign,body,hy,hR⟩:=h;exact ⟨fn,tm,assign,body,hy,hR.mono hr⟩
def rdQ (l:Nat) (r:LoopState→Option Code→Loop) (R:Ending→World→Prop):Exit→(Nat→Value)→World→Prop
  | .normal,_,w=>w.heap[l]? = some (.loop (r .busy none))∧R (.returned (.bool true)) (w.putObj l (.loop (r .ready none)))
  | .ret,_,w=>w.heap[l]? = some (.loop (r .busy none))∧R (.returned (.bool false)) (w.putObj l (.loop (r .done (some .ret))))
  | .exit i,_,w=>w.heap[l]? = some (.loop (r .busy none))∧R (.returned (.bool false)) (w.putObj l (.loop (r .done (some (.exit i)))))
  | _,_,_=>False
theorem pU (n:Fr) (e:Nat→Value) (d:Nat) (v:Value):(act n e).tmps.setIfInBounds d v=(act n (up e d v)).tmps:=ef Act.tmps (iU n e (some d) v)
theorem rn (n:Nat) (df:List Deferred) (r0:Option Nat) (l:Nat) (e:Nat→Value) (p1 p2:Nat) (a1 a2:Value):
    ((#[p1,p2]:Array Tmp).zip #[a1,a2]).foldl (fun t (p,v)=>t.setIfInBounds p v) (act ⟨n,df,r0⟩ e).tmps=(act ⟨n,[],some l⟩ (up (up e p1 a1) p2 a2)).tmps:=by
  have hz:((#[p1,p2]:Array Tmp).zip #[a1,a2])= #[(p1,a1),(p2,a2)]:=by simp
  rw [hz,←Array.foldl_toList];show ((act ⟨n,df,r0⟩ e).tmps.setIfInBounds p1 a1).setIfInBounds p2 a2=_;rw [pU,pU];rfl
theorem nH {P:Program} {n:Nat} {r0:Option Nat} {w:World} {l:Nat} {fn:FuncId} {tm:Array Value} {ps:Array Tmp} {assign body:Code} {D:Nat} {rc:LoopState→Option Code→Loop} (hrc:rc=qJ fn tm ps assign body D) {args:Array Value} {R:Ending→World→Prop} {e1:Nat→Value}
    (hl:w.heap[l]? = some (.loop (rc .ready none))) (hs:args.size=ps.size) (he:(ps.zip args).foldl (fun t (p,v)=>t.setIfInBounds p v) tm=(act ⟨n,[],some l⟩ e1).tmps)
    (h:W P ⟨n,[],some l⟩ assign (ji (fun e2 w1=>w1.heap[l]? = some (.loop (rc .ready none))∧
      W P ⟨n,[],some l⟩ body (rdQ l rc R) e2 (w1.putObj l (.loop (rc .busy none)))) (fun _ _ _=>False)) e1 w):YieldAt (fen r0) 0 P l args w R:=by
  subst hrc;refine ⟨fn,_,assign,body,run_yield hl hs,roundIn_of_wpIn trivial ?_⟩;have hz:(fen r0).inRound l=fen (some l):=rfl;rw [hz];have ha:({ tmps:=(ps.zip args).foldl (fun t (p,v)=>t.setIfInBounds p v) tm,defers:=[]}:Act)=act ⟨n,[],some l⟩ e1:=by rw [he]; rfl
  show assign.wpIn (fen (some l)) 0 P _ ({ tmps:=(ps.zip args).foldl (fun t (p,v)=>t.setIfInBounds p v) tm,defers:=[]}:Act) w;rw [ha];refine fz h ?_;rintro x a w1 ⟨ht,e2,rfl,hq⟩
  cases x with
  | normal=>
    obtain ⟨h1,h2⟩:=hq;refine ⟨_,run_beginRound h1 rfl,fz h2 ?_⟩;rintro y a' w2 ⟨_,e3,rfl,hy⟩
    cases y with
    | normal=>exact ⟨_,_,run_endRound none hy.1,hy.2⟩
    | ret=>exact ⟨_,_,run_endRound (some .ret) hy.1,hy.2⟩
    | exit i=>exact ⟨_,_,run_endRound (some (.exit i)) hy.1,hy.2⟩
    | _=>exact hy.elim
  | _=>exact hq.elim
structure Rec (c:Cx) (l D:Nat) (r:Loop):Prop where
  rc:c.w.heap[l]? = some (.loop r)
  nl:∀o,¬c.A l o
  def_:c.w.heap[D]? = some (.deferred (some []))
  nD:∀o,¬c.A D o
theorem Rec.mono {c c':Cx} {l D:Nat} {r:Loop} (h:Rec c l D r) (k:c.le c'):Rec c' l D r:=by
  have hl:=(Array.getElem?_eq_some_iff.1 h.rc).1;have hD:=(Array.getElem?_eq_some_iff.1 h.def_).1;exact ⟨(k.block l hl h.nl).trans h.rc,fun o=>(k.cell l o hl (h.nl o)).2,(k.block D hD h.nD).trans h.def_,fun o=>(k.cell D o hD (h.nD o)).2⟩
def Cx.turn (c:Cx) (l:Nat) (o:Obj):Cx:=⟨c.w.putObj l o,c.A,c.t⟩
theorem Cx.turn_lw {c:Cx} {l:Nat} {o o':Obj} (h:c.w.heap[l]? = some o) (ho:isC o=false) (ho':isC o'=false):c.lw (c.turn l o'):=by
  have hlt:=(Array.getElem?_eq_some_iff.1 h).1;have same:∀k,k≠l→(c.w.putObj l o').heap[k]? = c.w.heap[k]? :=fun k hk=>World.putObj_heap_other hk;have at_l:(c.w.putObj l o').heap[l]? = some o':=World.putObj_heap_same hlt;refine ⟨rfl,rfl,by simp [Cx.turn,World.putObj],fun k q hk hA=>⟨?_,hA⟩,fun k vs T f hk _=>?_,fun a _ _=>?_,fun _ _ _ h=>h⟩
  · show (c.w.putObj l o').cell? _=_
    by_cases e:k=l
    · subst e
      unfold World.cell?;rw [at_l,h]
      cases o <;> cases o' <;> first | rfl | (simp [isC] at ho ho')
    · exact fw (w:=c.w) (a:=⟨k,q,none⟩) (same k e)
  · refine same k fun e=>?_
    subst e;rw [h] at hk;cases hk;simp [isC] at ho
  · show (c.w.putObj l o').frozen? a=_
    by_cases e:a.block=l
    · unfold World.frozen?
      rw [e,at_l,h]
      cases o <;> cases o' <;> first | rfl | (simp [isC] at ho ho')
    · unfold World.frozen?
      rw [same _ e]
theorem Own.turn {c:Cx} {G:Gm} {F:List En} {l:Nat} {o o':Obj} (O:Own c G F) (h:c.w.heap[l]? = some o) (ho:isC o=false):Own (c.turn l o') G F:=
  ⟨⟨fun i e he b hb=>by
    have h1:=O.m.1 i e he b hb;refine ⟨?_,h1.2⟩;have hne:b≠l:=fun e2=>by
      subst e2;rw [h] at h1;have:=h1.1;cases this;simp [isC] at ho
    exact (World.putObj_heap_other hne).trans h1.1,O.m.2⟩,O.t0⟩
theorem Own.front {c:Cx} {G:Gm} {Fm F:List En} {e:En} (O:Own c G (Fm++e :: F)):Own c G (e :: (Fm++F)):=
  ⟨il.re O.m (fun k=>match k with | .inl 0=> .inl Fm.length | .inl (k+1)=>if k < Fm.length then .inl k else .inl (k+1) | .inr x=> .inr x) (fun k e' h=>by
    match k,h with
    | .inl 0,h=>simpa [at_] using h
    | .inl (k+1),h=>
      simp only [at_,cM] at h;by_cases hk:k < Fm.length
      · simp only [aj hk,at_]; rw [aP hk] at h⊢; exact h
      · simp only [am hk,at_]
        rw [ay (by omega)] at h⊢;rw [show k+1 - Fm.length=(k - Fm.length)+1 by omega,cM]; exact h
    | .inr x,h=>exact h) (fun k k' e1 e2 h1 h2 he=>by
    match k,k' with
    | .inl 0,.inl 0=>rfl
    | .inl 0,.inl (j+1)=>simp only at he; split at he <;> (simp at he; try omega)
    | .inl (i+1),.inl 0=>simp only at he; split at he <;> (simp at he; try omega)
    | .inl (i+1),.inl (j+1)=>simp only at he; split at he <;> split at he <;> (simp at he; try omega) <;> (first | (subst he; rfl) | omega)
    | .inl 0,.inr x=>simp at he
    | .inr x,.inl 0=>simp at he
    | .inl (i+1),.inr x=>simp only at he; split at he <;> simp at he
    | .inr x,.inl (j+1)=>simp only at he; split at he <;> simp at he
    | .inr x,.inr y=>simpa using he),O.t0⟩
theorem Own.behind {c:Cx} {G:Gm} {Fm F:List En} {e:En} (O:Own c G (e :: (Fm++F))):Own c G (Fm++e :: F):=
  ⟨il.re O.m (fun k=>match k with | .inl k=>if k < Fm.length then .inl (k+1) else if k=Fm.length then .inl 0 else .inl k | .inr x=> .inr x) (fun k e' h=>by
    match k,h with
    | .inl k,h=>
      simp only [at_] at h;by_cases hk:k < Fm.length
      · simp only [aj hk,at_,cM]; rw [aP hk] at h⊢; exact h
      · by_cases hk2:k=Fm.length
        · subst hk2; simpa [at_] using h
        · simp only [am hk,am hk2,at_]
          rw [ay (by omega)] at h;rw [show k - Fm.length=(k - 1 - Fm.length)+1 by omega,cM] at h;rw [show k=(k - 1)+1 by omega,cM,ay (by omega)];exact h
    | .inr x,h=>exact h) (fun k k' e1 e2 h1 h2 he=>by
    match k,k' with
    | .inl i,.inl j=>
      simp only at he;split at he <;> split at he <;> (try split at he) <;> (try split at he) <;> (simp at he; try omega) <;> (first | (subst he; rfl) | (congr 1; omega) | omega)
    | .inl i,.inr x=>simp only at he; split at he <;> (try split at he) <;> simp at he
    | .inr x,.inl j=>simp only at he; split at he <;> (try split at he) <;> simp at he
    | .inr x,.inr y=>simpa using he),O.t0⟩
def Bod {σ:Type} (J:σ→Cx→List En→Prop):Prop:=
  ∀s c F,J s c F→∃G Fm,Own c G (Fm++F)∧∀c' F',c.le c'→Own c' G (Fm++F')→J s c' F'
theorem Bod.new {σ:Type} {J:σ→Cx→List En→Prop} (hJ:Bod J) {s:σ} {c:Cx} {F:List En} (h:J s c F):∃G Fx,Own c G Fx∧∀c' e,c.le c'→Own c' G (e :: Fx)→J s c' (e :: F):=by
  obtain ⟨G,Fm,O,k⟩:=hJ s c F h;exact ⟨G,_,O,fun c' e hc O'=>k c' _ hc O'.behind⟩
theorem Bod.op {σ:Type} {J:σ→Cx→List En→Prop} (hJ:Bod J) {s:σ} {c:Cx} {F:List En} {e:En} (h:J s c (e :: F)):∃G Fx,Own c G (e :: Fx)∧∀c' e',c.le c'→Own c' G (e' :: Fx)→J s c' (e' :: F):=by
  obtain ⟨G,Fm,O,k⟩:=hJ s c _ h;exact ⟨G,_,O.front,fun c' e' hc O'=>k c' _ hc O'.behind⟩
theorem Bod.drop {σ:Type} {J:σ→Cx→List En→Prop} (hJ:Bod J) {s:σ} {c:Cx} {F:List En} {e:En} (h:J s c (e :: F)):J s c F:=by
  obtain ⟨G,Fm,O,k⟩:=hJ s c _ h;exact k c _ (Cx.le.refl c) O.front.tail
abbrev JnW (c0:Cx) (q:Cx→List (Nat×Value)→Prop):(Nat→Value)→World→Prop:=fun e w=>∃c e0 l,w=c.w∧c0.lw c∧e=ups e0 l∧q c l
theorem jnW {c0:Cx} {q:Cx→List (Nat×Value)→Prop} {e:Nat→Value} {l:List (Nat×Value)} (c:Cx) (h:q c l) (k:c0.lw c) (u:l.map (fun x=>e x.1)=l.map (fun x=>x.2):=by kernel_rfl):JnW c0 q e c.w:=⟨c,e,l,rfl,k,us u,h⟩
def sS {σ:Type} (P:Program) (l:Nat) (J:σ→Cx→List En→Prop) (args:Array Value) (c:Cx) (F:List En) (s':σ) (b:Bool):Prop:=
  YieldAt (fen none) 0 P l args c.w fun x w'=>∃c',w'=c'.w∧c.lw c'∧x= .returned (.bool b)∧J s' c' F
theorem nL {α:Type} {R:Rp α} {c:Cx} {P:Program} {v:Value} {xs zs:List α} {T E:TypeId} {i j:Int} {k k' k2:IntKind} (hT:P.underlying T=some (.slice E)) (hE:(P.info? E).map (·.size)=some R.size) (h:Sl R c v xs) (hz:slc xs i j=some zs):
    ∃v',(∀w,(Instr.sliceAt T v (some (.int k i)) (some (.int k' j)) (some (.int k2 j))).run P w= .ok v' w)∧Sl R c v' zs:=by
  obtain ⟨h1,h2,h3,rfl⟩:=gX hz;obtain ⟨ti,hti,hsz⟩:=Option.map_eq_some_iff.1 hE;have hh:=h;obtain ⟨a,cap,rfl,h4,h5,h6⟩:=h;have hcut:=Sl.cut (l:=i.toNat) (h:=j.toNat) (m:=j.toNat) hh (by omega) (by omega) (by omega) (by omega);rw [show (j - i).toNat=j.toNat - i.toNat by omega];refine ⟨_,fun w=>?_,hcut⟩;have e1:0≤i∧i≤j:=⟨h1,h2⟩;have e2:0≤j∧j≤(cap:Int):=⟨by omega,by omega⟩;have e4:0≤j∧j≤j:=⟨by omega,oQ _⟩;have e3:((j.toNat:Nat):Int)=j:=by omega
  simp [Instr.sliceAt,aZ hT,Instr.slice,Instr.sliceBounds,Instr.sliceBound,asIntOf,e1,e2,e3,e4,sizeOf,typeInfo,hti,hsz]
theorem WR.sr {P:Program} {n:Nat} {df:List Deferred} {Q:List Deferred→Exit→(Nat→Value)→World→Prop} {e:Nat→Value} {w:World} {b:Code} {id:Nat} {l:List Oper}
    (h:WL P l.toArray ⟨n,df,none⟩ (ji (fun e w=>WR P n b Q df e w) (Q df)) l e w):WR P n ((Code.region id l.toArray false).seq b) Q df e w:=WR.seq (WR.of (W.region h))
theorem Cx.loop (c:Cx) (r:Loop):∃c':Cx,c'.w=(c.w.alloc (.deferred (some []))).alloc (.loop r)∧c.but (fun _=>False) c'∧Rec c' (c.w.heap.size+1) c.w.heap.size r:=by
  have hb:∀k,k < c.w.heap.size→((c.w.alloc (.deferred (some []))).alloc (.loop r)).heap[k]? = c.w.heap[k]? :=fun k hk=>
    (bW _ _ _ (by simp; omega)).trans (bW _ _ _ hk)
  refine ⟨⟨(c.w.alloc (.deferred (some []))).alloc (.loop r),fun k o=>k < c.w.heap.size∧c.A k o,c.t⟩,rfl,⟨⟨rfl,rfl,by simp; omega,fun k o hk hA=>⟨fw (w:=c.w) (a:=⟨k,o,none⟩) (hb k hk),fun h=>hA h.2⟩,fun k hk _=>hb k hk,fun a ha _=>?_,fun _ _ _ h=>h⟩,rfl,fun k hk _=>⟨hb k hk,fun o=>⟨fun h=>h.2,fun h=>⟨hk,h⟩⟩⟩⟩,?_,?_,?_,?_⟩
  · unfold World.frozen?
    rw [hb _ ha]
  · have:=World.alloc_heap_new (c.w.alloc (.deferred (some []))) (.loop r)
    rwa [World.size_alloc] at this
  · intro o h; omega
  · exact (bW _ _ _ (by simp)).trans (World.alloc_heap_new c.w _)
  · intro o h; omega
theorem Cx.le.turn {cb c:Cx} (h:cb.le c) {l:Nat} {o o':Obj} (hl:cb.w.heap.size≤l) (hc:c.w.heap[l]? = some o) (ho:isC o=false) (ho':isC o'=false):cb.le (c.turn l o'):=by
  have k:=h.lw.trans (Cx.turn_lw hc ho ho');refine ⟨k.os,k.output,k.size,k.cell,fun i hi hA=>?_,k.frz,k.t⟩;exact (World.putObj_heap_other (by omega)).trans (h.block i hi hA)
theorem Rec.turn {c:Cx} {l D:Nat} {r:Loop} (h:Rec c l D r) (r':Loop):Rec (c.turn l (.loop r')) l D r':=by
  have hlt:=(Array.getElem?_eq_some_iff.1 h.rc).1;have hne:D≠l:=fun e=>by
    have h1:=h.rc;rw [←e,h.def_] at h1;cases h1
  exact ⟨World.putObj_heap_same hlt,h.nl,(World.putObj_heap_other hne).trans h.def_,h.nD⟩
theorem rZ {P:Program} {fn:Func} {n:Nat} {R:Ending→World→Prop} {c:Cx} {e:Nat→Value} {D t:Nat} {v:Value} (hD:c.w.heap[D]? = some (.deferred (some []))) (h:R (.returned v) (c.turn D (.deferred none)).w)
    (hr:fn.results= #[.tmp t]:=by rfl) (hv:ev n e (.tmp t)=v:=by kernel_rfl):qt P fn n R [mark D] .ret e c.w:=by
  refine qh hD (results_tmp hr _ _ _) ?_;rw [et];show R (.returned (ev n e (.tmp t))) _;rw [hv];exact h
section
variable {P:Program} {α:Type} {R:Rp α} {c:Cx} {G:Gm} {F:List En}
end
end Go.Lt
namespace Go.Proofs.YtclmdpamofdoiaaGreatDoor
open Go Go.Lt
set_option maxRecDepth 10000
set_option linter.unusedVariables false
attribute [local irreducible] W WL AC
open Tryz
variable {c0:Cx} {G:Gm} {F:List En} {sg:Sto} {v1 v2 v3 v4 v5 v6 v7 v8 v9 v10 v11 v12 v13 v14 v15 v16 v17 v18 v19 v20 v21 v22 v23 v24 v25 v26 v27 v28 v29 v30 v31 v32 v33 v34 v35 v36 v37 v38 v39 v40 v41 v42 v43 v44 v45 v46 v47 v48 v49 v50 v51 v52 v53 v54 v55 v56 v57 v58 v59 v60:Value}
def bU (p0:bR) (p1:Int) (p2:bv):Option (Bool):=
 (kh p2).bind fun d=>
 if (d==2)=true then
 some true
 else
 if (!p0.some)=true then
 some false
 else
 (bS (p1==65039) (some p0.pict)).bind fun a=>
 (orE a (some p2.Pict)).bind fun b=>
 (orE b (some (p2.Break==6))).bind fun c=>
 some c
theorem eL {b:Nat} (d:bR) (o:Int) (a:bv) (S:Own c0 G ((Eb b 265 [B d.some,B d.pict,B d.wide]) :: F)) {r:Bool} (H:bU d o a=some r): Calls prog 265 #[Q b,J o,.agg #[I a.Break,B a.Pict,I a.Conj,I a.East]] c0.w (aI c0 fun c v=>Own c G ((Eb b 265 [B d.some,B d.pict,B d.wide]) :: F)∧v=B r):=by
 unfold bU at H;refine en func265 rfl rfl (sr (me (bx 238 [I a.Break,B a.Pict,I a.Conj,I a.East] S) ?_));rintro v5 c4 l4 ⟨p,rfl,T,n⟩;refine va (B false) (wln (W.seq (W.block (sr (vx (lN 238 n) (bn H fun u Z H=>cl (oz T a Z) ?_))))));rintro v12 e b0 ⟨f,rfl⟩;refine vv (B (u==2)) (wln (cn H (fun P H=>?_) (fun P H=>?_)))
 ·refine sr (va (B true) (wln (W.ret (bkr (thr ?_)))));obtain rfl:=si H;exact r1 (qq e ⟨f,rfl⟩)
 refine sr (vv (Q b) (va (Q b) (vx (le1 0 u_4 (f.on 0 rfl)) (vv (B (!d.some)) (wln (cn H (fun R H=>?_) (fun R H=>?_)))))))
 ·refine sr (va (B false) (wln (W.ret (bkr (thr ?_)))));obtain rfl:=si H;exact r1 (qq e ⟨f,rfl⟩)
 refine W.skip (bkn (nrm (W.seq (bn H fun U q H=>bn H fun X m H=>bn H fun x g H=>W.join (Jn e fun c l=>Own c G ((Eb b 265 [B d.some,B d.pict,B d.wide]) :: F)∧l= [(6,B x)]) ?_ ?_))))
 ·clear H;refine W.region (va (J o) (va (B (o==65039)) ?_));rcases bo (o==65039) with h | h
  ·have y:=anT h q;refine vb h (wa (Q b) (wa (Q b) (wa (Qo b 1) (wn (vx (le1 1 u_4 (f.on 0 rfl)) ?_)))));obtain rfl:=si y;refine va (B d.pict) ?_;rcases bo (d.pict) with i | i
   ·obtain rfl:=orT i m;refine vb i (pz (va (B true) ?_));have s:true=true:=rfl;obtain rfl:=orT s g;exact vb s (pz (ps (vv (B true) (wln (jn e ⟨f,rfl⟩)))))
   have z:=orF i m;refine vb i (wa (Qo p (0+1)) (wn (vx (l1 u_4 ((mm n) 1 _ rfl)) ?_)));obtain rfl:=si z;refine va (B a.Pict) ?_;rcases bo (a.Pict) with j | j
   ·obtain rfl:=orT j g;exact vb j (pz (ps (vv (B true) (wln (jn e ⟨f,rfl⟩)))))
   have A:=orF j g;refine vb j (wa (Q p) (wn (vx (l1 u_3 ((mm n) 0 _ rfl)) (wa (B (a.Break==6)) ?_))));obtain rfl:=si A;exact vv (B (a.Break==6)) (wln (jn e ⟨f,rfl⟩))
  obtain rfl:=anF h q;refine vb h (pz (pz (va (B false) ?_)));have t:false=false:=rfl;have D:=orF t m;refine vb t (wa (Qo p (0+1)) (wn (vx (l1 u_4 ((mm n) 1 _ rfl)) ?_)));obtain rfl:=si D;refine va (B a.Pict) ?_;rcases bo (a.Pict) with k | k
  ·obtain rfl:=orT k g;exact vb k (pz (ps (vv (B true) (wln (jn e ⟨f,rfl⟩)))))
  have E:=orF k g;refine vb k (wa (Q p) (wn (vx (l1 u_3 ((mm n) 0 _ rfl)) (wa (B (a.Break==6)) ?_))));obtain rfl:=si E;exact vv (B (a.Break==6)) (wln (jn e ⟨f,rfl⟩))
 rintro e_ w_ ⟨N,a0,_,rfl,d0,rfl,M,rfl⟩;refine nrm (W.ret ?_);obtain rfl:=si H;exact r1 (qq N ⟨M,rfl⟩)
def cc (p0:bR) (p1:Int) (p2:bv):Option (bR×Int):=
 if false=true then
 some (p0,1)
 else
 (orE p0.wide ((bU p0 p1 p2).bind fun b=>
 some b)).bind fun a=>
 if a=true then
 some ((⟨true,p2.Pict,a⟩:bR),2)
 else
 some ((⟨true,p2.Pict,a⟩:bR),1)
theorem eS {a:Nat} (b:bR) (k:Int) (d:bv) (T:Own c0 G ((Eb a 265 [B b.some,B b.pict,B b.wide]) :: F)) {r:bR×Int} (H:cc b k d=some r): Calls prog 215 #[Q a,J k,.agg #[I d.Break,B d.Pict,I d.Conj,I d.East]] c0.w (aI c0 fun c v=>Own c G ((Eb a 265 [B r.1.some,B r.1.pict,B r.1.wide]) :: F)∧v=I r.2):=by
 unfold cc at H;refine en func215 rfl rfl (sr (me (bx 238 [I d.Break,B d.Pict,I d.Conj,I d.East] T) ?_));rintro v5 X l4 ⟨x,rfl,m,P⟩;refine va (I 0) (wln (W.seq (sr (va (Q a) (va (B false) (wln (W.cond (t:=false) (by kernel_rfl) (fun n=>?_) (fun n=>?_))))))))
 ·cases n
 have H:=ie n H;refine W.skip (nrm (W.seq (bn H fun e N H=>W.join (Jn X fun c l=>Own c G ((Eb a 265 [B b.some,B b.pict,B e]) :: F)∧l= [(0,Q a),(5,Q x)]) ?_ ?_)))
 ·clear H;refine W.region (vv (Q a) (va (Q a) (va (Qo a 2) (vx (le1 2 u_4 (m.on 0 rfl)) ?_))));rcases bo (b.wide) with j | j
  ·obtain rfl:=orT j N;refine vb j (pz (pz (va (B true) (va (Q a) (va (Qo a 2) (md (sC 4 2 (B true) [B b.some,B b.pict,B true] 0 m ⟨rfl,trivial⟩) ?_))))));rintro y e0 U;exact wln (jn y ⟨U,rfl⟩)
  have g:=orF j N;refine vb j (wa (Q a) (wa (J k) (wn (vx (lN 238 P) (wn (bn g fun f E g=>cl (eL b k d m E) ?_))))));rintro v19 Z f0 ⟨o,rfl⟩;obtain rfl:=si g;refine va (B f) (va (Q a) (va (Qo a 2) (md (sC 4 2 (B f) [B b.some,B b.pict,B f] 0 o ⟨rfl,trivial⟩) ?_)));rintro z g0 p;exact wln (jn z ⟨p,rfl⟩)
 rintro e_ w_ ⟨a0,b0,_,rfl,h0,rfl,q,rfl⟩;refine nrm (W.seq (rD [] (Kp G0 []) q ?_));intro A i0 s;have l0:Kp G0 [] A:=Kp.nil0;refine ta 0 (Q a) (ta 1 (Q a) (ta 2 (Qo x (0+1)) (tx 3 (fun c' d0=>l1 u_4 ((mm P) 1 _ rfl)) (ta 4 (Q a) (ta 5 (Q a) (o1 6 (gD 6 (sC 4 0 (B true) [B true,B b.pict,B e] 0 s ⟨rfl,trivial⟩) ?_)))))));rintro D j0 u;have R:Kp G0 [] D:=Kp.nil0;refine ⟨.inr R,ta 7 (Q a) (ta 8 (Qo a 1) (o1 9 (gD 9 (sC 4 1 (B d.Pict) [B true,B d.Pict,B e] 0 u ⟨rfl,trivial⟩) ?_)))⟩;rintro i k0 h;have S:Kp G0 [] i:=Kp.nil0;refine ⟨.inr S,dn (nrm (W.seq (sr (vv (Q a) (va (Qo a 2) (vx (le1 2 u_4 (h.on 0 rfl)) (wln (cn H (fun M H=>?_) (fun M H=>?_)))))))))⟩
 ·refine sr (va (I 2) (wln (W.ret (thr ?_))));obtain rfl:=si H;exact r1 (qq i ⟨h,rfl⟩)
 refine W.skip (nrm (sr (va (I 1) (wln (W.ret ?_)))));obtain rfl:=si H;exact r1 (qq i ⟨h,rfl⟩)
def jr (p0:List Int):Option (Int):=
 (cw (σ:=Int×Int×Bool×Bool×Bool) (τ:=(Int×Bool×Bool×Bool)) (((p0.length:Int) - 0).toNat+1) (fun a=>
 if (decide (a.2.1 < (p0.length:Int)))=true then
 (idx p0 a.2.1).bind fun c=>
 (kG c).bind fun e=>
 (cc (⟨a.2.2.1,a.2.2.2.1,a.2.2.2.2⟩:bR) c e).bind fun b=>
 some (.inl (b.2,(w64 (a.2.1+1)),b.1.some,b.1.pict,b.1.wide))
 else
 some (.inr (a.1,a.2.2.1,a.2.2.2.1,a.2.2.2.2))) (1,0,false,false,false)).bind fun d=>
 some d.1
theorem od (T:Own c0 G F) (g:List Int) {r:Int} (n:Sl (RI .i32) c0 v1 g) (H:jr g=some r): Calls prog 153 #[v1] c0.w (aI c0 fun c v=>Own c G (F)∧v=I r):=by
 unfold jr at H;refine en func153 rfl rfl (sr (va (I 0) (wln (sr (me (al 265 [B false,B false,B false] T) ?_)))));rintro v6 k l5 ⟨j,rfl,U⟩;refine wln (sr (va (I 1) (wln (W.seq (sr (va (v1) (vx (ln 3 cj n.m) (va (I 0) (wln (W.block (bn H fun f P q=>lp P (fun a=>Jn k fun c l=>Own c G ((Eb j 265 [B a.2.2.1,B a.2.2.2.1,B a.2.2.2.2]) :: F)∧l= [(3,Q j),(4,I a.1),(7,v1),(8,I (g.length:Int)),(9,I a.2.1)]) (fun b ex e w=>ex= .exit 0∧(Jn k fun c l=>Own c G ((Eb j 265 [B b.2.1,B b.2.2.1,B b.2.2.2]) :: F)∧l= [(4,I b.1)]) e w) ?_ ?_ ?_)))))))))))
 ·clear q P;intro a l0 A S H;revert A S;rintro Z w_ ⟨X,g0,_,rfl,l9,rfl,h,rfl⟩;refine sr (va (B (decide (a.2.1 < (g.length:Int)))) (wln (W.seq (cn H (fun D H=>?_) (fun D H=>?_)))))
  ·refine W.skip (nrm (W.seq (W.block (sr (bn H fun d i H=>?_)))));obtain ⟨d0,E,R⟩:=Sl.at (n.mono (l5.trans l9)) (aW i);obtain rfl:=E;refine vx (ix cj n.m i) (vx (l1 gW (R 0 _ rfl)) (va (J d) (wln (W.region (vv (J d) (bn H fun o M H=>cl (nU h d M) ?_))))));rintro v26 f0 i0 ⟨s,rfl⟩;refine bn H fun p N H=>cl (eS (⟨a.2.2.1,a.2.2.2.1,a.2.2.2.2⟩:bR) d o s N) ?_;rintro v34 y j0 ⟨t,rfl⟩;refine va (I p.2) (WL.nil (bkn (nrm (W.region (vv (I (w64 (a.2.1+1))) (WL.nil ?_))))));obtain rfl:=si H;exact ⟨_,rfl,jn y ⟨t,rfl⟩⟩
  refine W.exit (thx ?_);obtain rfl:=si H;exact ⟨_,rfl,rfl,jn X ⟨h,rfl⟩⟩
 ·exact jn k ⟨U,rfl⟩
 rintro _ Z w_ ⟨rfl,z,h0,_,rfl,k0,rfl,u,rfl⟩;refine bke (nrm (sr (vv (I f.1) (wln (W.ret ?_)))));obtain rfl:=si q;have x:=u.sD 1 [];exact r1 (qq z ⟨x,rfl⟩)
def bL (p0:aO):Option (Int):=
 if false=true then
 some 0
 else
 some p0.n
theorem eA {b:Nat} (a:aO) (e:Own c0 G ((Eb b 291 [J a.text.1,J a.text.2.1,J a.text.2.2.1,J a.text.2.2.2.1,J a.text.2.2.2.2.1,J a.text.2.2.2.2.2.1,J a.text.2.2.2.2.2.2.1,J a.text.2.2.2.2.2.2.2.1,J a.text.2.2.2.2.2.2.2.2.1,J a.text.2.2.2.2.2.2.2.2.2.1,J a.text.2.2.2.2.2.2.2.2.2.2.1,J a.text.2.2.2.2.2.2.2.2.2.2.2.1,J a.text.2.2.2.2.2.2.2.2.2.2.2.2.1,J a.text.2.2.2.2.2.2.2.2.2.2.2.2.2.1,J a.text.2.2.2.2.2.2.2.2.2.2.2.2.2.2.1,J a.text.2.2.2.2.2.2.2.2.2.2.2.2.2.2.2,I a.n]) :: F)) {r:Int} (H:bL a=some r): Calls prog 318 #[Q b] c0.w (aI c0 fun c v=>Own c G ((Eb b 291 [J a.text.1,J a.text.2.1,J a.text.2.2.1,J a.text.2.2.2.1,J a.text.2.2.2.2.1,J a.text.2.2.2.2.2.1,J a.text.2.2.2.2.2.2.1,J a.text.2.2.2.2.2.2.2.1,J a.text.2.2.2.2.2.2.2.2.1,J a.text.2.2.2.2.2.2.2.2.2.1,J a.text.2.2.2.2.2.2.2.2.2.2.1,J a.text.2.2.2.2.2.2.2.2.2.2.2.1,J a.text.2.2.2.2.2.2.2.2.2.2.2.2.1,J a.text.2.2.2.2.2.2.2.2.2.2.2.2.2.1,J a.text.2.2.2.2.2.2.2.2.2.2.2.2.2.2.1,J a.text.2.2.2.2.2.2.2.2.2.2.2.2.2.2.2,I a.n]) :: F)∧v=I r):=by
 unfold bL at H;refine en func318 rfl rfl (sr (va (I 0) (wln (W.seq (sr (va (Q b) (va (B false) (wln (W.cond (t:=false) (by kernel_rfl) (fun d=>?_) (fun d=>?_))))))))))
 ·cases d
 have H:=ie d H;refine W.skip (nrm (sr (vv (Q b) (va (Qo b 16) (vx (le1 16 u_3 (e.on 0 rfl)) (va (I a.n) (wln (W.ret ?_))))))));obtain rfl:=si H;exact r1 (qq c0 ⟨e,rfl⟩)
def bI (p0:aO):Option (Bool):=
 (bL p0).bind fun a=>
 some (a==16)
theorem em {b:Nat} (a:aO) (e:Own c0 G ((Eb b 291 [J a.text.1,J a.text.2.1,J a.text.2.2.1,J a.text.2.2.2.1,J a.text.2.2.2.2.1,J a.text.2.2.2.2.2.1,J a.text.2.2.2.2.2.2.1,J a.text.2.2.2.2.2.2.2.1,J a.text.2.2.2.2.2.2.2.2.1,J a.text.2.2.2.2.2.2.2.2.2.1,J a.text.2.2.2.2.2.2.2.2.2.2.1,J a.text.2.2.2.2.2.2.2.2.2.2.2.1,J a.text.2.2.2.2.2.2.2.2.2.2.2.2.1,J a.text.2.2.2.2.2.2.2.2.2.2.2.2.2.1,J a.text.2.2.2.2.2.2.2.2.2.2.2.2.2.2.1,J a.text.2.2.2.2.2.2.2.2.2.2.2.2.2.2.2,I a.n]) :: F)) {r:Bool} (H:bI a=some r): Calls prog 306 #[Q b] c0.w (aI c0 fun c v=>Own c G ((Eb b 291 [J a.text.1,J a.text.2.1,J a.text.2.2.1,J a.text.2.2.2.1,J a.text.2.2.2.2.1,J a.text.2.2.2.2.2.1,J a.text.2.2.2.2.2.2.1,J a.text.2.2.2.2.2.2.2.1,J a.text.2.2.2.2.2.2.2.2.1,J a.text.2.2.2.2.2.2.2.2.2.1,J a.text.2.2.2.2.2.2.2.2.2.2.1,J a.text.2.2.2.2.2.2.2.2.2.2.2.1,J a.text.2.2.2.2.2.2.2.2.2.2.2.2.1,J a.text.2.2.2.2.2.2.2.2.2.2.2.2.2.1,J a.text.2.2.2.2.2.2.2.2.2.2.2.2.2.2.1,J a.text.2.2.2.2.2.2.2.2.2.2.2.2.2.2.2,I a.n]) :: F)∧v=B r):=by
 unfold bI at H;refine en func306 rfl rfl (sr (va (B false) (wln (sr (va (Q b) (bn H fun d h H=>cl (eA a e h) ?_))))));rintro v8 g i ⟨f,rfl⟩;refine vv (B (d==16)) (wln (W.ret ?_));obtain rfl:=si H;exact r1 (qq g ⟨f,rfl⟩)
def bM (p0:aO) (p1:Int):Option (aO×Bool):=
 (orE false ((bI p0).bind fun c=>
 some c)).bind fun b=>
 if b=true then
 some (p0,false)
 else
 (idx (a16 p0.text) p0.n).bind fun d=>
 (some (oA p0.text p0.n p1)).bind fun a=>
 some ((⟨a,(w64 (p0.n+1))⟩:aO),true)
theorem eB {d:Nat} (a:aO) (f:Int) (M:Own c0 G ((Eb d 291 [J a.text.1,J a.text.2.1,J a.text.2.2.1,J a.text.2.2.2.1,J a.text.2.2.2.2.1,J a.text.2.2.2.2.2.1,J a.text.2.2.2.2.2.2.1,J a.text.2.2.2.2.2.2.2.1,J a.text.2.2.2.2.2.2.2.2.1,J a.text.2.2.2.2.2.2.2.2.2.1,J a.text.2.2.2.2.2.2.2.2.2.2.1,J a.text.2.2.2.2.2.2.2.2.2.2.2.1,J a.text.2.2.2.2.2.2.2.2.2.2.2.2.1,J a.text.2.2.2.2.2.2.2.2.2.2.2.2.2.1,J a.text.2.2.2.2.2.2.2.2.2.2.2.2.2.2.1,J a.text.2.2.2.2.2.2.2.2.2.2.2.2.2.2.2,I a.n]) :: F)) {r:aO×Bool} (H:bM a f=some r): Calls prog 280 #[Q d,J f] c0.w (aI c0 fun c v=>Own c G ((Eb d 291 [J r.1.text.1,J r.1.text.2.1,J r.1.text.2.2.1,J r.1.text.2.2.2.1,J r.1.text.2.2.2.2.1,J r.1.text.2.2.2.2.2.1,J r.1.text.2.2.2.2.2.2.1,J r.1.text.2.2.2.2.2.2.2.1,J r.1.text.2.2.2.2.2.2.2.2.1,J r.1.text.2.2.2.2.2.2.2.2.2.1,J r.1.text.2.2.2.2.2.2.2.2.2.2.1,J r.1.text.2.2.2.2.2.2.2.2.2.2.2.1,J r.1.text.2.2.2.2.2.2.2.2.2.2.2.2.1,J r.1.text.2.2.2.2.2.2.2.2.2.2.2.2.2.1,J r.1.text.2.2.2.2.2.2.2.2.2.2.2.2.2.2.1,J r.1.text.2.2.2.2.2.2.2.2.2.2.2.2.2.2.2,I r.1.n]) :: F)∧v=B r.2):=by
 unfold bM at H;refine en func280 rfl rfl (sr (va (B false) (wln (W.seq (W.seq (bn H fun u R H=>W.join (Jn c0 fun c l=>Own c G ((Eb d 291 [J a.text.1,J a.text.2.1,J a.text.2.2.1,J a.text.2.2.2.1,J a.text.2.2.2.2.1,J a.text.2.2.2.2.2.1,J a.text.2.2.2.2.2.2.1,J a.text.2.2.2.2.2.2.2.1,J a.text.2.2.2.2.2.2.2.2.1,J a.text.2.2.2.2.2.2.2.2.2.1,J a.text.2.2.2.2.2.2.2.2.2.2.1,J a.text.2.2.2.2.2.2.2.2.2.2.2.1,J a.text.2.2.2.2.2.2.2.2.2.2.2.2.1,J a.text.2.2.2.2.2.2.2.2.2.2.2.2.2.1,J a.text.2.2.2.2.2.2.2.2.2.2.2.2.2.2.1,J a.text.2.2.2.2.2.2.2.2.2.2.2.2.2.2.2,I a.n]) :: F)∧l= [(0,Q d),(1,J f),(10,B u)]) ?_ ?_))))))
 ·clear H;refine W.region (va (Q d) (va (B false) ?_));have y:false=false:=rfl;have m:=orF y R;refine vb y (wa (Q d) (wn (bn m fun E S m=>cl (em a M S) ?_)));rintro v11 p b0 ⟨N,rfl⟩;obtain rfl:=si m;exact va (B E) (wln (jn p ⟨N,rfl⟩))
 rintro e_ w_ ⟨q,a0,_,rfl,d0,rfl,g,rfl⟩;refine nrm (cn H (fun x H=>?_) (fun x H=>?_))
 ·refine sr (va (B false) (wln (W.ret (thr ?_))));obtain rfl:=si H;exact r1 (qq q ⟨g,rfl⟩)
 refine W.skip (nrm (W.seq (rD [9] (Kp G0 [(Eb d 291 [J a.text.1,J a.text.2.1,J a.text.2.2.1,J a.text.2.2.2.1,J a.text.2.2.2.2.1,J a.text.2.2.2.2.2.1,J a.text.2.2.2.2.2.2.1,J a.text.2.2.2.2.2.2.2.1,J a.text.2.2.2.2.2.2.2.2.1,J a.text.2.2.2.2.2.2.2.2.2.1,J a.text.2.2.2.2.2.2.2.2.2.2.1,J a.text.2.2.2.2.2.2.2.2.2.2.2.1,J a.text.2.2.2.2.2.2.2.2.2.2.2.2.1,J a.text.2.2.2.2.2.2.2.2.2.2.2.2.2.1,J a.text.2.2.2.2.2.2.2.2.2.2.2.2.2.2.1,J a.text.2.2.2.2.2.2.2.2.2.2.2.2.2.2.2,I a.n])]) g ?_)));intro s e0 h;have D:Kp G0 [(Eb d 291 [J a.text.1,J a.text.2.1,J a.text.2.2.1,J a.text.2.2.2.1,J a.text.2.2.2.2.1,J a.text.2.2.2.2.2.1,J a.text.2.2.2.2.2.2.1,J a.text.2.2.2.2.2.2.2.1,J a.text.2.2.2.2.2.2.2.2.1,J a.text.2.2.2.2.2.2.2.2.2.1,J a.text.2.2.2.2.2.2.2.2.2.2.1,J a.text.2.2.2.2.2.2.2.2.2.2.2.1,J a.text.2.2.2.2.2.2.2.2.2.2.2.2.1,J a.text.2.2.2.2.2.2.2.2.2.2.2.2.2.1,J a.text.2.2.2.2.2.2.2.2.2.2.2.2.2.2.1,J a.text.2.2.2.2.2.2.2.2.2.2.2.2.2.2.2,I a.n])] s:=(Kp.cons (h.on 0 rfl) Kp.nil0);refine ta 0 (Q d) (ta 1 (Q d) (ta 2 (Q d) (ta 3 (Qo d 16) (tkx 4 D (fun P A U=>le1 16 u_3 (U.on 0 rfl)) (ta 5 (J f) (ta 6 (Q d) (ta 7 (Q d) (bn H fun X e H=>AC.take 8 (.pointer (some ⟨d,0+a.n.toNat * 1,none⟩)) rfl (by kernel_rfl) (by kernel_rfl) (fun P A=>(rx (by kernel_rfl) (ou (k:= .i64) underlying289 (by kernel_rfl) (kU e).1 (kU e).2 _))) (bn H fun b z H=>o1 9 (gD 9 (Own.st (T:=21) (j:=0+a.n.toNat * 1) (us:=[J f]) (nw:=[J b.1,J b.2.1,J b.2.2.1,J b.2.2.2.1,J b.2.2.2.2.1,J b.2.2.2.2.2.1,J b.2.2.2.2.2.2.1,J b.2.2.2.2.2.2.2.1,J b.2.2.2.2.2.2.2.2.1,J b.2.2.2.2.2.2.2.2.2.1,J b.2.2.2.2.2.2.2.2.2.2.1,J b.2.2.2.2.2.2.2.2.2.2.2.1,J b.2.2.2.2.2.2.2.2.2.2.2.2.1,J b.2.2.2.2.2.2.2.2.2.2.2.2.2.1,J b.2.2.2.2.2.2.2.2.2.2.2.2.2.2.1,J b.2.2.2.2.2.2.2.2.2.2.2.2.2.2.2,I a.n]) (v:=J f) 0 h (by kernel_rfl) rfl rfl rfl rfl (by kernel_rfl) ⟨rfl,trivial⟩ (sn e (bf rfl)) (rY (k:= .i32) e z [] [I a.n])) ?_))))))))));rintro Z f0 i;refine ⟨.inl rfl,dn (nrm (sr (vv (Q d) (va (Qo d 16) (vx (le1 16 u_3 (i.on 0 rfl)) (va (I (w64 (a.n+1))) (va (Q d) (va (Qo d 16) (md (sC 3 16 (I (w64 (a.n+1))) [J b.1,J b.2.1,J b.2.2.1,J b.2.2.2.1,J b.2.2.2.2.1,J b.2.2.2.2.2.1,J b.2.2.2.2.2.2.1,J b.2.2.2.2.2.2.2.1,J b.2.2.2.2.2.2.2.2.1,J b.2.2.2.2.2.2.2.2.2.1,J b.2.2.2.2.2.2.2.2.2.2.1,J b.2.2.2.2.2.2.2.2.2.2.2.1,J b.2.2.2.2.2.2.2.2.2.2.2.2.1,J b.2.2.2.2.2.2.2.2.2.2.2.2.2.1,J b.2.2.2.2.2.2.2.2.2.2.2.2.2.2.1,J b.2.2.2.2.2.2.2.2.2.2.2.2.2.2.2,I (w64 (a.n+1))] 0 i ⟨rfl,trivial⟩) ?_)))))))))⟩;rintro t g0 o;refine wln (sr (va (B true) (wln (W.ret ?_))));obtain rfl:=si H;exact r1 (qq t ⟨o,rfl⟩)
def iO (p0:List Int):Option (aO):=
 (cw (σ:=Int×Int×Int×Int×Int×Int×Int×Int×Int×Int×Int×Int×Int×Int×Int×Int×Int×Int) (τ:=(Int×Int×Int×Int×Int×Int×Int×Int×Int×Int×Int×Int×Int×Int×Int×Int×Int)) (((p0.length:Int) - 0).toNat+1) (fun b=>
 if (decide (b.1 < (p0.length:Int)))=true then
 (idx p0 b.1).bind fun d=>
 (bM (⟨(b.2.1,b.2.2.1,b.2.2.2.1,b.2.2.2.2.1,b.2.2.2.2.2.1,b.2.2.2.2.2.2.1,b.2.2.2.2.2.2.2.1,b.2.2.2.2.2.2.2.2.1,b.2.2.2.2.2.2.2.2.2.1,b.2.2.2.2.2.2.2.2.2.2.1,b.2.2.2.2.2.2.2.2.2.2.2.1,b.2.2.2.2.2.2.2.2.2.2.2.2.1,b.2.2.2.2.2.2.2.2.2.2.2.2.2.1,b.2.2.2.2.2.2.2.2.2.2.2.2.2.2.1,b.2.2.2.2.2.2.2.2.2.2.2.2.2.2.2.1,b.2.2.2.2.2.2.2.2.2.2.2.2.2.2.2.2.1),b.2.2.2.2.2.2.2.2.2.2.2.2.2.2.2.2.2⟩:aO) d).bind fun a=>
 if (!a.2)=true then
 some (.inr (a.1.text.1,a.1.text.2.1,a.1.text.2.2.1,a.1.text.2.2.2.1,a.1.text.2.2.2.2.1,a.1.text.2.2.2.2.2.1,a.1.text.2.2.2.2.2.2.1,a.1.text.2.2.2.2.2.2.2.1,a.1.text.2.2.2.2.2.2.2.2.1,a.1.text.2.2.2.2.2.2.2.2.2.1,a.1.text.2.2.2.2.2.2.2.2.2.2.1,a.1.text.2.2.2.2.2.2.2.2.2.2.2.1,a.1.text.2.2.2.2.2.2.2.2.2.2.2.2.1,a.1.text.2.2.2.2.2.2.2.2.2.2.2.2.2.1,a.1.text.2.2.2.2.2.2.2.2.2.2.2.2.2.2.1,a.1.text.2.2.2.2.2.2.2.2.2.2.2.2.2.2.2,a.1.n))
 else
 some (.inl ((w64 (b.1+1)),a.1.text.1,a.1.text.2.1,a.1.text.2.2.1,a.1.text.2.2.2.1,a.1.text.2.2.2.2.1,a.1.text.2.2.2.2.2.1,a.1.text.2.2.2.2.2.2.1,a.1.text.2.2.2.2.2.2.2.1,a.1.text.2.2.2.2.2.2.2.2.1,a.1.text.2.2.2.2.2.2.2.2.2.1,a.1.text.2.2.2.2.2.2.2.2.2.2.1,a.1.text.2.2.2.2.2.2.2.2.2.2.2.1,a.1.text.2.2.2.2.2.2.2.2.2.2.2.2.1,a.1.text.2.2.2.2.2.2.2.2.2.2.2.2.2.1,a.1.text.2.2.2.2.2.2.2.2.2.2.2.2.2.2.1,a.1.text.2.2.2.2.2.2.2.2.2.2.2.2.2.2.2,a.1.n))
 else
 some (.inr (b.2.1,b.2.2.1,b.2.2.2.1,b.2.2.2.2.1,b.2.2.2.2.2.1,b.2.2.2.2.2.2.1,b.2.2.2.2.2.2.2.1,b.2.2.2.2.2.2.2.2.1,b.2.2.2.2.2.2.2.2.2.1,b.2.2.2.2.2.2.2.2.2.2.1,b.2.2.2.2.2.2.2.2.2.2.2.1,b.2.2.2.2.2.2.2.2.2.2.2.2.1,b.2.2.2.2.2.2.2.2.2.2.2.2.2.1,b.2.2.2.2.2.2.2.2.2.2.2.2.2.2.1,b.2.2.2.2.2.2.2.2.2.2.2.2.2.2.2.1,b.2.2.2.2.2.2.2.2.2.2.2.2.2.2.2.2.1,b.2.2.2.2.2.2.2.2.2.2.2.2.2.2.2.2.2))) (0,0,0,0,0,0,0,0,0,0,0,0,0,0,0,0,0,0)).bind fun c=>
 some (⟨(c.1,c.2.1,c.2.2.1,c.2.2.2.1,c.2.2.2.2.1,c.2.2.2.2.2.1,c.2.2.2.2.2.2.1,c.2.2.2.2.2.2.2.1,c.2.2.2.2.2.2.2.2.1,c.2.2.2.2.2.2.2.2.2.1,c.2.2.2.2.2.2.2.2.2.2.1,c.2.2.2.2.2.2.2.2.2.2.2.1,c.2.2.2.2.2.2.2.2.2.2.2.2.1,c.2.2.2.2.2.2.2.2.2.2.2.2.2.1,c.2.2.2.2.2.2.2.2.2.2.2.2.2.2.1,c.2.2.2.2.2.2.2.2.2.2.2.2.2.2.2.1),c.2.2.2.2.2.2.2.2.2.2.2.2.2.2.2.2⟩:aO)
theorem ny (Z:Own c0 G F) (i:List Int) {r:aO} (z:Sl (RI .i32) c0 v1 i) (H:iO i=some r): Calls prog 231 #[v1] c0.w (aI c0 fun c v=>Own c G (F)∧v= .agg #[J r.text.1,J r.text.2.1,J r.text.2.2.1,J r.text.2.2.2.1,J r.text.2.2.2.2.1,J r.text.2.2.2.2.2.1,J r.text.2.2.2.2.2.2.1,J r.text.2.2.2.2.2.2.2.1,J r.text.2.2.2.2.2.2.2.2.1,J r.text.2.2.2.2.2.2.2.2.2.1,J r.text.2.2.2.2.2.2.2.2.2.2.1,J r.text.2.2.2.2.2.2.2.2.2.2.2.1,J r.text.2.2.2.2.2.2.2.2.2.2.2.2.1,J r.text.2.2.2.2.2.2.2.2.2.2.2.2.2.1,J r.text.2.2.2.2.2.2.2.2.2.2.2.2.2.2.1,J r.text.2.2.2.2.2.2.2.2.2.2.2.2.2.2.2,I r.n]):=by
 unfold iO at H;refine en func231 rfl rfl (sr (me (al 291 [J 0,J 0,J 0,J 0,J 0,J 0,J 0,J 0,J 0,J 0,J 0,J 0,J 0,J 0,J 0,J 0,I 0] Z) ?_));rintro v6 c5 l5 ⟨g,rfl,O4⟩;refine wln (sr (me (al 291 [J 0,J 0,J 0,J 0,J 0,J 0,J 0,J 0,J 0,J 0,J 0,J 0,J 0,J 0,J 0,J 0,I 0] O4) ?_));rintro v10 y l9 ⟨h,rfl,O8⟩;refine wln (W.seq (sr (va (v1) (vx (ln 3 cj z.m) (va (I 0) (wln (W.block (bn H fun a u j=>lp u (fun b=>Jn y fun c l=>Own c G ((Eb h 291 [J b.2.1,J b.2.2.1,J b.2.2.2.1,J b.2.2.2.2.1,J b.2.2.2.2.2.1,J b.2.2.2.2.2.2.1,J b.2.2.2.2.2.2.2.1,J b.2.2.2.2.2.2.2.2.1,J b.2.2.2.2.2.2.2.2.2.1,J b.2.2.2.2.2.2.2.2.2.2.1,J b.2.2.2.2.2.2.2.2.2.2.2.1,J b.2.2.2.2.2.2.2.2.2.2.2.2.1,J b.2.2.2.2.2.2.2.2.2.2.2.2.2.1,J b.2.2.2.2.2.2.2.2.2.2.2.2.2.2.1,J b.2.2.2.2.2.2.2.2.2.2.2.2.2.2.2.1,J b.2.2.2.2.2.2.2.2.2.2.2.2.2.2.2.2.1,I b.2.2.2.2.2.2.2.2.2.2.2.2.2.2.2.2.2]) :: (Eb g 291 [J 0,J 0,J 0,J 0,J 0,J 0,J 0,J 0,J 0,J 0,J 0,J 0,J 0,J 0,J 0,J 0,I 0]) :: F)∧l= [(2,Q g),(3,Q h),(6,v1),(7,I (i.length:Int)),(8,I b.1)]) (fun d ex e w=>ex= .exit 0∧(Jn y fun c l=>Own c G ((Eb h 291 [J d.1,J d.2.1,J d.2.2.1,J d.2.2.2.1,J d.2.2.2.2.1,J d.2.2.2.2.2.1,J d.2.2.2.2.2.2.1,J d.2.2.2.2.2.2.2.1,J d.2.2.2.2.2.2.2.2.1,J d.2.2.2.2.2.2.2.2.2.1,J d.2.2.2.2.2.2.2.2.2.2.1,J d.2.2.2.2.2.2.2.2.2.2.2.1,J d.2.2.2.2.2.2.2.2.2.2.2.2.1,J d.2.2.2.2.2.2.2.2.2.2.2.2.2.1,J d.2.2.2.2.2.2.2.2.2.2.2.2.2.2.1,J d.2.2.2.2.2.2.2.2.2.2.2.2.2.2.2.1,I d.2.2.2.2.2.2.2.2.2.2.2.2.2.2.2.2]) :: (Eb g 291 [J 0,J 0,J 0,J 0,J 0,J 0,J 0,J 0,J 0,J 0,J 0,J 0,J 0,J 0,J 0,J 0,I 0]) :: F)∧l= [(2,Q g),(3,Q h)]) e w) ?_ ?_ ?_))))))))
 ·clear j u;intro b q0 M X H;revert M X;rintro e_ w_ ⟨E,j0,_,rfl,T,rfl,k,rfl⟩;refine sr (va (B (decide (b.1 < (i.length:Int)))) (wln (W.seq (cn H (fun N H=>?_) (fun N H=>?_)))))
  ·refine W.skip (nrm (W.seq (W.block (sr (bn H fun f x H=>?_)))));obtain ⟨g0,P,U⟩:=Sl.at (z.mono (l5.trans (l9.trans T))) (aW x);obtain rfl:=P;refine vx (ix cj z.m x) (vx (l1 gW (U 0 _ rfl)) (va (J f) (wln (sr (va (J f) (bn H fun A R H=>cl (eB (⟨(b.2.1,b.2.2.1,b.2.2.2.1,b.2.2.2.2.1,b.2.2.2.2.2.1,b.2.2.2.2.2.2.1,b.2.2.2.2.2.2.2.1,b.2.2.2.2.2.2.2.2.1,b.2.2.2.2.2.2.2.2.2.1,b.2.2.2.2.2.2.2.2.2.2.1,b.2.2.2.2.2.2.2.2.2.2.2.1,b.2.2.2.2.2.2.2.2.2.2.2.2.1,b.2.2.2.2.2.2.2.2.2.2.2.2.2.1,b.2.2.2.2.2.2.2.2.2.2.2.2.2.2.1,b.2.2.2.2.2.2.2.2.2.2.2.2.2.2.2.1,b.2.2.2.2.2.2.2.2.2.2.2.2.2.2.2.2.1),b.2.2.2.2.2.2.2.2.2.2.2.2.2.2.2.2.2⟩:aO) f k R) ?_))))));rintro v31 s l0 ⟨o,rfl⟩;refine va (B (!A.2)) (wln (cn H (fun S H=>?_) (fun S H=>?_)))
   ·refine W.exit (bko rfl (thx ?_));obtain rfl:=si H;exact ⟨_,rfl,rfl,jn s ⟨o,rfl⟩⟩
   refine W.skip (bkn (nrm (W.region (vv (I (w64 (b.1+1))) (WL.nil ?_)))));obtain rfl:=si H;exact ⟨_,rfl,jn s ⟨o,rfl⟩⟩
  refine W.exit (thx ?_);obtain rfl:=si H;exact ⟨_,rfl,rfl,jn E ⟨k,rfl⟩⟩
 ·exact jn y ⟨O8,rfl⟩
 rintro _ e_ w_ ⟨rfl,i0,k0,_,rfl,m0,rfl,p,rfl⟩;refine bke (nrm (sr (vx (leN 291 0 [J a.1,J a.2.1,J a.2.2.1,J a.2.2.2.1,J a.2.2.2.2.1,J a.2.2.2.2.2.1,J a.2.2.2.2.2.2.1,J a.2.2.2.2.2.2.2.1,J a.2.2.2.2.2.2.2.2.1,J a.2.2.2.2.2.2.2.2.2.1,J a.2.2.2.2.2.2.2.2.2.2.1,J a.2.2.2.2.2.2.2.2.2.2.2.1,J a.2.2.2.2.2.2.2.2.2.2.2.2.1,J a.2.2.2.2.2.2.2.2.2.2.2.2.2.1,J a.2.2.2.2.2.2.2.2.2.2.2.2.2.2.1,J a.2.2.2.2.2.2.2.2.2.2.2.2.2.2.2.1,I a.2.2.2.2.2.2.2.2.2.2.2.2.2.2.2.2] (p.on 0 rfl)) (md (sA 291 [J a.1,J a.2.1,J a.2.2.1,J a.2.2.2.1,J a.2.2.2.2.1,J a.2.2.2.2.2.1,J a.2.2.2.2.2.2.1,J a.2.2.2.2.2.2.2.1,J a.2.2.2.2.2.2.2.2.1,J a.2.2.2.2.2.2.2.2.2.1,J a.2.2.2.2.2.2.2.2.2.2.1,J a.2.2.2.2.2.2.2.2.2.2.2.1,J a.2.2.2.2.2.2.2.2.2.2.2.2.1,J a.2.2.2.2.2.2.2.2.2.2.2.2.2.1,J a.2.2.2.2.2.2.2.2.2.2.2.2.2.2.1,J a.2.2.2.2.2.2.2.2.2.2.2.2.2.2.2.1,I a.2.2.2.2.2.2.2.2.2.2.2.2.2.2.2.2] 1 p ⟨rfl,rfl,rfl,rfl,rfl,rfl,rfl,rfl,rfl,rfl,rfl,rfl,rfl,rfl,rfl,rfl,rfl,trivial⟩) ?_))));rintro t o0 q;refine wln (W.ret ?_);obtain rfl:=si j;have D:=q.sD 2 [];exact iD (c:=t) (vs:=[J a.1,J a.2.1,J a.2.2.1,J a.2.2.2.1,J a.2.2.2.2.1,J a.2.2.2.2.2.1,J a.2.2.2.2.2.2.1,J a.2.2.2.2.2.2.2.1,J a.2.2.2.2.2.2.2.2.1,J a.2.2.2.2.2.2.2.2.2.1,J a.2.2.2.2.2.2.2.2.2.2.1,J a.2.2.2.2.2.2.2.2.2.2.2.1,J a.2.2.2.2.2.2.2.2.2.2.2.2.1,J a.2.2.2.2.2.2.2.2.2.2.2.2.2.1,J a.2.2.2.2.2.2.2.2.2.2.2.2.2.2.1,J a.2.2.2.2.2.2.2.2.2.2.2.2.2.2.2.1,I a.2.2.2.2.2.2.2.2.2.2.2.2.2.2.2.2]) rfl (by kernel_rfl) (by kernel_rfl) (by kernel_rfl) (q.on 1 rfl _ rfl).1 ⟨_,t,rfl,rfl,pt,D,rfl⟩
def bH (p0:aO):Option (List Int):=
 if false=true then
 some ([]:List Int)
 else
 (slc (a16 p0.text) 0 p0.n).bind fun a=>
 (dQ a).bind fun b=>
 some b
theorem ek {b:Nat} (a:aO) (p:Own c0 G ((Eb b 291 [J a.text.1,J a.text.2.1,J a.text.2.2.1,J a.text.2.2.2.1,J a.text.2.2.2.2.1,J a.text.2.2.2.2.2.1,J a.text.2.2.2.2.2.2.1,J a.text.2.2.2.2.2.2.2.1,J a.text.2.2.2.2.2.2.2.2.1,J a.text.2.2.2.2.2.2.2.2.2.1,J a.text.2.2.2.2.2.2.2.2.2.2.1,J a.text.2.2.2.2.2.2.2.2.2.2.2.1,J a.text.2.2.2.2.2.2.2.2.2.2.2.2.1,J a.text.2.2.2.2.2.2.2.2.2.2.2.2.2.1,J a.text.2.2.2.2.2.2.2.2.2.2.2.2.2.2.1,J a.text.2.2.2.2.2.2.2.2.2.2.2.2.2.2.2,I a.n]) :: F)) {r:List Int} (H:bH a=some r): Calls prog 232 #[Q b] c0.w (aI c0 fun c v=>∃h o,Own c G (es true (RI .i32) h 21 o r :: (Eb b 291 [J a.text.1,J a.text.2.1,J a.text.2.2.1,J a.text.2.2.2.1,J a.text.2.2.2.2.1,J a.text.2.2.2.2.2.1,J a.text.2.2.2.2.2.2.1,J a.text.2.2.2.2.2.2.2.1,J a.text.2.2.2.2.2.2.2.2.1,J a.text.2.2.2.2.2.2.2.2.2.1,J a.text.2.2.2.2.2.2.2.2.2.2.1,J a.text.2.2.2.2.2.2.2.2.2.2.2.1,J a.text.2.2.2.2.2.2.2.2.2.2.2.2.1,J a.text.2.2.2.2.2.2.2.2.2.2.2.2.2.1,J a.text.2.2.2.2.2.2.2.2.2.2.2.2.2.2.1,J a.text.2.2.2.2.2.2.2.2.2.2.2.2.2.2.2,I a.n]) :: F)∧v=h∧OA (RI .i32) c h o r):=by
 unfold bH at H;refine en func232 rfl rfl (sr (va (Y) (wln (W.seq (sr (va (Q b) (va (B false) (wln (W.cond (t:=false) (by kernel_rfl) (fun g=>?_) (fun g=>?_))))))))))
 ·cases g
 have H:=ie g H;refine W.skip (nrm (W.seq (rD [] (Kp G0 [(Eb b 291 [J a.text.1,J a.text.2.1,J a.text.2.2.1,J a.text.2.2.2.1,J a.text.2.2.2.2.1,J a.text.2.2.2.2.2.1,J a.text.2.2.2.2.2.2.1,J a.text.2.2.2.2.2.2.2.1,J a.text.2.2.2.2.2.2.2.2.1,J a.text.2.2.2.2.2.2.2.2.2.1,J a.text.2.2.2.2.2.2.2.2.2.2.1,J a.text.2.2.2.2.2.2.2.2.2.2.2.1,J a.text.2.2.2.2.2.2.2.2.2.2.2.2.1,J a.text.2.2.2.2.2.2.2.2.2.2.2.2.2.1,J a.text.2.2.2.2.2.2.2.2.2.2.2.2.2.2.1,J a.text.2.2.2.2.2.2.2.2.2.2.2.2.2.2.2,I a.n])]) p ?_)));intro s M i;have y:Kp G0 [(Eb b 291 [J a.text.1,J a.text.2.1,J a.text.2.2.1,J a.text.2.2.2.1,J a.text.2.2.2.2.1,J a.text.2.2.2.2.2.1,J a.text.2.2.2.2.2.2.1,J a.text.2.2.2.2.2.2.2.1,J a.text.2.2.2.2.2.2.2.2.1,J a.text.2.2.2.2.2.2.2.2.2.1,J a.text.2.2.2.2.2.2.2.2.2.2.1,J a.text.2.2.2.2.2.2.2.2.2.2.2.1,J a.text.2.2.2.2.2.2.2.2.2.2.2.2.1,J a.text.2.2.2.2.2.2.2.2.2.2.2.2.2.1,J a.text.2.2.2.2.2.2.2.2.2.2.2.2.2.2.1,J a.text.2.2.2.2.2.2.2.2.2.2.2.2.2.2.2,I a.n])] s:=(Kp.cons (i.on 0 rfl) Kp.nil0);refine ta 0 (Q b) (ta 1 (Q b) (ta 2 (Q b) (ta 3 (Q b) (ta 4 (Q b) (ta 5 (Qo b 16) (tkx 6 y (fun q l x=>le1 16 u_3 (x.on 0 rfl)) (bn H fun A d H=>AC.take 7 (.slice (some ⟨b,0,none⟩) a.n.toNat 16) rfl (by kernel_rfl) (by kernel_rfl) (fun q l=>(rx (by kernel_rfl) (pX (k:= .i64) underlying289 (by kernel_rfl) (gX d).2.1 (gX d).2.2.1 _))) (bn H fun D u H=>o1 8 (gc 8 (lO i rfl (pQ d) (rz (k:= .i32) d [] [I a.n]) u) ?_)))))))));rintro v8 f E ⟨_,z,e,rfl,j⟩;have m:Kp G0 [(Eb b 291 [J a.text.1,J a.text.2.1,J a.text.2.2.1,J a.text.2.2.2.1,J a.text.2.2.2.2.1,J a.text.2.2.2.2.2.1,J a.text.2.2.2.2.2.2.1,J a.text.2.2.2.2.2.2.2.1,J a.text.2.2.2.2.2.2.2.2.1,J a.text.2.2.2.2.2.2.2.2.2.1,J a.text.2.2.2.2.2.2.2.2.2.2.1,J a.text.2.2.2.2.2.2.2.2.2.2.2.1,J a.text.2.2.2.2.2.2.2.2.2.2.2.2.1,J a.text.2.2.2.2.2.2.2.2.2.2.2.2.2.1,J a.text.2.2.2.2.2.2.2.2.2.2.2.2.2.2.1,J a.text.2.2.2.2.2.2.2.2.2.2.2.2.2.2.2,I a.n])] f:=(Kp.cons (e.on 1 rfl) Kp.nil0);refine ⟨.inr m,ta 9 (v8) (dn (nrm (W.ret ?_)))⟩;obtain rfl:=si H;exact r1 (qq f ⟨v8,z,e,rfl,j⟩)
def go (p0:List Int):Option (dv×Bool):=
 (idx p0 0).bind fun d=>
 (fo d).bind fun e=>
 if e=true then
 some ((⟨0,([]:List Int)⟩:dv),false)
 else
 (iO p0).bind fun b=>
 (bH b).bind fun a=>
 (jr a).bind fun c=>
 some ((⟨c,a⟩:dv),true)
theorem lQ (O0:Own c0 G F) (s:List Int) {r:dv×Bool} (q:Sl (RI .i32) c0 v1 s) (H:go s=some r): Calls prog 175 #[v1] c0.w (aI c0 fun c v=>∃y1,Own c G (F)∧v= .tuple #[.agg #[I r.1.Wide,y1],B r.2]∧Sl (RI .i32) c y1 r.1.Text):=by
 unfold go at H;refine en func175 rfl rfl (sr (me (al 165 [I 0,Y] O0) ?_));rintro v6 c5 l5 ⟨b3,rfl,O4⟩;refine va (B false) (wln (W.seq (sr (va (v1) (bn H fun e0 h7 H=>?_)))));obtain ⟨a1,h9,d0⟩:=Sl.at (q.mono l5) (aW h7);obtain rfl:=h9;refine vx (ix cj q.m h7) (vx (l1 gW (d0 0 _ rfl)) (bn H fun c1 N H=>cl (jE O4 e0 N) ?_));rintro v17 l0 l16 ⟨i,rfl⟩;refine wln (cn H (fun P H=>?_) (fun P H=>?_))
 ·refine sr (va (.agg #[I 0,Y]) (md (sA 165 [I 0,Y] 0 i ⟨rfl,rfl,trivial⟩) ?_));rintro k v0 j;refine va (B false) (wln (W.ret (thr ?_)));obtain rfl:=si H;have u:=j.sD 1 [];exact nN (c:=k) (vs:=[I 0,Y]) (v:=B false) rfl (by kernel_rfl) (by kernel_rfl) (by kernel_rfl) (by kernel_rfl) (j.on 0 rfl _ rfl).1 ⟨_,k,rfl,rfl,pt,(Y),u,rfl,(Sl.nl _ _)⟩
 refine W.skip (nrm (sr (va (v1) (bn H fun a R H=>cl (ny i s q.m R) ?_))));rintro v28 m0 w0 ⟨x,rfl⟩;refine me (al 291 [J 0,J 0,J 0,J 0,J 0,J 0,J 0,J 0,J 0,J 0,J 0,J 0,J 0,J 0,J 0,J 0,I 0] x) ?_;rintro v32 o0 x0 ⟨k0,rfl,y⟩;refine md (sA 291 [J a.text.1,J a.text.2.1,J a.text.2.2.1,J a.text.2.2.2.1,J a.text.2.2.2.2.1,J a.text.2.2.2.2.2.1,J a.text.2.2.2.2.2.2.1,J a.text.2.2.2.2.2.2.2.1,J a.text.2.2.2.2.2.2.2.2.1,J a.text.2.2.2.2.2.2.2.2.2.1,J a.text.2.2.2.2.2.2.2.2.2.2.1,J a.text.2.2.2.2.2.2.2.2.2.2.2.1,J a.text.2.2.2.2.2.2.2.2.2.2.2.2.1,J a.text.2.2.2.2.2.2.2.2.2.2.2.2.2.1,J a.text.2.2.2.2.2.2.2.2.2.2.2.2.2.2.1,J a.text.2.2.2.2.2.2.2.2.2.2.2.2.2.2.2,I a.n] 0 y ⟨rfl,rfl,rfl,rfl,rfl,rfl,rfl,rfl,rfl,rfl,rfl,rfl,rfl,rfl,rfl,rfl,rfl,trivial⟩) ?_;rintro q0 y0 z;refine wln (sr (bn H fun t S H=>cl (ek a z S) ?_));rintro v37 s0 z0 ⟨_,b1,A,rfl,g⟩;refine va (v37) (wln (sr (va (v37) ?_)));obtain ⟨t0,U,o,D,T⟩:=A.frz 0 rfl g;refine WL.gh U (bn H fun b X H=>cl (od D t T X) ?_);rintro v56 u0 p ⟨E,rfl⟩;refine va (v37) ?_;obtain ⟨d,e,f,rfl⟩:=((g.mono (o.trans p))).form;refine va (.agg #[I b,.slice d e f]) (md (sA 165 [I b,.slice d e f] 2 E ⟨rfl,g.m.one,trivial⟩) ?_);rintro l b0 h;refine va (B true) (wln (W.ret ?_));obtain rfl:=si H;have Z:=h.slf 0 rfl (g.mono (o.trans (p.trans b0)));have M:=h.sD 3 [];exact nN (c:=l) (vs:=[I b,.slice d e f]) (v:=B true) rfl (by kernel_rfl) (by kernel_rfl) (by kernel_rfl) (by kernel_rfl) (h.on 2 rfl _ rfl).1 ⟨_,l,rfl,rfl,pt,(.slice d e f),M,rfl,Z⟩
def cN (p0:bX) (p1:bv):Option (Bool):=
 if (!p0.some)=true then
 some false
 else
 ((bS (p1.Conj==1) (some (p0.conj==2))).bind fun a=>
 if a=true then
 some (a)
 else
 (bS p1.Pict (some (p0.pict==2))).bind fun c=>
 some (c)).bind fun e=>
 if e=true then
 some true
 else
 (iG p0.last p1.Break).bind fun b=>
 if (b==1)=true then
 some true
 else
 if (b==2)=true then
 (bS (p0.last==6) (some p0.odd)).bind fun d=>
 some d
 else
 some false
theorem fL {b:Nat} (a:bX) (e:bv) (O0:Own c0 G ((Eb b 181 [B a.some,I a.last,I a.pict,I a.conj,B a.odd]) :: F)) {r:Bool} (H:cN a e=some r): Calls prog 224 #[Q b,.agg #[I e.Break,B e.Pict,I e.Conj,I e.East]] c0.w (aI c0 fun c v=>Own c G ((Eb b 181 [B a.some,I a.last,I a.pict,I a.conj,B a.odd]) :: F)∧v=B r):=by
 unfold cN at H;refine en func224 rfl rfl (sr (me (bx 238 [I e.Break,B e.Pict,I e.Conj,I e.East] O0) ?_));rintro v5 s l4 ⟨p,rfl,q,M⟩;refine va (B false) (wln (W.seq (sr (vv (Q b) (va (Q b) (vx (le1 0 u_4 (q.on 0 rfl)) (va (B (!a.some)) (wln (cn H (fun h6 H=>?_) (fun h6 H=>?_))))))))))
 ·refine sr (va (B false) (wln (W.ret (thr ?_))));obtain rfl:=si H;exact r1 (qq s ⟨q,rfl⟩)
 refine W.skip (nrm (W.seq (W.block (bn H fun P f d=>W.seqJ (Jn s fun c l=>Own c G ((Eb b 181 [B a.some,I a.last,I a.pict,I a.conj,B a.odd]) :: F)∧l= [(0,Q b),(3,Q p),(10,B P)]) ?_ ?_))))
 ·refine W.seq (bn f fun z h9 f=>W.join (Jn s fun c l=>Own c G ((Eb b 181 [B a.some,I a.last,I a.pict,I a.conj,B a.odd]) :: F)∧l= [(0,Q b),(3,Q p),(10,B z)]) ?_ ?_)
  ·clear f;refine W.region (va (Qo p (0+2)) (vx (l1 u_3 (M 2 _ rfl)) (va (B (e.Conj==1)) ?_)));rcases bo (e.Conj==1) with j | j
   ·have R:=anT j h9;refine vb j (wa (Q b) (wa (Q b) (wa (Qo b 3) (wn (vx (le1 3 u_3 (q.on 0 rfl)) (wa (B (a.conj==2)) ?_))))));obtain rfl:=si R;exact vv (B (a.conj==2)) (wln (jn s ⟨q,rfl⟩))
   obtain rfl:=anF j h9;exact vb j (pz (pz (ps (vv (B false) (wln (jn s ⟨q,rfl⟩))))))
  rintro E N ⟨o,u0,_,rfl,y0,rfl,n,rfl⟩;refine nrm (cn f (fun e0 f=>?_) (fun e0 f=>?_))
  ·refine W.skip (nrm ?_);obtain rfl:=si f;exact jn o ⟨n,rfl⟩
  refine bn f fun A x f=>W.join (Jn o fun c l=>Own c G ((Eb b 181 [B a.some,I a.last,I a.pict,I a.conj,B a.odd]) :: F)∧l= [(0,Q b),(3,Q p),(10,B A)]) ?_ ?_
  ·clear f;refine W.region (va (Qo p (0+1)) (vx (l1 u_4 ((mm M) 1 _ rfl)) ?_));rcases bo (e.Pict) with k | k
   ·have S:=anT k x;refine vb k (wa (Q b) (wa (Q b) (wa (Qo b 2) (wn (vx (le1 2 u_3 (n.on 0 rfl)) (wa (B (a.pict==2)) ?_))))));obtain rfl:=si S;exact vv (B (a.pict==2)) (wln (jn o ⟨n,rfl⟩))
   obtain rfl:=anF k x;exact vb k (pz (pz (ps (vv (B false) (wln (jn o ⟨n,rfl⟩))))))
  rintro E N ⟨Z,v0,_,rfl,z0,rfl,U,rfl⟩;refine nrm ?_;obtain rfl:=si f;exact jn Z ⟨U,rfl⟩
 rintro E N ⟨a0,w0,_,rfl,a1,rfl,t,rfl⟩;refine cn d (fun f0 d=>?_) (fun f0 d=>?_)
 ·refine sr (va (B true) (wln (W.ret (bkr (thr ?_)))));obtain rfl:=si d;exact r1 (qq a0 ⟨t,rfl⟩)
 refine W.skip (bkn (nrm (W.seq (W.seq (rD [] (Kp G0 [(Eb b 181 [B a.some,I a.last,I a.pict,I a.conj,B a.odd])]) t ?_)))));intro b0 c1 u;have l0:Kp G0 [(Eb b 181 [B a.some,I a.last,I a.pict,I a.conj,B a.odd])] b0:=(Kp.cons (u.on 0 rfl) Kp.nil0);refine ta 0 (Q b) (ta 1 (Q b) (ta 2 (Qo b 1) (tkx 3 l0 (fun c' k0 hk=>le1 1 u_3 (hk.on 0 rfl)) (ta 4 (Q p) (tx 5 (fun c' k0=>l1 u_3 ((mm M) 0 _ rfl)) (bn d fun i g0 d=>o1 6 (gc 6 (np u a.last e.Break g0) ?_)))))));rintro v44 h d1 ⟨g,rfl⟩;have m0:Kp G0 [(Eb b 181 [B a.some,I a.last,I a.pict,I a.conj,B a.odd])] h:=(Kp.cons (g.on 0 rfl) Kp.nil0);refine ⟨.inr m0,dn (nrm (W.block (sr (vv (B (i==1)) (wln (cn d (fun h0 d=>?_) (fun h0 d=>?_)))))))⟩
 ·refine sr (va (B true) (wln (W.ret (bkr (thr ?_)))));obtain rfl:=si d;exact r1 (qq h ⟨g,rfl⟩)
 refine sr (vv (B (i==2)) (wln (cn d (fun i0 d=>?_) (fun i0 d=>?_))))
 ·refine W.seq (bn d fun D y d=>W.join (Jn h fun c l=>Own c G ((Eb b 181 [B a.some,I a.last,I a.pict,I a.conj,B a.odd]) :: F)∧l= [(4,B D)]) ?_ ?_)
  ·clear d;refine W.region (vv (Q b) (va (Qo b 1) (vx (le1 1 u_3 (g.on 0 rfl)) (va (B (a.last==6)) ?_))));rcases bo (a.last==6) with m | m
   ·have T:=anT m y;refine vb m (wa (Q b) (wa (Q b) (wa (Qo b 4) (wn (vx (le1 4 u_4 (g.on 0 rfl)) ?_)))));obtain rfl:=si T;exact vv (B a.odd) (wln (jn h ⟨g,rfl⟩))
   obtain rfl:=anF m y;exact vb m (pz (pz (vv (B false) (wln (jn h ⟨g,rfl⟩)))))
  rintro E N ⟨d0,x0,_,rfl,e1,rfl,X,rfl⟩;refine nrm (W.ret (bkr (thr ?_)));obtain rfl:=si d;exact r1 (qq d0 ⟨X,rfl⟩)
 refine W.skip (bkn (nrm (sr (va (B false) (wln (W.ret ?_))))));obtain rfl:=si d;exact r1 (qq h ⟨g,rfl⟩)
def cz (p0:bX) (p1:bv):Option (Int):=
 if p1.Pict=true then
 some 1
 else
 (bS (p0.pict==1) (some (p1.Break==4))).bind fun a=>
 if a=true then
 some 1
 else
 (bS (p0.pict==1) (some (p1.Break==5))).bind fun b=>
 if b=true then
 some 2
 else
 some 0
theorem fp {b:Nat} (a:bX) (d:bv) (A:Own c0 G ((Eb b 181 [B a.some,I a.last,I a.pict,I a.conj,B a.odd]) :: F)) {r:Int} (H:cz a d=some r): Calls prog 225 #[Q b,.agg #[I d.Break,B d.Pict,I d.Conj,I d.East]] c0.w (aI c0 fun c v=>Own c G ((Eb b 181 [B a.some,I a.last,I a.pict,I a.conj,B a.odd]) :: F)∧v=I r):=by
 unfold cz at H;refine en func225 rfl rfl (sr (me (bx 238 [I d.Break,B d.Pict,I d.Conj,I d.East] A) ?_));rintro v5 k T ⟨j,rfl,i,s⟩;refine va (I 0) (wln (W.seq (W.block (sr (va (Qo j (0+1)) (vx (l1 u_4 (s 1 _ rfl)) (va (B d.Pict) (wln (cn H (fun E H=>?_) (fun E H=>?_))))))))))
 ·refine sr (va (I 1) (wln (W.ret (bkr (thr ?_)))));obtain rfl:=si H;exact r1 (qq k ⟨i,rfl⟩)
 refine W.seq (bn H fun p y H=>W.join (Jn k fun c l=>Own c G ((Eb b 181 [B a.some,I a.last,I a.pict,I a.conj,B a.odd]) :: F)∧l= [(0,Q b),(3,Q j),(8,B p)]) ?_ ?_)
 ·clear H;refine W.region (vv (Q b) (va (Qo b 2) (vx (le1 2 u_3 (i.on 0 rfl)) (va (B (a.pict==1)) ?_))));rcases bo (a.pict==1) with h | h
  ·have z:=anT h y;refine vb h (wa (Q j) (wn (vx (l1 u_3 (s 0 _ rfl)) (wa (B (d.Break==4)) ?_))));obtain rfl:=si z;exact vv (B (d.Break==4)) (wln (jn k ⟨i,rfl⟩))
  obtain rfl:=anF h y;exact vb h (pz (ps (vv (B false) (wln (jn k ⟨i,rfl⟩)))))
 rintro D M ⟨g,N,_,rfl,R,rfl,f,rfl⟩;refine nrm (cn H (fun u H=>?_) (fun u H=>?_))
 ·refine sr (va (I 1) (wln (W.ret (bkr (thr ?_)))));obtain rfl:=si H;exact r1 (qq g ⟨f,rfl⟩)
 refine W.seq (bn H fun q o H=>W.join (Jn g fun c l=>Own c G ((Eb b 181 [B a.some,I a.last,I a.pict,I a.conj,B a.odd]) :: F)∧l= [(19,B q)]) ?_ ?_)
 ·clear H;refine W.region (vv (Q b) (va (Qo b 2) (vx (le1 2 u_3 (f.on 0 rfl)) (va (B (a.pict==1)) ?_))));rcases bo (a.pict==1) with e | e
  ·have t:=anT e o;refine vb e (wa (Q j) (wn (vx (l1 u_3 ((mm s) 0 _ rfl)) (wa (B (d.Break==5)) ?_))));obtain rfl:=si t;exact vv (B (d.Break==5)) (wln (jn g ⟨f,rfl⟩))
  obtain rfl:=anF e o;exact vb e (pz (ps (vv (B false) (wln (jn g ⟨f,rfl⟩)))))
 rintro D M ⟨n,P,_,rfl,S,rfl,m,rfl⟩;refine nrm (cn H (fun x H=>?_) (fun x H=>?_))
 ·refine sr (va (I 2) (wln (W.ret (bkr (thr ?_)))));obtain rfl:=si H;exact r1 (qq n ⟨m,rfl⟩)
 refine W.skip (bkn (nrm (sr (va (I 0) (wln (W.ret ?_))))));obtain rfl:=si H;exact r1 (qq n ⟨m,rfl⟩)
def cx (p0:bX) (p1:bv):Option (Int):=
 if (p1.Conj==1)=true then
 some 1
 else
 if (p0.conj==0)=true then
 some 0
 else
 if (p1.Conj==2)=true then
 some 2
 else
 if (p1.Conj==3)=true then
 some p0.conj
 else
 some 0
theorem fe {b:Nat} (d:bX) (a:bv) (i:Own c0 G ((Eb b 181 [B d.some,I d.last,I d.pict,I d.conj,B d.odd]) :: F)) {r:Int} (H:cx d a=some r): Calls prog 226 #[Q b,.agg #[I a.Break,B a.Pict,I a.Conj,I a.East]] c0.w (aI c0 fun c v=>Own c G ((Eb b 181 [B d.some,I d.last,I d.pict,I d.conj,B d.odd]) :: F)∧v=I r):=by
 unfold cx at H;refine en func226 rfl rfl (sr (me (bx 238 [I a.Break,B a.Pict,I a.Conj,I a.East] i) ?_));rintro v5 f n ⟨g,rfl,e,h⟩;refine va (I 0) (wln (W.seq (W.block (sr (va (Qo g (0+2)) (vx (l1 u_3 (h 2 _ rfl)) (vv (B (a.Conj==1)) (wln (cn H (fun j H=>?_) (fun j H=>?_))))))))))
 ·refine sr (va (I 1) (wln (W.ret (bkr (thr ?_)))));obtain rfl:=si H;exact r1 (qq f ⟨e,rfl⟩)
 refine sr (vv (Q b) (va (Qo b 3) (vx (le1 3 u_3 (e.on 0 rfl)) (vv (B (d.conj==0)) (wln (cn H (fun k H=>?_) (fun k H=>?_)))))))
 ·refine sr (va (I 0) (wln (W.ret (bkr (thr ?_)))));obtain rfl:=si H;exact r1 (qq f ⟨e,rfl⟩)
 refine sr (va (Qo g (0+2)) (vx (l1 u_3 (h 2 _ rfl)) (vv (B (a.Conj==2)) (wln (cn H (fun l H=>?_) (fun l H=>?_))))))
 ·refine sr (va (I 2) (wln (W.ret (bkr (thr ?_)))));obtain rfl:=si H;exact r1 (qq f ⟨e,rfl⟩)
 refine sr (va (Qo g (0+2)) (vx (l1 u_3 (h 2 _ rfl)) (vv (B (a.Conj==3)) (wln (cn H (fun m H=>?_) (fun m H=>?_))))))
 ·refine sr (vv (Q b) (va (Qo b 3) (vx (le1 3 u_3 (e.on 0 rfl)) (va (I d.conj) (wln (W.ret (bkr (thr ?_))))))));obtain rfl:=si H;exact r1 (qq f ⟨e,rfl⟩)
 refine W.skip (bkn (nrm (sr (va (I 0) (wln (W.ret ?_))))));obtain rfl:=si H;exact r1 (qq f ⟨e,rfl⟩)
def cT (p0:bX) (p1:bv):Option (bX×Bool):=
 if false=true then
 some (p0,false)
 else
 (cN p0 p1).bind fun d=>
 (cz p0 p1).bind fun e=>
 (cx p0 p1).bind fun f=>
 (bS (p1.Break==6) ((bS p0.some (some (p0.last==6))).bind fun b=>
 (bS b (some p0.odd)).bind fun c=>
 some (!c))).bind fun a=>
 some ((⟨true,p1.Break,e,f,a⟩:bX),d)
theorem gd {a:Nat} (b:bX) (f:bv) (O0:Own c0 G ((Eb a 181 [B b.some,I b.last,I b.pict,I b.conj,B b.odd]) :: F)) {r:bX×Bool} (H:cT b f=some r): Calls prog 173 #[Q a,.agg #[I f.Break,B f.Pict,I f.Conj,I f.East]] c0.w (aI c0 fun c v=>Own c G ((Eb a 181 [B r.1.some,I r.1.last,I r.1.pict,I r.1.conj,B r.1.odd]) :: F)∧v=B r.2):=by
 unfold cT at H;refine en func173 rfl rfl (sr (me (bx 238 [I f.Break,B f.Pict,I f.Conj,I f.East] O0) ?_));rintro v5 c4 l4 ⟨A,rfl,O2,o⟩;refine va (B false) (wln (W.seq (sr (va (Q a) (va (B false) (wln (W.cond (t:=false) (by kernel_rfl) (fun E=>?_) (fun E=>?_))))))))
 ·cases E
 have H:=ie E H;refine W.skip (nrm (sr (va (Q a) (vx (lN 238 o) (bn H fun i h8 H=>cl (fL b f O2 h8) ?_)))));rintro v14 j1 n1 ⟨P,rfl⟩;refine va (B i) (wln (W.seq (rD [] (Kp G0 []) P ?_)));intro i0 q1 R;have f2:Kp G0 [] i0:=Kp.nil0;refine ta 0 (Q a) (ta 1 (Q a) (ta 2 (Q a) (tx 3 (fun c' z=>lN 238 (mm o)) (ta 5 (Q a) (tx 6 (fun c' z=>lN 238 (mm o)) (bn H fun d v0 H=>o1 4 (gc 4 (fp b f R v0) ?_)))))));rintro v25 j0 s1 ⟨S,rfl⟩;have y0:Kp G0 [] j0:=Kp.nil0;refine ⟨.inr y0,bn H fun e w0 H=>o1 7 (gc 7 (fe b f S w0) ?_)⟩;rintro v34 k0 t1 ⟨T,rfl⟩;have z0:Kp G0 [] k0:=Kp.nil0;refine ⟨.inr z0,ta 8 (Q a) (ta 9 (Qo a 2) (o1 10 (gD 10 (sC 3 2 (I d) [B b.some,I b.last,I d,I b.conj,B b.odd] 0 T ⟨rfl,trivial⟩) ?_)))⟩;rintro l0 u1 U;have a1:Kp G0 [] l0:=Kp.nil0;refine ⟨.inr a1,ta 11 (Q a) (ta 12 (Qo a 3) (o1 13 (gD 13 (sC 3 3 (I e) [B b.some,I b.last,I d,I e,B b.odd] 0 U ⟨rfl,trivial⟩) ?_)))⟩;rintro p v1 h;have c1:Kp G0 [] p:=Kp.nil0;refine ⟨.inr c1,dn (nrm (W.seq (bn H fun n s H=>W.join (Jn p fun c l=>Own c G ((Eb a 181 [B b.some,I b.last,I d,I e,B n]) :: F)∧l= [(0,Q a),(3,Q A),(5,B i)]) ?_ ?_)))⟩
 ·clear H;refine W.region (va (Q a) (va (Q A) (vx (l1 u_3 ((mm o) 0 _ rfl)) (va (B (f.Break==6)) ?_))));rcases bo (f.Break==6) with j | j
  ·have g:=anT j s;refine vb j (wa (Q a) (wa (Q a) (wa (Q a) (wn (vx (le1 0 u_4 (h.on 0 rfl)) (wn (bn g fun h1 u g=>?_)))))));rcases bo (b.some) with k | k
   ·have M:=anT k u;refine vb k (wa (Q a) (wa (Q a) (wa (Qo a 1) (wn (vx (le1 1 u_3 (h.on 0 rfl)) (wa (B (b.last==6)) (wn ?_)))))));obtain rfl:=si M;refine va (B (b.last==6)) (wn (bn g fun D x g=>?_));rcases bo (b.last==6) with m | m
    ·have N:=anT m x;refine vb m (wa (Q a) (wa (Q a) (wa (Qo a 4) (wn (vx (le1 4 u_4 (h.on 0 rfl)) (wn ?_))))));obtain rfl:=si N;refine va (B b.odd) (wa (B (!b.odd)) ?_);obtain rfl:=si g;refine va (B (!b.odd)) (va (Q a) (va (Qo a 4) (md (sC 4 4 (B (!b.odd)) [B b.some,I b.last,I d,I e,B (!b.odd)] 0 h ⟨rfl,trivial⟩) ?_)));rintro m0 w1 X;exact wln (jn m0 ⟨X,rfl⟩)
    obtain rfl:=anF m x;refine vb m (pz (pz (wa (B false) (wa (B (!false)) ?_))));obtain rfl:=si g;refine va (B (!false)) (va (Q a) (va (Qo a 4) (md (sC 4 4 (B (!false)) [B b.some,I b.last,I d,I e,B (!false)] 0 h ⟨rfl,trivial⟩) ?_)));rintro o0 x1 Z;exact wln (jn o0 ⟨Z,rfl⟩)
   obtain rfl:=anF k u;refine vb k (pz (pz (ps (wa (B false) (wn (bn g fun D x0 g=>?_))))));have y:false=false:=rfl;obtain rfl:=anF y x0;refine vb y (pz (pz (wa (B false) (wa (B (!false)) ?_))));obtain rfl:=si g;refine va (B (!false)) (va (Q a) (va (Qo a 4) (md (sC 4 4 (B (!false)) [B b.some,I b.last,I d,I e,B (!false)] 0 h ⟨rfl,trivial⟩) ?_)));rintro q0 y1 a0;exact wln (jn q0 ⟨a0,rfl⟩)
  obtain rfl:=anF j s;refine vb j (pz (pz (pz (pz (pz (pz (pz (pz (pz (va (B false) (va (Q a) (va (Qo a 4) (md (sC 4 4 (B false) [B b.some,I b.last,I d,I e,B false] 0 h ⟨rfl,trivial⟩) ?_)))))))))))));rintro s0 z1 b0;exact wln (jn s0 ⟨b0,rfl⟩)
 rintro e_ w_ ⟨k1,m1,_,rfl,b2,rfl,d0,rfl⟩;refine nrm (W.seq (rD [] (Kp G0 []) d0 ?_));intro t0 c2 e0;have g2:Kp G0 [] t0:=Kp.nil0;refine ta 0 (Q a) (ta 1 (Q a) (ta 2 (Q A) (tx 3 (fun c' z=>l1 u_3 ((mm o) 0 _ rfl)) (ta 4 (Q a) (ta 5 (Q a) (o1 6 (gD 6 (sC 4 0 (B true) [B true,I b.last,I d,I e,B n] 0 e0 ⟨rfl,trivial⟩) ?_)))))));rintro u0 d2 f0;have d1:Kp G0 [] u0:=Kp.nil0;refine ⟨.inr d1,ta 7 (Q a) (ta 8 (Qo a 1) (o1 9 (gD 9 (sC 3 1 (I f.Break) [B true,I f.Break,I d,I e,B n] 0 f0 ⟨rfl,trivial⟩) ?_)))⟩;rintro q e2 g0;have e1:Kp G0 [] q:=Kp.nil0;refine ⟨.inr e1,dn (nrm (sr (vv (B i) (wln (W.ret ?_)))))⟩;obtain rfl:=si H;exact r1 (qq q ⟨g0,rfl⟩)
end Go.Proofs.YtclmdpamofdoiaaGreatDoor
namespace Go.Proofs.YtclmdpamofdoiaaGreatDoor
open Go Go.Lt
set_option maxRecDepth 10000
set_option linter.unusedVariables false
attribute [local irreducible] W WL AC
def fm {σ:Type} (y:σ→Int→List Int→Option (σ×Bool)) (l:List Int) (s:σ):Option σ:=
 (cw (σ:=bX×Int×Int×σ) (τ:=σ ⊕ (Int×σ)) (((l.length:Int) - 0).toNat+1) (fun a=>
 if (decide (a.2.2.1 < (l.length:Int)))=true then
 (idx l a.2.2.1).bind fun r=>
 (kG r).bind fun p=>
 (cT a.1 p).bind fun b=>
 (orE b.2 (some (a.2.2.1==0))).bind fun t=>
 if t=true then
 some (.inl (b.1,a.2.1,(w64 (a.2.2.1+1)),a.2.2.2))
 else
 (slc l a.2.1 a.2.2.1).bind fun x=>
 (y a.2.2.2 a.2.1 x).bind fun z=>
 if (!z.2)=true then
 some (.inr (.inl z.1))
 else
 some (.inl (b.1,a.2.2.1,(w64 (a.2.2.1+1)),z.1))
 else
 some (.inr (.inr (a.2.1,a.2.2.2)))) ((⟨false,0,0,0,false⟩:bX),0,0,s)).bind fun u=>match u with
 | .inl s'=>some s'
 | .inr v=>if (decide ((l.length:Int) > 0))=true then (slc l v.1 (l.length:Int)).bind fun x=>(y v.2 v.1 x).bind fun z=>some z.1 else some v.2
open Tryz
variable {c0:Cx} {G:Gm} {F:List En} {v1:Value}
set_option maxHeartbeats 1000000 in
theorem jC {σ:Type} {Bd:σ→Cx→List En→Prop} (hJ:Bod Bd) {y:σ→Int→List Int→Option (σ×Bool)} (lr:Nat)
    (hY:∀s i x z c F v,y s i x=some z→Bd s c F→Sl (RI .i32) c v x→sS Tryz.prog lr Bd #[.int .i64 i,v] c F z.1 z.2) {l:List Int} {s0 s1:σ} {bc:Nat}
    (hb:Im c0 bc 0 v1) (hl:Sl (RI .i32) c0 v1 l) (h0:Bd s0 c0 F) (H:fm y l s0=some s1):
    Calls Tryz.prog 172 #[.func (.yield lr) #[] #[],.pointer (some ⟨bc,0,none⟩)] c0.w fun x w'=>∃c',w'=c'.w∧c0.lw c'∧x= .returned (.tuple #[])∧Bd s1 c' F:=by
  unfold fm at H
  obtain ⟨u,H1,H2⟩:=bs H
  obtain ⟨G,Fx,O,shut⟩:=hJ.new h0
  refine en func172 rfl rfl (sr (me (al 181 [B false,I 0,I 0,I 0,B false] O) ?_))
  rintro v3 c1 k1 ⟨j,rfl,O1⟩
  have h1:Bd s0 c1 (Eb j 181 [B false,I 0,I 0,I 0,B false] :: F):=shut c1 _ k1 O1
  refine wln (sr (va (I 0) (wln (W.seq (sr (vx (l1 cj (hb.mono k1)) (vx (ln 3 cj (hl.mono k1)) (va (I 0) (wln (W.block (lp H1 (fun a=>JnW c1 fun c sl=>Bd a.2.2.2 c (Eb j 181 [B a.1.some,I a.1.last,I a.1.pict,I a.1.conj,B a.1.odd] :: F)∧sl= [(0,.func (.yield lr) #[] #[]),(1,Q bc),(3,Q j),(4,I a.2.1),(7,v1),(8,I (l.length:Int)),(9,I a.2.2.1)])
    (fun b ex e w=>match b with | .inl s'=>ex= .ret∧JnW c1 (fun c sl=>Bd s' c F∧sl= []) e w | .inr v=>ex= .exit 0∧(JnW c1 fun c sl=>Bd v.2 c F∧sl= [(0,.func (.yield lr) #[] #[]),(1,Q bc),(4,I v.1)]) e w) ?_ ?_ ?_)))))))))))
  · clear H H1 H2
    intro a x e w H
    rintro ⟨c,e0,_,rfl,kc,rfl,hJc,rfl⟩
    obtain ⟨G2,Fx2,O2,sh2⟩:=hJ.op hJc
    have kq:=k1.lw.trans kc
    refine sr (va (B (decide (a.2.2.1 < (l.length:Int)))) (wln (W.seq (cn H (fun D H=>?_) (fun D H=>?_)))))
    · refine W.skip (nrm (W.seq (W.block (sr (bn H fun r hi H=>?_)))))
      obtain ⟨d0,E,Rr⟩:=Sl.at (hl.lw kq) (aW hi)
      obtain rfl:=E
      refine va (I a.2.2.1) (vx (ix cj (hl.lw kq) hi) (vx (l1 gW (Rr 0 _ rfl)) (va (I a.2.2.1) (va (J r) (wln ?_)))))
      refine W.seq (sr (va (J r) (bn H fun p hp H=>cl (nU O2 r hp) ?_)))
      rintro v15 c2 k2 ⟨O3,rfl⟩
      refine bn H fun b hb2 H=>cl (gd a.1 p O3 hb2) ?_
      rintro v16 c3 k3 ⟨O4,rfl⟩
      have hJ3:=sh2 c3 _ (k2.trans k3) O4
      have kc3:c1.lw c3:=kc.trans (k2.trans k3).lw
      refine bn H fun t ht H=>?_
      rcases bo b.2 with hb3 | hb3
      · obtain rfl:=orT hb3 ht
        refine vb hb3 (pz (va (B true) (wln (cn H (fun _ H=>?_) (fun h H=>by cases h)))))
        refine W.exit (thx (bke (nrm (W.region (vv (I (w64 (a.2.2.1+1))) (WL.nil ?_))))))
        obtain rfl:=si H
        exact ⟨_,rfl,jnW c3 ⟨hJ3,rfl⟩ kc3⟩
      · have ht2:=orF hb3 ht
        obtain rfl:=si ht2
        refine vb hb3 (wa (I a.2.2.1) (wa (B (a.2.2.1==0)) (va (B (a.2.2.1==0)) (wln (cn H (fun h H=>?_) (fun h H=>?_))))))
        · refine W.exit (thx (bke (nrm (W.region (vv (I (w64 (a.2.2.1+1))) (WL.nil ?_))))))
          obtain rfl:=si H
          exact ⟨_,rfl,jnW c3 ⟨hJ3,rfl⟩ kc3⟩
        · refine W.skip (nrm (W.seq (sr (bn H fun x hx H=>bn H fun z hz H=>?_))))
          have kq3:=k1.lw.trans kc3
          obtain ⟨v27,hv,hs⟩:=nL (P:=Tryz.prog) (k:= .i64) (k':= .i64) (k2:= .i64) cj (by kernel_rfl) (hl.lw kq3) hx
          refine va (.func (.yield lr) #[] #[]) (va (I a.2.1) (vx (l1 cj (hb.lw kq3)) (va (I a.2.1) (vv (I a.2.2.1) (vx (hv _) (WL.round (l:=lr) (args:= #[.int .i64 a.2.1,v27]) rfl (by kernel_rfl) (ym (hY _ _ _ _ _ _ _ hz hJ3 hs) ?_)))))))
          rintro ex w' ⟨c4,rfl,k4,rfl,hJ4⟩
          refine ⟨_,rfl,va (B (!z.2)) (wln (cn H (fun h H=>?_) (fun h H=>?_)))⟩
          · refine W.ret (thr (bkr (thr ?_)))
            obtain rfl:=si H
            exact ⟨_,rfl,rfl,jnW c4 ⟨hJ.drop hJ4,rfl⟩ (kc3.trans k4)⟩
          · refine W.skip (nrm (W.region (vv (I a.2.2.1) (WL.nil (bkn (nrm (W.region (vv (I (w64 (a.2.2.1+1))) (WL.nil ?_)))))))))
            obtain rfl:=si H
            exact ⟨_,rfl,jnW c4 ⟨hJ4,rfl⟩ (kc3.trans k4)⟩
    · refine W.exit (thx ?_)
      obtain rfl:=si H
      exact ⟨_,rfl,rfl,jnW c ⟨hJ.drop hJc,rfl⟩ kc⟩
  · exact jnW c1 ⟨h1,rfl⟩ (Cx.le.refl c1).lw
  · rintro ex e w hx
    cases u with
    | inl s'=>
      obtain ⟨rfl,c,e0,_,rfl,kc,rfl,hJc,rfl⟩:=hx
      obtain rfl:=si H2
      refine bkr (thr ?_)
      exact r0 ⟨c,rfl,k1.lw.trans kc,rfl,hJc⟩
    | inr v=>
      obtain ⟨rfl,c,e0,_,rfl,kc,rfl,hJc,rfl⟩:=hx
      have kq:=k1.lw.trans kc
      refine bke (nrm (sr (vx (l1 cj (hb.lw kq)) (vx (ln 3 cj (hl.lw kq)) (va (B (decide ((l.length:Int) > 0))) (wln (cn H2 (fun D H=>?_) (fun D H=>?_))))))))
      · obtain ⟨x,hx,H⟩:=bs H
        obtain ⟨z,hz,H⟩:=bs H
        obtain rfl:=si H
        obtain ⟨v27,hv,hs⟩:=nL (P:=Tryz.prog) (k:= .i64) (k':= .i64) (k2:= .i64) cj (by kernel_rfl) (hl.lw kq) hx
        refine W.region (va (.func (.yield lr) #[] #[]) (va (I v.1) (vx (l1 cj (hb.lw kq)) (va (I v.1) (vx (l1 cj (hb.lw kq)) (vx (ln 3 cj (hl.lw kq)) (vx (l1 cj (hb.lw kq)) (vx (ln 3 cj (hl.lw kq)) (vx (hv _) (WL.round (l:=lr) (args:= #[.int .i64 v.1,v27]) rfl (by kernel_rfl) (ym (hY _ _ _ _ _ _ _ hz hJc hs) ?_)))))))))))
        rintro ex w' ⟨c4,rfl,k4,rfl,hJ4⟩
        exact ⟨_,rfl,WL.nil (n0 ⟨c4,rfl,kq.trans k4,rfl,hJ4⟩)⟩
      · obtain rfl:=si H
        exact W.skip (n0 ⟨c,rfl,kq,rfl,hJc⟩)
end Go.Proofs.YtclmdpamofdoiaaGreatDoor
namespace Go.Proofs.YtclmdpamofdoiaaGreatDoor
open Go Go.Lt
set_option maxRecDepth 10000
set_option linter.unusedVariables false
attribute [local irreducible] W WL AC
open Tryz
variable {c0:Cx} {G:Gm} {F:List En} {v1:Value}
theorem jb (O:Own c0 G F) {l:List Int} (hl:Sl (RI .i32) c0 v1 l): Calls Tryz.prog 113 #[v1] c0.w (aI c0 fun c v=>∃b,Own c G F∧v= .func (.func 172) #[] #[.pointer (some ⟨b,0,none⟩)]∧Im c b 0 v1):=by
  obtain ⟨a,cap,rfl,_⟩:=hl;refine en func113 rfl rfl (sr (me (bx 32 [.slice a l.length cap] O) ?_));rintro v c1 k1 ⟨b,rfl,O1,hb⟩;refine va (.nilFunc) (wln (sr (vv (.func (.func 172) #[] #[.pointer (some ⟨b,0,none⟩)]) (wln (W.ret ?_)))));exact r1 (qq c1 ⟨b,O1,rfl,hb 0 _ rfl⟩)
def gp (l:List Int):Option (List dv):=
 fm (fun (out:List dv) _ x=>(go x).bind fun z=>if z.2=true then (app out [z.1]).bind fun o=>some (o,true) else some (out,true)) l []
def nG (cb:Cx) (G:Gm) (bo lr D:Nat) (r:Loop) (out:List dv) (c:Cx) (F:List En):Prop:=
  ∃vo vs,Own c G (Eb bo 161 [vo] :: es true ck vo 165 vs out :: F)∧OA ck c vo vs out∧Rec c lr D r∧cb.le c
theorem nG.bod (cb:Cx) (G:Gm) (bo lr D:Nat) (r:Loop):Bod (nG cb G bo lr D r):=by
  rintro out c F ⟨vo,vs,O,ho,hr,hc⟩;exact ⟨G,[Eb bo 161 [vo],es true ck vo 165 vs out],O,fun c' F' k O'=>⟨vo,vs,O',ho.mono k,hr.mono k,hc.trans k⟩⟩
set_option maxHeartbeats 1000000 in
theorem lR (O0:Own c0 G F) (l:List Int) {r:List dv} (hl:Sl (RI .i32) c0 v1 l) (H:gp l=some r): Calls Tryz.prog 114 #[v1] c0.w (aI c0 fun c v=>∃y1 us1,Own c G (es true ck y1 165 us1 r :: F)∧v=y1∧OA ck c y1 us1 r):=by
  refine enR func114 rfl rfl (WR.sr (va (.slice none 0 0) (wln (WR.sr (me (al 161 [.slice none 0 0] O0) ?_)))));rintro v3 c1 k1 ⟨bo,rfl,O1⟩;refine wln (WR.seq (WR.sr (va (v1) (cl (jb O1 (hl.mono k1)) ?_))));rintro v9 c2 k2 ⟨bc,O2,rfl,hbc⟩;have O3:Own c2 G (es true ck (.slice none 0 0) 165 [] [] :: Eb bo 161 [.slice none 0 0] :: F):=Own.addHole O2 rfl;have O4:=O3.sD 2 [1,0];refine wln (WR.block (WR.range rfl (fun args w=>by kernel_rfl) fun fn rc hrc=>?_));obtain ⟨c3,e3,b3,r3⟩:=Cx.loop c2 (rc .ready none);rw [←e3];have k3:=b3.le;have hJ:=nG.bod c2 G bo (c2.w.heap.size+1) c2.w.heap.size (rc .ready none);unfold gp at H;refine (jC hJ (c2.w.heap.size+1) ?_ (hbc.mono k3) (hl.mono ((k1.trans k2).trans k3)) ⟨.slice none 0 0,[],O4.keep b3,OA.nil (by decide),r3,k3⟩ H).mono ?_
  · rintro s i x z c F v hz ⟨vo,vs,O,ho,hr,hc⟩ hs
    obtain ⟨q,hq,hz⟩:=bs hz;refine nH hrc hr.rc rfl (rn _ _ _ _ _ 10 11 _ _) ?_;refine W.region (va v (WL.nil (nrm ⟨hr.rc,?_⟩)));have k4:=Cx.turn_lw (o':= .loop (rc .busy none)) hr.rc rfl rfl;have Ob:=Own.turn (o':= .loop (rc .busy none)) O hr.rc rfl;have rb:=hr.turn (rc .busy none);have hcb:=hc.turn (o':= .loop (rc .busy none)) (jZ _) hr.rc rfl rfl;have hob:=ho.lw k4;have hsb:=hs.lw k4;show W _ _ _ _ _ (c.turn (c2.w.heap.size+1) (.loop (rc .busy none))).w;generalize c.turn (c2.w.heap.size+1) (.loop (rc .busy none))=cb at k4 Ob rb hcb hob hsb;have fin:∀(cE:Cx) (vo vs) (out:List dv) (e:Nat→Value),cb.le cE→Own cE G (Eb bo 161 [vo] :: es true ck vo 165 vs out :: F)→OA ck cE vo vs out→
        rdQ (c2.w.heap.size+1) rc (fun x w'=>∃c',w'=c'.w∧c.lw c'∧x= .returned (.bool true)∧nG c2 G bo (c2.w.heap.size+1) c2.w.heap.size (rc .ready none) out c' F) .normal e cE.w:=fun cE vo vs out e kE OE hoE=>by
      have rE:=rb.mono kE;have kt:=Cx.turn_lw (o':= .loop (rc .ready none)) rE.rc rfl rfl;exact ⟨rE.rc,cE.turn _ (.loop (rc .ready none)),rfl,k4.trans (kE.lw.trans kt),rfl,vo,vs,Own.turn OE rE.rc rfl,hoE.lw kt,rE.turn _,(hcb.trans kE).turn (jZ _) rE.rc rfl rfl⟩
    refine W.block (sr (va v (cl (lQ Ob x hsb hq) ?_)));rintro v14 c5 k5 ⟨y1,O5,rfl,hy1⟩;obtain ⟨ya,yn,yc,rfl⟩:=hy1.form;refine va (.tuple #[.agg #[I q.1.Wide,.slice ya yn yc],B q.2]) (va (.agg #[I q.1.Wide,.slice ya yn yc]) (va (B q.2) (me (al 165 [I 0,.slice none 0 0] O5) ?_)));rintro v6 c6 k6 ⟨bx,rfl,O6⟩;refine md (sA 165 [I q.1.Wide,.slice ya yn yc] 0 O6 ⟨rfl,rfl,trivial⟩) ?_;intro c7 k7 O7;have ho7:=((hob.mono k5).mono k6).mono k7;refine va (B q.2) (wln (sr (va (B q.2) (wln (cn hz (fun h hz=>?_) (fun h hz=>?_))))))
    · obtain ⟨o,ho2,hz⟩:=bs hz
      obtain rfl:=si hz;refine W.region (vx (le1 0 underlying161 (O7.on 1 rfl)) (vx (leN 165 0 [I q.1.Wide,.slice ya yn yc] (O7.on 0 rfl)) (me (sl ck 165 [[I q.1.Wide,.slice ya yn yc]] ([q.1]:List dv) O7 ⟨⟨_,rfl,(hy1.mono k6).mono k7⟩,trivial⟩) ?_)));rintro v20 c8 k8 ⟨vs8,O8,ho8⟩;obtain ⟨c9,w9,k9,O9,hs9⟩:=O8.frz 0 rfl ho8;refine WL.gh w9 ?_;refine me (ap ck (.agg #[I 0,.slice none 0 0]) 32 161 3 O9 ((ho7.mono k8).mono k9) hs9 ho2 underlying161) ?_;rintro v21 cA kA ⟨vsA,OA_,hoA⟩;obtain ⟨oa,on_,oc,rfl⟩:=hoA.form;refine md (sC 161 0 (.slice oa on_ oc) [.slice oa on_ oc] 2 OA_ ⟨rfl,trivial⟩) ?_;intro cB kB OB;have OC:=OB.sD 4 [2,3];refine WL.nil (bkn ?_);rw [show (true:Bool)=true from rfl];exact fin cB _ _ _ _ (k5.trans (k6.trans (k7.trans (k8.trans (k9.trans (kA.trans kB)))))) OC (hoA.mono kB)
    · obtain rfl:=si hz
      have OC:=O7.sD 3 [1,2];exact W.skip (bkn (fin c7 _ _ _ _ (k5.trans (k6.trans k7)) OC ho7))
  · rintro ex w' ⟨c4,rfl,k4,rfl,vo,vs,O,ho,hr,hc⟩
    have kt:=Cx.turn_lw (o':= .loop (rc .exhausted none)) hr.rc rfl rfl;have Ot:=Own.turn (o':= .loop (rc .exhausted none)) O hr.rc rfl;have rt:=hr.turn (rc .exhausted none);have hct:=hc.turn (o':= .loop (rc .exhausted none)) (jZ _) hr.rc rfl rfl;have hot:=ho.lw kt;refine ⟨_,rfl,.inl ⟨hr.rc,?_⟩⟩;show fu _ _ _ _ (c4.turn (c2.w.heap.size+1) (.loop (rc .exhausted none))).w;generalize c4.turn (c2.w.heap.size+1) (.loop (rc .exhausted none))=ct at kt Ot rt hct hot;obtain ⟨oa,on_,oc,rfl⟩:=hot.form;refine bkn (nrm (WR.sr (vx (le1 0 underlying161 (Ot.on 0 rfl)) (va (.slice oa on_ oc) (wln (WR.of (W.ret ?_)))))));have kd:=Cx.turn_lw (o':= .deferred none) rt.def_ rfl rfl;exact rZ rt.def_ ⟨_,ct.turn c2.w.heap.size (.deferred none),rfl,rfl,(k1.trans k2).trans (hct.turn (ah _) rt.def_ rfl rfl),_,_,(Own.turn Ot rt.def_ rfl).tail,rfl,hot.lw kd⟩
end Go.Proofs.YtclmdpamofdoiaaGreatDoor
namespace Go.Proofs.YtclmdpamofdoiaaGreatDoor
open Go Go.Lt
set_option maxRecDepth 10000
set_option linter.unusedVariables false
attribute [local irreducible] W WL AC
open Tryz
variable {c0:Cx} {G:Gm} {F:List En} {v1 v3:Value} {sg:Sto}
theorem sk {P:Program} {fn:Func} {n:Nat} {R:Ending→World→Prop} {c:Cx} {e:Nat→Value} {D:Nat} (hD:c.w.heap[D]? = some (.deferred (some []))) (h:R (.returned (.tuple #[])) (c.turn D (.deferred none)).w)
  (hr:fn.results= #[]:=by rfl):qt P fn n R [Go.Lt.mark D] .normal e c.w:=qh hD (rC hr _ _ _) h
def jT (sg:Sto) (p0:Option Nat) (p1:List Int):Option (Sto):=
 (gp p1).bind fun x_6=>
 if (decide ((x_6.length:Int) > 0))=true then
 (idx x_6 0).bind fun x_15=>
 (idx x_6 0).bind fun x_19=>
 (gn sg p0 x_15.Wide x_19.Text).bind fun x_22=>
 some x_22.1
 else
 (cw (σ:=Int×Sto) (τ:=Sto) (((p1.length:Int) - 0).toNat+1) (fun s_28=>
 if (decide (s_28.1 < (p1.length:Int)))=true then
 (idx p1 s_28.1).bind fun x_31=>
 (lc s_28.2 p0 x_31).bind fun x_37=>
 some (.inl ((w64 (s_28.1+1)),x_37.1))
 else
 some (.inr (s_28.2))) (0,sg)).bind fun o_28=>
 some o_28
def gu (sg:Sto) (p0:Option Nat) (p1:List Int):Option (Sto):=
 fm (fun (s:Sto) _ x=>(jT s p0 x).bind fun s'=>some (s',true)) p1 sg
def rj (cb:Cx) (lr D:Nat) (r:Loop) (s:Sto) (c:Cx) (F:List En):Prop:=∃G,Own c G F∧Rel c s G∧Rec c lr D r∧cb.le c
theorem rj.bod (cb:Cx) (lr D:Nat) (r:Loop):Bod (rj cb lr D r):=by
 rintro s c F ⟨G,O,R,hr,hc⟩;exact ⟨G,[],O,fun c' F' k O'=>⟨G,O',R.mono k,hr.mono k,hc.trans k⟩⟩
set_option maxHeartbeats 1000000 in
theorem kI (O0:Own c0 G F) (R0:Rel c0 sg G) (hG:Gl [2,4] c0) (p0:Option Nat) (l:List Int) {r:Sto} (h2:Pt 2 c0 v1 p0) (hl:Sl (RI .i32) c0 v3 l) (H:gu sg p0 l=some r): Calls Tryz.prog 74 #[v1,v3] c0.w (aI c0 fun c v=>∃G_:Gm,Own c G_ (F)∧Rel c r G_∧v= .tuple #[]):=by
 obtain ⟨a5,rfl⟩:=h2.form;refine enR func74 rfl rfl (WR.sr (me (bx 119 [.pointer a5] O0) ?_));rintro v10 c1 k1 ⟨b6,rfl,O1,m8⟩;refine wln (WR.sr (va (v3) (cl (jb O1 (hl.mono k1)) ?_)));rintro v9 c2 k2 ⟨bc,O2,rfl,hbc⟩;refine wln (WR.block (WR.range rfl (fun args w=>by kernel_rfl) fun fn rc hrc=>?_));obtain ⟨c3,e3,b3,r3⟩:=Cx.loop c2 (rc .ready none);rw [←e3];have k3:=b3.le;have hJ:=rj.bod c2 (c2.w.heap.size+1) c2.w.heap.size (rc .ready none);have hp2:=h2.mono (k1.trans k2);have hG2:=hG.mono (k1.trans k2);unfold gu at H;refine (jC hJ (c2.w.heap.size+1) ?_ (hbc.mono k3) (hl.mono ((k1.trans k2).trans k3)) ⟨G,O2.keep b3,R0.mono ((k1.trans k2).trans k3),r3,k3⟩ H).mono ?_
 ·rintro s i x z c F v hz ⟨G1,O,R,hr,hc⟩ hs;obtain ⟨q,hq,hz⟩:=bs hz;obtain rfl:=si hz;refine nH hrc hr.rc rfl (rn _ _ _ _ _ 11 12 _ _) ?_;refine W.region (va v (WL.nil (nrm ⟨hr.rc,?_⟩)));have k4:=Cx.turn_lw (o':= .loop (rc .busy none)) hr.rc rfl rfl;have Ob:=Own.turn (o':= .loop (rc .busy none)) O hr.rc rfl;have Rb:=R.lw k4;have rb:=hr.turn (rc .busy none);have hcb:=hc.turn (o':= .loop (rc .busy none)) (jZ _) hr.rc rfl rfl;have hsb:=hs.lw k4;show W _ _ _ _ _ (c.turn (c2.w.heap.size+1) (.loop (rc .busy none))).w;generalize c.turn (c2.w.heap.size+1) (.loop (rc .busy none))=cb at k4 Ob Rb rb hcb hsb;have hpb:=hp2.mono hcb;have hGb:=hG2.mono hcb;have mb:∀j u,([.pointer a5]:List Value)[j]? = some u→Im cb b6 (0+j) u:=fun j u hu=>((m8 j u hu).mono k2).mono hcb;have fin:∀(cE:Cx) (GE:Gm) (s':Sto) (e:Nat→Value),cb.le cE→Own cE GE F→Rel cE s' GE→rdQ (c2.w.heap.size+1) rc (fun x w'=>∃c',w'=c'.w∧c.lw c'∧x= .returned (.bool true)∧rj c2 (c2.w.heap.size+1) c2.w.heap.size (rc .ready none) s' c' F) .normal e cE.w:=fun cE GE s' e kE OE RE=>by
   have rE:=rb.mono kE;have kt:=Cx.turn_lw (o':= .loop (rc .ready none)) rE.rc rfl rfl;exact ⟨rE.rc,cE.turn _ (.loop (rc .ready none)),rfl,k4.trans (kE.lw.trans kt),rfl,GE,Own.turn OE rE.rc rfl,RE.lw kt,rE.turn _,(hcb.trans kE).turn (jZ _) rE.rc rfl rfl⟩
  unfold jT at hq;refine W.block ?_;refine W.seq ?_;refine sr ?_;refine va (v) ?_;obtain ⟨x_6,h11,hq⟩:=bs hq;refine WL.callP rfl (by kernel_rfl) (lR Ob x hsb h11) ?_;rintro v12 c19 l19 ⟨_,u13,O16,rfl,h14⟩;refine va (v12) ?_;refine wln ?_;refine sr ?_;refine va (v12) ?_;refine WL.val0 (v:= .int .i64 (x_6.length:Int)) rfl (rx (by kernel_rfl) (mc (ty:=3) Tryz.underlying161 h14 _)) ?_;refine va (.bool (decide ((x_6.length:Int) > 0))) ?_;refine wln ?_;refine W.cond (t:=decide ((x_6.length:Int) > 0)) (by kernel_rfl) (fun h21=>?_) (fun h21=>?_)
  ·have hq:=it h21 hq;refine W.seq ?_;refine W.regionD [] (Kp G0 [es true ck v12 165 u13 x_6]) O16 (by kernel_rfl) ?_;intro c22 l22 O23;have p24:Kp G0 [es true ck v12 165 u13 x_6] c22:=(Kp.cons (O23.on 0 rfl) Kp.nil0);refine AC.take 0 (.pointer a5) rfl (by kernel_rfl) (by kernel_rfl) (fun c' hle=>(rx (by kernel_rfl) (jG Tryz.underlying119 rfl ((fun j u hu=>(mb j u hu).mono ((l19.trans l22).trans hle)) 0 _ rfl)))) ?_;refine ta 1 (v12) ?_;obtain ⟨x_15,h25,hq⟩:=bs hq;refine AC.take 2 (.pointer (some ⟨sb v12,(0:Int).toNat * 2,none⟩)) rfl (by kernel_rfl) (by kernel_rfl) (fun c' hle=>(rx (by kernel_rfl) (gx (k:= .i64) Tryz.underlying161 (by kernel_rfl) (h14.mono l22) h25 _))) ?_;refine ta 3 (.pointer (some ⟨sb v12,(0:Int).toNat * 2,none⟩)) ?_;obtain ⟨l_26,h27,m28⟩:=OA.at (h14.mono l22) h25;obtain ⟨v29,rfl,h30⟩:=h27;refine AC.takeK 4 (.int .i64 x_15.Wide) p24 rfl (by kernel_rfl) (by kernel_rfl) (by kernel_rfl) (fun c' hle hk=>(rx (by kernel_rfl) (ee Tryz.underlying3 rfl (hk.on 0 rfl) ((h14.mono l22).blk h25) (at1 (j:=0) m28 rfl)))) ?_;refine ta 5 (v12) ?_;obtain ⟨x_19,h31,hq⟩:=bs hq;refine AC.take 6 (.pointer (some ⟨sb v12,(0:Int).toNat * 2,none⟩)) rfl (by kernel_rfl) (by kernel_rfl) (fun c' hle=>(rx (by kernel_rfl) (gx (k:= .i64) Tryz.underlying161 (by kernel_rfl) (h14.mono l22) h31 _))) ?_;refine ta 7 (.pointer (some ⟨sb v12,(0:Int).toNat * 2+1,none⟩)) ?_;obtain ⟨l_32,h33,m34⟩:=OA.at (h14.mono l22) h31;obtain ⟨v35,rfl,h36⟩:=h33;refine AC.takeK 8 (v35) p24 rfl (by kernel_rfl) (by kernel_rfl) (by kernel_rfl) (fun c' hle hk=>(rx (by kernel_rfl) (ee Tryz.underlying32 rfl (hk.on 0 rfl) ((h14.mono l22).blk h31) (at1 (j:=1) m34 rfl)))) ?_;obtain ⟨x_22,h37,hq⟩:=bs hq;refine AC.one 9 (by kernel_rfl) (Go1.callP 9 rfl (by kernel_rfl) (by kernel_rfl) (by kernel_rfl) (lP O23 (Rb.mono (l19.trans l22)) ((hGb.mono (l19.trans l22)).le (by decide)) p0 x_15.Wide x_19.Text (hpb.mono (l19.trans l22)) h36 h37) ?_);rintro v43 c42 l42 ⟨G38,O39,R40,rfl⟩;have p44:Kp G0 [es true ck v12 165 u13 x_6] c42:=(Kp.cons (O39.on 0 rfl) Kp.nil0);refine ⟨.inr p44,?_⟩;refine AC.done (by kernel_rfl) ?_;refine nrm ?_;refine W.exit ?_;refine thx ?_;refine bke ?_;obtain rfl:=az hq;have O45:=O39.selD 1 [] (by kernel_rfl) (by kernel_rfl);exact fin c42 G38 _ _ (l19.trans (l22.trans l42)) O45 R40
  ·have hq:=ie h21 hq;refine W.skip ?_;refine nrm ?_;refine sr ?_;refine va (v) ?_;refine WL.val0 (v:= .int .i64 (x.length:Int)) rfl (rx (by kernel_rfl) (jH (ty:=3) Tryz.underlying32 (hsb.mono l19) _)) ?_;refine va (.int .i64 0) ?_;refine wln ?_;refine W.block ?_;obtain ⟨o_28,h46,H47⟩:=bs hq;refine W.loop (σ:=Int×Sto) (τ:=Sto) (fun s_28=>fun e w=>∃(c:Cx) (g:Nat→Value) (G_:Gm),w=c.w∧c19.le c∧Own c G_ (es true ck v12 165 u13 x_6 :: F)∧e=ups g [(2,.pointer (some ⟨b6,0,none⟩)),(28,v),(29,.int .i64 (x.length:Int)),(30,.int .i64 s_28.1)]∧Rel c s_28.2 G_) (fun o_28_ ex e w=>ex= .exit 2∧(fun e w=>∃(c:Cx) (g:Nat→Value) (G_:Gm),w=c.w∧c19.le c∧Own c G_ (es true ck v12 165 u13 x_6 :: F)∧e=ups g []∧Rel c o_28_ G_) e w) ?_ h46 ?_ ?_
   ·clear H47 h46;intro s_28 xx_ ee_ ww_ hq;revert ee_ ww_;rintro e_ w_ ⟨c48,g49,G51,rfl,l48,O50,rfl,R52⟩;refine sr ?_;refine va (.bool (decide (s_28.1 < (x.length:Int)))) ?_;refine wln ?_;refine W.seq ?_;refine W.cond (t:=decide (s_28.1 < (x.length:Int))) (by kernel_rfl) (fun h54=>?_) (fun h54=>?_)
    ·have hq:=it h54 hq;refine W.skip ?_;refine nrm ?_;refine W.seq ?_;refine W.block ?_;refine sr ?_;obtain ⟨x_31,h55,hq⟩:=bs hq;obtain ⟨l_56,h57,m58⟩:=Sl.at (hsb.mono (l19.trans l48)) (aW h55);obtain rfl:=h57;refine WL.val0 (v:= .pointer (some ⟨sb v,so v+s_28.1.toNat * 1,none⟩)) rfl (rx (by kernel_rfl) (jI (k:= .i64) Tryz.underlying32 (by kernel_rfl) (hsb.mono (l19.trans l48)) h55 _)) ?_;refine WL.val0 (v:= .int .i32 x_31) rfl (rx (by kernel_rfl) (jG Tryz.underlying21 rfl (m58 0 _ rfl))) ?_;refine va (.int .i32 x_31) ?_;refine wln ?_;refine W.region ?_;refine WL.val0 (v:= .pointer a5) rfl (rx (by kernel_rfl) (jG Tryz.underlying119 rfl ((fun j u hu=>(mb j u hu).mono (l19.trans l48)) 0 _ rfl))) ?_;refine va (.int .i32 x_31) ?_;obtain ⟨x_37,h59,hq⟩:=bs hq;refine WL.callP rfl (by kernel_rfl) (pE O50 R52 p0 x_31 (hpb.mono (l19.trans l48)) h59) ?_;rintro v65 c64 l64 ⟨G60,O61,R62,rfl⟩;refine WL.nil ?_;refine bkn ?_;refine nrm ?_;refine W.region ?_;refine va (.int .i64 (w64 (s_28.1+1))) ?_;refine va (.int .i64 (w64 (s_28.1+1))) ?_;refine WL.nil ?_;obtain rfl:=az hq;refine ⟨_,rfl,?_⟩;exact ⟨c64,_,G60,rfl,(l48.trans l64),O61,cJ ⟨rfl,rfl,rfl,rfl,trivial⟩,R62⟩
    ·have hq:=ie h54 hq;refine W.exit ?_;refine thx ?_;obtain rfl:=az hq;refine ⟨_,rfl,rfl,?_⟩;exact ⟨c48,_,G51,rfl,l48,O50,cJ trivial,R52⟩
   ·skip;exact ⟨c19,_,G1,rfl,(Cx.le.refl _),O16,cJ ⟨rfl,rfl,rfl,rfl,trivial⟩,(Rb.mono l19)⟩
   ·skip;rintro _ e_ w_ ⟨rfl,c66,g67,G69,rfl,l66,O68,rfl,R70⟩;refine bke ?_;refine bkn ?_;obtain rfl:=az H47;have O72:=O68.selD 1 [] (by kernel_rfl) (by kernel_rfl);exact fin c66 G69 _ _ (l19.trans l66) O72 R70
 ·rintro ex w' ⟨c4,rfl,k4,rfl,G4,O,R,hr,hc⟩;have kt:=Cx.turn_lw (o':= .loop (rc .exhausted none)) hr.rc rfl rfl;have Ot:=Own.turn (o':= .loop (rc .exhausted none)) O hr.rc rfl;have Rt:=R.lw kt;have rt:=hr.turn (rc .exhausted none);have hct:=hc.turn (o':= .loop (rc .exhausted none)) (jZ _) hr.rc rfl rfl;refine ⟨_,rfl,.inl ⟨hr.rc,?_⟩⟩;show fu _ _ _ _ (c4.turn (c2.w.heap.size+1) (.loop (rc .exhausted none))).w;generalize c4.turn (c2.w.heap.size+1) (.loop (rc .exhausted none))=ct at kt Ot Rt rt hct;refine bkn ?_;have kd:=Cx.turn_lw (o':= .deferred none) rt.def_ rfl rfl;exact sk rt.def_ ⟨_,ct.turn c2.w.heap.size (.deferred none),rfl,rfl,(k1.trans k2).trans (hct.turn (ah _) rt.def_ rfl rfl),G4,Own.turn Ot rt.def_ rfl,Rt.lw kd,rfl⟩
end Go.Proofs.YtclmdpamofdoiaaGreatDoor
namespace Go.Proofs.YtclmdpamofdoiaaGreatDoor
open Go Go.Lt
set_option maxRecDepth 10000
set_option linter.unusedVariables false
attribute [local irreducible] W WL AC
open Tryz
variable {c0:Cx} {G:Gm} {F:List En} {sg:Sto} {v1 v2 v3 v4 v5 v6 v7 v8 v9 v10 v11 v12 v13 v14 v15 v16 v17 v18 v19 v20 v21 v22 v23 v24 v25 v26 v27 v28 v29 v30 v31 v32 v33 v34 v35 v36 v37 v38 v39 v40 v41 v42 v43 v44 v45 v46 v47 v48 v49 v50 v51 v52 v53 v54 v55 v56 v57 v58 v59 v60:Value}
def iH (sg:Sto) (p0:Int) (p1:Int) (p2:List aw):Option (Sto×kj):=
 (jm sg p0 p1).bind fun e=>
 (cY p2).bind fun g=>
 (idx g 0).bind fun i=>
 (gu e.1 e.2 i).bind fun j=>
 (cw (σ:=Int×Int×Sto) (τ:=Sto) (((p2.length:Int) - 0).toNat+1) (fun a=>
 if (decide (a.2.1 < (p2.length:Int)))=true then
 ((idx p2 a.2.1).bind fun b=>
 (dB b).bind fun k=>
 if (!k)=true then
 some (a.1,a.2.2)
 else
 (if (b.Kind==1)=true then
 some (a.2.2)
 else
 if (b.Kind==13)=true then
 (gY a.2.2 e.2 b.A b.B).bind fun l=>
 some (l)
 else
 (kZ a.2.2 e.2 b).bind fun m=>
 some (m.1)).bind fun s=>
 (idx g a.1).bind fun n=>
 (gu s e.2 n).bind fun o=>
 some ((w64 (a.1+1)),o)).bind fun f=>
 some (.inl (f.1,(w64 (a.2.1+1)),f.2))
 else
 some (.inr (a.2.2))) (1,0,j)).bind fun c=>
 (e.2).bind fun h=>
 (c.place_Pen[h]?).bind fun d=>
 (bq c d.G).bind fun p=>
 (aV c d.G).bind fun q=>
 (fl c d.G).bind fun r=>
 some (c,(⟨p,q,r,d.At,d.Auto⟩:kj))
theorem nr (O0:Own c0 G F) (R0:Rel c0 sg G) (hG:Gl [2,4] c0) (p0:Int) (p1:Int) (T:List aw) {r:Sto×kj} (h2:Sl gj c0 v1 T) (H:iH sg p0 p1 T=some r): Calls prog 30 #[I p0,I p1,v1] c0.w (aI c0 fun c v=>∃y1 y2,∃G_:Gm,Own c G_ (es true aK y1 48 y2 r.2.Lines :: F)∧Rel c r.1 G_∧v= .agg #[I r.2.Wide,I r.2.High,y1,I r.2.At.Row,I r.2.At.Col,B r.2.At.Pending,B r.2.Auto]∧OA aK c y1 y2 r.2.Lines):=by
 unfold iH at H;refine en func30 rfl rfl (sr (me (al 45 [I 0,I 0,Y,I 0,I 0,B false,B false] O0) ?_));rintro v6 c5 l5 ⟨E,rfl,O4⟩;refine wln (sr (va (I p0) (va (I p1) (bn H fun h0 h7 H=>cl (nV O4 R0.m p0 p1 h7) ?_))));rintro v8 h6 r4 ⟨_,e6,q3,x3,g6,rfl,h9⟩;refine va (v8) (wln (sr (va (v1) (bn H fun i0 f4 H=>cl (gq q3 (hG.m.le (by decide)) T h2.m f4) ?_))));rintro v17 i6 k1 ⟨_,g0,d1,rfl,s⟩;refine va (v17) (wln (sr (va (v8) (va (v17) (bn H fun h3 t0 H=>vx (ixO nf s t0) ?_)))));obtain ⟨r5,g4,v4⟩:=OA.at s t0;obtain ⟨v30,rfl,h4⟩:=g4;refine vr v30 (rx (by kernel_rfl) (ee cj rfl (d1.on 0 rfl) (s.blk t0) (at1 (j:=0) v4 rfl))) (bn H fun z5 i4 H=>cl (kI d1 x3.m (hG.m.le (by decide)) h0.2 h3 h9.m h4 i4) ?_);rintro v38 q0 w0 ⟨m3,s3,y3,rfl⟩;refine wln (sr (va (I 1) (wln (W.seq (sr (va (v1) (vx (ln 3 mH h2.m) (va (I 0) (wln (W.block (bn H fun t5 i1 h=>lp i1 (fun f=>Jn q0 fun c l=>∃G_,Own c G_ (es true (RL (RI .i32)) v17 32 g0 i0 :: (Eb E 45 [I 0,I 0,Y,I 0,I 0,B false,B false]) :: F)∧l= [(6,Q E),(7,v8),(8,v17),(9,I f.1),(22,v1),(23,I (T.length:Int)),(24,I f.2.1)]∧Rel c f.2.2 G_) (fun a1 ex e w=>ex= .exit 0∧(Jn q0 fun c l=>∃G_,Own c G_ (es true (RL (RI .i32)) v17 32 g0 i0 :: (Eb E 45 [I 0,I 0,Y,I 0,I 0,B false,B false]) :: F)∧l= [(6,Q E),(7,v8)]∧Rel c a1 G_) e w) ?_ ?_ ?_)))))))))))
 ·clear h i1;intro f u6 e4 x4 H;revert e4 x4;rintro e_ w_ ⟨h1,m6,_,rfl,m1,rfl,j0,e1,rfl,D⟩;refine sr (va (B (decide (f.2.1 < (T.length:Int)))) (wln (W.seq (cn H (fun j4 H=>?_) (fun j4 H=>?_)))))
  ·refine W.skip (nrm (bn H fun x0 k p3=>W.seqJ (Jn h1 fun c l=>∃G_,Own c G_ (es true (RL (RI .i32)) v17 32 g0 i0 :: (Eb E 45 [I 0,I 0,Y,I 0,I 0,B false,B false]) :: F)∧l= [(6,Q E),(7,v8),(8,v17),(9,I x0.1),(22,v1),(23,I (T.length:Int)),(24,I f.2.1)]∧Rel c x0.2 G_) ?_ ?_))
   ·refine W.block (sr (bn k fun a j1 k=>?_));obtain ⟨s5,k4,w4⟩:=Sl.at (h2.mono (l5.trans (r4.trans (k1.trans (w0.trans m1))))) (aW j1);obtain ⟨v54,rfl,e0⟩:=k4;refine vx (ix mH h2.m j1) (vx (lN 38 w4) (me (al 38 [I 0,I 0,I 0,Y] e1) ?_));rintro v59 j6 n1 ⟨d0,rfl,t3⟩;obtain ⟨Z,a0,b0,rfl⟩:=((e0.mono n1)).form;refine md (sA 38 [I a.Kind,I a.A,I a.B,.slice Z a0 b0] 0 t3 ⟨rfl,rfl,rfl,e0.m.one,trivial⟩) ?_;rintro k6 s4 f1;refine wln (W.seq (sr (vx (leN 38 0 [I a.Kind,I a.A,I a.B,.slice Z a0 b0] (f1.on 0 rfl)) (bn k fun i3 l4 k=>cl (iZ f1 (hG.m.le (by decide)) a e0.m l4) ?_))));rintro r6 s0 t4 ⟨n,rfl⟩;refine va (B (!i3)) (wln (cn k (fun m4 k=>?_) (fun m4 k=>?_)))
    ·refine W.exit (thx (bke (nrm ?_)));obtain rfl:=si k;have u3:=n.sD 3 [1,2];exact jn s0 ⟨j0,u3,rfl,D.m⟩
    refine W.skip (nrm (bn k fun l3 g z=>W.seqJ (Jn s0 fun c l=>∃G_,Own c G_ ((Eb d0 38 [I a.Kind,I a.A,I a.B,.slice Z a0 b0]) :: es true (RL (RI .i32)) v17 32 g0 i0 :: (Eb E 45 [I 0,I 0,Y,I 0,I 0,B false,B false]) :: F)∧l= [(6,Q E),(7,v8),(8,v17),(9,I f.1),(22,v1),(23,I (T.length:Int)),(24,I f.2.1)]∧Rel c l3 G_) ?_ ?_))
    ·refine sr (va (Q d0) (vx (le1 0 u_3 (n.on 0 rfl)) (wln (W.block (sr (vv (B (a.Kind==1)) (wln (cn g (fun n4 g=>?_) (fun n4 g=>?_)))))))))
     ·refine W.skip (bkn (nrm ?_));obtain rfl:=si g;exact jn s0 ⟨j0,n,rfl,D.m⟩
     refine sr (vv (B (a.Kind==13)) (wln (cn g (fun o4 g=>?_) (fun o4 g=>?_))))
     ·refine W.region (va (v8) (va (Qo d0 1) (vx (le1 1 u_3 (n.on 0 rfl)) (va (Qo d0 2) (vx (le1 2 u_3 (n.on 0 rfl)) (bn g fun a6 p4 g=>cl (mK n D.m (hG.m.le (by decide)) h0.2 a.A a.B h9.m p4) ?_))))));rintro s6 c4 p6 ⟨n3,v3,z3,rfl⟩;refine WL.nil (bkn (nrm ?_));obtain rfl:=si g;exact jn c4 ⟨n3,v3,rfl,z3⟩
     refine W.region (va (v8) (vx (leN 38 0 [I a.Kind,I a.A,I a.B,.slice Z a0 b0] (n.on 0 rfl)) (bn g fun b6 q4 g=>cl (pC n D.m (hG.m.le (by decide)) h0.2 a h9.m e0.m q4) ?_)));rintro t6 d4 q6 ⟨_,o3,w3,a4,rfl,o6⟩;refine WL.nil (bkn (nrm ?_));obtain rfl:=si g;exact jn d4 ⟨o3,w3,rfl,a4⟩
    rintro e_ w_ ⟨l6,n6,_,rfl,u4,rfl,f6,g1,rfl,b4⟩;refine sr (va (v8) (va (v17) (va (I f.1) (bn z fun j3 P z=>vx (ixO nf s.m P) ?_))));obtain ⟨z4,l2,x2⟩:=OA.at (s.mono (w0.trans (m1.trans (n1.trans (s4.trans (t4.trans u4)))))) P;obtain ⟨f3,rfl,m2⟩:=l2;refine vr f3 (rx (by kernel_rfl) (ee cj rfl (g1.on 1 rfl) (s.m.blk P) (at1 (j:=0) x2 rfl))) (bn z fun c6 n2 z=>cl (kI g1 b4 (hG.m.le (by decide)) h0.2 j3 h9.m m2 n2) ?_);rintro u5 d2 j5 ⟨q1,t1,b2,rfl⟩;refine wln (W.region (va (I f.1) (vv (I (w64 (f.1+1))) (WL.nil (bkn (nrm ?_))))));obtain rfl:=si z;have u1:=t1.sD 3 [1,2];exact jn d2 ⟨q1,u1,rfl,b2⟩
   rintro e_ w_ ⟨e2,f5,_,rfl,k5,rfl,s1,w1,rfl,c2⟩;refine W.region (vv (I (w64 (f.2.1+1))) (WL.nil ?_));obtain rfl:=si p3;exact ⟨_,rfl,jn e2 ⟨s1,w1,rfl,c2⟩⟩
  refine W.exit (thx ?_);obtain rfl:=si H;exact ⟨_,rfl,rfl,jn h1 ⟨j0,e1,rfl,D⟩⟩
 ·exact jn q0 ⟨m3,s3,rfl,y3⟩
 rintro _ e_ w_ ⟨rfl,e5,g5,_,rfl,w2,rfl,i,x1,rfl,o⟩;refine bke (nrm (W.seq (rD [] (Kp i []) x1 ?_)));intro f2 v0 k0;have q:Kp i [] f2:=(Kp.nil k0);refine ta 0 (v8) (bn h fun i5 q2 h=>?_);obtain ⟨d,rfl,o2⟩:=((h9.mono (k1.trans (w0.trans (w2.trans v0))))).get q2;refine ta 1 (Q d) (ta 2 (Q d) (bn h fun b s2 h=>?_));obtain ⟨v5,p,R⟩:=Rel.open_place_Pen (o.mono v0) s2 o2;refine tkx 3 q (fun c' f0 y=>le1 0 cP (y.gon p 0 rfl)) (ta 5 (Q d) (ta 6 (Q d) (ta 7 (Q d) (tkx 8 q (fun c' f0 y=>le1 0 cP (y.gon p 0 rfl)) (ta 10 (Q d) (ta 11 (Q d) (ta 12 (Q d) (tkx 13 q (fun c' f0 y=>le1 0 cP (y.gon p 0 rfl)) (ta 15 (Q d) (ta 16 (Q d) (ta 17 (Qo d 1) (tkx 18 q (fun c' f0 y=>leN 29 1 [I b.At.Row,I b.At.Col,B b.At.Pending] (y.gon p 0 rfl)) (ta 19 (Q d) (ta 20 (Q d) (ta 21 (Qo d 4) (tkx 22 q (fun c' f0 y=>le1 4 u_4 (y.gon p 0 rfl)) (bn h fun U t2 h=>o1 4 (gc 4 (br k0 o.m b.G R t2) ?_))))))))))))))))));rintro w5 g2 m5 ⟨l0,rfl⟩;have z2:Kp i [] g2:=(Kp.nil l0);refine ⟨.inr z2,bn h fun X u2 h=>o1 9 (gc 9 (aL l0 o.m b.G R.m u2) ?_)⟩;rintro x5 i2 n5 ⟨m0,rfl⟩;have a3:Kp i [] i2:=(Kp.nil m0);refine ⟨.inr a3,bn h fun d6 v2 h=>o1 14 (gc 14 (kK m0 o.m b.G R.m v2) ?_)⟩;rintro y5 j2 o5 ⟨_,e3,o0,rfl,S⟩;have c3:Kp i [] j2:=(Kp.nil o0);refine ⟨.inr c3,?_⟩;obtain ⟨t,u,x,rfl⟩:=(S).form;refine ta 23 (.agg #[I U,I X,.slice t u x,I b.At.Row,I b.At.Col,B b.At.Pending,B b.Auto]) (o1 24 (gD 24 (sA 45 [I U,I X,.slice t u x,I b.At.Row,I b.At.Col,B b.At.Pending,B b.Auto] 2 o0 ⟨rfl,rfl,(S).one,rfl,rfl,rfl,rfl,trivial⟩) ?_));rintro N p5 M;have d3:Kp i [] N:=(Kp.nil M);refine ⟨.inr d3,dn (nrm (W.ret ?_))⟩;obtain rfl:=si h;have z1:=M.sD 3 [0];exact iD (c:=N) (vs:=[I U,I X,.slice t u x,I b.At.Row,I b.At.Col,B b.At.Pending,B b.Auto]) rfl (by kernel_rfl) (by kernel_rfl) (by kernel_rfl) (M.on 2 rfl _ rfl).1 ⟨_,N,rfl,rfl,pt,(.slice t u x),e3,i,z1,o.m,rfl,S.m⟩
def bK (sg:Sto):Option (Sto×Bool):=
 (cY ([(⟨0,0,0,([97,226]:List Int)⟩:aw),(⟨2,0,0,([]:List Int)⟩:aw),(⟨0,0,0,([130,172]:List Int)⟩:aw)]:List aw)).bind fun c=>
 (bS ((c.length:Int)==2) ((idx c 0).bind fun f=>
 (bt f ([97]:List Int)).bind fun g=>
 some g)).bind fun d=>
 (bS d ((idx c 1).bind fun h=>
 (bt h ([8364]:List Int)).bind fun i=>
 some i)).bind fun e=>
 (if e=true then (iH sg 2 2 ([]:List aw)).bind fun b=>
 some (b.2.Wide==2,b.1) else some (false,sg)).bind fun a=>
 some (a.2,a.1)
theorem fD (O0:Own c0 G F) (N:Rel c0 sg G) (hG:Gl [2,4] c0) {r:Sto×Bool} (H:bK sg=some r): Calls prog 11 #[] c0.w (aI c0 fun c v=>∃G_:Gm,Own c G_ (F)∧Rel c r.1 G_∧v=B r.2):=by
 unfold bK at H;refine en func11 rfl rfl (sr (va (B false) (wln (sr (me (sl (RI .u8) 5 [[.int .u8 97],[.int .u8 226]] ([97,226]:List Int) O0 ⟨rfl,rfl,trivial⟩) ?_)))));rintro v5 c4 l4 ⟨u2,O1,h3⟩;obtain ⟨P,R,S,rfl⟩:=(h3).form;refine va (.agg #[I 0,I 0,I 0,.slice P R S]) (va (.agg #[I 2,I 0,I 0,Y]) (me (sl (RI .u8) 5 [[.int .u8 130],[.int .u8 172]] ([130,172]:List Int) O1 ⟨rfl,rfl,trivial⟩) ?_));rintro v13 b3 b2 ⟨i2,O9,X⟩;obtain ⟨i,k,a16,rfl⟩:=(X).form;refine va (.agg #[I 0,I 0,I 0,.slice i k a16]) ?_;obtain ⟨c3,c1,c2,q0,b1⟩:=O9.frz 1 rfl (h3.mono b2);refine WL.gh c1 ?_;obtain ⟨d3,e1,l3,s0,d1⟩:=q0.frz 0 rfl (X.mono c2);refine WL.gh e1 (me (sl gj 38 [[I 0,I 0,I 0,.slice P R S],[I 2,I 0,I 0,Y],[I 0,I 0,I 0,.slice i k a16]] ([(⟨0,0,0,([97,226]:List Int)⟩:aw),(⟨2,0,0,([]:List Int)⟩:aw),(⟨0,0,0,([130,172]:List Int)⟩:aw)]:List aw) s0 ⟨⟨(.slice P R S),rfl,b1.m⟩,⟨(Y),rfl,(Sl.nl _ _)⟩,⟨(.slice i k a16),rfl,d1⟩,trivial⟩) ?_);rintro v29 e3 m3 ⟨j2,t0,f1⟩;obtain ⟨f3,i1,n3,u0,h1⟩:=t0.frz 0 rfl f1;refine WL.gh i1 (bn H fun M j1 H=>cl (gq u0 (hG.m.le (by decide)) ([(⟨0,0,0,([97,226]:List Int)⟩:aw),(⟨2,0,0,([]:List Int)⟩:aw),(⟨0,0,0,([130,172]:List Int)⟩:aw)]:List aw) h1 j1) ?_);rintro v35 U o3 ⟨_,k2,p,rfl,a⟩;refine va (v35) (wln (W.seq (bn H fun p2 Z H=>bn H fun q2 y H=>bn H fun s n H=>W.join (Jn U fun c l=>∃G_,Own c G_ (es true (RL (RI .i32)) v35 32 k2 M :: es false gj v29 38 j2 ([(⟨0,0,0,([97,226]:List Int)⟩:aw),(⟨2,0,0,([]:List Int)⟩:aw),(⟨0,0,0,([130,172]:List Int)⟩:aw)]:List aw) :: es false (RI .u8) (.slice i k a16) 5 i2 ([130,172]:List Int) :: es false (RI .u8) (.slice P R S) 5 u2 ([97,226]:List Int) :: F)∧l= [(0,B s.1)]∧Rel c s.2 G_) ?_ ?_)))
 ·clear H;refine W.region (va (v35) (vx (lnO 3 nf a) (va (B ((M.length:Int)==2)) ?_)));rcases bo ((M.length:Int)==2) with f | f
  ·have d:=anT f Z;refine vb f (wa (v35) (wn (bn d fun o0 z d=>vx (ixO nf a z) (wn ?_))));obtain ⟨x2,k1,g2⟩:=OA.at a z;obtain ⟨v53,rfl,m1⟩:=k1;refine vr v53 (rx (by kernel_rfl) (ee cj rfl (p.on 0 rfl) (a.blk z) (at1 (j:=0) g2 rfl))) (wn (me (sl (RI .i32) 21 [[J 97]] ([97]:List Int) p ⟨rfl,trivial⟩) ?_));rintro v59 g3 d2 ⟨t3,v0,n1⟩;refine wn ?_;obtain ⟨i3,q1,e2,w0,p1⟩:=v0.frz 0 rfl n1;refine WL.gh q1 (bn d fun D s1 d=>cl (dE w0 o0 ([97]:List Int) m1.m p1 s1) ?_);rintro w3 z0 f2 ⟨q,rfl⟩;obtain rfl:=si d;refine va (B D) ?_;rcases bo (D) with g | g
   ·have e:=anT g y;refine vb g (wa (v35) (wn (bn e fun p0 A e=>vx (ixO nf a.m A) (wn ?_))));obtain ⟨y2,t1,h2⟩:=OA.at (a.mono (d2.trans (e2.trans f2))) A;obtain ⟨l2,rfl,u1⟩:=t1;refine vr l2 (rx (by kernel_rfl) (ee cj rfl (q.on 1 rfl) (a.m.blk A) (at1 (j:=0) h2 rfl))) (wn (me (sl (RI .i32) 21 [[J 8364]] ([8364]:List Int) q ⟨rfl,trivial⟩) ?_));rintro x3 j3 p3 ⟨u3,x0,v1⟩;refine wn ?_;obtain ⟨k3,x1,q3,y0,w1⟩:=x0.frz 0 rfl v1;refine WL.gh x1 (bn e fun E y1 e=>cl (dE y0 p0 ([8364]:List Int) u1.m w1 y1) ?_);rintro y3 a1 s3 ⟨T,rfl⟩;obtain rfl:=si e;refine va (B E) ?_;rcases bo (E) with h | h
    ·have o:=it h n;refine vb h (wn (bn o fun b z1 o=>cl (nr T N.m (hG.m.le (by decide)) 2 2 ([]:List aw) (Sl.nl _ _) z1) ?_));rintro a3 l0 v2 ⟨z3,v3,a0,d0,j0,rfl,t2⟩;refine wa (I b.2.Wide) (wa (B (b.2.Wide==2)) ?_);obtain rfl:=si o;refine vv (B (b.2.Wide==2)) (wln ?_);have e0:=d0.sD 7 [3,4,5,6];exact jn l0 ⟨a0,e0,rfl,j0⟩
    obtain rfl:=az (ie h n);refine vb h (pz (ps (vv (B false) (wln ?_))));have f0:=T.sD 6 [2,3,4,5];exact jn a1 ⟨G,f0,rfl,N.m⟩
   obtain rfl:=anF g y;refine vb g (pz (pz (ps (va (B false) ?_))));have t:false=false:=rfl;obtain rfl:=az (ie t n);refine vb t (pz (ps (vv (B false) (wln ?_))));have g0:=q.sD 5 [1,2,3,4];exact jn z0 ⟨G,g0,rfl,N.m⟩
  obtain rfl:=anF f Z;refine vb f (pz (pz (ps (va (B false) ?_))));have u:false=false:=rfl;obtain rfl:=anF u y;refine vb u (pz (pz (ps (va (B false) ?_))));have x:false=false:=rfl;obtain rfl:=az (ie x n);exact vb x (pz (ps (vv (B false) (wln (jn U ⟨G,p,rfl,N.m⟩)))))
 rintro e_ w_ ⟨m0,s2,_,rfl,w2,rfl,b0,h0,rfl,k0⟩;refine nrm (W.ret ?_);obtain rfl:=si H;have i0:=h0.sD 4 [];exact r1 (qq m0 ⟨b0,i0,k0,rfl⟩)
def bG (sg:Sto) (p0:List aw):Option (Sto×Bool):=
 (bK sg).bind fun j=>
 (orE (!j.2) ((cK p0).bind fun x=>
 some x)).bind fun w=>
 if w=true then
 (bK j.1).bind fun k=>
 some (k.1,k.2)
 else
 (cY p0).bind fun i=>
 (cD 1 1).bind fun d=>
 (cw (σ:=Int×Int×(List aS)×Int×Int×Bool×Bool×(List Int)×(List Int)×Int) (τ:=(Sto×Bool) ⊕ (Int×(List aS)×Int×Int×Bool×Bool×(List Int)×(List Int)×Int)) (((p0.length:Int) - 0).toNat+1) (fun a=>
 if (decide (a.2.1 < (p0.length:Int)))=true then
 (idx p0 a.2.1).bind fun e=>
 (orE (e.Kind==1) (some (e.Kind==13))).bind fun o=>
 (orE o ((bJ e).bind fun s=>
 some (s==0))).bind fun p=>
 (if (e.Kind==0)=true then
 (bB (⟨(⟨a.2.2.1,(⟨a.2.2.2.1,a.2.2.2.2.1,a.2.2.2.2.2.1⟩:ak),a.2.2.2.2.2.2.1⟩:an),a.2.2.2.2.2.2.2.1,a.2.2.2.2.2.2.2.2.1,a.2.2.2.2.2.2.2.2.2⟩:ag) e.Bytes).bind fun f=>
 some (f.P.L,f.P.At.Row,f.P.At.Col,f.P.At.Pending,f.P.Auto,f.Group,f.Raw,f.Parts)
 else
 some (a.2.2.1,a.2.2.2.1,a.2.2.2.2.1,a.2.2.2.2.2.1,a.2.2.2.2.2.2.1,a.2.2.2.2.2.2.2.1,a.2.2.2.2.2.2.2.2.1,a.2.2.2.2.2.2.2.2.2)).bind fun c=>
 ((bS (e.Kind==1) ((bm (⟨(⟨c.1,(⟨c.2.1,c.2.2.1,c.2.2.2.1⟩:ak),c.2.2.2.2.1⟩:an),c.2.2.2.2.2.1,c.2.2.2.2.2.2.1,c.2.2.2.2.2.2.2⟩:ag)).bind fun t=>
 some (decide (t > 0)))).bind fun q=>
 if q=true then
 (bD (⟨(⟨c.1,(⟨c.2.1,c.2.2.1,c.2.2.2.1⟩:ak),c.2.2.2.2.1⟩:an),c.2.2.2.2.2.1,c.2.2.2.2.2.2.1,c.2.2.2.2.2.2.2⟩:ag) 65533).bind fun g=>
 some (g.P.L,g.P.At.Row,g.P.At.Col,g.P.At.Pending,g.P.Auto,g.Group,g.Raw,g.Parts)
 else
 some (c.1,c.2.1,c.2.2.1,c.2.2.2.1,c.2.2.2.2.1,c.2.2.2.2.2.1,c.2.2.2.2.2.2.1,c.2.2.2.2.2.2.2)).bind fun b=>
 if p=true then
 (orE (decide (a.1≥(i.length:Int))) ((idx i a.1).bind fun u=>
 (bt u b.2.2.2.2.2.1).bind fun v=>
 some (!v))).bind fun r=>
 if r=true then
 some (.inr (.inl (j.1,false)))
 else
 if (e.Kind==1)=true then
 some (.inl ((w64 (a.1+1)),(w64 (a.2.1+1)),b.1,b.2.1,b.2.2.1,b.2.2.2.1,b.2.2.2.2.1,([]:List Int),([]:List Int),0))
 else
 some (.inl ((w64 (a.1+1)),(w64 (a.2.1+1)),b.1,b.2.1,b.2.2.1,b.2.2.2.1,b.2.2.2.2.1,([]:List Int),b.2.2.2.2.2.2.1,b.2.2.2.2.2.2.2))
 else
 if (e.Kind==1)=true then
 some (.inl (a.1,(w64 (a.2.1+1)),b.1,b.2.1,b.2.2.1,b.2.2.2.1,b.2.2.2.2.1,b.2.2.2.2.2.1,([]:List Int),0))
 else
 some (.inl (a.1,(w64 (a.2.1+1)),b.1,b.2.1,b.2.2.1,b.2.2.2.1,b.2.2.2.2.1,b.2.2.2.2.2.1,b.2.2.2.2.2.2.1,b.2.2.2.2.2.2.2))
 else
 some (.inr (.inr (a.1,a.2.2.1,a.2.2.2.1,a.2.2.2.2.1,a.2.2.2.2.2.1,a.2.2.2.2.2.2.1,a.2.2.2.2.2.2.2.1,a.2.2.2.2.2.2.2.2.1,a.2.2.2.2.2.2.2.2.2)))) (0,0,d.P.L,d.P.At.Row,d.P.At.Col,d.P.At.Pending,d.P.Auto,d.Group,d.Raw,d.Parts)).bind fun h=>
 match h with
 | .inl h=>
 some h
 | .inr h=>
 (bS ((w64 (h.1+1))==(i.length:Int)) ((idx i h.1).bind fun m=>
 (bt m h.2.2.2.2.2.2.1).bind fun n=>
 some n)).bind fun l=>
 some (j.1,l)
set_option maxHeartbeats 4000000 in
theorem gr (O0:Own c0 G F) (R0:Rel c0 sg G) (hG:Gl [2,4] c0) (p0:List aw) {r:Sto×Bool} (h2:Sl gj c0 v1 p0) (H:bG sg p0=some r): Calls prog 3 #[v1] c0.w (aI c0 fun c v=>∃G_:Gm,Own c G_ (F)∧Rel c r.1 G_∧v=B r.2):=by
 unfold bG at H;refine en func3 rfl rfl (sr (va (B false) (wln (W.seq (W.seq (bn H fun l4 h3 H=>bn H fun e9 h4 H=>W.join (Jn c0 fun c l=>∃G_,Own c G_ (F)∧l= [(0,v1),(14,B e9)]∧Rel c l4.1 G_) ?_ ?_))))))
 ·clear H;refine W.region (cl (fD O0 R0 (hG.le (by decide)) h3) ?_);rintro v10 c9 l9 ⟨G5,O6,R7,rfl⟩;refine va (B (!l4.2)) ?_;rcases bo (!l4.2) with g1 | g1
  ·obtain rfl:=orT g1 h4;exact vb g1 (pz (va (B true) (wln (jn c9 ⟨G5,O6,rfl,R7⟩))))
  have m2:=orF g1 h4;refine vb g1 (wa (v1) (wn (bn m2 fun u9 h9 m2=>cl (jg O6 p0 h2.m h9) ?_)));rintro v19 a9 l18 ⟨r8,rfl⟩;obtain rfl:=si m2;exact va (B u9) (wln (jn a9 ⟨G5,r8,rfl,R7.m⟩))
 rintro e_ w_ ⟨c20,g21,_,rfl,q9,rfl,z,q4,rfl,o2⟩;refine nrm (cn H (fun i9 H=>?_) (fun i9 H=>?_))
 ·refine sr (bn H fun n8 j9 H=>cl (fD q4 o2 (hG.m.le (by decide)) j9) ?_);rintro v33 b9 l32 ⟨p8,s8,y8,rfl⟩;refine va (B n8.2) (wln (W.ret (thr ?_)));obtain rfl:=si H;exact r1 (qq b9 ⟨p8,s8,y8,rfl⟩)
 refine W.skip (nrm (sr (va (v1) (bn H fun k k9 H=>cl (gq q4 (hG.m.le (by decide)) p0 h2.m k9) ?_))));rintro v35 c42 r9 ⟨_,s,t8,rfl,Z⟩;refine va (v35) (wln (sr (bn H fun u0 n9 H=>cl (jL t8 1 1 n9) ?_)));rintro v59 c58 g4 ⟨v45,u46,v48,u49,v51,u52,u8,rfl,y3,z3,a4⟩;refine me (al 35 [Y,I 0,I 0,B false,B false,Y,Y,I 0] u8) ?_;rintro v63 c62 U ⟨h,rfl,w8⟩;obtain ⟨s4,t4,u4,rfl⟩:=((y3.mono U)).form;obtain ⟨v4,w4,x4,rfl⟩:=((z3.mono U)).form;obtain ⟨y4,z4,a5,rfl⟩:=((a4.mono U)).form;refine md (sA 35 [.slice s4 t4 u4,I u0.P.At.Row,I u0.P.At.Col,B u0.P.At.Pending,B u0.P.Auto,.slice v4 w4 x4,.slice y4 z4 a5,I u0.Parts] 0 w8 ⟨y3.m.one,rfl,rfl,rfl,rfl,z3.m.one,a4.m.one,rfl,trivial⟩) ?_;rintro p3 y0 x8;refine wln (sr (va (I 0) (wln (W.seq (sr (va (I 0) (wln (W.block (bn H fun g b5 x0=>lp b5 (fun a=>Jn p3 fun c l=>∃l0 m0 o0,Own c z ((Eb h 35 [l0,I a.2.2.2.1,I a.2.2.2.2.1,B a.2.2.2.2.2.1,B a.2.2.2.2.2.2.1,m0,o0,I a.2.2.2.2.2.2.2.2.2]) :: es true (RL (RI .i32)) v35 32 s k :: F)∧l= [(0,v1),(3,v35),(4,Q h),(5,I a.1),(6,I a.2.1)]∧Sl aK c l0 a.2.2.1∧Sl (RI .i32) c m0 a.2.2.2.2.2.2.2.1∧Sl (RI .u8) c o0 a.2.2.2.2.2.2.2.2.1) (fun t=>match t with | .inl x_=>(fun e5 ex e w=>ex= .ret∧(Jn p3 fun c l=>∃G_,Own c G_ (F)∧l= [(2,B e5.2)]∧Rel c e5.1 G_) e w) x_ | .inr x_=>(fun p ex e w=>ex= .exit 0∧(Jn p3 fun c l=>∃q0 s0 t0,Own c z ((Eb h 35 [q0,I p.2.2.1,I p.2.2.2.1,B p.2.2.2.2.1,B p.2.2.2.2.2.1,s0,t0,I p.2.2.2.2.2.2.2.2]) :: es true (RL (RI .i32)) v35 32 s k :: F)∧l= [(3,v35),(4,Q h),(5,I p.1)]∧Sl aK c q0 p.2.1∧Sl (RI .i32) c s0 p.2.2.2.2.2.2.1∧Sl (RI .u8) c t0 p.2.2.2.2.2.2.2.1) e w) x_) ?_ ?_ ?_)))))))))
 ·clear x0 b5;intro a xx_ f9 t9 H;revert f9 t9;rintro e_ w_ ⟨d9,g84,_,rfl,d5,rfl,l0,m0,o0,r4,rfl,b4,c4,d4⟩;refine W.seq (sr (va (I a.2.1) (va (v1) (vx (ln 3 mH h2.m) (va (B (decide (a.2.1 < (p0.length:Int)))) (wln (cn H (fun o9 H=>?_) (fun o9 H=>?_))))))))
  ·refine W.skip (nrm (W.seq (W.block (sr (va (v1) (va (I a.2.1) (bn H fun f c5 H=>?_)))))));obtain ⟨l_94,p9,s9⟩:=Sl.at (h2.mono (q9.trans (r9.trans (g4.trans (U.trans (y0.trans d5)))))) (aW c5);obtain ⟨v97,rfl,k2⟩:=p9;refine vx (ix mH h2.m c5) (vx (lN 38 s9) (me (al 38 [I 0,I 0,I 0,Y] r4) ?_));rintro v102 z9 e4 ⟨o,rfl,i5⟩;obtain ⟨E,M,N,rfl⟩:=((k2.mono e4)).form;refine md (sA 38 [I f.Kind,I f.A,I f.B,.slice E M N] 0 i5 ⟨rfl,rfl,rfl,k2.m.one,trivial⟩) ?_;rintro p1 x7 X;refine wln (W.seq (bn H fun d_42 q3 H=>bn H fun f0 s1 H=>W.join (Jn p1 fun c l=>Own c z ((Eb o 38 [I f.Kind,I f.A,I f.B,.slice E M N]) :: (Eb h 35 [l0,I a.2.2.2.1,I a.2.2.2.2.1,B a.2.2.2.2.2.1,B a.2.2.2.2.2.2.1,m0,o0,I a.2.2.2.2.2.2.2.2.2]) :: es true (RL (RI .i32)) v35 32 s k :: F)∧l= [(0,v1),(3,v35),(4,Q h),(5,I a.1),(6,I a.2.1),(7,Q o),(8,B f0)]) ?_ ?_))
   ·clear H;refine W.region (va (Q o) (vx (le1 0 u_3 (X.on 0 rfl)) (va (B (f.Kind==1)) ?_)));rcases bo (f.Kind==1) with g0 | g0
    ·obtain rfl:=orT g0 q3;refine vb g0 (pz (ps (va (B true) ?_)));have s3:true=true:=rfl;obtain rfl:=orT s3 s1;exact vb s3 (pz (ps (vv (B true) (wln (jn p1 ⟨X,rfl⟩)))))
    have g5:=orF g0 q3;refine vb g0 (wa (Q o) (wn (vx (le1 0 u_3 (X.on 0 rfl)) (wa (B (f.Kind==13)) ?_))));obtain rfl:=si g5;refine va (B (f.Kind==13)) ?_;rcases bo (f.Kind==13) with h0 | h0
    ·obtain rfl:=orT h0 s1;exact vb h0 (pz (ps (vv (B true) (wln (jn p1 ⟨X,rfl⟩)))))
    have h1:=orF h0 s1;refine vb h0 (wn (vx (leN 38 0 [I f.Kind,I f.A,I f.B,.slice E M N] (X.on 0 rfl)) (wn (bn h1 fun j2 y6 h1=>cl (je X f k2.m y6) ?_))));rintro v121 j6 l120 ⟨j5,rfl⟩;refine wa (B (j2==0)) ?_;obtain rfl:=si h1;exact vv (B (j2==0)) (wln (jn j6 ⟨j5,rfl⟩))
   rintro e_ w_ ⟨j3,g123,_,rfl,y7,rfl,d0,rfl⟩;refine nrm (bn H fun d D h5=>W.seqJ (Jn j3 fun c l=>∃R S T,Own c z ((Eb o 38 [I f.Kind,I f.A,I f.B,.slice E M N]) :: (Eb h 35 [R,I d.2.1,I d.2.2.1,B d.2.2.2.1,B d.2.2.2.2.1,S,T,I d.2.2.2.2.2.2.2]) :: es true (RL (RI .i32)) v35 32 s k :: F)∧l= [(0,v1),(3,v35),(4,Q h),(5,I a.1),(6,I a.2.1),(7,Q o),(8,B f0)]∧Sl aK c R d.1∧Sl (RI .i32) c S d.2.2.2.2.2.1∧Sl (RI .u8) c T d.2.2.2.2.2.2.1) ?_ ?_)
   ·refine sr (va (Q o) (vx (le1 0 u_3 (d0.on 0 rfl)) (va (B (f.Kind==0)) (wln (cn D (fun z6 D=>?_) (fun z6 D=>?_))))))
    ·refine W.region (vx (leN 35 0 [l0,I a.2.2.2.1,I a.2.2.2.2.1,B a.2.2.2.2.2.1,B a.2.2.2.2.2.2.1,m0,o0,I a.2.2.2.2.2.2.2.2.2] (d0.on 1 rfl)) (va (Qo o 3) (vx (le1 3 dX (d0.on 0 rfl)) (bn D fun v0 a7 D=>cl (gJ d0 (⟨(⟨a.2.2.1,(⟨a.2.2.2.1,a.2.2.2.2.1,a.2.2.2.2.2.1⟩:ak),a.2.2.2.2.2.2.1⟩:an),a.2.2.2.2.2.2.2.1,a.2.2.2.2.2.2.2.2.1,a.2.2.2.2.2.2.2.2.2⟩:ag) f.Bytes b4.m c4.m d4.m k2.m a7) ?_))));rintro v146 c145 l145 ⟨v135,v137,v139,k5,rfl,t1,u1,w1⟩;obtain ⟨p2,q2,s2,rfl⟩:=(t1).form;obtain ⟨t2,u2,v2,rfl⟩:=(u1).form;obtain ⟨w2,x2,y2,rfl⟩:=(w1).form;refine md (sA 35 [.slice p2 q2 s2,I v0.P.At.Row,I v0.P.At.Col,B v0.P.At.Pending,B v0.P.Auto,.slice t2 u2 v2,.slice w2 x2 y2,I v0.Parts] 1 k5 ⟨t1.one,rfl,rfl,rfl,rfl,u1.one,w1.one,rfl,trivial⟩) ?_;rintro k6 l157 l5;refine wln ?_;obtain rfl:=si D;exact jn k6 ⟨(.slice p2 q2 s2),(.slice t2 u2 v2),(.slice w2 x2 y2),l5,rfl,t1.m,u1.m,w1.m⟩
    refine W.skip (nrm ?_);obtain rfl:=si D;exact jn j3 ⟨l0,m0,o0,d0,rfl,b4.m,c4.m,d4.m⟩
   rintro e_ w_ ⟨q1,g159,_,rfl,z7,rfl,R,S,T,z0,rfl,x1,y1,z1⟩;refine bn h5 fun b u i=>W.seqJ (Jn q1 fun c l=>∃n q x,Own c z ((Eb o 38 [I f.Kind,I f.A,I f.B,.slice E M N]) :: (Eb h 35 [n,I b.2.1,I b.2.2.1,B b.2.2.2.1,B b.2.2.2.2.1,q,x,I b.2.2.2.2.2.2.2]) :: es true (RL (RI .i32)) v35 32 s k :: F)∧l= [(0,v1),(3,v35),(4,Q h),(5,I a.1),(6,I a.2.1),(7,Q o),(8,B f0)]∧Sl aK c n b.1∧Sl (RI .i32) c q b.2.2.2.2.2.1∧Sl (RI .u8) c x b.2.2.2.2.2.2.1) ?_ ?_
   ·refine W.seq (bn u fun w6 t3 u=>W.join (Jn q1 fun c l=>Own c z ((Eb o 38 [I f.Kind,I f.A,I f.B,.slice E M N]) :: (Eb h 35 [R,I d.2.1,I d.2.2.1,B d.2.2.2.1,B d.2.2.2.2.1,S,T,I d.2.2.2.2.2.2.2]) :: es true (RL (RI .i32)) v35 32 s k :: F)∧l= [(0,v1),(3,v35),(4,Q h),(5,I a.1),(6,I a.2.1),(7,Q o),(8,B f0),(56,B w6)]) ?_ ?_)
    ·clear u;refine W.region (va (Q o) (vx (le1 0 u_3 (z0.on 0 rfl)) (va (B (f.Kind==1)) ?_)));rcases bo (f.Kind==1) with i0 | i0
     ·have i1:=anT i0 t3;refine vb i0 (wn (vx (leN 35 0 [R,I d.2.1,I d.2.2.1,B d.2.2.2.1,B d.2.2.2.2.1,S,T,I d.2.2.2.2.2.2.2] (z0.on 1 rfl)) (wn (bn i1 fun m4 b7 i1=>cl (eN z0 (⟨(⟨d.1,(⟨d.2.1,d.2.2.1,d.2.2.2.1⟩:ak),d.2.2.2.2.1⟩:an),d.2.2.2.2.2.1,d.2.2.2.2.2.2.1,d.2.2.2.2.2.2.2⟩:ag) x1 y1 z1 b7) ?_))));rintro v181 l6 l180 ⟨m5,rfl⟩;refine wa (B (decide (m4 > 0))) ?_;obtain rfl:=si i1;exact va (B (decide (m4 > 0))) (wln (jn l6 ⟨m5,rfl⟩))
     obtain rfl:=anF i0 t3;exact vb i0 (pz (ps (va (B false) (wln (jn q1 ⟨z0,rfl⟩)))))
    rintro e_ w_ ⟨m6,g183,_,rfl,l182,rfl,j1,rfl⟩;refine nrm (cn u (fun c7 u=>?_) (fun c7 u=>?_))
    ·refine W.region (vx (leN 35 0 [R,I d.2.1,I d.2.2.1,B d.2.2.2.1,B d.2.2.2.2.1,S,T,I d.2.2.2.2.2.2.2] (j1.on 1 rfl)) (bn u fun w0 d7 u=>cl (gO j1 (⟨(⟨d.1,(⟨d.2.1,d.2.2.1,d.2.2.2.1⟩:ak),d.2.2.2.2.1⟩:an),d.2.2.2.2.2.1,d.2.2.2.2.2.2.1,d.2.2.2.2.2.2.2⟩:ag) 65533 x1.m y1.m z1.m d7) ?_));rintro v202 c201 l201 ⟨v190,v192,u193,v195,n5,rfl,b2,c2,d2⟩;obtain ⟨z2,a3,b3,rfl⟩:=(b2).form;obtain ⟨c3,d3,e3,rfl⟩:=(c2).form;obtain ⟨f3,g3,i3,rfl⟩:=(d2).form;refine md (sA 35 [.slice z2 a3 b3,I w0.P.At.Row,I w0.P.At.Col,B w0.P.At.Pending,B w0.P.Auto,.slice c3 d3 e3,.slice f3 g3 i3,I w0.Parts] 2 n5 ⟨b2.one,rfl,rfl,rfl,rfl,(c2).one,d2.one,rfl,trivial⟩) ?_;rintro c213 a8 o5;refine wln ?_;obtain rfl:=si u;obtain ⟨n6,f7,l216,p5,e7⟩:=o5.frz 0 rfl (c2.mono a8);have q5:=p5.sD 4 [1,2,3];exact ⟨n6,_,_,f7.symm,pt,us,(.slice z2 a3 b3),(.slice c3 d3 e3),(.slice f3 g3 i3),q5,rfl,b2.m,e7,d2.m⟩
    refine W.skip (nrm ?_);obtain rfl:=si u;exact jn m6 ⟨R,S,T,j1,rfl,x1.m,y1.m,z1.m⟩
   rintro e_ w_ ⟨k3,g220,_,rfl,b8,rfl,n,q,x,a1,rfl,e1,e2,v3⟩;refine W.seq (sr (va (B f0) (wln (cn i (fun g7 i=>?_) (fun g7 i=>?_)))))
   ·refine W.seq (W.seq (bn i fun x6 w3 i=>W.join (Jn k3 fun c l=>Own c z ((Eb o 38 [I f.Kind,I f.A,I f.B,.slice E M N]) :: (Eb h 35 [n,I b.2.1,I b.2.2.1,B b.2.2.2.1,B b.2.2.2.2.1,q,x,I b.2.2.2.2.2.2.2]) :: es true (RL (RI .i32)) v35 32 s k :: F)∧l= [(0,v1),(3,v35),(4,Q h),(5,I a.1),(6,I a.2.1),(7,Q o),(73,B x6)]) ?_ ?_))
    ·clear i;refine rD [] (Kp G0 [es true (RL (RI .i32)) v35 32 s k,(Eb h 35 [n,I b.2.1,I b.2.2.1,B b.2.2.2.1,B b.2.2.2.2.1,q,x,I b.2.2.2.2.2.2.2])]) a1 ?_;intro l3 c8 b1;have j4:Kp G0 [es true (RL (RI .i32)) v35 32 s k,(Eb h 35 [n,I b.2.1,I b.2.2.1,B b.2.2.2.1,B b.2.2.2.2.1,q,x,I b.2.2.2.2.2.2.2])] l3:=(Kp.cons (b1.on 2 rfl) (Kp.cons (b1.on 1 rfl) Kp.nil0));refine ta 0 (I a.1) (ta 1 (v35) (tx 2 (fun c' y=>lnO 3 nf Z.m) (ta 3 (B (decide (a.1≥(k.length:Int)))) ?_)));rcases bo (decide (a.1≥(k.length:Int))) with j0 | j0
     ·obtain rfl:=orT j0 w3;exact AC.takeb 4 j0 rfl (by kernel_rfl) (by kernel_rfl) (fun c' y=>(by kernel_rfl)) (tp 5 (tp 6 (tp 7 (tp 8 (tp 9 (tp 10 (tp 11 (tp 12 (ta 13 (B true) (dn (nrm (jn l3 ⟨b1,rfl⟩))))))))))))
     have a0:=orF j0 w3;refine bn a0 fun o8 f2 a0=>bn a0 fun n4 h7 a0=>AC.takeb 4 j0 rfl (by kernel_rfl) (by kernel_rfl) (fun c' y=>(by kernel_rfl)) (ta 5 (v35) (ta 6 (I a.1) (tx 7 (fun c' y=>ixO nf Z.m f2) ?_)));obtain ⟨v9,i7,g8⟩:=OA.at (Z.mono (g4.trans (U.trans (y0.trans (d5.trans (e4.trans (x7.trans (y7.trans (z7.trans (b8.trans c8)))))))))) f2;obtain ⟨k8,rfl,j7⟩:=i7;refine AC.takeK 8 (k8) j4 rfl (by kernel_rfl) (by kernel_rfl) (by kernel_rfl) (fun c' y hk=>(rx (by kernel_rfl) (ee cj rfl (hk.on 0 rfl) (Z.m.blk f2) (at1 (j:=0) g8 rfl)))) (ta 9 (Qo h 5) (tkx 10 j4 (fun c' y hk=>le1 5 cj (hk.on 1 rfl)) (o1 11 (gc 11 (dE b1 o8 b.2.2.2.2.2.1 j7 e2.m h7) ?_))));rintro v247 m3 l246 ⟨k1,rfl⟩;have i8:Kp G0 [es true (RL (RI .i32)) v35 32 s k,(Eb h 35 [n,I b.2.1,I b.2.2.1,B b.2.2.2.1,B b.2.2.2.2.1,q,x,I b.2.2.2.2.2.2.2])] m3:=(Kp.cons (k1.on 2 rfl) (Kp.cons (k1.on 1 rfl) Kp.nil0));refine ⟨.inr i8,ta 12 (B (!n4)) ?_⟩;obtain rfl:=si a0;exact ta 13 (B (!n4)) (dn (nrm (jn m3 ⟨k1,rfl⟩)))
    rintro e_ w_ ⟨o6,g250,_,rfl,l249,rfl,n2,rfl⟩;refine nrm (cn i (fun k7 i=>?_) (fun k7 i=>?_))
    ·refine sr (va (B false) (wln (W.ret (thr (thr (bkr (thr ?_)))))));obtain rfl:=si i;refine ⟨_,rfl,⟨rfl,?_⟩⟩;have r5:=n2.sD 3 [];exact jn o6 ⟨z,r5,rfl,o2.m⟩
    refine W.skip (nrm (sr (va (I a.1) (vv (I (w64 (a.1+1))) (wln (W.region (va (Qo h 5) (md (sC 32 5 (Y) [n,I b.2.1,I b.2.2.1,B b.2.2.2.1,B b.2.2.2.2.1,Y,x,I b.2.2.2.2.2.2.2] 1 n2 ⟨rfl,trivial⟩) ?_))))))));rintro p6 l258 m1;refine wln (sr (va (Q o) (vx (le1 0 u_3 (m1.on 0 rfl)) (va (B (f.Kind==1)) (wln (cn i (fun l7 i=>?_) (fun l7 i=>?_)))))))
    ·refine sr (va (Qo h 6) (md (sC 33 6 (Y) [n,I b.2.1,I b.2.2.1,B b.2.2.2.1,B b.2.2.2.2.1,Y,Y,I b.2.2.2.2.2.2.2] 1 m1 ⟨rfl,trivial⟩) ?_));rintro c261 l261 s5;refine wln (W.region (va (Qo h 7) (md (sC 3 7 (I 0) [n,I b.2.1,I b.2.2.1,B b.2.2.2.1,B b.2.2.2.2.1,Y,Y,I 0] 1 s5 ⟨rfl,trivial⟩) ?_)));rintro q6 l263 t5;refine WL.nil (bkn ?_);have u5:=t5.sD 3 [1,2];refine nrm (W.region (va (I a.2.1) (vv (I (w64 (a.2.1+1))) (WL.nil ?_))));obtain rfl:=si i;exact ⟨_,rfl,jn q6 ⟨n,(Y),(Y),u5,rfl,e1.m,(Sl.nl _ _),(Sl.nl _ _)⟩⟩
    refine W.skip (bkn ?_);have v5:=m1.sD 3 [1,2];refine nrm (W.region (va (I a.2.1) (vv (I (w64 (a.2.1+1))) (WL.nil ?_))));obtain rfl:=si i;exact ⟨_,rfl,jn p6 ⟨n,(Y),x,v5,rfl,e1.m,(Sl.nl _ _),v3.m⟩⟩
   refine W.skip (nrm (sr (va (Q o) (vx (le1 0 u_3 (a1.on 0 rfl)) (va (B (f.Kind==1)) (wln (cn i (fun m7 i=>?_) (fun m7 i=>?_))))))))
   ·refine sr (va (Qo h 6) (md (sC 33 6 (Y) [n,I b.2.1,I b.2.2.1,B b.2.2.2.1,B b.2.2.2.2.1,q,Y,I b.2.2.2.2.2.2.2] 1 a1 ⟨rfl,trivial⟩) ?_));rintro c268 l268 w5;refine wln (W.region (va (Qo h 7) (md (sC 3 7 (I 0) [n,I b.2.1,I b.2.2.1,B b.2.2.2.1,B b.2.2.2.2.1,q,Y,I 0] 1 w5 ⟨rfl,trivial⟩) ?_)));rintro r6 l270 x5;refine WL.nil (bkn ?_);have y5:=x5.sD 3 [1,2];refine nrm (W.region (va (I a.2.1) (vv (I (w64 (a.2.1+1))) (WL.nil ?_))));obtain rfl:=si i;exact ⟨_,rfl,jn r6 ⟨n,q,(Y),y5,rfl,e1.m,e2.m,(Sl.nl _ _)⟩⟩
   refine W.skip (bkn ?_);have z5:=a1.sD 3 [1,2];refine nrm (W.region (va (I a.2.1) (vv (I (w64 (a.2.1+1))) (WL.nil ?_))));obtain rfl:=si i;exact ⟨_,rfl,jn k3 ⟨n,q,x,z5,rfl,e1,e2,v3⟩⟩
  refine W.exit (thx ?_);obtain rfl:=si H;exact ⟨_,rfl,rfl,jn d9 ⟨l0,m0,o0,r4,rfl,b4,c4,d4⟩⟩
 ·obtain ⟨c275,o7,f4,a6,n7⟩:=x8.frz 1 rfl (y3.mono (U.trans y0));obtain ⟨c279,q7,d8,b6,p7⟩:=a6.frz 2 rfl (z3.mono (U.trans (y0.trans f4)));obtain ⟨s6,s7,l283,c6,r7⟩:=b6.frz 3 rfl (a4.mono (U.trans (y0.trans (f4.trans d8))));have d6:=c6.sD 5 [0,4];exact ⟨s6,_,_,((o7.symm.trans q7.symm).trans s7.symm),pt,us,(.slice s4 t4 u4),(.slice v4 w4 x4),(.slice y4 z4 a5),d6,rfl,n7.m,p7.m,r7⟩
 rcases g with g | g
 ·intro g9; revert g9;rintro _ e_ w_ ⟨rfl,t6,g287,_,rfl,l286,rfl,f5,e6,rfl,i6⟩;refine bkr (thr ?_);obtain rfl:=si x0;exact r1 (qq t6 ⟨f5,e6,i6,rfl⟩)
 rintro _ e_ w_ ⟨rfl,u6,g293,_,rfl,e8,rfl,q0,s0,t0,f6,rfl,h295,t7,h297⟩;refine bke (nrm (W.seq (bn x0 fun o4 x3 x0=>W.join (Jn u6 fun c l=>Own c z ((Eb h 35 [q0,I g.2.2.1,I g.2.2.2.1,B g.2.2.2.2.1,B g.2.2.2.2.2.1,s0,t0,I g.2.2.2.2.2.2.2.2]) :: es true (RL (RI .i32)) v35 32 s k :: F)∧l= [(2,B o4)]) ?_ ?_)))
 ·clear x0;refine rD [] (Kp G0 [es true (RL (RI .i32)) v35 32 s k,(Eb h 35 [q0,I g.2.2.1,I g.2.2.2.1,B g.2.2.2.2.1,B g.2.2.2.2.2.1,s0,t0,I g.2.2.2.2.2.2.2.2])]) f6 ?_;intro n3 f8 c1;have k4:Kp G0 [es true (RL (RI .i32)) v35 32 s k,(Eb h 35 [q0,I g.2.2.1,I g.2.2.2.1,B g.2.2.2.2.1,B g.2.2.2.2.2.1,s0,t0,I g.2.2.2.2.2.2.2.2])] n3:=(Kp.cons (c1.on 1 rfl) (Kp.cons (c1.on 0 rfl) Kp.nil0));refine ta 0 (I g.1) (ta 1 (I (w64 (g.1+1))) (ta 2 (v35) (tx 3 (fun c' y=>lnO 3 nf Z.m) (ta 4 (B ((w64 (g.1+1))==(k.length:Int))) ?_))));rcases bo ((w64 (g.1+1))==(k.length:Int)) with k0 | k0
  ·have b0:=anT k0 x3;refine bn b0 fun p4 g2 b0=>bn b0 fun l2 u7 b0=>AC.takeb 5 k0 rfl (by kernel_rfl) (by kernel_rfl) (fun c' y=>(by kernel_rfl)) (ta 6 (v35) (ta 7 (I g.1) (tx 8 (fun c' y=>ixO nf Z.m g2) ?_)));obtain ⟨w9,v7,h8⟩:=OA.at (Z.mono (g4.trans (U.trans (y0.trans (e8.trans f8))))) g2;obtain ⟨l8,rfl,w7⟩:=v7;refine AC.takeK 9 (l8) k4 rfl (by kernel_rfl) (by kernel_rfl) (by kernel_rfl) (fun c' y hk=>(rx (by kernel_rfl) (ee cj rfl (hk.on 0 rfl) (Z.m.blk g2) (at1 (j:=0) h8 rfl)))) (ta 10 (Qo h 5) (tkx 11 k4 (fun c' y hk=>le1 5 cj (hk.on 1 rfl)) (o1 12 (gc 12 (dE c1 p4 g.2.2.2.2.2.2.1 w7 t7.m u7) ?_))));rintro v319 o3 l318 ⟨n1,rfl⟩;have j8:Kp G0 [es true (RL (RI .i32)) v35 32 s k,(Eb h 35 [q0,I g.2.2.1,I g.2.2.2.1,B g.2.2.2.2.1,B g.2.2.2.2.2.1,s0,t0,I g.2.2.2.2.2.2.2.2])] o3:=(Kp.cons (n1.on 1 rfl) (Kp.cons (n1.on 0 rfl) Kp.nil0));refine ⟨.inr j8,?_⟩;obtain rfl:=si b0;exact ta 13 (B l2) (ta 14 (B l2) (dn (nrm (jn o3 ⟨n1,rfl⟩))))
  obtain rfl:=anF k0 x3;exact AC.takeb 5 k0 rfl (by kernel_rfl) (by kernel_rfl) (fun c' y=>(by kernel_rfl)) (tp 6 (tp 7 (tp 8 (tp 9 (tp 10 (tp 11 (tp 12 (ta 13 (B false) (ta 14 (B false) (dn (nrm (jn n3 ⟨c1,rfl⟩))))))))))))
 rintro e_ w_ ⟨v6,g322,_,rfl,l321,rfl,g6,rfl⟩;refine nrm (W.ret ?_);obtain rfl:=si x0;have h6:=g6.sD 2 [];exact r1 (qq v6 ⟨z,h6,o2.m,rfl⟩)
end Go.Proofs.YtclmdpamofdoiaaGreatDoor
namespace Go.Lt
open Go.ChangeShapes Go.WideShapes Go.RowKit
def C0 (w:World):Cx:=⟨w,fun _ _=>False,fun _ _=>none⟩
theorem sN (w:World):Own (C0 w) (fun _ _=>[]) []:=
 ⟨⟨fun i e h=>by cases i <;> simp [at_] at h,fun i j e e' h=>by cases i <;> simp [at_] at h⟩,fun _ _ _=>rfl⟩
theorem im0 {w:World} {b o:Nat} {v:Value} (h:w.cell? ⟨b,o,none⟩=some v):Im (C0 w) b o v:=by
 refine ⟨?_,id,h⟩;unfold World.cell? at h;split at h
 ·rename_i hh; exact (Array.getElem?_eq_some_iff.1 hh).1
 ·cases h
def Rd (P:Program) (t:TypeId) {α:Type} (R:Rp α) (K:α→Prop):Prop:=
 P.cellsOf t=R.size∧∀{H:Type} {enc:TypeId×Value→H} {w:World} {sp:Nat→Bool} {held:Bool} {fuel:Nat} {cs:List Value} {x:DataW H×List MemPlace},
  DataW.trod enc P w 0 sp held fuel t cs=some x→∃y,R.cells (C0 w) cs y∧K y
theorem Rd.int {P:Program} {t:TypeId} {k:IntKind} (ht:P.underlying t=some (.int k)) (hc:P.cellsOf t=1):Rd P t (RI k) (fun n=>(Lit.int k n).wf=true):=
 ⟨hc,fun h=>by obtain ⟨n,rfl,_,hw⟩:=DataW.trod_int ht h; exact ⟨n,rfl,hw⟩⟩
theorem sa {α:Type} {Q:Nat→α→Prop}:∀n,(∀i,i < n→∃x,Q i x)→∃xs:List α,xs.length=n∧∀i x,xs[i]? = some x→Q i x
 | 0,_=>⟨[],rfl,fun i x h=>by simp at h⟩
 | n+1,h=>by
  obtain ⟨xs,hl,hx⟩:=sa n fun i hi=>h i (Nat.lt_succ_of_lt hi);obtain ⟨y,hy⟩:=h n (Nat.lt_succ_self n);refine ⟨xs++ [y],by simp [hl],fun i x hi=>?_⟩;rw [ss] at hi;split at hi
  ·exact hx i x hi
  ·rename_i hn
   have h1:=(List.getElem?_eq_some_iff.1 hi).1;simp only [af,ao] at h1;obtain rfl:i=n:=by omega
   rw [hl,dJ] at hi;cases hi;exact hy
theorem nT {w:World} {a:Addr} {n:Nat} {cs:List Value} (h:w.cells? 0 a n=some cs):cs.length=n∧∀j u,cs[j]? = some u→w.cell? (a.add j)=some u:=by
 unfold World.cells? at h;rw [aj (bT _)] at h;have hl:cs.length=n:=by simpa using mapM_some_length h
 refine ⟨hl,fun j u hu=>?_⟩;have hjn:j < n:=by have:=(List.getElem?_eq_some_iff.1 hu).1; omega
 have hj:=mapM_some_get h j j (mQ hjn);rw [hu] at hj;exact hj
section
variable {P:Program} {H:Type} {enc:TypeId×Value→H} {w:World} {sp:Nat→Bool} {held:Bool} {t:TypeId} {v:Value} {d:DataW H} {p:List MemPlace}
end
theorem ko {H:Type} {enc:TypeId×Value→H} {P:Program} (hl:laidOutB P=true) {w w':World} (h:∀k,k < w.heap.size→w'.heap[k]? = w.heap[k]?) {sp:Nat→Bool}:
  ∀{ts:List TypeId} {vs:List Value} {ds:List (DataW H)} {ps:List MemPlace},(ts.all fun t=>P.readableRec t && decide (t < P.types.size))=true→(∀x∈ps,x.block < w.heap.size)→(∀x∈ps,sp x.block=true)→
  DataW.TrodAll enc P w 0 (fun _=>true) true ts vs ds ps→DataW.TrodAll enc P w' 0 sp true ts vs ds ps
 | [],[],[],_,_,_,_,hA=>hA
 | [],_ :: _,_,_,_,_,_,hA=>hA.elim
 | [],[],_ :: _,_,_,_,_,hA=>hA.elim
 | _ :: _,[],_,_,_,_,_,hA=>hA.elim
 | _ :: _,_ :: _,[],_,_,_,_,hA=>hA.elim
 | t :: ts,v :: vs,d :: ds,ps,hr,hlt,hsp,hA=>by
  obtain ⟨p,q,h1,h2,rfl⟩:=hA;simp only [List.all_cons,aF,aq] at hr;refine ⟨p,q,WideElems.Trod_stays hl hr.1.1 hr.1.2 h1 (fun x hx=>?_) (fun x hx=>hsp x (fx _ hx)),ko hl h hr.2 (fun x hx=>hlt x (lT _ hx)) (fun x hx=>hsp x (lT _ hx)) h2,rfl⟩;have hb:=hlt x (fx _ hx)
  cases x with
  | cell b o=>exact fw (w:=w) (h b hb)
  | map b=>exact h b hb
theorem pg {H:Type} {enc:TypeId×Value→H} {P:Program} {f:Func} {s:ChangeSpec} {apart fresh handsOn again:Bool} {w w':World} {args:Array Value} {v:Value} {ds gs:List (DataW H)} {ps before:List MemPlace}
  (hW:DataW.Whole enc P f.params.toList s.vars apart w args.toList ds gs before) (he:before=ps++ [])
  (hr:∀(b:Nat) (sp:Nat→Bool) (hd:Bool),DataW.TrodAll enc P w' b sp hd f.resultTypes.toList (v.resultList f.resultTypes.size) (s.fn H (ds++gs)).results [])
  (ha:∀sp:Nat→Bool,(∀x∈ps,sp x.block=true)→DataW.TrodAll enc P w' 0 sp true f.params.toList args.toList (s.fn H (ds++gs)).args ps)
  (hv:∀sp:Nat→Bool,DataW.TrodVars enc P w' sp s.vars (s.fn H (ds++gs)).vars [])
  (hg:Gr w w') (ho:∀(j:Nat) (t:TypeId) (r:Value),f.resultTypes[j]? = some t→(v.resultList f.resultTypes.size)[j]? = some r→Value.okWide P w' .any 0 t r):s.post enc P f apart fresh handsOn again w args v w':=by
 rw [bF] at he;subst he;have hlt:∀x∈before,x.block < w.heap.size:=fun x hx=>hW.lt x hx;refine ⟨ds,gs,before,[],before,[],hW,hr _ _ _,ha _ (fun x hx=>qn (hlt x hx)),hv _,sU (fun x hx=>⟨hx,.inr (.inl hx)⟩) (hg.frame (· ∈before)),fun _=>?_⟩;obtain ⟨_,_,_,_,_,hz,hn⟩:=hW;refine ⟨ho,_,_,([]++before)++ [],⟨[]++before,[],trodAll_append (ha _ fun _ _=>rfl) (hr _ _ _),hv _,rfl,fun b off hb=>?_,fun e=>?_⟩,fun x hx _=>by simpa using hx⟩
 ·have hb':MemPlace.cell b off∈before:=by simpa using hb
  have:=hlt _ hb';rw [hg.2.1 ⟨b,off,none⟩ this];exact hz b off (by simpa using hb')
 ·simpa using hn e
theorem se {P:Program} {laid:List (String×DataW Unit)} {w:World} (h:(laid.filter fun x=>x.2.handleName?.isSome)= []):laidMetH P laid w=laidMet P laid w:=by
 unfold laidMetH;rw [h]
theorem na {P:Program} {W:World} {ti tp te ts:TypeId} {ms:Array (String×TypeId)} {f:Field} (hi:P.underlying ti=some (.interface ms)) (hrow:∀u,P.typeName? 3 u=some "*errors.errorString"→u=tp)
  (hp:P.underlying tp=some (.pointer te)) (he:P.underlying te=some (.struct #[f])) (hft:f.type=ts) (hfo:f.offset=0) (hs:P.underlying ts=some .string) (hc:P.cellsOf te=1) (hcs:P.cellsOf ts=1):
  ∀{laid:List (String×DataW Unit)} {ps:List MemPlace},DataW.LaidVars P W laid ps→(∀b off,MemPlace.cell b off∈ps→(∃c t,W.heap[b]? = some (.cells c t (0,0)))∧∀u v,W.cell? ⟨b,off,none⟩=some (.iface u v)→Value.okWide P W .any 0 u v)→
  ∀n text g,(n,DataW.iface "*errors.errorString" (.ptr (.agg [.lit (.string text)])))∈laid→P.globalNamed n=some g→(P.globals[g]?).map (·.type)=some ti→∃a s,W.cell? ⟨g,0,none⟩=some (.iface tp (.pointer (some a)))∧W.cell? a=some (.string s)∧s.data.toList=text∧∃c t,W.heap[a.block]? = some (.cells c t (0,0))
 | [],_,_,_,_,_,_,hm,_,_=>by cases hm
 | (n',d) :: r,ps,⟨g',t,cs,fuel,p,q,hg',ht',hv,hd,hr,e⟩,hrows,n,text,g,hm,hg,ht=>by
  subst e;rcases List.mem_cons.1 hm with hh | hm
  ·cases hh;obtain rfl:=az (hg.symm.trans hg');obtain rfl:=az (ht.symm.trans ht');obtain ⟨l⟩:=cs;have ok:∀u v,l= [.iface u v]→Value.okWide P W .any 0 u v:=fun u v e=>by
    subst e;exact (hrows g 0 (by simp [MemPlace.row])).2 u v (by simpa using tA hg hv 0)
   obtain ⟨a,s,rfl,h1,h2,_,rfl⟩:=errorString_of_trod hi hrow hp he hft hfo hs hc hcs hd ok;exact ⟨a,s,by simpa using tA hg hv 0,h1,h2,(hrows a.block a.off (by simp [MemPlace.row])).1⟩
  ·exact na hi hrow hp he hft hfo hs hc hcs hr (fun b off hb=>hrows b off (lT _ hb)) n text g hm hg ht
theorem rJ {P:Program} {f:FuncId} {fn:Func} {s:ChangeSpec} {c:OpenClaim} (l1:laidOutB P=true) (l2:mapsRowed P=true) (l3:(P.stops== [])=true) (l4:(P.stopKnobs== [])=true) (l5:P.stopsHeard=true) (l6:P.mayEnter=true)
  (l7:(c.lifted==P.liftsFinal)=true) (l8:(P.make==some c.make)=true) (l9:(c.plainKeys==P.plainKeys)=true)
  (a0:c.wf (OpenSpec.ofChange s)=true) (a1:(fn.params.all (P.readableRec ·) && namedTie P c.named s.vars && (c.stops== []) && (c.knobs== []))=true)
  (a2:(c.inPlace==P.inPlace f)=true) (a3:(c.unfollowed==P.unfollowed f)=true) (a4:(c.recurses==P.recurses f)=true) (a5:(c.named==P.varsNamed f)=true)
  (a6:((c.maps==(fn.params.toList++s.plain.varTypes P).any (P.mapsRec ·)) && (c.ifaces==(fn.params.toList++s.plain.varTypes P).any (P.ifacesRec ·)) && (c.mapsOut==P.mapsAmong fn.resultTypes.toList) &&
   (c.loops==(fn.params.toList++s.plain.varTypes P).any (P.loopsFrom ·)) && (c.wideKeys==(fn.params.toList++s.plain.varTypes P++fn.resultTypes.toList).any (P.wideKeysFrom ·)) &&
   s.vars.all (P.varReadable ·) && fn.resultTypes.all (fun t=>P.readableRec t && decide (t < P.types.size)) && (c.ifacesOut==fn.resultTypes.toList.any (P.ifacesRec ·)) && (c.loopsOut==fn.resultTypes.toList.any (P.loopsFrom ·)))=true)
  (a7:(c.shortTexts.isNone && (c.kinds==(if c.domain.isEmpty then [] else fn.params.toList.map fun t=>match P.underlying t with | some (.int k)=>some k | _=>none)) && (c.pinned==c.pinnedBy) &&
   (c.veiled==(fn.params.toList++s.plain.varTypes P++fn.resultTypes.toList).any (P.veiledRec ·)) && c.veiledFits P fn.params.toList (fn.params.toList++s.plain.varTypes P++fn.resultTypes.toList))=true):joinedFacts P f fn s c=true:=by
 simp only [aF] at a1 a6 a7;obtain ⟨⟨⟨b1,b2⟩,b3⟩,b4⟩:=a1;obtain ⟨⟨⟨⟨⟨⟨⟨⟨c1,c2⟩,c3⟩,c4⟩,c5⟩,c6⟩,c7⟩,c8⟩,c9⟩:=a6;obtain ⟨⟨⟨⟨d1,d2⟩,d3⟩,d4⟩,d5⟩:=a7;unfold joinedFacts;simp only [aF];exact ⟨⟨⟨⟨⟨⟨⟨⟨⟨⟨⟨⟨⟨⟨⟨⟨⟨⟨⟨⟨⟨⟨⟨⟨⟨⟨⟨⟨⟨⟨⟨a0,l1⟩,l2⟩,b1⟩,b2⟩,b3⟩,l3⟩,b4⟩,l4⟩,a2⟩,a3⟩,a4⟩,a5⟩,c1⟩,c2⟩,c3⟩,c4⟩,c5⟩,c6⟩,c7⟩,c8⟩,c9⟩,l9⟩,d1⟩,l5⟩,l6⟩,l7⟩,l8⟩,d2⟩,d3⟩,d4⟩,d5⟩
end Go.Lt
namespace Go.Proofs.YtclmdpamofdoiaaGreatDoor
open Go Go.Lt
set_option linter.unusedVariables false
theorem sO {α:Type} {cs:List α} (h:cs.length=4):∃a0 a1 a2 a3,cs= [a0,a1,a2,a3]:=by
 match cs,h with
 | [a0,a1,a2,a3],_=>exact ⟨_,_,_,_,rfl⟩
def K_3 (n:Int):Prop:=(Lit.int .i64 n).wf=true
theorem D_3:Rd Tryz.prog 3 (RI .i64) K_3:=Rd.int Tryz.underlying3 (by kernel_rfl)
def K_5 (n:Int):Prop:=(Lit.int .u8 n).wf=true
theorem D_5:Rd Tryz.prog 5 (RI .u8) K_5:=Rd.int Tryz.underlying5 (by kernel_rfl)
theorem sL (w:World):Rel (C0 w) ⟨[],[],[],[],[],[]⟩ (fun _ _=>[]):=
 ⟨⟨fun k x h=>by simp at h,fun _ _=>rfl⟩,⟨fun k x h=>by simp at h,fun _ _=>rfl⟩,⟨fun k x h=>by simp at h,fun _ _=>rfl⟩,⟨fun k x h=>by simp at h,fun _ _=>rfl⟩,⟨fun k x h=>by simp at h,fun _ _=>rfl⟩,⟨fun k x h=>by simp at h,fun _ _=>rfl⟩⟩
theorem rX: "*" ++ "errors.errorString" = "*errors.errorString" :=by decide
set_option maxRecDepth 100000 in
theorem pV (u:TypeId) (h:Tryz.prog.typeName? 3 u=some "*errors.errorString"):u=350:=
 typeName_ptr_named (nm:= "errors.errorString") (by rw [rX]; kernel_rfl) (by kernel_rfl) (by decide) u (by rw [rX]; exact h)
set_option maxRecDepth 100000 in
theorem oN {W:World} {laid:List (String×DataW Unit)} (h:laidMetH Tryz.prog laid W) (hf:(laid.filter fun x=>x.2.handleName?.isSome)= []) (n:String) (text:List UInt8) (g:Nat)
  (hm:(n,DataW.iface "*errors.errorString" (.ptr (.agg [.lit (.string text)])))∈laid) (hg:Tryz.prog.globalNamed n=some g) (ht:(Tryz.prog.globals[g]?).map (·.type)=some 66):
  ∃a s,Im (C0 W) g 0 (.iface 350 (.pointer (some a)))∧W.cell? a=some (.string s)∧s.data.toList=text∧RE 350 144 (C0 W) (.iface 350 (.pointer (some a))) (.sent g):=by
 rw [se hf] at h;obtain ⟨ps,hl,_,hr⟩:=h;obtain ⟨a,s,h1,h2,h3,cs,t,h4⟩:=na Tryz.underlying66 pV Tryz.underlying350 Tryz.underlying371 rfl rfl Tryz.underlying9 (by kernel_rfl) (by kernel_rfl) hl hr n text g hm hg ht;exact ⟨a,s,im0 h1,h2,h3,a,rfl,im0 h1,(Array.getElem?_eq_some_iff.1 h4).1,fun _=>id,cs,t,h4⟩
theorem rK {W:World} {n:List Nat} (tx:Nat→List UInt8) (h:∀g,g∈n→∃a s,Im (C0 W) g 0 (.iface 350 (.pointer (some a)))∧W.cell? a=some (.string s)∧s.data.toList=tx g∧RE 350 144 (C0 W) (.iface 350 (.pointer (some a))) (.sent g))
  (hd:∀g,g∈n→∀g',g'∈n→tx g=tx g'→g=g'):Gl n (C0 W):=by
 refine ⟨fun g hg=>?_,fun g g' hg hg' hne a h1 h2=>?_⟩
 ·obtain ⟨a,_,_,_,_,h4⟩:=h g hg;exact ⟨_,h4⟩
 ·obtain ⟨a1,s1,e1,e2,e3,_⟩:=h g hg;obtain ⟨a2,s2,f1,f2,f3,_⟩:=h g' hg';have q1:=e1.cell.symm.trans h1.cell;have q2:=f1.cell.symm.trans h2.cell;cases q1;cases q2;have q3:=e2.symm.trans f2;cases q3;exact hne (hd g hg g' hg' (e3.symm.trans f3))
end Go.Proofs.YtclmdpamofdoiaaGreatDoor
namespace Go.Lt
open Go.ChangeShapes Go.WideShapes Go.RowKit
def RdM (P:Program) (t:TypeId) {α:Type} (R:Rp α) (K:α→Prop):Prop:=
 P.cellsOf t=R.size∧∀{H:Type} {enc:TypeId×Value→H} {w:World} {sp:Nat→Bool} {held:Bool} {fuel:Nat} {cs:List Value} {x:DataW H×List MemPlace},
  DataW.trod enc P w 0 sp held fuel t cs=some x→(∀n∈x.1.weights P t,n≤reachBytes)→∃y,R.cells (C0 w) cs y∧K y
theorem Rd.m {P:Program} {t:TypeId} {α:Type} {R:Rp α} {K:α→Prop} (h:Rd P t R K):RdM P t R K:=⟨h.1,fun hd _=>h.2 hd⟩
theorem lC {H:Type} {P:Program} {e:TypeId}:∀{l:List (DataW H)} {i:Nat} {d:DataW H},l[i]? = some d→∀n∈d.weights P e,n∈DataW.weightsAll P e l
 | d0 :: l,0,d,h,n,hn=>by
  simp only [kP,aR] at h;subst h;simp only [DataW.weightsAll,tC];exact Or.inl hn
 | d0 :: l,i+1,d,h,n,hn=>by
  simp only [cM] at h;simp only [DataW.weightsAll,tC];exact Or.inr (lC h n hn)
 | [],_,_,h,_,_=>by simp at h
theorem RdM.slice {P:Program} {t e:TypeId} {α:Type} {R:Rp α} {K:α→Prop} (ht:P.underlying t=some (.slice e)) (hc:P.cellsOf t=1) (h0:0 < R.size) (hb:0 < P.bytesOf e) (h:RdM P e R K):RdM P t (RL R) (fun xs=>xs.length≤reachBytes∧∀x∈xs,K x):=by
 refine ⟨hc,fun {H enc w sp held fuel cs x} hd hw=>?_⟩;rcases DataW.trod_slice ht hd with ⟨rfl,_⟩ | ⟨a,len,cap,elems,rest,n,_,rfl,hx,_,hl,hm,hlen,hel,_,_⟩
 ·exact ⟨[],⟨_,rfl,Sl.nl R _⟩,bT _,fun x hx=>by cases hx⟩
 ·subst hx;simp only [DataW.weights,ht] at hw;have hlr:len≤reachBytes:=by
   have h1:=hw _ (List.mem_cons_self ..);have h2:len≤((elems.map (·.1)).length+(rest.map (·.1)).length) * P.bytesOf e:=by
    rw [ci,hlen];exact ly (Nat.le_add_right _ _) (Nat.le_mul_of_pos_right _ hb)
   omega
  obtain ⟨b,o,s⟩:=a;have key:∀i,i < len→∃x,K x∧∃b' off l,(some ⟨b,o,s⟩:Option Addr)=some ⟨b',off,none⟩∧R.cells (C0 w) l x∧∀j u,l[j]? = some u→Im (C0 w) b' (off+i * R.size+j) u:=by
   intro i hi;have hs:s=none:=by
    have hE:=hel 0 (by omega);rw [av (show 0 < elems.length by omega),rp] at hE;obtain ⟨cs,hcs,_⟩:=hE;obtain ⟨c1,c2⟩:=nT hcs;have hp:0 < cs.length:=by rw [c1,h.1]; exact h0
    have:=World.cell?_spot (c2 0 _ (av hp));simpa [Addr.add] using this
   subst hs;have hE:=hel i hi;rw [av (show i < elems.length by omega),rp] at hE;obtain ⟨cs,hcs,hr⟩:=hE;obtain ⟨c1,c2⟩:=nT hcs;have hget:(elems.map (·.1))[i]? = some elems[i].1:=by
    rw [dy,av (show i < elems.length by omega)];rfl
   obtain ⟨x,hx,hk⟩:=h.2 hr fun n hn=>hw n (mF _ (fx _ (lC hget n hn)));refine ⟨x,hk,b,o,cs,rfl,hx,fun j u hu=>im0 ?_⟩;have:=c2 j u hu;rw [ru,ru,h.1] at this;exact this
  obtain ⟨xs,hxl,hxs⟩:=sa len key;subst hxl;refine ⟨xs,⟨_,rfl,some ⟨b,o,s⟩,cap,rfl,hl,hm,fun i x hx=>(hxs i x hx).2⟩,hlr,fun x hx=>?_⟩;obtain ⟨i,hi⟩:=List.mem_iff_getElem?.1 hx;exact (hxs i x hi).1
theorem RdM.field {P:Program} {H:Type} {enc:TypeId×Value→H} {w:World} {sp:Nat→Bool} {held:Bool} {n:Nat} {cs:List Value} {t:TypeId} {fs:Array Field} {xs:List (DataW H×List MemPlace)}
  (ht:P.underlying t=some (.struct fs)) (hw:∀m∈(DataW.agg (xs.map (·.1)):DataW H).weights P t,m≤reachBytes)
  (hf:∀(i:Nat) (f:Field),fs[i]? = some f→DataW.trod enc P w 0 sp held n f.type ((cs.drop f.offset).take (P.cellsOf f.type))=xs[i]?) (hx:xs.length=fs.size)
  (i:Nat) {f:Field} (hi:fs[i]? = some f) {α:Type} {R:Rp α} {K:α→Prop} (h:RdM P f.type R K):∃y,R.cells (C0 w) ((cs.drop f.offset).take R.size) y∧K y:=by
 have hlt:=(Array.getElem?_eq_some_iff.1 hi).1;have:=hf i f hi;have hxi:=av (show i < xs.length by omega);rw [hxi,h.1] at this;refine h.2 this fun m hm=>hw m ?_;simp only [DataW.weights,ht];refine DataW.weights_mem_each (j:=i) (t:=f.type) (d:=xs[i].1) ?_ ?_ m hm
 ·rw [dy,rU,hi];rfl
 ·rw [dy,hxi];rfl
theorem oB {P:Program} {H:Type} {enc:TypeId×Value→H} {w:World} {sp:Nat→Bool} {held:Bool} {t:TypeId} {v:Value} {d:DataW H} {p:List MemPlace} {e:TypeId} {α:Type} {R:Rp α} {K:List α→Prop}
  (ht:P.underlying t=some (.slice e)) (h:RdM P t (RL R) K) (hok:Value.okWide P w .any 0 t v) (hd:DataW.Trod enc P w 0 sp held t v d p) (hw:∀n∈d.weights P t,n≤reachBytes):∃xs,Sl R (C0 w) v xs∧K xs:=by
 obtain ⟨fuel,hd⟩:=hd;obtain ⟨xs,⟨u,hu,hs⟩,hk⟩:=h.2 hd hw;have:v.cells= #[v]:=by
  unfold Value.okWide at hok;simp only [ht] at hok;unfold Cell.okWide at hok
  cases v <;> simp [ht,Cell.ok] at hok⊢
  all_goals rfl
 rw [this] at hu;cases hu;exact ⟨xs,hs,hk⟩
end Go.Lt
namespace Go.Lt
end Go.Lt
namespace Go.Proofs.YtclmdpamofdoiaaGreatDoor
open Go Go.Lt Go.ChangeShapes Go.WideShapes Go.RowKit
set_option maxRecDepth 100000
def rr (xs:List Int):Prop:=xs.length≤reachBytes∧∀x∈xs,K_5 x
theorem sw:RdM Tryz.prog 33 (RL (RI .u8)) rr:=RdM.slice Tryz.underlying33 (by kernel_rfl) (by decide) (by rw [show Tryz.prog.bytesOf 5=1 by kernel_rfl]; decide) D_5.m
def rq (x:aw):Prop:=K_3 x.Kind∧K_3 x.A∧K_3 x.B∧rr x.Bytes
theorem sv:RdM Tryz.prog 38 gj rq:=by
 refine ⟨by kernel_rfl,fun {H enc w sp held fuel cs x} h hw=>?_⟩;obtain ⟨xs,n,rfl,rfl,hl,hn,hf⟩:=DataW.trod_struct Tryz.underlying38 h;replace hl:=hl.trans (show Tryz.prog.cellsOf 38=4 by kernel_rfl);obtain ⟨a0,a1,a2,a3,rfl⟩:=sO hl;obtain ⟨y0,e0,k0⟩:=RdM.field Tryz.underlying38 hw hf hn 0 rfl D_3.m;have e0: [a0]= [.int .i64 y0]:=e0;cases e0;obtain ⟨y1,e1,k1⟩:=RdM.field Tryz.underlying38 hw hf hn 1 rfl D_3.m;have e1: [a1]= [.int .i64 y1]:=e1;cases e1;obtain ⟨y2,e2,k2⟩:=RdM.field Tryz.underlying38 hw hf hn 2 rfl D_3.m;have e2: [a2]= [.int .i64 y2]:=e2;cases e2;obtain ⟨y3,e3,k3⟩:=RdM.field Tryz.underlying38 hw hf hn 3 rfl sw;obtain ⟨v3,e3,s3⟩:=e3;have e3: [a3]= [v3]:=e3;cases e3;exact ⟨⟨y0,y1,y2,y3⟩,⟨_,rfl,s3⟩,k0,k1,k2,k3⟩
def su (xs:List aw):Prop:=xs.length≤reachBytes∧∀x∈xs,rq x
theorem sx:RdM Tryz.prog 22 (RL gj) su:=RdM.slice Tryz.underlying22 (by kernel_rfl) (by decide) (by rw [show Tryz.prog.bytesOf 38=48 by kernel_rfl]; decide) sv
end Go.Proofs.YtclmdpamofdoiaaGreatDoor
namespace Go.Proofs.YtclmdpamofdoiaaGreatDoor
def ld (b:Int):Int:=if b < 128 then 1 else if 194≤b∧b≤223 then 2 else if 224≤b∧b≤239 then 3 else if 240≤b∧b≤244 then 4 else 0
def slo (b:Int):Int:=if b=224 then 160 else if b=240 then 144 else 128
def shi (b:Int):Int:=if b=237 then 159 else if b=244 then 143 else 191
theorem mh (b:Int):0≤ld b∧ld b≤4:=by
 unfold ld
 repeat' split
 all_goals omega
def bg:List Int→Int
 | [a]=>ld a
 | [a,b]=>if 2≤ld a∧slo a≤b∧b≤shi a then ld a else 0
 | [a,b,c]=>if 3≤ld a∧slo a≤b∧b≤shi a∧128≤c∧c≤191 then ld a else 0
 | [a,b,c,d]=>if ld a=4∧slo a≤b∧b≤shi a∧128≤c∧c≤191∧128≤d∧d≤191 then 4 else 0
 | _=>0
def b0 (a:Int):Int:=if ld a=2 then a - 192 else if ld a=3 then a - 224 else if ld a=4 then a - 240 else a
def vl:List Int→Int
 | []=>0
 | a :: l=>l.foldl (fun v x=>v * 64+(x - 128)) (b0 a)
def rs0 (b:Int):List Int×List Int:=if 1 < ld b then ([],[b]) else if ld b=1 then ([b],[]) else ([65533],[])
def eM (h:List Int) (b:Int):List Int×List Int:=
 if h= [] then rs0 b else if (h.length:Int)+1 < bg (h++ [b]) then ([],h++ [b]) else if 0 < bg (h++ [b]) then ([vl (h++ [b])],[]) else (65533 :: (rs0 b).1,(rs0 b).2)
def aC:List Int→List Int→List Int×List Int
 | h,[]=>([],h)
 | h,b :: p=>((eM h b).1++(aC (eM h b).2 p).1,(aC (eM h b).2 p).2)
theorem ip (h a b:List Int):aC h (a++b)=((aC h a).1++(aC (aC h a).2 b).1,(aC (aC h a).2 b).2):=by
 induction a generalizing h with
 | nil=>simp [aC]
 | cons x a ih=>simp [aC,ih]
theorem ke (h a:List Int) (x:Int):aC h (a++ [x])=((aC h a).1++(eM (aC h a).2 x).1,(eM (aC h a).2 x).2):=by
 rw [ip];simp [aC]
def Hh (h:List Int):Prop:=h= []∨(h.length:Int) < bg h
theorem Hh.step {h:List Int} (hh:Hh h) (b:Int):Hh (eM h b).2:=by
 unfold eM;have h0:Hh (rs0 b).2:=by
  unfold rs0;split
  ·rename_i q; exact .inr q
  ·split <;> exact .inl rfl
 split
 ·exact h0
 ·split
  ·rename_i q; exact .inr (by simp only [ab,af,ao]; omega)
  ·split
   ·exact .inl rfl
   ·exact h0
theorem Hh.feed {h:List Int} (hh:Hh h) (p:List Int):Hh (aC h p).2:=by
 induction p generalizing h with
 | nil=>exact hh
 | cons b p ih=>exact ih (hh.step b)
theorem Hh.len {h:List Int} (hh:Hh h):h.length≤3:=by
 rcases hh with rfl | hh
 ·simp
 ·match h,hh with
  | [],_=>simp
  | [_],_=>simp
  | [_,_],_=>simp
  | [_,_,_],_=>simp
  | [a,b,c,d],q=>simp only [bg,af,ao] at q; split at q <;> omega
  | _ :: _ :: _ :: _ :: _ :: _,q=>simp only [bg,af] at q; omega
theorem ra {l:List Int} (h:5≤l.length):bg l=0:=by
 match l,h with
 | [],h=>simp at h
 | [_],h=>simp at h
 | [_,_],h=>simp at h
 | [_,_,_],h=>simp at h
 | [_,_,_,_],h=>simp at h
 | _ :: _ :: _ :: _ :: _ :: _,_=>rfl
theorem rM {h:List Int} {b:Int} (hne:h≠ []) (hb:0 < bg (h++ [b])):bg h=bg (h++ [b]):=by
 match h,hne,hb with
 | [a],_,q=>simp only [bp,aG,bg] at q⊢; split at q <;> rename_i g; rw [aj g]; omega
 | [a,c],_,q=>
  simp only [bp,aG,bg] at q⊢;split at q
  ·rename_i g; rw [aj g,aj ⟨by omega,g.2.1,g.2.2.1⟩]
  ·omega
 | [a,c,d],_,q=>
  simp only [bp,aG,bg] at q⊢;split at q
  ·rename_i g; rw [aj g,aj ⟨by omega,g.2.1,g.2.2.1,g.2.2.2.1,g.2.2.2.2.1⟩]; exact g.1
  ·omega
 | a :: c :: d :: e :: t,_,q=>rw [ra (by simp)] at q; omega
theorem kW {c:List Int} (hc:c≠ []) (h:∀k,0 < k→k≤c.length→(k:Int) < bg (c.take k)):aC [] c=([],c):=by
 have key:∀n,n≤c.length→aC [] (c.take n)=([],c.take n):=by
  intro n
  induction n with
  | zero=>intro _; rfl
  | succ n ih=>
   intro hn;have h1:=h (n+1) (by omega) hn;rw [aA (by omega)] at h1⊢;rw [ke,ih (by omega)];have h2:eM (c.take n) c[n]=([],c.take n++ [c[n]]):=by
    unfold eM;by_cases hz:c.take n= []
    ·rw [aj hz,hz];rw [hz] at h1;simp only [aG,bg] at h1;have hn0:n=0:=by
      have:=ef List.length hz;rw [ae,ao] at this;omega
     subst hn0;unfold rs0;rw [aj (by simpa using h1)];rfl
    ·have hl:(c.take n).length=n:=by rw [ae]; omega
     rw [am hz,aj (by rw [hl]; omega)]
   rw [h2];rfl
 have:=key c.length (ah _)
 rwa [au (ah _)] at this
structure GK (c:List Int) (k:Nat):Prop where
 le:k≤c.length
 lt:∀m,0 < m→m < k→(m:Int) < bg (c.take m)
 z:k=0→bg (c.take 1)=0
 p:0 < k→0 < bg (c.take k)
 e:0 < k→(k:Int) < bg (c.take k)→k=c.length∨bg (c.take (k+1))=0
theorem kR (b:Int):eM [] b=rs0 b:=by
 unfold eM;rw [aj rfl]
theorem mf (b:Int) (p:List Int):aC [] (b :: p)=((rs0 b).1++(aC (rs0 b).2 p).1,(aC (rs0 b).2 p).2):=by
 rw [aC,kR]
theorem iE {c:List Int} {k:Nat} (h:GK c k) (hk:0 < k) (hw:bg (c.take k)=k):aC [] c=(vl (c.take k) :: (aC [] (c.drop k)).1,(aC [] (c.drop k)).2):=by
 have hle:=h.le
 conv=>lhs; rw [←fc k c]
 rw [ip]
 suffices e:aC [] (c.take k)=([vl (c.take k)],[]) by
  rw [e];rfl
 obtain ⟨m,rfl⟩:∃m,k=m+1:=⟨k - 1,by omega⟩;have ht:c.take (m+1)=c.take m++ [c[m]]:=aA (by omega);rw [ht] at hw⊢;rw [ke];have hl:(c.take m).length=m:=by rw [ae]; omega
 by_cases hm:m=0
 ·subst hm;simp only [ba,aG] at hw⊢;simp only [aC,kR];unfold rs0;simp only [bg] at hw;rw [am (by omega),aj (by omega)];simp only [vl,List.foldl,b0];rw [am (by omega),am (by omega),am (by omega)];rfl
 ·have hne:c.take m≠ []:=fun e=>by rw [e] at hl; simp at hl; omega
  rw [kW hne (fun n h0 hn=>by
   rw [cC,show min n m=n by rw [hl] at hn; omega];exact h.lt n h0 (by omega))]
  simp only;have h2:eM (c.take m) c[m]=([vl (c.take m++ [c[m]])],[]):=by
   unfold eM;rw [am hne,am (by rw [hl,hw]; simp),aj (by rw [hw]; omega)]
  rw [h2];rfl
theorem kT {c:List Int} (hc:c≠ []) (h:bg (c.take 1)=0):aC [] c=(65533 :: (aC [] (c.drop 1)).1,(aC [] (c.drop 1)).2):=by
 cases c with
 | nil=>exact absurd rfl hc
 | cons a c=>
  simp only [be,ba,bg] at h;rw [mf];unfold rs0;rw [am (by omega),am (by omega)];rfl
theorem mg {c:List Int} (h:GK c c.length) (hk:0 < c.length) (hw:(c.length:Int) < bg c):aC [] c=([],c):=by
 refine kW (fun e=>by rw [e] at hk; simp at hk) fun k h0 hn=>?_;by_cases hkk:k=c.length
 ·subst hkk;rw [au (ah _)];exact hw
 ·exact h.lt k h0 (by omega)
theorem mX {c:List Int} {k:Nat} (h:GK c k) (hk:0 < k) (hw:(k:Int) < bg (c.take k)) (hlt:k < c.length):aC [] c=(65533 :: (aC [] (c.drop k)).1,(aC [] (c.drop k)).2):=by
 have hl:(c.take k).length=k:=by rw [ae]; omega
 have hne:c.take k≠ []:=fun e=>by rw [e] at hl; simp at hl; omega
 have hz:bg (c.take (k+1))=0:=by
  rcases h.e hk hw with q | q
  ·omega
  ·exact q
 conv=>lhs; rw [←fc k c]
 rw [ip,kW hne (fun n h0 hn=>by
  rw [cC,show min n k=n by rw [hl] at hn; omega];by_cases hkk:n=k
  ·subst hkk; exact hw
  ·exact h.lt n h0 (by rw [hl] at hn; omega))]
 rw [jP hlt];simp only [aG];rw [aA hlt] at hz;have h2:eM (c.take k) c[k]=(65533 :: (rs0 c[k]).1,(rs0 c[k]).2):=by
  unfold eM;rw [am hne,am (by rw [hz]; omega),am (by rw [hz]; omega)]
 rw [mf,aC,h2];rfl
end Go.Proofs.YtclmdpamofdoiaaGreatDoor
namespace Go.Proofs.YtclmdpamofdoiaaGreatDoor
open Go Go.Lt
def Byt (b:Int):Prop:=0≤b∧b≤255
def Bts (l:List Int):Prop:=∀x∈l,Byt x
theorem nO {b:Int} (h:Byt b):dZ b=some (ld b):=by
 obtain ⟨h1,h2⟩:=h;unfold dZ ld;simp only [cr,bsm,aF,aq,tl];have e1:w64 (0+1)=1:=rfl;have e2:w64 (1+1)=2:=rfl;have e3:w64 (2+1)=3:=rfl;have e4:w64 (3+1)=4:=rfl;rw [e1,e2,e3,e4]
 repeat' split
 all_goals first | rfl | omega
theorem ov {b:Int} (h:Byt b) (hl:2≤ld b):eE b=some (slo b,shi b):=by
 unfold eE slo shi;rw [nO h];simp only [bsm,dz,aq];rw [am (by omega)];have e1:IntKind.u8.wrap (IntKind.u8.wrap (191 - 16) - 32)=143:=by decide
 have e2:IntKind.u8.wrap (191 - 32)=159:=by decide
 rw [e1,e2];by_cases a1:b=224
 ·subst a1; rfl
 by_cases a2:b=240
 ·subst a2; rfl
 by_cases a3:b=244
 ·subst a3; rfl
 by_cases a4:b=237
 ·subst a4; rfl
 rw [am a1,am a2,am a3,am a4,am a1,am a2,am a4,am a3];rfl
def qv (n:Nat):Bool:=(fj n==if ld n=0 then some 0 else some (b0 n))
theorem qu:(List.range 256).all qv=true:=by kernel_rfl
theorem qe {b:Int} (h:Byt b) (hl:1≤ld b):fj b=some (b0 b):=by
 obtain ⟨h1,h2⟩:=h;have:=List.all_eq_true.1 qu b.toNat (List.mem_range.2 (by omega));unfold qv at this;rw [dz,sG h1,am (by omega)] at this;exact this
def pP (n:Nat):Bool:=(jS .u8 n 63==if 128≤n∧n≤191 then (n:Int) - 128 else jS .u8 n 63)
theorem pO:(List.range 256).all pP=true:=by kernel_rfl
theorem pN {b:Int} (h1:128≤b) (h2:b≤191):jS .u8 b 63=b - 128:=by
 have:=List.all_eq_true.1 pO b.toNat (List.mem_range.2 (by omega));unfold pP at this;rw [dz,sG (by omega),aj (by omega)] at this;exact this
theorem rH {x y:Nat} (hx:x < 1000000000) (hy:y < 64):qm .i64 ((x:Int) * 64) (y:Int)=((x * 64+y:Nat):Int):=by
 have e1:BitVec.ofInt 64 ((x:Int) * 64)=BitVec.ofNat 64 (x * 64):=by
  rw [show ((x:Int) * 64)=((x * 64:Nat):Int) by simp,sy]
 have e2:BitVec.ofInt 64 (y:Int)=BitVec.ofNat 64 y:=sy _ _;have e3:(x * 64) ||| y=x * 64+y:=by
  have:=Nat.shiftLeft_add_eq_or_of_lt (show y < 2 ^ 6 by omega) x;rw [Nat.shiftLeft_eq] at this;exact this.symm
 unfold qm;rw [show IntKind.i64.bits=64 from rfl,e1,e2,BitVec.toNat_or,sX,sX,oC (by omega),oC (by omega),e3];exact bj (by omega)
theorem oG {h:List Int} (hne:h≠ []) (b:Int):vl (h++ [b])=vl h * 64+(b - 128):=by
 cases h with
 | nil=>exact absurd rfl hne
 | cons a t=>simp [vl,tg]
theorem qw {a:Int} (h:Byt a) (hl:2≤ld a):0≤b0 a∧b0 a≤31:=by
 obtain ⟨h1,h2⟩:=h;unfold b0;unfold ld at hl;unfold ld
 repeat' split at hl
 all_goals (repeat' split)
 all_goals omega
theorem rk {h:List Int} (hh:Hh h) (hb:Bts h) (hne:h≠ []):0≤vl h∧vl h≤131071:=by
 rcases hh with rfl | hh
 ·exact absurd rfl hne
 ·match h,hh with
  | [],_=>exact absurd rfl hne
  | [a],q=>
   have ha:=hb a (by simp);simp only [bg,af,ao] at q;have:=qw ha (by omega);simp only [vl,List.foldl];omega
  | [a,b],q=>
   have ha:=hb a (by simp);simp only [bg,af,ao] at q;split at q
   ·rename_i g
    have:=qw ha (by omega);have hs:128≤b∧b≤191:=by
     have:=g.2;unfold slo shi at this
     repeat' split at this
     all_goals omega
    simp only [vl,List.foldl];omega
   ·omega
  | [a,b,c],q=>
   have ha:=hb a (by simp);simp only [bg,af,ao] at q;split at q
   ·rename_i g
    have:=qw ha (by omega);have hs:128≤b∧b≤191:=by
     have:=g.2;unfold slo shi at this
     repeat' split at this
     all_goals omega
    simp only [vl,List.foldl];omega
   ·omega
  | [a,b,c,d],q=>simp only [bg,af,ao] at q; split at q <;> omega
  | _ :: _ :: _ :: _ :: _ :: _,q=>simp only [bg,af] at q; omega
theorem qf {h:List Int} (hh:(h.length:Int) < bg h) (hne:h≠ []) (b:Int):∃lo hi,(match h with | [a]=>(slo a,shi a) | _=>(128,191))=(lo,hi)∧128≤lo∧hi≤191∧
  ((lo≤b∧b≤hi)→bg (h++ [b])=bg h)∧(¬(lo≤b∧b≤hi)→bg (h++ [b])=0):=by
 match h,hh with
 | [],_=>exact absurd rfl hne
 | [a],q=>
  simp only [bg,af,ao] at q;refine ⟨slo a,shi a,rfl,by unfold slo; repeat' split; all_goals omega,by unfold shi; repeat' split; all_goals omega,fun g=>?_,fun g=>?_⟩
  ·simp only [bp,aG,bg];rw [aj ⟨by omega,g.1,g.2⟩]
  ·simp only [bp,aG,bg];rw [am (fun c=>g c.2)]
 | [a,c],q=>
  simp only [bg,af,ao] at q;refine ⟨128,191,rfl,by omega,by omega,fun g=>?_,fun g=>?_⟩
  ·simp only [bp,aG,bg];split at q
   ·rename_i r
    rw [aj ⟨by omega,r.2.1,r.2.2,g.1,g.2⟩,aj r]
   ·omega
  ·simp only [bp,aG,bg];rw [am (fun r=>g r.2.2.2)]
 | [a,c,d],q=>
  have hl:=mh a;simp only [bg,af,ao] at q;refine ⟨128,191,rfl,by omega,by omega,fun g=>?_,fun g=>?_⟩
  ·simp only [bp,aG,bg];split at q
   ·rename_i r
    rw [aj ⟨by omega,r.2.1,r.2.2.1,r.2.2.2.1,r.2.2.2.2,g.1,g.2⟩,aj r];omega
   ·omega
  ·simp only [bp,aG,bg];rw [am (fun r=>g r.2.2.2.2.2)]
 | [a,b,c,d],q=>simp only [bg,af,ao] at q; split at q <;> omega
 | _ :: _ :: _ :: _ :: _ :: _,q=>simp only [bg,af] at q; omega
theorem qj {σ τ:Type} (n:Nat) (f:σ→Option (σ ⊕ τ)) (s:σ):cw (n+1) f s=(f s).bind fun x=>match x with | .inl s'=>cw n f s' | .inr t=>some t:=rfl
def lp:List Int→Nat→Int→Int→Bool ⊕ (Int×Int)
 | _,0,lo,hi=> .inr (lo,hi)
 | x :: xs,k+1,lo,hi=>if 128≤x∧x≤191 then lp xs k (lo * 64+(x - 128)) (hi * 64+(x - 128)) else .inl false
 | [],k+1,lo,hi=>lp [] k (lo * 64) (hi * 64+63)
def bd (k:Nat):Int:=if k=3 then 127 else if k=2 then 8191 else if k=1 then 524287 else 33554431
def mk (n:Nat):Int:=if n=2 then 192 else if n=3 then 224 else if n=4 then 240 else 0
def sz (n:Nat):Int:=if n=1 then 128 else if n=2 then 32 else if n=3 then 16 else if n=4 then 8 else 0
def fr (n:Nat):Int:=if n=2 then 128 else if n=3 then 2048 else if n=4 then 65536 else 0
def to (n:Nat):Int:=if n=1 then 127 else if n=2 then 2047 else if n=3 then 65535 else if n=4 then 1114111 else 0
theorem rm {n:Nat} (h1:1≤n) (h2:n≤4):idx ([0,0,192,224,240]:List Int) n=some (mk n)∧idx ([0,128,32,16,8]:List Int) n=some (sz n)∧idx ([0,0,128,2048,65536]:List Int) n=some (fr n)∧idx ([0,127,2047,65535,1114111]:List Int) n=some (to n):=by
 have:n=1∨n=2∨n=3∨n=4:=by omega
 rcases this with rfl | rfl | rfl | rfl <;> exact ⟨rfl,rfl,rfl,rfl⟩
def sst (p:List Int) (n:Nat):Int×Int×Int→Option ((Int×Int×Int) ⊕ (Bool ⊕ (Int×Int))):=fun s_40=>
 if (decide (s_40.2.2 < (n:Int)))=true then
 if (decide (s_40.2.2 < (p.length:Int)))=true then
 (idx p s_40.2.2).bind fun x_62=>
 (orE (decide ((w64 ((w64 x_62) - 128)) < 0)) (some (decide ((w64 ((w64 x_62) - 128)) > 63)))).bind fun d_70=>
 if d_70=true then
 some (.inr (.inl false))
 else
 some (.inl ((w64 ((w64 (s_40.1 * 64))+(w64 ((w64 x_62) - 128)))),(w64 ((w64 ((w64 ((w64 (s_40.2.1 * 64))+63)) - 63))+(w64 ((w64 x_62) - 128)))),(w64 (s_40.2.2+1))))
 else
 some (.inl ((w64 (s_40.1 * 64)),(w64 ((w64 (s_40.2.1 * 64))+63)),(w64 (s_40.2.2+1))))
 else
 some (.inr (.inr (s_40.1,s_40.2.1)))
theorem oV (p:List Int) (hp:Bts p) (n:Nat) (hn:n≤4):∀(k:Nat) (i:Nat) (lo hi:Int),k≤3→1≤i→i+k=n→0≤lo→lo≤bd k→0≤hi→hi≤bd k→cw (σ:=Int×Int×Int) (τ:=Bool ⊕ (Int×Int)) (k+1) (sst p n) (lo,hi,(i:Int))=some (lp (p.drop i) k lo hi):=by
 intro k
 induction k with
 | zero=>
  intro i lo hi _ _ hik _ _ _ _;rw [qj];have e:sst p n (lo,hi,(i:Int))=some (.inr (.inr (lo,hi))):=by
   unfold sst;simp only;rw [am (by simp; omega)]
  rw [e]
  cases p.drop i <;> rfl
 | succ k ih=>
  intro i lo hi hk h1 hik a1 a2 a3 a4;have hb:(bd (k+1)+1) * 64≤bd k+1:=by
   have:k=0∨k=1∨k=2:=by omega
   rcases this with rfl | rfl | rfl <;> decide
  have hb2:bd k≤33554431:=by unfold bd; repeat' split; all_goals omega
  rw [qj];by_cases hi':i < p.length
  ·rw [jP hi'];have hx:=hp _ (cL hi');obtain ⟨x1,x2⟩:=hx;unfold lp;have e:sst p n (lo,hi,(i:Int))=if 128≤p[i]∧p[i]≤191 then some (.inl (lo * 64+(p[i] - 128),hi * 64+(p[i] - 128),((i+1:Nat):Int))) else some (.inr (.inl false)):=by
    unfold sst;simp only;rw [aj (by simp; omega),fW (show i < n by omega) (by omega),aj (dlt hi'),fF hi'];simp only [bsm,da,aN,aq];rw [bj (n:=p[i]) (by omega),bj (n:=p[i] - 128) (by omega)];by_cases hr:128≤p[i]∧p[i]≤191
    ·rw [am (by omega),aj hr];rw [bj (n:=lo * 64) (by omega),bj (n:=hi * 64) (by omega),bj (n:=hi * 64+63) (by omega),bj (n:=hi * 64+63 - 63) (by omega),bj (n:=lo * 64+(p[i] - 128)) (by omega),bj (n:=hi * 64+63 - 63+(p[i] - 128)) (by omega),show hi * 64+63 - 63+(p[i] - 128)=hi * 64+(p[i] - 128) by omega]
    ·rw [aj (by omega),am hr]
   rw [e];by_cases hr:128≤p[i]∧p[i]≤191
   ·rw [aj hr,aj hr];exact ih (i+1) (lo * 64+(p[i] - 128)) (hi * 64+(p[i] - 128)) (by omega) (by omega) (by omega) (by omega) (by omega) (by omega) (by omega)
   ·rw [am hr,am hr];rfl
  ·rw [bC (by omega)];unfold lp;have e:sst p n (lo,hi,(i:Int))=some (.inl (lo * 64,hi * 64+63,((i+1:Nat):Int))):=by
    unfold sst;simp only;rw [aj (by simp; omega),fW (show i < n by omega) (by omega),am (by simp; omega)];rw [bj (n:=lo * 64) (by omega),bj (n:=hi * 64) (by omega),bj (n:=hi * 64+63) (by omega)]
   rw [e];have:=ih (i+1) (lo * 64) (hi * 64+63) (by omega) (by omega) (by omega) (by omega) (by omega) (by omega) (by omega);rw [bC (by omega)] at this;exact this
def oW (n:Nat) (z:Bool ⊕ (Int×Int)):Bool:=match z with | .inl b=>b | .inr (lo,hi)=>decide (max lo (fr n)≤min hi (to n)) && (decide (max lo (fr n) < 55296) || decide (min hi (to n) > 57343))
def smf (a:Int) (t:List Int) (n:Nat):Bool:=if a - mk n < 0∨sz n≤a - mk n then false else oW n (lp t (n - 1) (a - mk n) (a - mk n))
theorem qF {a:Int} {t:List Int} (hp:Bts (a :: t)) {n:Nat} (h1:1≤n) (h2:n≤4):cq (a :: t) n=some (smf a t n):=by
 obtain ⟨a1,a2⟩:=hp a (by simp);obtain ⟨m1,m2,m3,m4⟩:=rm h1 h2;have hm:0≤mk n∧mk n≤240:=by unfold mk; repeat' split; all_goals omega
 have hsz:sz n≤bd (n - 1)+1:=by
  have:n=1∨n=2∨n=3∨n=4:=by omega
  rcases this with rfl | rfl | rfl | rfl <;> decide
 unfold cq smf;rw [m1,m2,m3,m4,show idx (a :: t) 0=some a from rfl];simp only [bsm];rw [bj (n:=a) (by omega),bj (n:=a - mk n) (by omega),da];simp only [bsm];by_cases hA:a - mk n < 0∨sz n≤a - mk n
 ·rw [aj (by simp only [aN,aq]; omega),aj hA]
 ·rw [am (by simp only [aN,aq]; omega),am hA,show ((n:Int) - 1).toNat+1=(n - 1)+1 by omega];have:=oV (a :: t) hp n h2 (n - 1) 1 (a - mk n) (a - mk n) (by omega) (by omega) (by omega) (by omega) (by omega) (by omega) (by omega);unfold sst at this;simp only [Int.natCast_one,sF,fy] at this;rw [this];simp only [bsm]
  cases lp t (n - 1) (a - mk n) (a - mk n) with
  | inl b=>rfl
  | inr z=>simp only [kz,nj,cr,da,bsm,oW]
theorem qi (a:Int):(ld a=1∧a < 128)∨(ld a=2∧194≤a∧a≤223)∨(ld a=3∧224≤a∧a≤239)∨(ld a=4∧240≤a∧a≤244)∨(ld a=0∧128≤a∧¬(194≤a∧a≤244)):=by
 unfold ld
 repeat' split
 all_goals omega
theorem rA {a:Int} {t:List Int} (hp:Bts (a :: t)) {n:Nat} (h1:1≤n) (h2:n≤4) (h3:t.length+1≤n):smf a t n=true↔bg (a :: t)=(n:Int):=by
 have hl:=qi a;obtain ⟨a1,a2⟩:=hp a (by simp);have:n=1∨n=2∨n=3∨n=4:=by omega
 match t,hp,h3 with
 | [],_,_=>
  rcases this with rfl | rfl | rfl | rfl <;>
   simp only [smf,lp,oW,bg,mk,sz,fr,to,Nat.reduceEqDiff,mG,jl,Nat.reduceSub,aF,aN,aq] <;> split <;>
   simp only [aF,aN,aq,bh,eW] <;> omega
 | [b],hp,h3=>
  obtain ⟨b1,b2⟩:=hp b (by simp);simp only [af,ao] at h3;have hs:slo a=(if a=224 then 160 else if a=240 then 144 else 128)∧shi a=(if a=237 then 159 else if a=244 then 143 else 191):=⟨rfl,rfl⟩;have hs1:(a=224∧slo a=160)∨(a=240∧slo a=144)∨(a≠224∧a≠240∧slo a=128):=by rw [hs.1]; repeat' split; all_goals omega
  have hs2:(a=237∧shi a=159)∨(a=244∧shi a=143)∨(a≠237∧a≠244∧shi a=191):=by rw [hs.2]; repeat' split; all_goals omega
  clear hs
  have hbg:bg [a,b]=if 2≤ld a∧slo a≤b∧b≤shi a then ld a else 0:=rfl;rw [hbg];rcases this with rfl | rfl | rfl | rfl
  ·omega
  all_goals
   simp only [smf,lp,oW,mk,sz,fr,to,Nat.reduceEqDiff,mG,jl,Nat.reduceSub];split
   ·split <;> simp only [bh,eW] <;> omega
   ·by_cases hb:128≤b∧b≤191
    ·simp only [aj hb,aF,aN,aq];split <;> omega
    ·simp only [am hb];split <;> simp only [bh,eW] <;> omega
 | [b,c],hp,h3=>
  obtain ⟨b1,b2⟩:=hp b (by simp);obtain ⟨c1,c2⟩:=hp c (by simp);simp only [af,ao] at h3;have hs:slo a=(if a=224 then 160 else if a=240 then 144 else 128)∧shi a=(if a=237 then 159 else if a=244 then 143 else 191):=⟨rfl,rfl⟩;have hs1:(a=224∧slo a=160)∨(a=240∧slo a=144)∨(a≠224∧a≠240∧slo a=128):=by rw [hs.1]; repeat' split; all_goals omega
  have hs2:(a=237∧shi a=159)∨(a=244∧shi a=143)∨(a≠237∧a≠244∧shi a=191):=by rw [hs.2]; repeat' split; all_goals omega
  clear hs
  have hbg:bg [a,b,c]=if 3≤ld a∧slo a≤b∧b≤shi a∧128≤c∧c≤191 then ld a else 0:=rfl;rw [hbg];rcases this with rfl | rfl | rfl | rfl
  ·omega
  ·omega
  all_goals
   simp only [smf,lp,oW,mk,sz,fr,to,Nat.reduceEqDiff,mG,jl,Nat.reduceSub];split
   ·split <;> simp only [bh,eW] <;> omega
   ·by_cases hb:128≤b∧b≤191
    ·by_cases hc:128≤c∧c≤191
     ·simp only [aj hb,aj hc,aF,aN,aq];split <;> omega
     ·simp only [aj hb,am hc];split <;> simp only [bh,eW] <;> omega
    ·simp only [am hb];split <;> simp only [bh,eW] <;> omega
 | [b,c,d],hp,h3=>
  obtain ⟨b1,b2⟩:=hp b (by simp);obtain ⟨c1,c2⟩:=hp c (by simp);obtain ⟨d1,d2⟩:=hp d (by simp);simp only [af,ao] at h3;have hs:slo a=(if a=224 then 160 else if a=240 then 144 else 128)∧shi a=(if a=237 then 159 else if a=244 then 143 else 191):=⟨rfl,rfl⟩;have hs1:(a=224∧slo a=160)∨(a=240∧slo a=144)∨(a≠224∧a≠240∧slo a=128):=by rw [hs.1]; repeat' split; all_goals omega
  have hs2:(a=237∧shi a=159)∨(a=244∧shi a=143)∨(a≠237∧a≠244∧shi a=191):=by rw [hs.2]; repeat' split; all_goals omega
  clear hs
  have hbg:bg [a,b,c,d]=if ld a=4∧slo a≤b∧b≤shi a∧128≤c∧c≤191∧128≤d∧d≤191 then 4 else 0:=rfl;rw [hbg];rcases this with rfl | rfl | rfl | rfl
  ·omega
  ·omega
  ·omega
  ·simp only [smf,lp,oW,mk,sz,fr,to,Nat.reduceEqDiff,mG,jl,Nat.reduceSub];split
   ·split <;> simp only [bh,eW] <;> omega
   ·by_cases hb:128≤b∧b≤191
    ·by_cases hc:128≤c∧c≤191
     ·by_cases hd:128≤d∧d≤191
      ·simp only [aj hb,aj hc,aj hd,aF,aN,aq];split <;> omega
      ·simp only [aj hb,aj hc,am hd];split <;> simp only [bh,eW] <;> omega
     ·simp only [aj hb,am hc];split <;> simp only [bh,eW] <;> omega
    ·simp only [am hb];split <;> simp only [bh,eW] <;> omega
 | _ :: _ :: _ :: _ :: _,_,h3=>simp at h3; omega
theorem oh {p:List Int} (h:0 < bg p):(p.length:Int)≤bg p:=by
 match p,h with
 | [],h=>simp [bg] at h
 | [a],h=>simp only [bg,af,ao] at h⊢; omega
 | [a,b],h=>simp only [bg,af,ao] at h⊢; split at h <;> rename_i g; rw [aj g]; omega; omega
 | [a,b,c],h=>simp only [bg,af,ao] at h⊢; split at h <;> rename_i g; rw [aj g]; omega; omega
 | [a,b,c,d],h=>simp only [bg,af,ao] at h⊢; split at h <;> rename_i g; rw [aj g]; omega; omega
 | _ :: _ :: _ :: _ :: _ :: _,h=>simp [bg] at h
theorem og (p:List Int):0≤bg p∧bg p≤4:=by
 match p with
 | []=>simp [bg]
 | [a]=>exact mh a
 | [a,b]=>simp only [bg]; split <;> first | exact mh a | omega
 | [a,b,c]=>simp only [bg]; split <;> first | exact mh a | omega
 | [a,b,c,d]=>simp only [bg]; split <;> omega
 | _ :: _ :: _ :: _ :: _ :: _=>simp [bg]
theorem jJ {p:List Int} (hp:Bts p) (hl:p.length≤1000000):aQ p=some (bg p):=by
 have hb:=og p;unfold aQ;refine fE (n:=4) (fun i s=>s=((i+1:Nat):Int)∧∀m:Nat,1≤m→m≤i→bg p≠(m:Int)) (fun u=>match u with | .inl n=>n=bg p | .inr _=>bg p=0) (fun i s hi hI=>?_) (fun s hI=>?_) ⟨rfl,fun m h1 h2=>by omega⟩ (by decide) (fun u hu=>?_)
 ·obtain ⟨e,hI⟩:=hI;subst e;rw [aj (by simp; omega)];simp only [cr,bsm];have key:∃t:Bool,(bS (decide ((p.length:Int)≥1) && decide ((p.length:Int)≤((i+1:Nat):Int))) ((cq p ((i+1:Nat):Int)).bind fun x_22=>some x_22))=some t∧(t=true↔bg p=((i+1:Nat):Int)):=by
   by_cases hc:1≤p.length∧p.length≤i+1
   ·rw [show (decide ((p.length:Int)≥1) && decide ((p.length:Int)≤((i+1:Nat):Int)))=true by simp; omega,iA]
    cases p with
    | nil=>simp at hc
    | cons a t=>
     rw [qF hp (by omega) (by omega)];exact ⟨_,rfl,rA hp (by omega) (by omega) (by simpa using hc.2)⟩
   ·rw [show (decide ((p.length:Int)≥1) && decide ((p.length:Int)≤((i+1:Nat):Int)))=false by simp; omega,gK];refine ⟨false,rfl,?_⟩;simp only [bh,eW];intro e;have:=oh (p:=p) (by omega);have h1:1≤p.length:=by
     cases p with
     | nil=>simp [bg] at e; omega
     | cons _ _=>simp
    omega
  obtain ⟨t,h1,h2⟩:=key;rw [h1];simp only [bsm]
  cases t with
  | true=>exact .inr ⟨_,rfl,(h2.1 rfl).symm⟩
  | false=>
   refine .inl ⟨_,rfl,by rw [bj (by omega)]; simp,fun m m1 m2=>?_⟩;by_cases hm:m≤i
   ·exact hI m m1 hm
   ·obtain rfl:m=i+1:=by omega
    exact fun e=>by have:=h2.2 e; cases this
 ·obtain ⟨e,hI⟩:=hI;subst e;refine ⟨.inr (),rfl,?_⟩;have e1:=hI 1 (by omega) (by omega);have e2:=hI 2 (by omega) (by omega);have e3:=hI 3 (by omega) (by omega);have e4:=hI 4 (by omega) (by omega);simp only;omega
 ·cases u with
  | inl n=>simp only at hu; rw [hu]
  | inr u=>simp only at hu; rw [hu]
theorem lV {p:List Int} (h:0 < bg p) {i:Nat} (h1:1≤i) (h2:i≤p.length):bg (p.take i)=bg p:=by
 have key:∀d,d+1≤p.length→bg (p.take (p.length - d))=bg p:=by
  intro d
  induction d with
  | zero=>intro _; rw [om,au (ah _)]
  | succ d ih=>
   intro hd;have e:=ih (by omega);rw [show p.length - d=(p.length - (d+1))+1 by omega,aA (show p.length - (d+1) < p.length by omega)] at e;have hne:p.take (p.length - (d+1))≠ []:=fun q=>by
    have:=ef List.length q;rw [ae,ao] at this;omega
   rw [rM hne (by rw [e]; exact h),e]
 have:=key (p.length - i) (by omega)
 rwa [show p.length - (p.length - i)=i by omega] at this
theorem lX {p:List Int} (hp:Bts p) (hb:bg p=(p.length:Int)) (hne:p≠ []):ca p=some (vl p)∧0≤vl p∧vl p≤2000000000:=by
 have h4:=og p;have hlen:1≤p.length:=by
  cases p with
  | nil=>exact absurd rfl hne
  | cons _ _=>simp
 have hbd:∀i,1≤i→i < p.length→0≤vl (p.take i)∧vl (p.take i)≤131071:=fun i h1 h2=>by
  have hl:(p.take i).length=i:=by rw [ae]; omega
  refine rk (.inr ?_) (fun x hx=>hp x (ep hx)) (fun e=>by rw [e] at hl; simp at hl; omega);rw [hl,lV (by omega) h1 (by omega)];omega
 have hstep:∀i,1≤i→(h:i < p.length)→vl (p.take (i+1))=vl (p.take i) * 64+(p[i] - 128):=fun i h1 h=>by
  rw [aA h,oG];intro e;have:=ef List.length e;rw [ae,ao] at this;omega
 have h0:∀a t,p=a :: t→vl (p.take 1)=a - mk p.length:=fun a t e=>by
  have hk:ld a=(p.length:Int):=by
   have:=lV (p:=p) (by omega) (i:=1) (by omega) (by omega);rw [e,be,ba] at this;rw [←hb,e,←this];rfl
  rw [e,be,ba,←e];simp only [vl,List.foldl];unfold b0 mk
  repeat' split
  all_goals omega
 have hfin:0≤vl p∧vl p≤2000000000:=by
  by_cases h1:p.length=1
  ·obtain ⟨a,rfl⟩:∃a,p= [a]:=by
    match p,h1 with
    | [a],_=>exact ⟨a,rfl⟩
   have:=hp a (by simp);obtain ⟨a1,a2⟩:=this;simp only [bg,af,ao] at hb;simp only [vl,List.foldl];unfold b0
   repeat' split
   all_goals omega
  ·have e:=hstep (p.length - 1) (by omega) (by omega);rw [show p.length - 1+1=p.length by omega,au (ah _)] at e;have b:=hbd (p.length - 1) (by omega) (by omega);have hx:=hp _ (cL (show p.length - 1 < p.length by omega));obtain ⟨x1,x2⟩:=hx;have ht:128≤p[p.length - 1]:=by
    have e2:p=p.take (p.length - 1)++ [p[p.length - 1]'(by omega)]:=by
     rw [←aA (by omega),show p.length - 1+1=p.length by omega,au (ah _)]
    have hl:(p.take (p.length - 1)).length=p.length - 1:=by rw [ae]; omega
    obtain ⟨lo,hi,_,f2,f3,f4,f5⟩:=qf (h:=p.take (p.length - 1)) (by rw [hl,lV (by omega) (by omega) (by omega)]; omega) (fun q=>by rw [q] at hl; simp at hl; omega) (p[p.length - 1]'(by omega));by_cases hr:lo≤p[p.length - 1]'(by omega)∧p[p.length - 1]'(by omega)≤hi
    ·omega
    ·have:=f5 hr;rw [←e2] at this;omega
   omega
 refine ⟨?_,hfin⟩;obtain ⟨m1,_,_,_⟩:=rm (n:=p.length) hlen (by omega)
 cases hpe:p with
 | nil=>exact absurd hpe hne
 | cons a t=>
  rw [←hpe];have hmk:0≤mk p.length∧mk p.length≤240:=by unfold mk; repeat' split; all_goals omega
  have ha:=hp a (by rw [hpe]; simp);obtain ⟨a1,a2⟩:=ha;have hi0:idx p 0=some a:=by rw [hpe]; rfl
  unfold ca;rw [m1,hi0];simp only [bsm];rw [bj (n:=a) (by omega),bj (n:=a - mk p.length) (by omega)];refine fE (n:=p.length - 1) (fun i s=>s=(vl (p.take (i+1)),((i+1:Nat):Int))) (fun u=>u=vl p) (fun i s hi e=>?_) (fun s e=>?_) (by rw [h0 a t hpe]; rfl) (by omega) (fun u hu=>?_)
  ·subst e;have hx:=hp _ (cL (show i+1 < p.length by omega));obtain ⟨x1,x2⟩:=hx;have hv:=hbd (i+1) (by omega) (by omega);simp only;rw [aj (by simp; omega),fF (show i+1 < p.length by omega)];simp only [bsm];rw [bj (n:=p[i+1]) (by omega),bj (n:=vl (p.take (i+1)) * 64) (by omega),bj (n:=vl (p.take (i+1)) * 64+p[i+1]) (by omega),bj (n:=vl (p.take (i+1)) * 64+p[i+1] - 128) (by omega),fW (show i+1 < p.length by omega) (by omega)];refine .inl ⟨_,rfl,?_⟩;rw [hstep (i+1) (by omega) (by omega)]
   congr 1
   omega
  ·subst e;refine ⟨_,by simp only; rw [am (by simp; omega)],?_⟩;rw [show p.length - 1+1=p.length by omega,au (ah _)]
  ·subst hu;rw [pK (by omega)]
theorem Bts.snoc {h:List Int} (hb:Bts h) {b:Int} (h1:Byt b):Bts (h++ [b]):=fun x hx=>by
 rcases List.mem_append.1 hx with hx | hx
 ·exact hb x hx
 ·rw [List.mem_singleton.1 hx]; exact h1
theorem mT {b:Int} (h:Byt b):bP [] b=some (rs0 b):=by
 have hb1:Bts ([]++ [b]):=Bts.snoc (fun x hx=>by simp at hx) h;have hl:=mh b;unfold bP;rw [dU (by simp)];simp only [bsm];rw [dU (by simp)];simp only [bsm];rw [jJ (by simpa using hb1) (by simp)];simp only [bsm,cr,aG,bg,af,ao];unfold rs0;by_cases h1:1 < ld b
 ·rw [aj (by simp; omega),aj h1]
 ·rw [am (by simp; omega),am h1];by_cases h2:ld b=1
  ·rw [aj (by simp; omega),aj h2,(lX (p:=[b]) (by simpa using hb1) (by simpa [bg] using h2) (by simp)).1];simp only [bsm,vl,List.foldl,b0];rw [am (by omega),am (by omega),am (by omega)]
  ·rw [am (by simp; omega),am h2];simp
theorem qE {h:List Int} (hh:Hh h) (hb:Bts h) {b:Int} (h1:Byt b):cU h b=some (eM h b):=by
 have hb1:=hb.snoc h1;have h3:=hh.len;unfold cU;rw [dU (by simp; omega),aG];simp only [bsm];rw [dU (by simp; omega)];simp only [bsm];rw [jJ hb1 (by simp; omega)];simp only [bsm,cr];by_cases hne:h= []
 ·subst hne;have:=mT h1;unfold bP at this;rw [kR,←this,dU (by simp)];simp only [bsm];rw [dU (by simp)];simp only [bsm];rw [jJ (by simpa using hb1) (by simp)];simp only [bsm,cr,aG,ao];rfl
 ·unfold eM;rw [am hne];have hl:(h++ [b]).length=h.length+1:=by simp
  rw [hl];by_cases g1:(h.length:Int)+1 < bg (h++ [b])
  ·rw [aj (by simp; omega),aj g1]
  ·rw [am (by simp; omega),am g1];by_cases g2:0 < bg (h++ [b])
   ·rw [aj (by simpa using g2),aj g2];have hw:bg (h++ [b])=((h++ [b]).length:Int):=by
     have:=oh g2;rw [hl] at this⊢;omega
    rw [(lX hb1 hw (by simp)).1];rfl
   ·rw [am (by simpa using g2),am g2,am (by simp; exact hne),mT h1];have hrl:(rs0 b).1.length≤1:=by
     unfold rs0;split
     ·simp
     ·split <;> simp
    simp only [bsm];rw [dU (by simp; omega)];rfl
theorem mV (h:List Int) (b:Int):(eM h b).1.length≤2:=by
 have hrl:(rs0 b).1.length≤1:=by
  unfold rs0;split
  ·simp
  ·split <;> simp
 unfold eM;split
 ·omega
 ·split
  ·simp
  ·split
   ·simp
   ·simp; omega
theorem kS (h p:List Int):(aC h p).1.length≤2 * p.length:=by
 induction p generalizing h with
 | nil=>simp [aC]
 | cons b p ih=>
  have:=ih (eM h b).2;have h2:=mV h b;simp only [aC,ab,af];omega
theorem oZ {h:List Int} (hb:Bts h) {b:Int} (h1:Byt b):Bts (eM h b).2:=by
 have h0:Bts (rs0 b).2:=by
  unfold rs0;split
  ·intro x hx; rw [List.mem_singleton.1 hx]; exact h1
  ·split <;> (intro x hx; simp at hx)
 unfold eM;split
 ·exact h0
 ·split
  ·exact hb.snoc h1
  ·split
   ·intro x hx; simp at hx
   ·exact h0
theorem pa {h p:List Int} (hb:Bts h) (hp:Bts p):Bts (aC h p).2:=by
 induction p generalizing h with
 | nil=>exact hb
 | cons b p ih=>exact ih (oZ hb (hp b (by simp))) (fun x hx=>hp x (mF _ hx))
theorem oO {h p:List Int} (hh:Hh h) (hb:Bts h) (hp:Bts p) (hl:p.length≤1000000):bQ h p=some (aC h p):=by
 unfold bQ;refine fE (n:=p.length) (fun i s=>s=((aC h (p.take i)).2,(aC h (p.take i)).1,(i:Int))) (fun u=>u=((aC h p).2,(aC h p).1)) (fun i s hi e=>?_) (fun s e=>?_) rfl (by omega) (fun u hu=>?_)
 ·subst e;have hpt:Bts (p.take i):=fun x hx=>hp x (ep hx);simp only;rw [aj (dlt hi),fF hi,fW hi (by omega)];simp only [bsm];rw [qE (hh.feed _) (pa hb hpt) (hp _ (cL hi))];simp only [bsm];have h1:=kS h (p.take i);have h2:=mV (aC h (p.take i)).2 p[i];rw [ae] at h1;rw [dU (by omega)];refine .inl ⟨_,rfl,?_⟩;rw [aA hi,ke]
 ·subst e;refine ⟨_,by simp only; rw [am (by simp)],?_⟩;rw [au (ah _)]
 ·subst hu;rfl
end Go.Proofs.YtclmdpamofdoiaaGreatDoor
namespace Go.Lt
theorem nb {σ τ β:Type} {step:σ→Option (σ ⊕ τ)} {fuel:Nat} {s:σ} {k:τ→Option β} {p:β→Prop} (Inv:σ→Prop) (μ:σ→Nat) (post:τ→Prop)
  (h:∀s,Inv s→(∃s',step s=some (.inl s')∧Inv s'∧μ s' < μ s)∨∃t,step s=some (.inr t)∧post t) (h0:Inv s) (hf:μ s < fuel) (hk:∀t,post t→∃r,k t=some r∧p r):∃r,(cw fuel step s).bind k=some r∧p r:=by
 obtain ⟨t,e1,e2⟩:=kx Inv μ post h fuel s h0 hf;rw [e1];exact hk t e2
variable {α:Type} {lo hi:α→Int}
end Go.Lt
namespace Go.Proofs.YtclmdpamofdoiaaGreatDoor
open Go Go.Lt
theorem Hh.nil:Hh []:= .inl rfl
theorem Bts.nil:Bts []:=fun x hx=>by simp at hx
def jc (c:List Int):List Int:=(aC [] c).1++(if (aC [] c).2= [] then [] else [65533])
theorem GK.take {c:List Int} {k:Nat} (h:GK c k):GK (c.take k) k:=by
  have hle:=h.le;refine ⟨by rw [ae]; omega,fun m h1 h2=>?_,fun hk=>?_,fun hk=>?_,fun hk _=> .inl (by rw [ae]; omega)⟩
  · rw [cC,cW (by omega)]
    exact h.lt m h1 h2
  · subst hk
    simp [bg]
  · rw [cC,Nat.min_self]
    exact h.p hk
theorem mY {c:List Int} {k:Nat} (h:GK c k) (hk:0 < k):(bg (c.take k)=k∧aC [] (c.take k)=([vl (c.take k)],[]))∨((k:Int) < bg (c.take k)∧aC [] (c.take k)=([],c.take k)):=by
  have hle:=h.le;have hl:(c.take k).length=k:=by rw [ae]; omega
  have hp:=h.p hk;have hge:=oh hp;rw [hl] at hge;have ht:=h.take;have htt:(c.take k).take k=c.take k:=by rw [cC,Nat.min_self]
  by_cases hw:bg (c.take k)=k
  · refine .inl ⟨hw,?_⟩
    have:=iE ht hk (by rw [htt]; exact hw);rw [htt,bC (by omega)] at this;exact this
  · refine .inr ⟨by omega,?_⟩
    have ht':GK (c.take k) (c.take k).length:=by rw [hl]; exact ht
    exact mg ht' (by omega) (by rw [hl]; omega)
theorem mS {c:List Int} {k:Nat} (h:GK c k) (hc:c≠ []):jc c=(if 0 < k then (if bg (c.take k)=k then vl (c.take k) else 65533) else 65533) :: jc (c.drop (max k 1)):=by
  by_cases hk:0 < k
  · rw [aj hk,show max k 1=k by omega]
    rcases mY h hk with ⟨hw,_⟩ | ⟨hw,_⟩
    · rw [aj hw]
      have:=iE h hk hw;unfold jc;rw [this];rfl
    · rw [am (by omega)]
      by_cases hlt:k < c.length
      · have:=mX h hk hw hlt
        unfold jc;rw [this];rfl
      · have hkl:k=c.length:=by have:=h.le; omega
        subst hkl;rw [au (ah _)] at hw;have:=mg h hk hw;unfold jc;rw [this,am hc,bC (ah _)];rfl
  · rw [am hk,show max k 1=1 by omega]
    have:=kT hc (h.z (by omega));unfold jc;rw [this];rfl
theorem ph {p:List Int} (hp:Bts p) (hl:p.length≤1000000) {a:Nat} (ha:a < p.length):∃k:Nat,GK (p.drop a) k∧cw (σ:=Int) (τ:=Int) (((p.length:Int) - (w64 ((a:Int)+0))).toNat+1) (fun s_15=>
 (bS (decide ((w64 ((a:Int)+s_15)) < (p.length:Int))) ((slc p (a:Int) (w64 ((w64 ((a:Int)+s_15))+1))).bind fun x_30=>
 (aQ x_30).bind fun x_31=>
 some (decide (x_31 > 0)))).bind fun d_22=>
 if d_22=true then
 (slc p (a:Int) (w64 ((a:Int)+(w64 (s_15+1))))).bind fun x_43=>
 (aQ x_43).bind fun x_44=>
 if (x_44==(w64 (s_15+1)))=true then
 some (.inr ((w64 (s_15+1))))
 else
 some (.inl ((w64 (s_15+1))))
 else
 some (.inr (s_15))) (0)=some (k:Int):=by
  have hcl:(p.drop a).length=p.length - a:=by simp
  have hbt:∀i,Bts ((p.drop a).take i):=fun i x hx=>hp x (eq (ep hx));obtain ⟨t,h1,h2⟩:=kx (σ:=Int) (τ:=Int) (step:=fun s_15=>
 (bS (decide ((w64 ((a:Int)+s_15)) < (p.length:Int))) ((slc p (a:Int) (w64 ((w64 ((a:Int)+s_15))+1))).bind fun x_30=>
 (aQ x_30).bind fun x_31=>
 some (decide (x_31 > 0)))).bind fun d_22=>
 if d_22=true then
 (slc p (a:Int) (w64 ((a:Int)+(w64 (s_15+1))))).bind fun x_43=>
 (aQ x_43).bind fun x_44=>
 if (x_44==(w64 (s_15+1)))=true then
 some (.inr ((w64 (s_15+1))))
 else
 some (.inl ((w64 (s_15+1))))
 else
 some (.inr (s_15))) (fun s=>∃k:Nat,s=(k:Int)∧k≤p.length - a∧∀m,0 < m→m≤k→(m:Int) < bg ((p.drop a).take m)) (fun s=>p.length - a - s.toNat) (fun t=>∃k:Nat,t=(k:Int)∧GK (p.drop a) k)
    (fun s hs=>by
      obtain ⟨k,rfl,hk,hI⟩:=hs;have e1:w64 ((a:Int)+(k:Int))=((a+k:Nat):Int):=by rw [bj (by omega)]; simp
      have e2:w64 (((a+k:Nat):Int)+1)=((a+k+1:Nat):Int):=by rw [bj (by omega)]; simp
      have e3:w64 ((k:Int)+1)=((k+1:Nat):Int):=by rw [bj (by omega)]; simp
      have e4:w64 ((a:Int)+((k+1:Nat):Int))=((a+k+1:Nat):Int):=by rw [bj (by omega)]; simp; omega
      simp only [e1,e2,e3,e4];by_cases hlt:k < p.length - a
      · have hs:=kb (xs:=p) (i:=a) (j:=a+k+1) (by omega) (by omega)
        rw [show a+k+1 - a=k+1 by omega] at hs;rw [show decide (((a+k:Nat):Int) < (p.length:Int))=true by simp; omega,iA,hs];simp only [bsm];rw [jJ (hbt _) (by simp; omega)];simp only [bsm];have hge:0 < bg ((p.drop a).take (k+1))→((k+1:Nat):Int)≤bg ((p.drop a).take (k+1)):=fun h=>by
          have:=oh h;rw [ae,hcl] at this;omega
        by_cases hb:0 < bg ((p.drop a).take (k+1))
        · rw [aj (by simpa using hb)]
          by_cases hw:bg ((p.drop a).take (k+1))=((k+1:Nat):Int)
          · rw [aj (by simpa using hw)]
            refine .inr ⟨_,rfl,k+1,rfl,by omega,fun m m1 m2=>hI m m1 (by omega),fun h=>by omega,fun _=>hb,fun _ h=>by omega⟩
          · rw [am (by simpa using hw)]
            refine .inl ⟨_,rfl,⟨k+1,rfl,by omega,fun m m1 m2=>?_⟩,by simp; omega⟩;by_cases hm:m≤k
            · exact hI m m1 hm
            · obtain rfl:m=k+1:=by omega
              have:=hge hb;omega
        · rw [am (by simpa using hb)]
          have hz:bg ((p.drop a).take (k+1))=0:=by have:=og ((p.drop a).take (k+1)); omega
          refine .inr ⟨_,rfl,k,rfl,by omega,fun m m1 m2=>hI m m1 (by omega),fun h=>by subst h; exact hz,fun h=>by have:=hI k h (ah _); omega,fun _ _=> .inr hz⟩
      · rw [show decide (((a+k:Nat):Int) < (p.length:Int))=false by simp; omega,gK]
        simp only [bsm,bh,jl];have hkk:k=(p.drop a).length:=by omega
        refine .inr ⟨_,rfl,k,rfl,by omega,fun m m1 m2=>hI m m1 (by omega),fun h=>by omega,fun h=>by have:=hI k h (ah _); omega,fun _ _=> .inl hkk⟩)
    (((p.length:Int) - (w64 ((a:Int)+0))).toNat+1) 0 ⟨0,rfl,bT _,fun m m1 m2=>by omega⟩ (by rw [bj (by omega)]; omega)
  obtain ⟨k,rfl,hk⟩:=h2;exact ⟨k,hk,h1⟩
theorem nJ:jc []= []:=rfl
theorem rO {p:List Int} (hp:Bts p) (hl:p.length≤1000000):∃l,de p=some l∧l.map (·.R)=jc p∧l.length≤p.length:=by
  unfold de;refine nb (fun s=>∃a:Nat,s.2=(a:Int)∧a≤p.length∧s.1.length≤a∧s.1.map (·.R)++jc (p.drop a)=jc p) (fun s=>p.length - s.2.toNat) (fun t=>t.map (·.R)=jc p∧t.length≤p.length) (fun s hs=>?_) ⟨0,rfl,bT _,ah _,rfl⟩ (by simp) (fun t ht=>⟨t,rfl,ht⟩);obtain ⟨out,n⟩:=s;obtain ⟨a,e,ha,ho,hI⟩:=hs;simp only at e ho hI;subst e;simp only;by_cases hlt:a < p.length
  · rw [aj (dlt hlt)]
    obtain ⟨k,hk,hloop⟩:=ph hp hl hlt;rw [hloop];simp only [bsm];have hcl:(p.drop a).length=p.length - a:=by simp
    have hkle:=hk.le;rw [hcl] at hkle;have htp:=mS hk (fun e=>by have:=ef List.length e; rw [hcl] at this; simp at this; omega);have hz:∃kn bad,(if (decide ((k:Int) > 0))=true then
        (slc p (a:Int) (w64 ((a:Int)+(k:Int)))).bind fun x_66=>
        (bQ ([]:List Int) x_66).bind fun x_67=>
        if ((x_67.2.length:Int)==0)=true then
        (idx x_67.1 0).bind fun x_89=>
        (some (x_89,(k:Int),(w64 ((a:Int)+(k:Int))),false):Option (Int×Int×Int×Bool))
        else
        (some (65533,(aD (k:Int) 1),(ax (w64 ((w64 ((a:Int)+(k:Int)))+1)) (p.length:Int)),true):Option (Int×Int×Int×Bool))
        else
        (some (65533,(aD (k:Int) 1),(w64 ((a:Int)+1)),true):Option (Int×Int×Int×Bool)))=some ((if 0 < k then (if bg ((p.drop a).take k)=k then vl ((p.drop a).take k) else 65533) else 65533),((max k 1:Nat):Int),kn,bad):=by
      by_cases h0:0 < k
      · rw [aj (by simpa using h0),aj h0]
        have e1:w64 ((a:Int)+(k:Int))=((a+k:Nat):Int):=by rw [bj (by omega)]; simp
        have hs:=kb (xs:=p) (i:=a) (j:=a+k) (by omega) (by omega);rw [show a+k - a=k by omega] at hs;rw [e1,hs];simp only [bsm];rw [oO Hh.nil Bts.nil (fun x hx=>hp x (eq (ep hx))) (by simp; omega)];simp only [bsm];rcases mY hk h0 with ⟨hw,hf⟩ | ⟨hw,hf⟩
        · rw [hf,aj (by simp),aj hw]
          exact ⟨_,_,by rw [show max k 1=k by omega]; rfl⟩
        · rw [hf,am (by simp; omega),am (by omega)]
          exact ⟨_,_,by rw [kz,show max (k:Int) 1=((max k 1:Nat):Int) by omega]⟩
      · rw [am (by simpa using h0),am h0]
        exact ⟨_,_,by rw [kz,show max (k:Int) 1=((max k 1:Nat):Int) by omega]⟩
    obtain ⟨kn,bad,hz⟩:=hz;rw [hz];simp only [bsm];rw [dU (by simp; omega)];simp only [bsm];have e5:w64 ((a:Int)+((max k 1:Nat):Int))=((a+max k 1:Nat):Int):=by rw [bj (by omega)]; simp
    rw [e5];refine .inl ⟨_,rfl,⟨a+max k 1,rfl,by omega,by simp; omega,?_⟩,by simp only; omega⟩;simp only [iV,ne,rP,aB,bp,aG];rw [←hI,htp,bu]
  · rw [am (by simp; omega)]
    refine .inr ⟨_,rfl,?_,by omega⟩;rw [bC (by omega),nJ,bF] at hI;exact hI
end Go.Proofs.YtclmdpamofdoiaaGreatDoor
