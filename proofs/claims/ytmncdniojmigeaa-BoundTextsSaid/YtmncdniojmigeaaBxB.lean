/- Parts of the proofs of BoundTexts: the walk through the code, and plain Lean. No condition. -/
import Derived.Test.YtmncdniojmigeaaBxA
import Derived.Laws.BytesString
import Derived.Test.YtmncdniojmigeaaProg
import Derived.OpenShut
import Derived.LaidLaws
import Derived.Handed
import Derived.Lay
import Derived.JoinedOf
import Derived.KernelRfl
set_option linter.unusedVariables false
set_option linter.unusedSimpArgs false
namespace Go.Proofs.Ytmncdniojmigeaa
open Go Go.Lt
set_option maxRecDepth 10000
set_option linter.unusedVariables false
attribute [local irreducible] W WL AC
def aP {σ:Type} (y:σ→Int→List Int→Option (σ×Bool)) (l:List Int) (s:σ):Option σ:=
 (cQ (σ:=az×Int×Int×σ) (τ:=σ ⊕ (Int×σ)) (((l.length:Int) - 0).toNat+1) (fun a=>
 if (decide (a.2.2.1 < (l.length:Int)))=true then
 (idx l a.2.2.1).bind fun r=>
 (dk r).bind fun p=>
 (av a.1 p).bind fun b=>
 (orE b.2 (some (a.2.2.1==0))).bind fun t=>
 if t=true then
 some (.inl (b.1,a.2.1,(w64 (a.2.2.1+1)),a.2.2.2))
 else
 (slc l a.2.1 a.2.2.1).bind fun x=>
 (y a.2.2.2 a.2.1 x).bind fun z=>
 if (!z.2)=true then
 some (.inr (.inl z.1))
 else
 some (.inl (b.1,a.2.2.1,(w64 (a.2.2.1+1)),z.1))
 else
 some (.inr (.inr (a.2.1,a.2.2.2)))) ((⟨false,0,0,0,false⟩:az),0,0,s)).bind fun u=>match u with
 | .inl s'=>some s'
 | .inr v=>if (decide ((l.length:Int) > 0))=true then (slc l v.1 (l.length:Int)).bind fun x=>(y v.2 v.1 x).bind fun z=>some z.1 else some v.2
open Try
variable {c0:Cx} {G:Gm} {F:List En} {v1:Value}
set_option maxHeartbeats 1000000 in
theorem dK {σ:Type} {Bd:σ→Cx→List En→Prop} (hJ:Bod Bd) {y:σ→Int→List Int→Option (σ×Bool)} (lr:Nat)
    (hY:∀s i x z c F v,y s i x=some z→Bd s c F→Sl (RI .i32) c v x→j8 Try.prog lr Bd #[.int .i64 i,v] c F z.1 z.2) {l:List Int} {s0 s1:σ} {bc:Nat}
    (hb:Im c0 bc 0 v1) (hl:Sl (RI .i32) c0 v1 l) (h0:Bd s0 c0 F) (H:aP y l s0=some s1):
    Calls Try.prog 76 #[.func (.yield lr) #[] #[],.pointer (some ⟨bc,0,none⟩)] c0.w fun x w'=>∃c',w'=c'.w∧c0.lw c'∧x= .returned (.tuple #[])∧Bd s1 c' F:=by
  unfold aP at H
  obtain ⟨u,H1,H2⟩:=bs H
  obtain ⟨G,Fx,O,shut⟩:=hJ.new h0
  refine en func76 rfl rfl (sr (me (al 100 [B false,I 0,I 0,I 0,B false] O) ?_))
  rintro v3 c1 k1 ⟨j,rfl,O1⟩
  have h1:Bd s0 c1 (Eb j 100 [B false,I 0,I 0,I 0,B false] :: F):=shut c1 _ k1 O1
  refine wln (sr (va (I 0) (wln (W.seq (sr (vx (l1 cC (hb.mono k1)) (vx (ln 3 cC (hl.mono k1)) (va (I 0) (wln (W.block (lp H1 (fun a=>JnW c1 fun c sl=>Bd a.2.2.2 c (Eb j 100 [B a.1.some,I a.1.last,I a.1.pict,I a.1.conj,B a.1.odd] :: F)∧sl= [(0,.func (.yield lr) #[] #[]),(1,Q bc),(3,Q j),(4,I a.2.1),(7,v1),(8,I (l.length:Int)),(9,I a.2.2.1)])
    (fun b ex e w=>match b with | .inl s'=>ex= .ret∧JnW c1 (fun c sl=>Bd s' c F∧sl= []) e w | .inr v=>ex= .exit 0∧(JnW c1 fun c sl=>Bd v.2 c F∧sl= [(0,.func (.yield lr) #[] #[]),(1,Q bc),(4,I v.1)]) e w) ?_ ?_ ?_)))))))))))
  · clear H H1 H2
    intro a x e w H
    rintro ⟨c,e0,_,rfl,kc,rfl,hJc,rfl⟩
    obtain ⟨G2,Fx2,O2,sh2⟩:=hJ.op hJc
    have kq:=k1.lw.trans kc
    refine sr (va (B (decide (a.2.2.1 < (l.length:Int)))) (wln (W.seq (cn H (fun D H=>?_) (fun D H=>?_)))))
    · refine W.skip (nrm (W.seq (W.block (sr (bn H fun r hi H=>?_)))))
      obtain ⟨d0,E,Rr⟩:=Sl.at (hl.lw kq) (bl hi)
      obtain rfl:=E
      refine va (I a.2.2.1) (vx (ix cC (hl.lw kq) hi) (vx (l1 dR (Rr 0 _ rfl)) (va (I a.2.2.1) (va (J r) (wln ?_)))))
      refine W.seq (sr (va (J r) (bn H fun p hp H=>cl (fP O2 r hp) ?_)))
      rintro v15 c2 k2 ⟨O3,rfl⟩
      refine bn H fun b hb2 H=>cl (cK a.1 p O3 hb2) ?_
      rintro v16 c3 k3 ⟨O4,rfl⟩
      have hJ3:=sh2 c3 _ (k2.trans k3) O4
      have kc3:c1.lw c3:=kc.trans (k2.trans k3).lw
      refine bn H fun t ht H=>?_
      rcases bo b.2 with hb3 | hb3
      · obtain rfl:=orT hb3 ht
        refine vb hb3 (pz (va (B true) (wln (cn H (fun _ H=>?_) (fun h H=>by cases h)))))
        refine W.exit (thx (bke (nrm (W.region (vv (I (w64 (a.2.2.1+1))) (WL.nil ?_))))))
        obtain rfl:=si H
        exact ⟨_,rfl,jnW c3 ⟨hJ3,rfl⟩ kc3⟩
      · have ht2:=orF hb3 ht
        obtain rfl:=si ht2
        refine vb hb3 (wa (I a.2.2.1) (wa (B (a.2.2.1==0)) (va (B (a.2.2.1==0)) (wln (cn H (fun h H=>?_) (fun h H=>?_))))))
        · refine W.exit (thx (bke (nrm (W.region (vv (I (w64 (a.2.2.1+1))) (WL.nil ?_))))))
          obtain rfl:=si H
          exact ⟨_,rfl,jnW c3 ⟨hJ3,rfl⟩ kc3⟩
        · refine W.skip (nrm (W.seq (sr (bn H fun x hx H=>bn H fun z hz H=>?_))))
          have kq3:=k1.lw.trans kc3
          obtain ⟨v27,hv,hs⟩:=fE (P:=Try.prog) (k:= .i64) (k':= .i64) (k2:= .i64) cC (by kernel_rfl) (hl.lw kq3) hx
          refine va (.func (.yield lr) #[] #[]) (va (I a.2.1) (vx (l1 cC (hb.lw kq3)) (va (I a.2.1) (vv (I a.2.2.1) (vx (hv _) (WL.round (l:=lr) (args:= #[.int .i64 a.2.1,v27]) rfl (by kernel_rfl) (ym (hY _ _ _ _ _ _ _ hz hJ3 hs) ?_)))))))
          rintro ex w' ⟨c4,rfl,k4,rfl,hJ4⟩
          refine ⟨_,rfl,va (B (!z.2)) (wln (cn H (fun h H=>?_) (fun h H=>?_)))⟩
          · refine W.ret (thr (bkr (thr ?_)))
            obtain rfl:=si H
            exact ⟨_,rfl,rfl,jnW c4 ⟨hJ.drop hJ4,rfl⟩ (kc3.trans k4)⟩
          · refine W.skip (nrm (W.region (vv (I a.2.2.1) (WL.nil (bkn (nrm (W.region (vv (I (w64 (a.2.2.1+1))) (WL.nil ?_)))))))))
            obtain rfl:=si H
            exact ⟨_,rfl,jnW c4 ⟨hJ4,rfl⟩ (kc3.trans k4)⟩
    · refine W.exit (thx ?_)
      obtain rfl:=si H
      exact ⟨_,rfl,rfl,jnW c ⟨hJ.drop hJc,rfl⟩ kc⟩
  · exact jnW c1 ⟨h1,rfl⟩ (Cx.le.refl c1).lw
  · rintro ex e w hx
    cases u with
    | inl s'=>
      obtain ⟨rfl,c,e0,_,rfl,kc,rfl,hJc,rfl⟩:=hx
      obtain rfl:=si H2
      refine bkr (thr ?_)
      exact r0 ⟨c,rfl,k1.lw.trans kc,rfl,hJc⟩
    | inr v=>
      obtain ⟨rfl,c,e0,_,rfl,kc,rfl,hJc,rfl⟩:=hx
      have kq:=k1.lw.trans kc
      refine bke (nrm (sr (vx (l1 cC (hb.lw kq)) (vx (ln 3 cC (hl.lw kq)) (va (B (decide ((l.length:Int) > 0))) (wln (cn H2 (fun D H=>?_) (fun D H=>?_))))))))
      · obtain ⟨x,hx,H⟩:=bs H
        obtain ⟨z,hz,H⟩:=bs H
        obtain rfl:=si H
        obtain ⟨v27,hv,hs⟩:=fE (P:=Try.prog) (k:= .i64) (k':= .i64) (k2:= .i64) cC (by kernel_rfl) (hl.lw kq) hx
        refine W.region (va (.func (.yield lr) #[] #[]) (va (I v.1) (vx (l1 cC (hb.lw kq)) (va (I v.1) (vx (l1 cC (hb.lw kq)) (vx (ln 3 cC (hl.lw kq)) (vx (l1 cC (hb.lw kq)) (vx (ln 3 cC (hl.lw kq)) (vx (hv _) (WL.round (l:=lr) (args:= #[.int .i64 v.1,v27]) rfl (by kernel_rfl) (ym (hY _ _ _ _ _ _ _ hz hJc hs) ?_)))))))))))
        rintro ex w' ⟨c4,rfl,k4,rfl,hJ4⟩
        exact ⟨_,rfl,WL.nil (n0 ⟨c4,rfl,kq.trans k4,rfl,hJ4⟩)⟩
      · obtain rfl:=si H
        exact W.skip (n0 ⟨c,rfl,kq,rfl,hJc⟩)
end Go.Proofs.Ytmncdniojmigeaa
namespace Go.Proofs.Ytmncdniojmigeaa
open Go Go.Lt
set_option maxRecDepth 10000
set_option linter.unusedVariables false
attribute [local irreducible] W WL AC
open Try
variable {c0:Cx} {G:Gm} {F:List En} {v1:Value}
theorem dC (O:Own c0 G F) {l:List Int} (hl:Sl (RI .i32) c0 v1 l): Calls Try.prog 38 #[v1] c0.w (aR c0 fun c v=>∃b,Own c G F∧v= .func (.func 76) #[] #[.pointer (some ⟨b,0,none⟩)]∧Im c b 0 v1):=by
  obtain ⟨a,cap,rfl,_⟩:=hl;refine en func38 rfl rfl (sr (me (bx 22 [.slice a l.length cap] O) ?_));rintro v c1 k1 ⟨b,rfl,O1,hb⟩;refine va (.nilFunc) (wln (sr (vv (.func (.func 76) #[] #[.pointer (some ⟨b,0,none⟩)]) (wln (W.ret ?_)))));exact r1 (qq c1 ⟨b,O1,rfl,hb 0 _ rfl⟩)
def bb (l:List Int):Option (List aX):=
 aP (fun (out:List aX) _ x=>(aU x).bind fun z=>if z.2=true then (app out [z.1]).bind fun o=>some (o,true) else some (out,true)) l []
def fy (cb:Cx) (G:Gm) (bo lr D:Nat) (r:Loop) (out:List aX) (c:Cx) (F:List En):Prop:=
  ∃vo vs,Own c G (Eb bo 36 [vo] :: es true bd vo 39 vs out :: F)∧OA bd c vo vs out∧Rec c lr D r∧cb.le c
theorem fy.bod (cb:Cx) (G:Gm) (bo lr D:Nat) (r:Loop):Bod (fy cb G bo lr D r):=by
  rintro out c F ⟨vo,vs,O,ho,hr,hc⟩;exact ⟨G,[Eb bo 36 [vo],es true bd vo 39 vs out],O,fun c' F' k O'=>⟨vo,vs,O',ho.mono k,hr.mono k,hc.trans k⟩⟩
set_option maxHeartbeats 1000000 in
theorem ew (O0:Own c0 G F) (l:List Int) {r:List aX} (hl:Sl (RI .i32) c0 v1 l) (H:bb l=some r): Calls Try.prog 16 #[v1] c0.w (aR c0 fun c v=>∃y1 us1,Own c G (es true bd y1 39 us1 r :: F)∧v=y1∧OA bd c y1 us1 r):=by
  refine enR func16 rfl rfl (WR.sr (va (.slice none 0 0) (wln (WR.sr (me (al 36 [.slice none 0 0] O0) ?_)))));rintro v3 c1 k1 ⟨bo,rfl,O1⟩;refine wln (WR.seq (WR.sr (va (v1) (cl (dC O1 (hl.mono k1)) ?_))));rintro v9 c2 k2 ⟨bc,O2,rfl,hbc⟩;have O3:Own c2 G (es true bd (.slice none 0 0) 39 [] [] :: Eb bo 36 [.slice none 0 0] :: F):=Own.addHole O2 rfl;have O4:=O3.sD 2 [1,0];refine wln (WR.block (WR.range rfl (fun args w=>by kernel_rfl) fun fn rc hrc=>?_));obtain ⟨c3,e3,b3,r3⟩:=Cx.loop c2 (rc .ready none);rw [←e3];have k3:=b3.le;have hJ:=fy.bod c2 G bo (c2.w.heap.size+1) c2.w.heap.size (rc .ready none);unfold bb at H;refine (dK hJ (c2.w.heap.size+1) ?_ (hbc.mono k3) (hl.mono ((k1.trans k2).trans k3)) ⟨.slice none 0 0,[],O4.keep b3,OA.nil (by decide),r3,k3⟩ H).mono ?_
  · rintro s i x z c F v hz ⟨vo,vs,O,ho,hr,hc⟩ hs
    obtain ⟨q,hq,hz⟩:=bs hz;refine fz hrc hr.rc rfl (iW _ _ _ _ _ 10 11 _ _) ?_;refine W.region (va v (WL.nil (nrm ⟨hr.rc,?_⟩)));have k4:=Cx.turn_lw (o':= .loop (rc .busy none)) hr.rc rfl rfl;have Ob:=Own.turn (o':= .loop (rc .busy none)) O hr.rc rfl;have rb:=hr.turn (rc .busy none);have hcb:=hc.turn (o':= .loop (rc .busy none)) (dX _) hr.rc rfl rfl;have hob:=ho.lw k4;have hsb:=hs.lw k4;show W _ _ _ _ _ (c.turn (c2.w.heap.size+1) (.loop (rc .busy none))).w;generalize c.turn (c2.w.heap.size+1) (.loop (rc .busy none))=cb at k4 Ob rb hcb hob hsb;have fin:∀(cE:Cx) (vo vs) (out:List aX) (e:Nat→Value),cb.le cE→Own cE G (Eb bo 36 [vo] :: es true bd vo 39 vs out :: F)→OA bd cE vo vs out→
        rdQ (c2.w.heap.size+1) rc (fun x w'=>∃c',w'=c'.w∧c.lw c'∧x= .returned (.bool true)∧fy c2 G bo (c2.w.heap.size+1) c2.w.heap.size (rc .ready none) out c' F) .normal e cE.w:=fun cE vo vs out e kE OE hoE=>by
      have rE:=rb.mono kE;have kt:=Cx.turn_lw (o':= .loop (rc .ready none)) rE.rc rfl rfl;exact ⟨rE.rc,cE.turn _ (.loop (rc .ready none)),rfl,k4.trans (kE.lw.trans kt),rfl,vo,vs,Own.turn OE rE.rc rfl,hoE.lw kt,rE.turn _,(hcb.trans kE).turn (dX _) rE.rc rfl rfl⟩
    refine W.block (sr (va v (cl (eu Ob x hsb hq) ?_)));rintro v14 c5 k5 ⟨y1,O5,rfl,hy1⟩;obtain ⟨ya,yn,yc,rfl⟩:=hy1.form;refine va (.tuple #[.agg #[I q.1.Wide,.slice ya yn yc],B q.2]) (va (.agg #[I q.1.Wide,.slice ya yn yc]) (va (B q.2) (me (al 39 [I 0,.slice none 0 0] O5) ?_)));rintro v6 c6 k6 ⟨bx,rfl,O6⟩;refine md (sA 39 [I q.1.Wide,.slice ya yn yc] 0 O6 ⟨rfl,rfl,trivial⟩) ?_;intro c7 k7 O7;have ho7:=((hob.mono k5).mono k6).mono k7;refine va (B q.2) (wln (sr (va (B q.2) (wln (cn hz (fun h hz=>?_) (fun h hz=>?_))))))
    · obtain ⟨o,ho2,hz⟩:=bs hz
      obtain rfl:=si hz;refine W.region (vx (le1 0 gQ (O7.on 1 rfl)) (vx (leN 39 0 [I q.1.Wide,.slice ya yn yc] (O7.on 0 rfl)) (me (sl bd 39 [[I q.1.Wide,.slice ya yn yc]] ([q.1]:List aX) O7 ⟨⟨_,rfl,(hy1.mono k6).mono k7⟩,trivial⟩) ?_)));rintro v20 c8 k8 ⟨vs8,O8,ho8⟩;obtain ⟨c9,w9,k9,O9,hs9⟩:=O8.frz 0 rfl ho8;refine WL.gh w9 ?_;refine me (ap bd (.agg #[I 0,.slice none 0 0]) 32 36 3 O9 ((ho7.mono k8).mono k9) hs9 ho2 gQ) ?_;rintro v21 cA kA ⟨vsA,OA_,hoA⟩;obtain ⟨oa,on_,oc,rfl⟩:=hoA.form;refine md (sC 36 0 (.slice oa on_ oc) [.slice oa on_ oc] 2 OA_ ⟨rfl,trivial⟩) ?_;intro cB kB OB;have OC:=OB.sD 4 [2,3];refine WL.nil (bkn ?_);rw [show (true:Bool)=true from rfl];exact fin cB _ _ _ _ (k5.trans (k6.trans (k7.trans (k8.trans (k9.trans (kA.trans kB)))))) OC (hoA.mono kB)
    · obtain rfl:=si hz
      have OC:=O7.sD 3 [1,2];exact W.skip (bkn (fin c7 _ _ _ _ (k5.trans (k6.trans k7)) OC ho7))
  · rintro ex w' ⟨c4,rfl,k4,rfl,vo,vs,O,ho,hr,hc⟩
    have kt:=Cx.turn_lw (o':= .loop (rc .exhausted none)) hr.rc rfl rfl;have Ot:=Own.turn (o':= .loop (rc .exhausted none)) O hr.rc rfl;have rt:=hr.turn (rc .exhausted none);have hct:=hc.turn (o':= .loop (rc .exhausted none)) (dX _) hr.rc rfl rfl;have hot:=ho.lw kt;refine ⟨_,rfl,.inl ⟨hr.rc,?_⟩⟩;show co _ _ _ _ (c4.turn (c2.w.heap.size+1) (.loop (rc .exhausted none))).w;generalize c4.turn (c2.w.heap.size+1) (.loop (rc .exhausted none))=ct at kt Ot rt hct hot;obtain ⟨oa,on_,oc,rfl⟩:=hot.form;refine bkn (nrm (WR.sr (vx (le1 0 gQ (Ot.on 0 rfl)) (va (.slice oa on_ oc) (wln (WR.of (W.ret ?_)))))));have kd:=Cx.turn_lw (o':= .deferred none) rt.def_ rfl rfl;exact iU rt.def_ ⟨_,ct.turn c2.w.heap.size (.deferred none),rfl,rfl,(k1.trans k2).trans (hct.turn (ak _) rt.def_ rfl rfl),_,_,(Own.turn Ot rt.def_ rfl).tail,rfl,hot.lw kd⟩
end Go.Proofs.Ytmncdniojmigeaa
namespace Go.Proofs.Ytmncdniojmigeaa
open Go Go.Lt
set_option maxRecDepth 10000
set_option linter.unusedVariables false
attribute [local irreducible] W WL AC
open Try
variable {c0:Cx} {G:Gm} {F:List En} {sg:Sto} {v1 v2 v3 v4 v5 v6 v7 v8 v9 v10 v11 v12 v13 v14 v15 v16 v17 v18 v19 v20 v21 v22 v23 v24 v25 v26 v27 v28 v29 v30 v31 v32 v33 v34 v35 v36 v37 v38 v39 v40 v41 v42 v43 v44 v45 v46 v47 v48 v49 v50 v51 v52 v53 v54 v55 v56 v57 v58 v59 v60:Value}
def aN (p0:List Int):Option (Int):=
 (bb p0).bind fun b=>
 (cQ (σ:=Int×Int) (τ:=Int) (((b.length:Int) - 0).toNat+1) (fun a=>
 if (decide (a.2 < (b.length:Int)))=true then
 (idx b a.2).bind fun d=>
 some (.inl ((w64 (a.1+d.Wide)),(w64 (a.2+1))))
 else
 some (.inr (a.1))) (0,0)).bind fun c=>
 some c
theorem cX (O0:Own c0 G F) (t:List Int) {r:Int} (h2:Sl (RI .i32) c0 v1 t) (H:aN t=some r): Calls prog 6 #[v1] c0.w (aR c0 fun c v=>Own c G (F)∧v=I r):=by
 unfold aN at H;refine en func6 rfl rfl (sr (va (I 0) (wln (sr (va (I 0) (wln (W.seq (sr (va (v1) (bn H fun d h3 H=>cl (ew O0 t h2 h3) ?_))))))))));rintro v4 g s0 ⟨_,u5,O8,rfl,k⟩;refine vx (lnO 3 gQ k) (va (I 0) (wln (W.block (bn H fun i q o=>lp q (fun a=>Jn g fun c l=>Own c G (es true bd v4 39 u5 d :: F)∧l= [(3,I a.1),(7,v4),(8,I (d.length:Int)),(9,I a.2)]) (fun n ex e w=>ex= .exit 0∧(Jn g fun c l=>Own c G (es true bd v4 39 u5 d :: F)∧l= [(3,I n)]) e w) ?_ ?_ ?_))))
 ·clear o q;intro a v0 S e0 H;revert S e0;rintro e_ w_ ⟨N,o0,_,rfl,Z,rfl,f,rfl⟩;refine sr (va (B (decide (a.2 < (d.length:Int)))) (wln (W.seq (cn H (fun U H=>?_) (fun U H=>?_)))))
  ·refine W.skip (nrm (W.seq (W.block (sr (bn H fun b h H=>vx (ixO gQ k.m h) ?_)))));obtain ⟨k0,X,b0⟩:=OA.at (k.mono Z) h;obtain ⟨v26,rfl,s⟩:=X;refine vr (.agg #[I b.Wide,v26]) (rx (by kernel_rfl) (jA (T:=39) (l:=[I b.Wide,v26]) (by kernel_rfl) (by kernel_rfl) (f.on 0 rfl) (k.m.blk h) (at2 (j:=0) b0 rfl))) (me (al 39 [I 0,Y] f) ?_);rintro v31 m0 a0 ⟨M,rfl,u⟩;obtain ⟨A,D,E,rfl⟩:=((s.mono a0)).form;refine md (sA 39 [I b.Wide,.slice A D E] 0 u ⟨rfl,s.m.one,trivial⟩) ?_;rintro P t0 p;refine wln (W.region (va (I a.1) (va (Q M) (vx (le1 0 u_3 (p.on 0 rfl)) (vv (I (w64 (a.1+b.Wide))) (WL.nil (bkn (nrm (W.region (vv (I (w64 (a.2+1))) (WL.nil ?_)))))))))));obtain rfl:=si H;refine ⟨_,rfl,?_⟩;have x:=p.sD 2 [1];exact jn P ⟨x,rfl⟩
  refine W.exit (thx ?_);obtain rfl:=si H;exact ⟨_,rfl,rfl,jn N ⟨f,rfl⟩⟩
 ·exact jn g ⟨O8,rfl⟩
 rintro _ e_ w_ ⟨rfl,R,q0,_,rfl,u0,rfl,y,rfl⟩;refine bke (nrm (sr (vv (I i) (wln (W.ret ?_)))));obtain rfl:=si o;have z:=y.sD 1 [];exact r1 (qq R ⟨z,rfl⟩)
def aO (sg:Sto) (p0:Option Nat) (p1:List Int):Option (Sto):=
 (p0).bind fun c=>
 (sg.fitline_breaker[c]?).bind fun a=>
 (aN p1).bind fun l=>
 (if (decide ((bt l a.w) > a.room))=true then
 (app a.out ([a.line]:List (List Int))).bind fun d=>
 (sg.set_fitline_breaker c (⟨a.w,a.room,d,a.line⟩:ab)).bind fun e=>
 (e.set_fitline_breaker c (⟨a.w,a.room,d,([]:List Int)⟩:ab)).bind fun f=>
 (f.set_fitline_breaker c (⟨a.w,a.w,d,([]:List Int)⟩:ab)).bind fun g=>
 some (g)
 else
 some (sg)).bind fun k=>
 (k.fitline_breaker[c]?).bind fun b=>
 (app b.line p1).bind fun j=>
 (k.set_fitline_breaker c (⟨b.w,b.room,b.out,j⟩:ab)).bind fun h=>
 (h.set_fitline_breaker c (⟨b.w,(w64 (b.room - (bt l a.w))),b.out,j⟩:ab)).bind fun i=>
 some i
theorem dE (O0:Own c0 G F) (R0:Rel c0 sg G) (p0:Option Nat) (p1:List Int) {r:Sto} (h2:Pt 0 c0 v1 p0) (h4:Sl (RI .i32) c0 v3 p1) (H:aO sg p0 p1=some r): Calls prog 41 #[v1,v3] c0.w (aR c0 fun c v=>∃G_:Gm,Own c G_ (F)∧Rel c r G_∧v= .tuple #[]):=by
 unfold aO at H;refine en func41 rfl rfl (W.seq (rD [] (Kp G []) O0 ?_));intro c5 l5 O6;have p7:Kp G [] c5:=(Kp.nil O6);refine ta 0 (v3) (ta 2 (v1) (bn H fun z4 g3 H=>?_));obtain ⟨a,rfl,Z⟩:=((h2.mono l5)).get g3;refine ta 3 (Q a) (ta 4 (Q a) (bn H fun b h3 H=>?_));obtain ⟨v12,b5,v15,f1,D,i3,y0⟩:=Rel.open_fitline_breaker (R0.mono l5) h3 Z;refine tkx 5 p7 (fun c' d1 hk=>le1 0 u_3 (hk.gon D 0 rfl)) (bn H fun p j3 H=>o1 1 (gc 1 (cX O6 p1 h4.m j3) ?_));rintro v25 l0 R ⟨e0,rfl⟩;have y3:Kp G [] l0:=(Kp.nil e0);refine ⟨.inr y3,ta 6 (I (bt p b.w)) (ta 7 (I (bt p b.w)) (dn (nrm (bn H fun c2 o q=>W.seqJ (Jn l0 fun c l=>∃G_,Own c G_ (F)∧l= [(0,Q a),(1,v3),(4,I (bt p b.w))]∧Rel c c2 G_) ?_ ?_))))⟩
 ·refine sr (va (I (bt p b.w)) (vv (Q a) (va (Qo a 1) (vx (le1 1 u_3 (e0.gon D 0 rfl)) (va (B (decide ((bt p b.w) > b.room))) (wln (cn o (fun k3 o=>?_) (fun k3 o=>?_))))))))
  ·refine W.seq (rD [10,13] (Kp G []) e0 ?_);intro b3 S k0;have e1:Kp G [] b3:=(Kp.nil k0);refine ta 0 (Q a) (ta 1 (Q a) (ta 2 (Q a) (ta 3 (Qo a 2) (tkx 4 e1 (fun c' d1 hk=>le1 2 im (hk.gon D 0 rfl)) (ta 5 (Q a) (ta 6 (Q a) (ta 7 (Qo a 3) (tkx 8 e1 (fun c' d1 hk=>le1 3 cC (hk.gon D 0 rfl)) ?_))))))));have z0:=(y0.mono (R.trans S)).sl (k0.gon D 2 rfl);obtain ⟨y,z,A,rfl⟩:=(z0).form;refine o1 9 (gm 9 (sl (RL (RI .i32)) 22 [[.slice y z A]] ([b.line]:List (List Int)) k0 ⟨⟨(.slice y z A),rfl,z0⟩,trivial⟩) ?_);rintro v41 c3 f0 ⟨d5,t0,l3⟩;have z3:Kp G [] c3:=(Kp.nil t0);refine ⟨.inr z3,?_⟩;obtain ⟨d3,o3,U,u0,n3⟩:=t0.frz 0 rfl l3;have a4:Kp G [] d3:=(Kp.nil u0);refine AC.gh o3 U (fun _=>a4) (bn o fun d0 p3 o=>?_);have k2:=u0.borrow 1 D rfl;refine o1 10 (gm 10 (ap (RL (RI .i32)) (Y) 24 40 0 k2 i3.m n3 p3 im) ?_);rintro v54 u4 g0 ⟨E,l2,P⟩;have m2:=l2.giveB 1 rfl;refine ⟨.inl rfl,ta 11 (Q a) (ta 12 (Qo a 2) ?_)⟩;obtain ⟨f,g,h,rfl⟩:=(P).form;refine o1 13 (gD 13 (Own.stGB (T:=40) (j:=2) (us:=[.slice f g h]) (nw:=[I b.w,I b.room,.slice f g h,.slice y z A]) (v:= .slice f g h) 0 m2 (by kernel_rfl) rfl rfl rfl rfl (by kernel_rfl) ⟨(P).one,trivial⟩ (by kernel_rfl) rfl) ?_);rintro v4 x o2;refine bn o fun d2 q3 o=>?_;obtain ⟨o4,v0,x2,a1,r4⟩:=Rel.put_fitline_breaker o2 (R0.mono (l5.trans (R.trans (S.trans (f0.trans (U.trans (g0.trans x))))))) (E':=[(Eb a 62 [I b.w,I b.room,.slice f g h,.slice y z A]),es false (RL (RI .i32)) (.slice f g h) 22 E d0,es false (RI .i32) (.slice y z A) 21 f1 b.line]) q3 ⟨a,(.slice f g h),E,(.slice y z A),f1,(tm Z),rfl,(P.mono x),(y0.mono (R.trans (S.trans (f0.trans (U.trans (g0.trans x))))))⟩;refine ⟨.inl rfl,dn (nrm (W.region (vv (Q a) (vv (Q a) (va (Q a) (vx (le1 0 u_3 (v0.gon a1 0 rfl)) (va (Q a) (va (Qo a 3) (md (gC 22 3 (Y) [I b.w,I b.room,.slice f g h,Y] 0 v0 a1 ⟨rfl,trivial⟩) ?_)))))))))⟩;rintro e3 X p2;have b1:OA (RI .i32) e3 (Y) [] []:=OA.nil (bW _);have q2:=p2.addHole (e:=es false (RI .i32) (Y) 21 [] []) rfl;have s2:=q2.giveB 2 rfl;refine bn o fun e2 t3 o=>?_;obtain ⟨p4,t2,y2,s3,s4⟩:=Rel.put_fitline_breaker s2 (x2.mono X) (E':=[(Eb a 62 [I b.w,I b.room,.slice f g h,(Y)]),es false (RL (RI .i32)) (.slice f g h) 22 E d0,es false (RI .i32) (Y) 21 [] ([]:List Int)]) t3 ⟨a,(.slice f g h),E,(Y),[],((R.trans (S.trans (f0.trans (U.trans (g0.trans (x.trans X)))))).t _ _ _ Z),rfl,(P.mono (x.trans X)),b1⟩;refine va (Q a) (va (Qo a 1) (md (gC 3 1 (I b.w) [I b.w,I b.w,.slice f g h,(Y)] 0 t2 s3 ⟨rfl,trivial⟩) ?_));rintro f3 h0 u2;refine bn o fun f2 u3 o=>?_;obtain ⟨j2,v2,z2,y4,t4⟩:=Rel.put_fitline_breaker u2 (y2.mono h0) (E':=[(Eb a 62 [I b.w,I b.w,.slice f g h,(Y)]),es false (RL (RI .i32)) (.slice f g h) 22 E d0,es false (RI .i32) (Y) 21 [] ([]:List Int)]) u3 ⟨a,(.slice f g h),E,(Y),[],((R.trans (S.trans (f0.trans (U.trans (g0.trans (x.trans (X.trans h0))))))).t _ _ _ Z),rfl,(P.mono (x.trans (X.trans h0))),(b1.mono h0)⟩;refine wln ?_;obtain rfl:=si o;have w2:=v2.sD 1 [];exact jn f3 ⟨j2,w2,rfl,z2⟩
  refine W.skip (nrm ?_);obtain rfl:=si o;exact jn l0 ⟨G,e0,rfl,R0.m⟩
 rintro e_ w_ ⟨w4,x4,_,rfl,a5,rfl,q4,w0,rfl,x0⟩;refine sr (vv (Q a) (va (Q a) (va (Qo a 3) (bn q fun d w3 q=>?_))));obtain ⟨s,i0,e5,m4,m0,c1,w1⟩:=Rel.open_fitline_breaker x0 w3 (tm Z);refine vx (le1 3 cC (w0.gon m0 0 rfl)) (va (v3) (bn q fun s0 x1 q=>?_));have h1:=w0.borrow 2 m0 rfl;refine me (ap (RI .i32) (J 0) 4 22 0 h1 w1 h4.m x1 cC) ?_;rintro n4 f4 a0 ⟨N,i1,M⟩;have j1:=i1.giveB 2 rfl;refine va (Q a) (va (Qo a 3) ?_);obtain ⟨i,k,n,rfl⟩:=(M).form;refine md (Own.stGB (T:=22) (j:=3) (us:=[.slice i k n]) (nw:=[I d.w,I d.room,s,.slice i k n]) (v:= .slice i k n) 0 j1 (by kernel_rfl) rfl rfl rfl rfl (by kernel_rfl) ⟨(M).one,trivial⟩ (by kernel_rfl) rfl) ?_;rintro g4 u k1;refine bn q fun g2 y1 q=>?_;obtain ⟨b4,j0,s1,o0,d4⟩:=Rel.put_fitline_breaker k1 (x0.mono (a0.trans u)) (E':=[(Eb a 62 [I d.w,I d.room,s,.slice i k n]),es false (RL (RI .i32)) s 22 i0 d.out,es false (RI .i32) (.slice i k n) 21 N s0]) y1 ⟨a,s,i0,(.slice i k n),N,(tm Z),rfl,(c1.mono (a0.trans u)),(M.mono u)⟩;refine wln (W.region (vv (Q a) (va (Qo a 1) (vx (le1 1 u_3 (j0.gon o0 0 rfl)) (va (I (bt p b.w)) (va (I (w64 (d.room - (bt p b.w)))) (va (Q a) (va (Qo a 1) (md (gC 3 1 (I (w64 (d.room - (bt p b.w)))) [I d.w,I (w64 (d.room - (bt p b.w))),s,.slice i k n] 0 j0 o0 ⟨rfl,trivial⟩) ?_)))))))));rintro u1 b0 m1;refine bn q fun i2 z1 q=>?_;obtain ⟨g1,n1,t1,j4,e4⟩:=Rel.put_fitline_breaker m1 (s1.mono b0) (E':=[(Eb a 62 [I d.w,I (w64 (d.room - (bt p b.w))),s,.slice i k n]),es false (RL (RI .i32)) s 22 i0 d.out,es false (RI .i32) (.slice i k n) 21 N s0]) z1 ⟨a,s,i0,(.slice i k n),N,(tm Z),rfl,(c1.mono (a0.trans (u.trans b0))),(M.mono (u.trans b0))⟩;refine WL.nil ?_;obtain rfl:=si q;exact n0 (qq u1 ⟨g1,n1,t1,rfl⟩)
end Go.Proofs.Ytmncdniojmigeaa
namespace Go.Proofs.Ytmncdniojmigeaa
open Go Go.Lt
set_option maxRecDepth 10000
set_option linter.unusedVariables false
attribute [local irreducible] W WL AC
open Try
variable {c0:Cx} {G:Gm} {F:List En} {v1:Value} {sg:Sto}
def bC (sg:Sto) (l:List Int) (w:Int):Option (Sto×List (List Int)):=
 (some (sg.add_fitline_breaker (⟨(cu 1 (bt w 1024)),(cu 1 (bt w 1024)),([]:List (List Int)),([]:List Int)⟩:ab))).bind fun a=>
 (aP (fun (s:Sto) _ x=>(idx x 0).bind fun d=>(aQ d).bind fun e=>if (!e)=true then (aO s (some sg.fitline_breaker.length) x).bind fun s'=>some (s',true) else some (s,true)) l a).bind fun a2=>
 (a2.fitline_breaker[sg.fitline_breaker.length]?).bind fun o=>
 (app o.out ([o.line]:List (List Int))).bind fun b=>
 some (a2,b)
theorem ei {s:Sto} {k:Nat} {x:ab} (h:s.fitline_breaker[k]? = some x):s.set_fitline_breaker k x=some s:=by
  obtain ⟨hlt,rfl⟩:=List.getElem?_eq_some_iff.1 h;unfold Sto.set_fitline_breaker;rw [ac hlt];cases s;simp
def fx (cb:Cx) (j d k lr D:Nat) (r:Loop) (s:Sto) (c:Cx) (F:List En):Prop:=
  ∃G,Own c G (Eb j 60 [Q d] :: F)∧Rel c s G∧c.t 0 k=some d∧Rec c lr D r∧cb.le c
theorem fx.bod (cb:Cx) (j d k lr D:Nat) (r:Loop):Bod (fx cb j d k lr D r):=by
  rintro s c F ⟨G,O,R,ht,hr,hc⟩;exact ⟨G,[Eb j 60 [Q d]],O,fun c' F' q O'=>⟨G,O',R.mono q,q.t _ _ _ ht,hr.mono q,hc.trans q⟩⟩
set_option maxHeartbeats 1000000 in
theorem ey (O0:Own c0 G F) (R0:Rel c0 sg G) (p0:List Int) (a:Int) {r:Sto×(List (List Int))} (h2:Sl (RI .i32) c0 v1 p0) (H:bC sg p0 a=some r): Calls Try.prog 18 #[v1,I a] c0.w (aR c0 fun c v=>∃G_:Gm,Own c G_ (F)∧Rel c r.1 G_∧∃b q,v= .slice b r.2.length q):=by
 unfold bC at H;refine enR func18 rfl rfl (WR.sr (va (Y) (wln (WR.sr (va (I a) (va (I (bt a 1024)) (vv (I (cu 1 (bt a 1024))) (wln (WR.sr (vv (I (cu 1 (bt a 1024))) (va (.agg #[I (cu 1 (bt a 1024)),I (cu 1 (bt a 1024)),Y,Y]) ?_)))))))))));have h4:OA (RL (RI .i32)) c0 (Y) [] []:=OA.nil (bW _);have O3:=O0.addHole (e:=es false (RL (RI .i32)) (Y) 22 [] ([]:List (List Int))) rfl;have h6:OA (RI .i32) c0 (Y) [] []:=OA.nil (bW _);have O5:=O3.addHole (e:=es false (RI .i32) (Y) 21 [] ([]:List Int)) rfl;refine me (al 62 [I (cu 1 (bt a 1024)),I (cu 1 (bt a 1024)),(Y),(Y)] O5) ?_;rintro v10 c9 p ⟨d,rfl,O8⟩;have y:=O8.sD 3 [0,2,1];refine bn H fun u b0 H=>?_;obtain ⟨T,f,d0,t0,e0,z,s,g,f0,R⟩:=Rel.new_fitline_breaker (E:=[(Eb d 62 [I (cu 1 (bt a 1024)),I (cu 1 (bt a 1024)),(Y),(Y)]),es false (RL (RI .i32)) (Y) 22 [] ([]:List (List Int)),es false (RI .i32) (Y) 21 [] ([]:List Int)]) (F:=F) (x:=(⟨(cu 1 (bt a 1024)),(cu 1 (bt a 1024)),([]:List (List Int)),([]:List Int)⟩:ab)) (b:=d) y (R0.mono p) (fun c_ hle_=>⟨d,(Y),[],(Y),[],rfl,rfl,((h4.mono p).mono hle_),((h6.mono p).mono hle_)⟩);rw [gO b0] at s;refine WL.gh d0.1 ?_;have g0:Pt 0 T (Q d) (some sg.fitline_breaker.length):=⟨d,rfl,e0⟩;refine me (al 60 [.pointer none] z) ?_;rintro v29 i1 u0 ⟨j,rfl,A⟩;refine md (sC 60 0 (Q d) [Q d] 0 A ⟨g0.m.one,trivial⟩) ?_;rintro j1 v0 D;have kk:=p.trans (t0.trans (u0.trans v0));have hl:=h2.mono kk;have Rj:=s.mono (u0.trans v0);have tj:=(u0.trans v0).t _ _ _ e0;refine wln (WR.seq (WR.sr (va (v1) (cl (dC D hl) ?_))));rintro v9 c2 k2 ⟨bc,O2,rfl,hbc⟩;refine wln (WR.block (WR.range rfl (fun args w=>by kernel_rfl) fun fn rc hrc=>?_));obtain ⟨c3,e3,b3,r3⟩:=Cx.loop c2 (rc .ready none);rw [←e3];have k3:=b3.le;have hJ:=fx.bod c2 j d sg.fitline_breaker.length (c2.w.heap.size+1) c2.w.heap.size (rc .ready none);obtain ⟨a2,H1,H⟩:=bs H;refine (dK hJ (c2.w.heap.size+1) ?_ (hbc.mono k3) (hl.mono (k2.trans k3)) ⟨_,O2.keep b3,Rj.mono (k2.trans k3),(k2.trans k3).t _ _ _ tj,r3,k3⟩ H1).mono ?_
 · rintro s i x z c F v hz ⟨Gs,O,Rs,ht,hr,hc⟩ hs
   obtain ⟨q,hq,hz⟩:=bs hz;obtain ⟨q2,hq2,hz⟩:=bs hz;refine fz hrc hr.rc rfl (iW _ _ _ _ _ 17 18 _ _) ?_;refine W.region (va v (WL.nil (nrm ⟨hr.rc,?_⟩)));have k4:=Cx.turn_lw (o':= .loop (rc .busy none)) hr.rc rfl rfl;have Ob:=Own.turn (o':= .loop (rc .busy none)) O hr.rc rfl;have rb:=hr.turn (rc .busy none);have hcb:=hc.turn (o':= .loop (rc .busy none)) (dX _) hr.rc rfl rfl;have Rb:=Rs.lw k4;have tb:=k4.t _ _ _ ht;have hsb:=hs.lw k4;show W _ _ _ _ _ (c.turn (c2.w.heap.size+1) (.loop (rc .busy none))).w;generalize c.turn (c2.w.heap.size+1) (.loop (rc .busy none))=cb at k4 Ob rb hcb Rb tb hsb;have fin:∀(cE:Cx) (GE:Gm) (s:Sto) (e:Nat→Value),cb.le cE→Own cE GE (Eb j 60 [Q d] :: F)→Rel cE s GE→
       rdQ (c2.w.heap.size+1) rc (fun x w'=>∃c',w'=c'.w∧c.lw c'∧x= .returned (.bool true)∧fx c2 j d sg.fitline_breaker.length (c2.w.heap.size+1) c2.w.heap.size (rc .ready none) s c' F) .normal e cE.w:=fun cE GE s e kE OE RE=>by
     have rE:=rb.mono kE;have kt:=Cx.turn_lw (o':= .loop (rc .ready none)) rE.rc rfl rfl;exact ⟨rE.rc,cE.turn _ (.loop (rc .ready none)),rfl,k4.trans (kE.lw.trans kt),rfl,GE,Own.turn OE rE.rc rfl,RE.lw kt,kt.t _ _ _ (kE.t _ _ _ tb),rE.turn _,(hcb.trans kE).turn (dX _) rE.rc rfl rfl⟩
   refine W.block (sr ?_);obtain ⟨m0,E0,Rr⟩:=Sl.at hsb (bl hq);obtain rfl:=E0;refine va v (vx (ix cC hsb hq) (vx (l1 dR (Rr 0 _ rfl)) (cl (dL Ob q hq2) ?_)));rintro v22 c5 k5 ⟨O5,rfl⟩;refine va (B (!q2)) (wln (cn hz (fun h hz=>?_) (fun h hz=>?_)))
   · obtain ⟨s',hs',hz⟩:=bs hz
     obtain rfl:=si hz;refine W.region (vx (le1 0 underlying60 (O5.on 0 rfl)) (va v (cl (dE O5 (Rb.mono k5) (some sg.fitline_breaker.length) x ⟨d,rfl,k5.t _ _ _ tb⟩ (hsb.mono k5) hs') ?_)));rintro v26 c6 k6 ⟨G6,O6,R6,rfl⟩;exact WL.nil (bkn (fin c6 _ _ _ (k5.trans k6) O6 R6))
   · obtain rfl:=si hz
     exact W.skip (bkn (fin c5 _ _ _ k5 O5 (Rb.mono k5)))
 · rintro ex w' ⟨c4,rfl,k4,rfl,Gt,O,Rt,ht,hr,hc⟩
   have kt:=Cx.turn_lw (o':= .loop (rc .exhausted none)) hr.rc rfl rfl;have Ot:=Own.turn (o':= .loop (rc .exhausted none)) O hr.rc rfl;have rt:=hr.turn (rc .exhausted none);have hct:=hc.turn (o':= .loop (rc .exhausted none)) (dX _) hr.rc rfl rfl;have Rt2:=Rt.lw kt;have tt:=kt.t _ _ _ ht;refine ⟨_,rfl,.inl ⟨hr.rc,?_⟩⟩;show co _ _ _ _ (c4.turn (c2.w.heap.size+1) (.loop (rc .exhausted none))).w;generalize c4.turn (c2.w.heap.size+1) (.loop (rc .exhausted none))=ct at kt Ot rt hct Rt2 tt;obtain ⟨ob,hob,H⟩:=bs H;obtain ⟨zz,hzz,H⟩:=bs H;obtain rfl:=si H;obtain ⟨y1,u1,y2,u2,gg,ha1,ha2⟩:=Rel.open_fitline_breaker Rt2 hob tt;obtain ⟨ya,yn,yc,rfl⟩:=ha2.form;refine bkn (nrm (WR.seq (WR.of (rD [9] (Kp Gt [(Eb j 60 [Q d])]) Ot ?_))));intro U w0 i;have k:Kp Gt [(Eb j 60 [Q d])] U:=(Kp.cons (i.on 0 rfl) (Kp.nil i));refine tkx 0 k (fun t o h=>le1 0 underlying60 (h.on 0 rfl)) (ta 1 (Q d) (ta 2 (Qo d 2) (tkx 3 k (fun t o h=>le1 2 im (h.gon gg 0 rfl)) (tkx 4 k (fun t o h=>le1 0 underlying60 (h.on 0 rfl)) (ta 5 (Q d) (ta 6 (Qo d 3) (tkx 7 k (fun t o h=>le1 3 cC (h.gon gg 0 rfl)) ?_)))))));have h0:=(ha2.mono w0).sl (i.gon gg 2 rfl);refine o1 8 (gm 8 (sl (RL (RI .i32)) 22 [[(.slice ya yn yc)]] ([ob.line]:List (List Int)) i ⟨⟨(.slice ya yn yc),rfl,h0⟩,trivial⟩) ?_);rintro v40 X m1 ⟨q1,l,i0⟩;have z0:Kp Gt [(Eb j 60 [Q d])] X:=(Kp.cons (l.on 1 rfl) (Kp.nil l));refine ⟨.inr z0,?_⟩;obtain ⟨Z,l0,x0,n,k0⟩:=l.frz 0 rfl i0;have a1:Kp Gt [(Eb j 60 [Q d])] Z:=(Kp.cons (n.on 1 rfl) (Kp.nil n));refine AC.gh l0 x0 (fun _=>a1) ?_;have M:=n.borrow 1 gg rfl;refine o1 9 (gm 9 (apl (RL (RI .i32)) (Y) 24 40 0 M (ha1.mono (w0.trans (m1.trans x0))) k0 hzz im) ?_);rintro v53 a0 n1 ⟨⟨s1,N,o0⟩,va,vq,rfl⟩;have q:=N.giveB 1 rfl;have kE:=w0.trans (m1.trans (x0.trans n1));have rE:=rt.mono kE;have kd:=Cx.turn_lw (o':= .deferred none) rE.def_ rfl rfl;obtain ⟨Gz,Oz,Rz,_⟩:=Rel.put_fitline_breaker q (Rt2.mono kE) (x':=ob) (k:=sg.fitline_breaker.length) (s':=a2) (ei hob) (by rw [kE.t _ _ _ tt]; exact ⟨d,y1,s1,.slice ya yn yc,u2,rfl,rfl,o0,ha2.mono kE⟩);have Oe:=Oz.sD 2 [];refine ⟨.inl rfl,ta 10 (.slice va zz.length vq) (dn (nrm (WR.of (W.ret ?_))))⟩;exact iU rE.def_ ⟨_,a0.turn c2.w.heap.size (.deferred none),rfl,rfl,(kk.trans k2).trans ((hct.trans kE).turn (ak _) rE.def_ rfl rfl),Gz,Own.turn Oe rE.def_ rfl,Rz.lw kd,va,vq,rfl⟩
def bD (sg:Sto) (l:List Int) (w:Int):Option (Sto×Int):=(bC sg l w).bind fun q=>some (q.1,(q.2.length:Int))
theorem ez (O0:Own c0 G F) (R0:Rel c0 sg G) (p0:List Int) (p1:Int) {r:Sto×Int} (h2:Sl (RI .i32) c0 v1 p0) (H:bD sg p0 p1=some r): Calls Try.prog 8 #[v1,I p1] c0.w (aR c0 fun c v=>∃G_:Gm,Own c G_ (F)∧Rel c r.1 G_∧v=I r.2):=by
  unfold bD at H;refine en func8 rfl rfl (sr (va (I 0) (wln (sr (va (v1) (va (I p1) (bn H fun q hq H=>cl (ey O0 R0 p0 p1 h2 hq) ?_)))))));rintro v c1 k1 ⟨G1,O1,R1,b,qq_,rfl⟩;refine vv (I q.2.length) (wln (W.ret ?_));obtain rfl:=si H;exact r1 (qq c1 ⟨G1,O1,R1,rfl⟩)
end Go.Proofs.Ytmncdniojmigeaa
namespace Go.Proofs.Ytmncdniojmigeaa
open Go Go.Lt
set_option maxRecDepth 10000
set_option linter.unusedVariables false
attribute [local irreducible] W WL AC
open Try
variable {c0:Cx} {G:Gm} {F:List En} {sg:Sto} {v1 v2 v3 v4 v5 v6 v7 v8 v9 v10 v11 v12 v13 v14 v15 v16 v17 v18 v19 v20 v21 v22 v23 v24 v25 v26 v27 v28 v29 v30 v31 v32 v33 v34 v35 v36 v37 v38 v39 v40 v41 v42 v43 v44 v45 v46 v47 v48 v49 v50 v51 v52 v53 v54 v55 v56 v57 v58 v59 v60:Value}
def aI (sg:Sto) (p0:List Int) (p1:Int):Option (Sto×Bool):=
 (aW).bind fun h=>
 (orE (!h) (some (decide ((p0.length:Int) > 500)))).bind fun g=>
 if g=true then
 (aW).bind fun c=>
 some (sg,c)
 else
 (aN p0).bind fun d=>
 (bE (p0.length:Int)).bind fun e=>
 (if (decide (d≤e))=true then (bD sg p0 p1).bind fun b=>
 (bB (p0.length:Int) p1).bind fun f=>
 some (decide (b.2≤f),b.1) else some (false,sg)).bind fun a=>
 some (a.2,a.1)
theorem cU (O0:Own c0 G F) (t:Rel c0 sg G) (e:List Int) (f:Int) {r:Sto×Bool} (j:Sl (RI .i32) c0 v1 e) (H:aI sg e f=some r): Calls prog 3 #[v1,I f] c0.w (aR c0 fun c v=>∃G_:Gm,Own c G_ (F)∧Rel c r.1 G_∧v=B r.2):=by
 unfold aI at H;refine en func3 rfl rfl (sr (va (B false) (wln (W.seq (W.seq (bn H fun s h3 H=>bn H fun d0 h4 H=>W.join (Jn c0 fun c l=>Own c G (F)∧l= [(0,v1),(1,I f),(11,B d0)]) ?_ ?_))))))
 ·clear H;refine W.region (cl (cv O0 h3) ?_);rintro v10 c9 l9 ⟨N,rfl⟩;refine va (B (!s)) ?_;rcases bo (!s) with b | b
  ·obtain rfl:=orT b h4;exact vb b (pz (ps (va (B true) (wln (jn c9 ⟨N,rfl⟩)))))
  have z:=orF b h4;refine vb b (wa (v1) (wn (vx (ln 3 cC j.m) (wa (B (decide ((e.length:Int) > 500))) ?_))));obtain rfl:=si z;exact va (B (decide ((e.length:Int) > 500))) (wln (jn c9 ⟨N,rfl⟩))
 rintro e_ w_ ⟨T,u0,_,rfl,w0,rfl,o,rfl⟩;refine nrm (cn H (fun e0 H=>?_) (fun e0 H=>?_))
 ·refine sr (bn H fun u f0 H=>cl (cv o f0) ?_);rintro v26 U x0 ⟨A,rfl⟩;refine va (B u) (wln (W.ret (thr ?_)));obtain rfl:=si H;exact r1 (qq U ⟨G,A,t.m,rfl⟩)
 refine W.skip (nrm (W.seq (bn H fun k g0 H=>bn H fun n h0 H=>bn H fun i q H=>W.join (Jn T fun c l=>∃G_,Own c G_ (F)∧l= [(4,B i.1)]∧Rel c i.2 G_) ?_ ?_)))
 ·clear H;refine W.region (va (v1) (cl (cX o e j.m g0) ?_));rintro v35 s0 y0 ⟨D,rfl⟩;refine va (v1) (vx (ln 3 cC j.m) (cl (eA D (e.length:Int) h0) ?_));rintro v41 X z0 ⟨p,rfl⟩;refine va (B (decide (k≤n))) ?_;rcases bo (decide (k≤n)) with d | d
  ·have a:=it d q;refine vb d (wa (v1) (wa (I f) (wn (bn a fun g j0 a=>cl (ez p t.m e f j.m j0) ?_))));rintro v50 t0 a1 ⟨x,E,R,rfl⟩;refine wa (v1) (wn (vx (ln 3 cC j.m) (wa (I f) (wn (bn a fun h k0 a=>cl (dy E (e.length:Int) f k0) ?_)))));rintro v57 Z b1 ⟨M,rfl⟩;refine wa (B (decide (g.2≤h))) ?_;obtain rfl:=si a;exact vv (B (decide (g.2≤h))) (wln (jn Z ⟨x,M,rfl,R.m⟩))
  obtain rfl:=gO (ie d q);exact vb d (pz (pz (pz (pz (vv (B false) (wln (jn X ⟨G,p,rfl,t.m⟩)))))))
 rintro e_ w_ ⟨a0,v0,_,rfl,c1,rfl,y,P,rfl,S⟩;refine nrm (W.ret ?_);obtain rfl:=si H;exact r1 (qq a0 ⟨y,P,S,rfl⟩)
end Go.Proofs.Ytmncdniojmigeaa
namespace Go.Lt
open Go.ChangeShapes Go.WideShapes Go.RowKit
def C0 (w:World):Cx:=⟨w,fun _ _=>False,fun _ _=>none⟩
theorem jX (w:World):Own (C0 w) (fun _ _=>[]) []:=
 ⟨⟨fun i e h=>by cases i <;> simp [at_] at h,fun i j e e' h=>by cases i <;> simp [at_] at h⟩,fun _ _ _=>rfl⟩
theorem im0 {w:World} {b o:Nat} {v:Value} (h:w.cell? ⟨b,o,none⟩=some v):Im (C0 w) b o v:=by
 refine ⟨?_,id,h⟩;unfold World.cell? at h;split at h
 ·rename_i hh; exact (Array.getElem?_eq_some_iff.1 hh).1
 ·cases h
theorem jS {n:Int} (h:(Lit.int .i32 n).wf=true): -2147483648≤n∧n≤2147483647:=by
 simp only [Lit.wf,IntKind.min,IntKind.max,IntKind.signed,IntKind.bits,aG,bp,if_true] at h;omega
def Rd (P:Program) (t:TypeId) {α:Type} (R:Rp α) (K:α→Prop):Prop:=
 P.cellsOf t=R.size∧∀{H:Type} {enc:TypeId×Value→H} {w:World} {sp:Nat→Bool} {held:Bool} {fuel:Nat} {cs:List Value} {x:DataW H×List MemPlace},
  DataW.trod enc P w 0 sp held fuel t cs=some x→∃y,R.cells (C0 w) cs y∧K y
theorem Rd.int {P:Program} {t:TypeId} {k:IntKind} (ht:P.underlying t=some (.int k)) (hc:P.cellsOf t=1):Rd P t (RI k) (fun n=>(Lit.int k n).wf=true):=
 ⟨hc,fun h=>by obtain ⟨n,rfl,_,hw⟩:=DataW.trod_int ht h; exact ⟨n,rfl,hw⟩⟩
theorem ju {α:Type} {Q:Nat→α→Prop}:∀n,(∀i,i < n→∃x,Q i x)→∃xs:List α,xs.length=n∧∀i x,xs[i]? = some x→Q i x
 | 0,_=>⟨[],rfl,fun i x h=>by simp at h⟩
 | n+1,h=>by
  obtain ⟨xs,hl,hx⟩:=ju n fun i hi=>h i (Nat.lt_succ_of_lt hi);obtain ⟨y,hy⟩:=h n (Nat.lt_succ_self n);refine ⟨xs++ [y],by simp [hl],fun i x hi=>?_⟩;rw [List.getElem?_append] at hi;split at hi
  ·exact hx i x hi
  ·rename_i hn
   have h1:=(List.getElem?_eq_some_iff.1 hi).1;simp only [bf,aS] at h1;obtain rfl:i=n:=by omega
   rw [hl,Nat.sub_self] at hi;cases hi;exact hy
theorem fO {w:World} {a:Addr} {n:Nat} {cs:List Value} (h:w.cells? 0 a n=some cs):cs.length=n∧∀j u,cs[j]? = some u→w.cell? (a.add j)=some u:=by
 unfold World.cells? at h;rw [ac (dr _)] at h;have hl:cs.length=n:=by simpa using mapM_some_length h
 refine ⟨hl,fun j u hu=>?_⟩;have hjn:j < n:=by have:=(List.getElem?_eq_some_iff.1 hu).1; omega
 have hj:=mapM_some_get h j j (jR hjn);rw [hu] at hj;exact hj
theorem Rd.slice {P:Program} {t e:TypeId} {α:Type} {R:Rp α} {K:α→Prop} (ht:P.underlying t=some (.slice e)) (hc:P.cellsOf t=1) (h0:0 < R.size) (h:Rd P e R K):Rd P t (RL R) (fun xs=>xs.length≤maxLen∧∀x∈xs,K x):=by
 refine ⟨hc,fun {H enc w sp held fuel cs x} hd=>?_⟩;rcases DataW.trod_slice ht hd with ⟨rfl,_⟩ | ⟨a,len,cap,elems,rest,n,_,rfl,_,_,hl,hm,hlen,hel,_,_⟩
 ·exact ⟨[],⟨_,rfl,Sl.nl R _⟩,dr _,fun x hx=>by cases hx⟩
 ·obtain ⟨b,o,s⟩:=a;have key:∀i,i < len→∃x,K x∧∃b' off l,(some ⟨b,o,s⟩:Option Addr)=some ⟨b',off,none⟩∧R.cells (C0 w) l x∧∀j u,l[j]? = some u→Im (C0 w) b' (off+i * R.size+j) u:=by
   intro i hi;have hs:s=none:=by
    have hE:=hel 0 (by omega);rw [aj (show 0 < elems.length by omega),iY] at hE;obtain ⟨cs,hcs,_⟩:=hE;obtain ⟨c1,c2⟩:=fO hcs;have hp:0 < cs.length:=by rw [c1,h.1]; exact h0
    have:=World.cell?_spot (c2 0 _ (aj hp));simpa [Addr.add] using this
   subst hs;have hE:=hel i hi;rw [aj (show i < elems.length by omega),iY] at hE;obtain ⟨cs,hcs,hr⟩:=hE;obtain ⟨c1,c2⟩:=fO hcs;obtain ⟨x,hx,hk⟩:=h.2 hr;refine ⟨x,hk,b,o,cs,rfl,hx,fun j u hu=>im0 ?_⟩;have:=c2 j u hu;rw [iZ,iZ,h.1] at this;exact this
  obtain ⟨xs,hxl,hxs⟩:=ju len key;subst hxl;refine ⟨xs,⟨_,rfl,some ⟨b,o,s⟩,cap,rfl,hl,hm,fun i x hx=>(hxs i x hx).2⟩,cV hl hm,fun x hx=>?_⟩;obtain ⟨i,hi⟩:=List.mem_iff_getElem?.1 hx;exact (hxs i x hi).1
section
variable {P:Program} {H:Type} {enc:TypeId×Value→H} {w:World} {sp:Nat→Bool} {held:Bool} {t:TypeId} {v:Value} {d:DataW H} {p:List MemPlace}
theorem gM {e:TypeId} {α:Type} {R:Rp α} {K:List α→Prop} (ht:P.underlying t=some (.slice e)) (h:Rd P t (RL R) K) (hok:Value.okWide P w .any 0 t v) (hd:DataW.Trod enc P w 0 sp held t v d p):
  ∃xs,Sl R (C0 w) v xs∧K xs:=by
 obtain ⟨fuel,hd⟩:=hd;obtain ⟨xs,⟨u,hu,hs⟩,hk⟩:=h.2 hd;have:v.cells= #[v]:=by
  unfold Value.okWide at hok;simp only [ht] at hok;unfold Cell.okWide at hok
  cases v <;> simp [ht,Cell.ok] at hok⊢
  all_goals rfl
 rw [this] at hu;cases hu;exact ⟨xs,hs,hk⟩
end
theorem d6 {H:Type} {enc:TypeId×Value→H} {P:Program} (hl:laidOutB P=true) {w w':World} (h:∀k,k < w.heap.size→w'.heap[k]? = w.heap[k]?) {sp:Nat→Bool}:
  ∀{ts:List TypeId} {vs:List Value} {ds:List (DataW H)} {ps:List MemPlace},(ts.all fun t=>P.readableRec t && decide (t < P.types.size))=true→(∀x∈ps,x.block < w.heap.size)→(∀x∈ps,sp x.block=true)→
  DataW.TrodAll enc P w 0 (fun _=>true) true ts vs ds ps→DataW.TrodAll enc P w' 0 sp true ts vs ds ps
 | [],[],[],_,_,_,_,hA=>hA
 | [],_ :: _,_,_,_,_,_,hA=>hA.elim
 | [],[],_ :: _,_,_,_,_,hA=>hA.elim
 | _ :: _,[],_,_,_,_,_,hA=>hA.elim
 | _ :: _,_ :: _,[],_,_,_,_,hA=>hA.elim
 | t :: ts,v :: vs,d :: ds,ps,hr,hlt,hsp,hA=>by
  obtain ⟨p,q,h1,h2,rfl⟩:=hA;simp only [List.all_cons,aG,bp] at hr;refine ⟨p,q,WideElems.Trod_stays hl hr.1.1 hr.1.2 h1 (fun x hx=>?_) (fun x hx=>hsp x (dv _ hx)),d6 hl h hr.2 (fun x hx=>hlt x (jm _ hx)) (fun x hx=>hsp x (jm _ hx)) h2,rfl⟩;have hb:=hlt x (dv _ hx)
  cases x with
  | cell b o=>exact cq (w:=w) (h b hb)
  | map b=>exact h b hb
theorem gx {H:Type} {enc:TypeId×Value→H} {P:Program} {f:Func} {s:ChangeSpec} {apart fresh handsOn again:Bool} {w w':World} {args:Array Value} {v:Value} {ds gs:List (DataW H)} {ps before:List MemPlace}
  (hW:DataW.Whole enc P f.params.toList s.vars apart w args.toList ds gs before) (he:before=ps++ [])
  (hr:∀(b:Nat) (sp:Nat→Bool) (hd:Bool),DataW.TrodAll enc P w' b sp hd f.resultTypes.toList (v.resultList f.resultTypes.size) (s.fn H (ds++gs)).results [])
  (ha:∀sp:Nat→Bool,(∀x∈ps,sp x.block=true)→DataW.TrodAll enc P w' 0 sp true f.params.toList args.toList (s.fn H (ds++gs)).args ps)
  (hv:∀sp:Nat→Bool,DataW.TrodVars enc P w' sp s.vars (s.fn H (ds++gs)).vars [])
  (hg:Gr w w') (ho:∀(j:Nat) (t:TypeId) (r:Value),f.resultTypes[j]? = some t→(v.resultList f.resultTypes.size)[j]? = some r→Value.okWide P w' .any 0 t r):s.post enc P f apart fresh handsOn again w args v w':=by
 rw [ep] at he;subst he;have hlt:∀x∈before,x.block < w.heap.size:=fun x hx=>hW.lt x hx;refine ⟨ds,gs,before,[],before,[],hW,hr _ _ _,ha _ (fun x hx=>decide_eq_true (hlt x hx)),hv _,j9 (fun x hx=>⟨hx,.inr (.inl hx)⟩) (hg.frame (· ∈before)),fun _=>?_⟩;obtain ⟨_,_,_,_,_,hz,hn⟩:=hW;refine ⟨ho,_,_,([]++before)++ [],⟨[]++before,[],trodAll_append (ha _ fun _ _=>rfl) (hr _ _ _),hv _,rfl,fun b off hb=>?_,fun e=>?_⟩,fun x hx _=>by simpa using hx⟩
 ·have hb':MemPlace.cell b off∈before:=by simpa using hb
  have:=hlt _ hb';rw [hg.2.1 ⟨b,off,none⟩ this];exact hz b off (by simpa using hb')
 ·simpa using hn e
end Go.Lt
namespace Go.Proofs.Ytmncdniojmigeaa
open Go Go.Lt
set_option linter.unusedVariables false
def jP (n:Int):Prop:=(Lit.int .i32 n).wf=true
theorem kg:Rd Try.prog 21 (RI .i32) jP:=Rd.int Try.underlying21 (by kernel_rfl)
def ke (xs:List Int):Prop:=xs.length≤maxLen∧∀x∈xs,jP x
theorem kf:Rd Try.prog 22 (RL (RI .i32)) ke:=Rd.slice Try.underlying22 (by kernel_rfl) (by decide) kg
theorem jV (w:World):Rel (C0 w) ⟨[]⟩ (fun _ _=>[]):=
 ⟨⟨fun k x h=>by simp at h,fun _ _=>rfl⟩⟩
end Go.Proofs.Ytmncdniojmigeaa
namespace Go.Lt
theorem bw {n:Int} (h: -9223372036854775808≤n∧n≤9223372036854775807):w64 n=n:=by
 unfold w64;rw [IntKind.wrap_i64];omega
theorem i4 {n:Int} (h: -2147483648≤n∧n≤2147483647):w32 n=n:=by
 unfold w32;rw [IntKind.wrap_i32];omega
theorem bsm {α β:Type} (a:α) (f:α→Option β):(some a).bind f=f a:=by simp
theorem hC {σ τ:Type} {step:σ→Option (σ ⊕ τ)} (Inv:σ→Prop) (μ:σ→Nat) (post:τ→Prop)
  (h:∀s,Inv s→(∃s',step s=some (.inl s')∧Inv s'∧μ s' < μ s)∨∃t,step s=some (.inr t)∧post t):
  ∀(fuel:Nat) (s:σ),Inv s→μ s < fuel→∃t,cQ fuel step s=some t∧post t:=by
 intro fuel
 induction fuel with
 | zero=>intro s _ hm; omega
 | succ k ih=>
  intro s hs hm;rcases h s hs with ⟨s',h1,h2,h3⟩ | ⟨t,h1,h2⟩
  ·obtain ⟨t,h4,h5⟩:=ih s' h2 (by omega);exact ⟨t,by simp [cQ,h1,h4],h5⟩
  ·exact ⟨t,by simp [cQ,h1],h2⟩
theorem bN (a b:Bool):orE a (some b)=some (a || b):=by cases a <;> rfl
theorem cP (a b:Bool):cy a (some b)=some (a && b):=by cases a <;> rfl
theorem fG (x:Option Bool):orE true x=some true:=rfl
theorem fb (x:Option Bool):orE false x=x:=rfl
theorem eP (x:Option Bool):cy false x=some false:=rfl
theorem iC {α:Type} (xs:List α) (i:Nat):idx xs (i:Int)=xs[i]? :=by
 unfold idx;rw [ac (Int.natCast_nonneg i)];rfl
theorem bO {α:Type} {xs:List α} {i:Nat} (h:i < xs.length):idx xs (i:Int)=some xs[i]:=by
 rw [iC,aj h]
theorem fv {α:Type} {xs ys:List α} (h:xs.length+ys.length≤1099511627776):app xs ys=some (xs++ys):=by
 unfold app far;rw [ac h]
theorem gU {α:Type} {xs:List α} {i j:Nat} (h:i≤j) (h2:j≤xs.length):slc xs i j=some ((xs.drop i).take (j - i)):=by
 unfold slc;rw [ac (by omega)]
 congr 2
 omega
theorem eE (x y:Int):cu x y=max x y:=by unfold cu; split <;> omega
theorem d8 (x y:Int):bt x y=min x y:=by unfold bt; split <;> omega
theorem jc {n:Int} (h:n≠0):dvg n=some ():=by simp [dvg,h]
theorem fI {σ τ:Type} {step:σ→Option (σ ⊕ τ)} {n:Nat} (Inv:Nat→σ→Prop) (post:τ→Prop)
  (h:∀i s,i < n→Inv i s→(∃s',step s=some (.inl s')∧Inv (i+1) s')∨∃t,step s=some (.inr t)∧post t)
  (hend:∀s,Inv n s→∃t,step s=some (.inr t)∧post t) {fuel:Nat} {s:σ} (h0:Inv 0 s) (hf:n < fuel):∃t,cQ fuel step s=some t∧post t:=by
 have key:∀fuel i s,i≤n→n - i < fuel→Inv i s→∃t,cQ fuel step s=some t∧post t:=by
  intro fuel
  induction fuel with
  | zero=>intro i s _ hm; omega
  | succ k ih=>
   intro i s hi hm hs;rcases bi i n with hlt | hge
   ·rcases h i s hlt hs with ⟨s',h1,h2⟩ | ⟨t,h1,h2⟩
    ·obtain ⟨t,h4,h5⟩:=ih (i+1) s' hlt (by omega) h2;exact ⟨t,by simp [cQ,h1,h4],h5⟩
    ·exact ⟨t,by simp [cQ,h1],h2⟩
   ·obtain rfl:i=n:=by omega
    obtain ⟨t,h1,h2⟩:=hend s hs;exact ⟨t,by simp [cQ,h1],h2⟩
 exact key fuel 0 s (dr _) (by omega) h0
theorem iH {α β:Type} {x:Option α} {k:α→Option β} {a:α} {r:Option β} (h:x=some a) (h2:k a=r):x.bind k=r:=by rw [h]; exact h2
theorem gE {σ τ β:Type} {step:σ→Option (σ ⊕ τ)} {n:Nat} (Inv:Nat→σ→Prop) (post:τ→Prop) {fuel:Nat} {s:σ} {k:τ→Option β} {r:Option β}
  (h:∀i s,i < n→Inv i s→(∃s',step s=some (.inl s')∧Inv (i+1) s')∨∃t,step s=some (.inr t)∧post t)
  (hend:∀s,Inv n s→∃t,step s=some (.inr t)∧post t) (h0:Inv 0 s) (hf:n < fuel) (hk:∀t,post t→k t=r):(cQ fuel step s).bind k=r:=by
 obtain ⟨t,h1,h2⟩:=fI Inv post h hend h0 hf;rw [h1];exact hk t h2
theorem cO {σ τ β:Type} {step:σ→Option (σ ⊕ τ)} {n:Nat} (Inv:Nat→σ→Prop) (post:τ→Prop) {fuel:Nat} {s:σ} {k:τ→Option β} {p:β→Prop}
  (h:∀i s,i < n→Inv i s→(∃s',step s=some (.inl s')∧Inv (i+1) s')∨∃t,step s=some (.inr t)∧post t)
  (hend:∀s,Inv n s→∃t,step s=some (.inr t)∧post t) (h0:Inv 0 s) (hf:n < fuel) (hk:∀t,post t→∃r,k t=some r∧p r):∃r,(cQ fuel step s).bind k=some r∧p r:=by
 obtain ⟨t,h1,h2⟩:=fI Inv post h hend h0 hf;rw [h1];exact hk t h2
theorem di {i n:Nat} (h:i < n) (hn:n≤9223372036854775807):w64 ((i:Int)+1)=((i+1:Nat):Int):=by
 rw [bw (by omega)];simp
theorem dlt {i n:Nat} (h:i < n):decide ((i:Int) < (n:Int))=true:=by simp; exact h
end Go.Lt
namespace Go.Lt
variable {α:Type} {lo hi:α→Int}
def eh (lo hi:α→Int):List α→Bool
 | []=>true
 | x :: l=>decide (lo x≤hi x) && (match l with | []=>true | y :: _=>decide (hi x < lo y)) && eh lo hi l
theorem fg:∀{T:List α},eh lo hi T=true→∀i (h:i < T.length),lo T[i]≤hi T[i]
 | [],_,i,h=>by simp at h
 | x :: l,hs,i,h=>by
  simp only [eh,aG,bp] at hs
  cases i with
  | zero=>exact hs.1.1
  | succ i=>exact fg hs.2 i (by simpa using h)
theorem dN:∀{T:List α},eh lo hi T=true→∀i j (h:j < T.length),(hij:i < j)→hi (T[i]'(by omega)) < lo T[j]
 | [],_,i,j,h,_=>by simp at h
 | x :: l,hs,i,j,h,hij=>by
  have hs0:=hs;simp only [eh,aG,bp] at hs
  cases j with
  | zero=>omega
  | succ j=>
   have hj:j < l.length:=by simpa using h
   cases i with
   | succ i=>exact dN hs.2 i j hj (by omega)
   | zero=>
    cases l with
    | nil=>simp at hj
    | cons y l'=>
     have h1:hi x < lo y:=by simpa using hs.1.2
     cases j with
     | zero=>exact h1
     | succ j=>
      have h2:=dN hs.2 0 (j+1) hj (by omega);have h3:=fg hs.2 0 (by simp);simp only [jk] at h2 h3;simp only [jk,List.getElem_cons_succ] at h2⊢;omega
def onn (lo hi:α→Int) (r:Int) (x:α):Bool:=decide (lo x≤r) && decide (r≤hi x)
theorem cN {r:Int} {x:α}:onn lo hi r x=true↔lo x≤r∧r≤hi x:=by simp [onn]
theorem g7 {T:List α} (hs:eh lo hi T=true) {r:Int} {i j:Nat} (hi':i < T.length) (hj:j < T.length) (h1:onn lo hi r T[i]=true) (h2:onn lo hi r T[j]=true):i=j:=by
 rw [cN] at h1 h2;rcases Nat.lt_trichotomy i j with h | h | h
 ·have:=dN hs i j hj h;omega
 ·exact h
 ·have:=dN hs j i hi' h;omega
def fnd (lo hi:α→Int) (T:List α) (r:Int):Option α:=T.find? (onn lo hi r)
theorem hG {T:List α} (hs:eh lo hi T=true) {r:Int} {x:α} (hx:x∈T) (h:onn lo hi r x=true):fnd lo hi T r=some x:=by
 unfold fnd;obtain ⟨i,hi',rfl⟩:=List.mem_iff_getElem.1 hx;rw [List.find?_eq_some_iff_getElem];refine ⟨h,i,hi',rfl,fun j hj=>?_⟩
 cases hb:onn lo hi r (T[j]'(by omega)) with
 | false=>rfl
 | true=>exact absurd (g7 hs (by omega) hi' hb h) (by omega)
theorem fL {T:List α} {r:Int} (h:∀i (h:i < T.length),onn lo hi r T[i]=false):fnd lo hi T r=none:=by
 unfold fnd;rw [List.find?_eq_none];intro x hx;obtain ⟨i,hi',rfl⟩:=List.mem_iff_getElem.1 hx;simp [h i hi']
theorem gp {T:List α} {r:Int} {x:α} (h:fnd lo hi T r=some x):x∈T∧onn lo hi r x=true:=⟨List.mem_of_find?_eq_some h,List.find?_some h⟩
theorem fi {T:List α} (hs:eh lo hi T=true) {r:Int} {i:Nat} (h1:∀j (h:j < T.length),j < i→hi T[j] < r) (h2:∀j (h:j < T.length),i≤j→r≤hi T[j]):
  fnd lo hi T r=if h:i < T.length then (if lo T[i]≤r then some T[i] else none) else none:=by
 have hno:∀j (h:j < T.length),j≠i→onn lo hi r T[j]=false:=fun j h hne=>by
  cases hb:onn lo hi r T[j] with
  | false=>rfl
  | true=>
   rw [cN] at hb;rcases bi j i with hj | hj
   ·have:=h1 j h hj;omega
   ·have h3:=dN hs i j h (by omega);have h4:=h2 i (by omega) (ak _);omega
 split
 ·rename_i hi'
  split
  ·rename_i hl
   exact hG hs (bR hi') (cN.2 ⟨hl,h2 i hi' (ak _)⟩)
  ·rename_i hl
   refine fL fun j h=>?_;by_cases hj:j=i
   ·subst hj
    cases hb:onn lo hi r T[j] with
    | false=>rfl
    | true=>exact absurd (cN.1 hb).1 hl
   ·exact hno j h hj
 ·rename_i hi'
  exact fL fun j h=>hno j h (by omega)
theorem iE {a b:Nat} (h:a+b≤4611686018427387904):w64 ((IntKind.u64.wrap (w64 ((a:Int)+(b:Int)))).fdiv (2 ^ 1))=(((a+b) / 2:Nat):Int):=by
 have e0:w64 ((a:Int)+(b:Int))=((a+b:Nat):Int):=by rw [bw (by omega)]; simp
 have h1:IntKind.u64.wrap ((a+b:Nat):Int)=((a+b:Nat):Int):=by
  have:((a+b:Nat):Int) % 18446744073709551616=((a+b:Nat):Int):=Int.emod_eq_of_lt (by omega) (by omega);simpa [IntKind.wrap,IntKind.bits,IntKind.signed] using this
 have e2:(((a+b:Nat):Int)).fdiv (2 ^ 1)=(((a+b) / 2:Nat):Int):=by
  rw [Int.fdiv_eq_ediv_of_nonneg _ (by decide)];omega
 rw [e0,h1,e2,bw (by omega)]
theorem dO {T:List α} (hs:eh lo hi T=true) (hl:T.length≤1000000) (r:Int) {step:Int×Int→Option (Int×Int ⊕ Int)}
  (h1:∀a b:Nat,(hab:a < b)→(hb:b≤T.length)→step ((a:Int),(b:Int))=some (.inl (if r≤hi (T[(a+b) / 2]'(by omega)) then ((a:Int),(((a+b) / 2:Nat):Int)) else (((((a+b) / 2+1:Nat):Int)),(b:Int)))))
  (h2:∀a:Nat,step ((a:Int),(a:Int))=some (.inr (a:Int))):
  ∃i:Nat,cQ (((T.length:Int) - 0).toNat+1) step (0,(T.length:Int))=some (i:Int)∧i≤T.length∧(∀j (h:j < T.length),j < i→hi T[j] < r)∧(∀j (h:j < T.length),i≤j→r≤hi T[j]):=by
 have hmono:∀j k (h:k < T.length),(hjk:j≤k)→hi (T[j]'(by omega))≤hi T[k]:=fun j k h hjk=>by
  rcases bi j k with hlt | hge
  ·have e1:=dN hs j k h hlt;have e2:=fg hs k h;omega
  ·obtain rfl:j=k:=by omega
   exact jQ _
 obtain ⟨t,e1,i,e2,e3,e4,e5⟩:=hC (step:=step) (fun q=>∃a b:Nat,q=((a:Int),(b:Int))∧a≤b∧b≤T.length∧(∀j (h:j < T.length),j < a→hi T[j] < r)∧(∀j (h:j < T.length),b≤j→r≤hi T[j]))
  (fun q=>(q.2 - q.1).toNat) (fun t=>∃i:Nat,t=(i:Int)∧i≤T.length∧(∀j (h:j < T.length),j < i→hi T[j] < r)∧(∀j (h:j < T.length),i≤j→r≤hi T[j]))
  (by
   rintro q ⟨a,b,rfl,hab,hb,c1,c2⟩;rcases bi a b with hlt | hge
   ·left
    rw [h1 a b hlt hb];refine ⟨_,rfl,?_⟩;by_cases hr:r≤hi (T[(a+b) / 2]'(by omega))
    ·rw [ac hr];exact ⟨⟨a,(a+b) / 2,rfl,by omega,by omega,c1,fun j h hj=>Int.le_trans hr (hmono _ _ h hj)⟩,by simp only; omega⟩
    ·rw [af hr];refine ⟨⟨(a+b) / 2+1,b,rfl,by omega,hb,fun j h hj=>?_,c2⟩,by simp only; omega⟩;have:=hmono j ((a+b) / 2) (by omega) (by omega);omega
   ·right
    obtain rfl:a=b:=by omega
    exact ⟨_,h2 a,a,rfl,hb,c1,c2⟩)
  (((T.length:Int) - 0).toNat+1) (0,(T.length:Int)) ⟨0,T.length,rfl,dr _,ak _,fun j h hj=>by omega,fun j h hj=>by omega⟩ (by simp only; omega)
 subst e2;exact ⟨i,e1,e3,e4,e5⟩
def lk (T:List (Int×Int×Int)) (r:Int):Option Int:=(fnd (fun x=>x.1) (fun x=>x.2.1) T r).map (fun x=>x.2.2)
end Go.Lt
namespace Go.Proofs.Ytmncdniojmigeaa
open Go Go.Lt
set_option maxRecDepth 100000
def gT:List (Int×Int×Int):=match cG with | some t=>t | none=>[]
def pT:List (Int×Int):=match ce with | some t=>t | none=>[]
def cT:List (Int×Int×Int):=match ci with | some t=>t | none=>[]
def eT:List (Int×Int×Int):=match cg with | some t=>t | none=>[]
theorem jD:cG=some gT:=rfl
theorem jy:ce=some pT:=rfl
theorem jL:ci=some cT:=rfl
theorem jI:cg=some eT:=rfl
theorem jb:eh (fun x=>x.1) (fun x=>x.2.1) gT=true:=by kernel_rfl
theorem jv:eh (fun x=>x.1) (fun x=>x.2) pT=true:=by kernel_rfl
theorem jJ:eh (fun x=>x.1) (fun x=>x.2.1) cT=true:=by kernel_rfl
theorem jG:eh (fun x=>x.1) (fun x=>x.2.1) eT=true:=by kernel_rfl
theorem jC:gT.length≤1000000:=by
 have:Nat.ble gT.length 1000000=true:=by kernel_rfl
 exact ai this
theorem jx:pT.length≤1000000:=by
 have:Nat.ble pT.length 1000000=true:=by kernel_rfl
 exact ai this
theorem jK:cT.length≤1000000:=by
 have:Nat.ble cT.length 1000000=true:=by kernel_rfl
 exact ai this
theorem jH:eT.length≤1000000:=by
 have:Nat.ble eT.length 1000000=true:=by kernel_rfl
 exact ai this
def hcl (r:Int):Int:=
 if (4352≤r∧r≤4447)∨(43360≤r∧r≤43388) then 9
 else if (4448≤r∧r≤4519)∨(55216≤r∧r≤55238) then 10
 else if (4520≤r∧r≤4607)∨(55243≤r∧r≤55291) then 11
 else if r < 44032∨55203 < r then 0
 else if (r - 44032) % 28=0 then 12 else 13
def r32 (r:Int):Prop:= -2147483648≤r∧r≤2147483647
theorem r32.w {r:Int} (h:r32 r):w64 r=r:=by unfold r32 at h; exact bw (by omega)
theorem fJ {α:Type} {b:Bool} {p:Prop} [Decidable p] (h:b=true↔p) (x y:α):(if b=true then x else y)=if p then x else y:=by
 by_cases hp:p
 ·rw [ac hp,ac (h.2 hp)]
 ·rw [af hp,af (fun e=>hp (h.1 e))]
theorem fD {α:Type} {p:Prop} [Decidable p] (x y:α):(if p then some x else some y)=some (if p then x else y):=by split <;> rfl
theorem d9 (r:Int) (h:r32 r):bP r=some (hcl r):=by
 unfold r32 at h;unfold bP bL bg hcl;simp only [cP,bsm,bN];have hw:44032≤r→r≤55203→(w32 (r - 44032)).tmod 28=(r - 44032) % 28:=fun h1 h2=>by
  rw [i4 (by omega),Int.tmod_eq_emod_of_nonneg (by omega)]
 rw [fJ (p:=(4352≤r∧r≤4447)∨(43360≤r∧r≤43388)) (by simp),fJ (p:=(4448≤r∧r≤4519)∨(55216≤r∧r≤55238)) (by simp),fJ (p:=(4520≤r∧r≤4607)∨(55243≤r∧r≤55291)) (by simp)];rw [fJ (p:=r < 44032∨55203 < r) (by simp)];by_cases hs:r < 44032∨55203 < r
 ·simp only [ac hs,fD]
 ·simp only [af hs];rw [hw (by omega) (by omega)];rw [fJ (p:=(r - 44032) % 28=0) (by simp)];simp only [fD]
def pic (r:Int):Bool:=(fnd (fun x:Int×Int=>x.1) (fun x=>x.2) pT r).isSome
def pr (r:Int):ae:=⟨(lk gT r).getD (hcl r),pic r,(lk cT r).getD 0,(lk eT r).getD 0⟩
theorem dH {a b n:Nat} (h:a < b) (hb:b≤n):(a+b) / 2 < n:=by omega
theorem ja (r:Int) (h:r32 r):dI r=some ((lk gT r).getD (hcl r)):=by
 have hw:=h.w;have hlen:=jC;unfold dI;rw [jD];simp only [bsm];obtain ⟨i,e1,e2,e3,e4⟩:=dO jb jC r (step:=fun s_7=>
  if (decide (s_7.1 < s_7.2))=true then
  (cR (w64 ((IntKind.u64.wrap (w64 (s_7.1+s_7.2))).fdiv (2 ^ 1))) gT r).bind fun x_22=>
  if (!x_22)=true then
  some (.inl ((w64 ((w64 ((IntKind.u64.wrap (w64 (s_7.1+s_7.2))).fdiv (2 ^ 1)))+1)),s_7.2))
  else
  some (.inl (s_7.1,(w64 ((IntKind.u64.wrap (w64 (s_7.1+s_7.2))).fdiv (2 ^ 1)))))
  else
  some (.inr (s_7.1))) (fun a b hab hb=>by
   simp only;rw [ac (by simp; omega),iE (by omega)];unfold cR;rw [bO (dH hab hb),hw];simp only [bsm];by_cases hr:r≤(gT[(a+b) / 2]'(dH hab hb)).2.1
   ·rw [af (by simpa using hr),ac hr]
   ·rw [ac (by simpa using hr),af hr,bw (by omega)];rfl) (fun a=>by simp only; rw [af (by simp)])
 unfold ba;rw [e1];simp only [bsm,hw];have hf:=fi jb e3 e4;unfold lk;rw [hf];by_cases hi:i < gT.length
 ·rw [eX hi,bO hi];simp only [bsm,cP];by_cases hlo:gT[i].1≤r
  ·rw [ac (by simp; exact ⟨hi,hlo⟩),ac hlo];rfl
  ·rw [af (by simp; omega),af hlo,d9 r h];rfl
 ·rw [eY hi,show decide ((i:Int) < (gT.length:Int))=false by simp; omega,eP];simp only [bsm];rw [af (by decide),d9 r h];rfl
theorem iG (r:Int) (h:r32 r):dp r=some ((lk cT r).getD 0):=by
 have hw:=h.w;have hlen:=jK;unfold dp;rw [jL];simp only [bsm];obtain ⟨i,e1,e2,e3,e4⟩:=dO jJ jK r (step:=fun s_7=>
  if (decide (s_7.1 < s_7.2))=true then
  (cJ (w64 ((IntKind.u64.wrap (w64 (s_7.1+s_7.2))).fdiv (2 ^ 1))) cT r).bind fun x_22=>
  if (!x_22)=true then
  some (.inl ((w64 ((w64 ((IntKind.u64.wrap (w64 (s_7.1+s_7.2))).fdiv (2 ^ 1)))+1)),s_7.2))
  else
  some (.inl (s_7.1,(w64 ((IntKind.u64.wrap (w64 (s_7.1+s_7.2))).fdiv (2 ^ 1)))))
  else
  some (.inr (s_7.1))) (fun a b hab hb=>by
   simp only;rw [ac (by simp; omega),iE (by omega)];unfold cJ;rw [bO (dH hab hb),hw];simp only [bsm];by_cases hr:r≤(cT[(a+b) / 2]'(dH hab hb)).2.1
   ·rw [af (by simpa using hr),ac hr]
   ·rw [ac (by simpa using hr),af hr,bw (by omega)];rfl) (fun a=>by simp only; rw [af (by simp)])
 unfold a3;rw [e1];simp only [bsm,hw];have hf:=fi jJ e3 e4;unfold lk;rw [hf];by_cases hi:i < cT.length
 ·rw [eX hi,bO hi];simp only [bsm,bN];by_cases hlo:cT[i].1≤r
  ·rw [af (by simp; omega),ac hlo];rfl
  ·rw [ac (by simp; omega),af hlo];rfl
 ·rw [eY hi,show ((i:Int)==(cT.length:Int))=true by simp; omega,fG];simp only [bsm];rw [ac trivial];rfl
theorem iF (r:Int) (h:r32 r):dm r=some ((lk eT r).getD 0):=by
 have hw:=h.w;have hlen:=jH;unfold dm;rw [jI];simp only [bsm];obtain ⟨i,e1,e2,e3,e4⟩:=dO jG jH r (step:=fun s_7=>
  if (decide (s_7.1 < s_7.2))=true then
  (cH (w64 ((IntKind.u64.wrap (w64 (s_7.1+s_7.2))).fdiv (2 ^ 1))) eT r).bind fun x_22=>
  if (!x_22)=true then
  some (.inl ((w64 ((w64 ((IntKind.u64.wrap (w64 (s_7.1+s_7.2))).fdiv (2 ^ 1)))+1)),s_7.2))
  else
  some (.inl (s_7.1,(w64 ((IntKind.u64.wrap (w64 (s_7.1+s_7.2))).fdiv (2 ^ 1)))))
  else
  some (.inr (s_7.1))) (fun a b hab hb=>by
   simp only;rw [ac (by simp; omega),iE (by omega)];unfold cH;rw [bO (dH hab hb),hw];simp only [bsm];by_cases hr:r≤(eT[(a+b) / 2]'(dH hab hb)).2.1
   ·rw [af (by simpa using hr),ac hr]
   ·rw [ac (by simpa using hr),af hr,bw (by omega)];rfl) (fun a=>by simp only; rw [af (by simp)])
 unfold aZ;rw [e1];simp only [bsm,hw];have hf:=fi jG e3 e4;unfold lk;rw [hf];by_cases hi:i < eT.length
 ·rw [eX hi,bO hi];simp only [bsm,bN];by_cases hlo:eT[i].1≤r
  ·rw [af (by simp; omega),ac hlo];rfl
  ·rw [ac (by simp; omega),af hlo];rfl
 ·rw [eY hi,show ((i:Int)==(eT.length:Int))=true by simp; omega,fG];simp only [bsm];rw [ac trivial];rfl
theorem iB (r:Int) (h:r32 r):dl r=some (pic r):=by
 have hlen:=jx;unfold dl;rw [jy];simp only [bsm];obtain ⟨i,e1,e2,e3,e4⟩:=dO jv jx r (step:=fun s_7=>
  if (decide (s_7.1 < s_7.2))=true then
  (cF (w64 ((IntKind.u64.wrap (w64 (s_7.1+s_7.2))).fdiv (2 ^ 1))) pT r).bind fun x_22=>
  if (!x_22)=true then
  some (.inl ((w64 ((w64 ((IntKind.u64.wrap (w64 (s_7.1+s_7.2))).fdiv (2 ^ 1)))+1)),s_7.2))
  else
  some (.inl (s_7.1,(w64 ((IntKind.u64.wrap (w64 (s_7.1+s_7.2))).fdiv (2 ^ 1)))))
  else
  some (.inr (s_7.1))) (fun a b hab hb=>by
   simp only;rw [ac (by simp; omega),iE (by omega)];unfold cF;rw [bO (dH hab hb)];simp only [bsm];by_cases hr:r≤(pT[(a+b) / 2]'(dH hab hb)).2
   ·rw [af (by simpa using hr),ac hr]
   ·rw [ac (by simpa using hr),af hr,bw (by omega)];rfl) (fun a=>by simp only; rw [af (by simp)])
 unfold aY;rw [e1];simp only [bsm];have hf:=fi jv e3 e4;unfold pic;rw [hf];by_cases hi:i < pT.length
 ·rw [eX hi,bO hi];simp only [bsm,cP];by_cases hlo:pT[i].1≤r
  ·rw [ac hlo];simp [hi,hlo]
  ·rw [af hlo];simp [hlo]
 ·rw [eY hi,show decide ((i:Int) < (pT.length:Int))=false by simp; omega,eP];rfl
theorem ff (r:Int) (h:r32 r):dk r=some (pr r):=by
 unfold dk;rw [ja r h,iB r h,iG r h,iF r h];rfl
end Go.Proofs.Ytmncdniojmigeaa
namespace Go.Proofs.Ytmncdniojmigeaa
open Go Go.Lt
def clz (a:Int):Int:=if a < 0∨13 < a then 0 else a
theorem i6:((List.range 14).all fun i=>(List.range 14).all fun j=>(aJ (i:Nat) (j:Nat)).isSome)=true:=by kernel_rfl
theorem fk (a:Int):∃i:Nat,clz a=(i:Int)∧i < 14:=by
 unfold clz;split
 ·exact ⟨0,rfl,by omega⟩
 ·exact ⟨a.toNat,by omega,by omega⟩
theorem cW (a:Int):bI a=some (clz a):=by
 unfold bI clz;simp only [bN,bsm];by_cases h:a < 0∨13 < a
 ·rw [ac (by simp only [aT,bp]; omega),ac h]
 ·rw [af (by simp only [aT,bp]; omega),af h]
theorem gq (a:Int):clz (clz a)=clz a:=by
 unfold clz
 repeat' split
 all_goals omega
theorem fa (a b:Int):aJ a b=aJ (clz a) (clz b):=by
 unfold aJ;rw [cW,cW,cW,cW,gq,gq]
theorem e9 (a b:Int):∃x,aJ a b=some x:=by
 obtain ⟨i,hi,i14⟩:=fk a;obtain ⟨j,hj,j14⟩:=fk b;have h:=List.all_eq_true.1 (List.all_eq_true.1 i6 i (List.mem_range.2 i14)) j (List.mem_range.2 j14);rw [fa,hi,hj];exact Option.isSome_iff_exists.1 h
theorem ec (t:Bool) (b:Bool):cy t (some b)=some (t && b):=by cases t <;> rfl
theorem gB (s:az) (p:ae):∃b,au s p=some b:=by
 obtain ⟨x,hx⟩:=e9 s.last p.Break;unfold au;split
 ·exact ⟨_,rfl⟩
 rw [hx];simp only [ec,bsm];have h:∃e,(if (p.Conj==1 && s.conj==2)=true then some (p.Conj==1 && s.conj==2) else some (p.Pict && s.pict==2):Option Bool)=some e:=by
  split <;> exact ⟨_,rfl⟩
 obtain ⟨e,he⟩:=h;rw [he];simp only [bsm]
 repeat' split
 all_goals exact ⟨_,rfl⟩
theorem fF (s:az) (p:ae):∃b,an s p=some b:=by
 unfold an;simp only [orE,cy]
 repeat' split
 all_goals first | exact ⟨_,rfl⟩ | (simp only [ed]; repeat' split) <;> exact ⟨_,rfl⟩
theorem fj (s:az) (p:ae):∃b,am s p=some b:=by
 unfold am
 repeat' split
 all_goals first | exact ⟨_,rfl⟩ | (simp only [ed]; repeat' split) <;> exact ⟨_,rfl⟩
theorem gR (s:az) (p:ae):∃z,av s p=some z:=by
 obtain ⟨b1,h1⟩:=gB s p;obtain ⟨b2,h2⟩:=fF s p;obtain ⟨b3,h3⟩:=fj s p;unfold av;rw [h1,h2,h3];simp only [aE,cD,bsm,ec];exact ⟨_,rfl⟩
theorem eH (d:Int):∃b,aQ d=some b:=by
 unfold aQ;simp only [ec,bsm,bN];exact ⟨_,rfl⟩
theorem g9 (d:Int):∃b,ck d=some b:=by
 unfold ck;split <;> (try split) <;> simp only [bsm] <;> split <;> (try (split <;> simp only [bsm] <;> split)) <;> (try (split <;> simp only [bsm] <;> split)) <;> exact ⟨_,rfl⟩
theorem gL (p:ae):∃b,cS p=some b:=by
 obtain ⟨b,h⟩:=g9 p.Break;unfold cS;rw [h];simp only [bsm,bN]
 repeat' split
 all_goals exact ⟨_,rfl⟩
theorem f7 (g:aF) (r:Int) (p:ae):∃b,ax g r p=some b:=by
 obtain ⟨d,h⟩:=gL p;unfold ax;rw [h];simp only [bsm,ec,bN]
 repeat' split
 all_goals exact ⟨_,rfl⟩
theorem gG (g:aF) (r:Int) (p:ae):∃g' n,ay g r p=some (g',n)∧1≤n∧n≤2:=by
 obtain ⟨d,h⟩:=f7 g r p;unfold ay;rw [h];simp only [bsm,aE,cD,bN];split
 ·exact ⟨_,_,rfl,by omega,by omega⟩
 ·exact ⟨_,_,rfl,by omega,by omega⟩
theorem eL (t:List Int) (h:∀y∈t,r32 y) (hl:t.length≤1000000):∃n,cI t=some n∧1≤n∧n≤2:=by
 unfold cI;refine cO (n:=t.length) (fun i (a:Int×Int×Bool×Bool×Bool)=>a.2.1=(i:Int)∧1≤a.1∧a.1≤2) (fun (u:Int×Bool×Bool×Bool)=>1≤u.1∧u.1≤2) (fun i a hi hI=>?_) (fun a hI=>?_) ⟨rfl,by simp,by simp⟩ (by omega) (fun u hu=>⟨_,rfl,hu⟩)
 ·obtain ⟨n,i',g⟩:=a;obtain ⟨e,h1,h2⟩:=hI;simp only at e h1 h2;subst e;simp only;rw [ac (dlt hi),di hi (by omega)];simp only [bO hi,bsm];rw [ff _ (h _ (bR hi))];simp only [bsm];obtain ⟨g',m,hg,hm1,hm2⟩:=gG ⟨g.1,g.2.1,g.2.2⟩ t[i] (pr t[i]);rw [hg];simp only [bsm];exact .inl ⟨_,rfl,rfl,hm1,hm2⟩
 ·obtain ⟨n,i',g⟩:=a;obtain ⟨e,h1,h2⟩:=hI;simp only at e h1 h2;subst e;exact ⟨_,by simp only; rw [af (by simp)],h1,h2⟩
def okc (c:ad):Prop:=0≤c.n∧c.n≤16∧∀y∈a16 c.text,r32 y
def tcl (a:Int×Int×Int×Int×Int×Int×Int×Int×Int×Int×Int×Int×Int×Int×Int×Int×Int):ad:=match a with | (t0,t1,t2,t3,t4,t5,t6,t7,t8,t9,t10,t11,t12,t13,t14,t15,n)=>⟨(t0,t1,t2,t3,t4,t5,t6,t7,t8,t9,t10,t11,t12,t13,t14,t15),n⟩
theorem iL (c:ad) (h:okc c) (d:Int) (hd:r32 d):∃c' b,ag c d=some (c',b)∧okc c':=by
 obtain ⟨h1,h2,h3⟩:=h;unfold ag aB aC;simp only [aE,cD,bsm,fb];by_cases hn:c.n=16
 ·rw [ac (by simp [hn])];exact ⟨_,_,rfl,h1,h2,h3⟩
 ·rw [af (by simpa using hn)];have hi:idx (a16 c.text) c.n=some ((a16 c.text)[c.n.toNat]'(by rw [cY]; omega)):=by
   unfold idx;rw [ac h1];exact aj _
  rw [hi];simp only [bsm];refine ⟨_,_,rfl,?_,?_,fun y hy=>?_⟩
  ·simp only; rw [bw (by omega)]; omega
  ·simp only; rw [bw (by omega)]; omega
  ·simp only [fV] at hy;rcases List.mem_or_eq_of_mem_set hy with hy | rfl
   ·exact h3 y hy
   ·exact hd
theorem em (x:List Int) (h:∀y∈x,r32 y) (hl:x.length≤1000000):∃c,cj x=some c∧okc c:=by
 unfold cj;refine cO (n:=x.length) (fun i (a:Int×Int×Int×Int×Int×Int×Int×Int×Int×Int×Int×Int×Int×Int×Int×Int×Int×Int)=>a.1=(i:Int)∧okc (tcl a.2)) (fun (u:Int×Int×Int×Int×Int×Int×Int×Int×Int×Int×Int×Int×Int×Int×Int×Int×Int)=>okc (tcl u)) (fun i a hi hI=>?_) (fun a hI=>?_) ⟨rfl,by decide,by decide,fun y hy=>?_⟩ (by omega) (fun u hu=>?_)
 ·obtain ⟨i',t0,t1,t2,t3,t4,t5,t6,t7,t8,t9,t10,t11,t12,t13,t14,t15,n⟩:=a;obtain ⟨e,hk⟩:=hI;simp only at e hk;subst e;simp only;rw [ac (dlt hi),di hi (by omega)];simp only [bO hi,bsm];obtain ⟨c',b,hc,hk2⟩:=iL (tcl (t0,t1,t2,t3,t4,t5,t6,t7,t8,t9,t10,t11,t12,t13,t14,t15,n)) hk x[i] (h _ (bR hi));have hc2:ag ⟨(t0,t1,t2,t3,t4,t5,t6,t7,t8,t9,t10,t11,t12,t13,t14,t15),n⟩ x[i]=some (c',b):=hc;rw [hc2];simp only [bsm];split
  ·exact .inr ⟨_,rfl,hk2⟩
  ·exact .inl ⟨_,rfl,rfl,hk2⟩
 ·obtain ⟨i',t0,t1,t2,t3,t4,t5,t6,t7,t8,t9,t10,t11,t12,t13,t14,t15,n⟩:=a;obtain ⟨e,hk⟩:=hI;simp only at e hk;subst e;exact ⟨_,by simp only; rw [af (by simp)],hk⟩
 ·simp [tcl,a16] at hy;subst hy;exact ⟨by decide,by decide⟩
 ·obtain ⟨t0,t1,t2,t3,t4,t5,t6,t7,t8,t9,t10,t11,t12,t13,t14,t15,n⟩:=u;exact ⟨_,rfl,hu⟩
theorem fC (c:ad) (h:okc c):∃t,ao c=some t∧(∀y∈t,r32 y)∧t.length≤16:=by
 obtain ⟨h1,h2,h3⟩:=h;have hs:slc (a16 c.text) 0 c.n=some (((a16 c.text).drop 0).take c.n.toNat):=by
  unfold slc;rw [ac ⟨by omega,h1,by rw [cY]; exact h2⟩];simp
 have hl:(((a16 c.text).drop 0).take c.n.toNat).length≤16:=by
  rw [aw,eU,cY]; omega
 unfold ao cc;simp only [aE,cD];rw [hs];simp only [bsm];have ha:app [] (((a16 c.text).drop 0).take c.n.toNat)=some (((a16 c.text).drop 0).take c.n.toNat):=by
  unfold app far;rw [ac (by simp only [aS]; omega),cL]
 rw [ha];exact ⟨_,rfl,fun y hy=>h3 y (by rw [eU] at hy; exact eS hy),hl⟩
theorem gy (x:List Int) (h:∀y∈x,r32 y) (hl:x.length≤1000000) (h0:0 < x.length):∃z,aU x=some z∧0≤z.1.Wide∧z.1.Wide≤2:=by
 obtain ⟨b,hb⟩:=eH x[0];obtain ⟨c,hc,hk⟩:=em x h hl;obtain ⟨t,ht,ht2,ht3⟩:=fC c hk;obtain ⟨n,hn,hn1,hn2⟩:=eL t ht2 (by omega);have hi:idx x 0=some x[0]:=bO h0;unfold aU;rw [hi];simp only [bsm];rw [hb];simp only [bsm]
 cases b with
 | true=>exact ⟨_,rfl,by simp,by simp⟩
 | false=>
  simp only [aE,cD];rw [hc];simp only [bsm];rw [ht];simp only [bsm];rw [hn];exact ⟨_,rfl,by simp only; omega,hn2⟩
theorem iI {σ:Type} {y:σ→Int→List Int→Option (σ×Bool)} (I:σ→Nat→Prop) (l:List Int) (h:∀v∈l,r32 v) (hl:l.length≤1000000)
  (hy:∀s k m,I s k→k < m→m≤l.length→∃s',y s (k:Int) ((l.drop k).take (m - k))=some (s',true)∧I s' m) {s0:σ} (h0:I s0 0):∃s',aP y l s0=some s'∧I s' l.length:=by
 have hsl:∀k m:Nat,k≤m→m≤l.length→slc l (k:Int) (m:Int)=some ((l.drop k).take (m - k)):=fun k m h1 h2=>by
  unfold slc;rw [ac ⟨by omega,by omega,by omega⟩];simp only [Int.toNat_natCast,aL]
  congr 1
  omega
 unfold aP;refine cO (n:=l.length) (fun i (a:az×Int×Int×σ)=>a.2.2.1=(i:Int)∧∃k:Nat,a.2.1=(k:Int)∧k≤i∧(0 < i→k < i)∧I a.2.2.2 k) (fun (u:σ ⊕ (Int×σ))=>∃(k:Nat) (s:σ),u= .inr ((k:Int),s)∧I s k∧k≤l.length∧(0 < l.length→k < l.length)) (fun i a hi hI=>?_) (fun a hI=>?_) ⟨rfl,0,rfl,ak _,fun h=>h,h0⟩ (by omega) (fun u hu=>?_)
 ·obtain ⟨st,fr,i',s⟩:=a;obtain ⟨e,k,ek,hk,hk2,hI⟩:=hI;simp only at e ek hI;subst e ek;simp only;rw [ac (dlt hi),di hi (by omega)];simp only [bO hi,bsm];rw [ff _ (h _ (bR hi))];simp only [bsm];obtain ⟨z,hz⟩:=gR st (pr l[i]);rw [hz];simp only [bsm,bN];by_cases ht:(z.2 || ((i:Int)==0))=true
  ·rw [ac ht];exact .inl ⟨_,rfl,rfl,k,rfl,by omega,fun _=>by omega,hI⟩
  ·rw [af ht];have hi0:0 < i:=by
    simp only [aT,dd,not_or] at ht;omega
   obtain ⟨s',hs',hI'⟩:=hy s k i hI (hk2 hi0) (by omega);rw [hsl k i (by omega) (by omega)];simp only [bsm];rw [hs'];simp only [bsm,fe,aE,cD];exact .inl ⟨_,rfl,rfl,i,rfl,by omega,fun _=>by omega,hI'⟩
 ·obtain ⟨st,fr,i',s⟩:=a;obtain ⟨e,k,ek,hk,hk2,hI⟩:=hI;simp only at e ek hI;subst e ek;exact ⟨_,by simp only; rw [af (by simp)],k,s,rfl,hI,hk,hk2⟩
 ·obtain ⟨k,s,rfl,hI,hk,hk2⟩:=hu;simp only;by_cases hp:0 < l.length
  ·rw [ac (by simpa using hp),hsl k l.length hk (ak _)];simp only [bsm];obtain ⟨s',hs',hI'⟩:=hy s k l.length hI (hk2 hp) (ak _);rw [hs'];exact ⟨_,rfl,hI'⟩
  ·rw [af (by simpa using hp)];have:k=l.length:=by omega
   subst this;exact ⟨_,rfl,hI⟩
theorem gF (l:List Int) (h:∀v∈l,r32 v) (hl:l.length≤1000000):∃out,bb l=some out∧out.length≤l.length∧∀it∈out,0≤it.Wide∧it.Wide≤2:=by
 unfold bb;obtain ⟨out,h1,h2,h3⟩:=iI (I:=fun (out:List aX) k=>out.length≤k∧∀it∈out,0≤it.Wide∧it.Wide≤2) l h hl (y:=fun (out:List aX) _ x=>(aU x).bind fun z=>if z.2=true then (app out [z.1]).bind fun o=>some (o,true) else some (out,true))
  (fun s k m hI hkm hm=>by
   obtain ⟨z,hz,hz1,hz2⟩:=gy ((l.drop k).take (m - k)) (fun y hy=>h y (jO (eS hy))) (by rw [aw]; omega) (by rw [aw,be]; omega);rw [hz];simp only [bsm];split
   ·have ha:app s [z.1]=some (s++ [z.1]):=by
     unfold app far;rw [ac (by simp only [bf,aS]; omega)]
    rw [ha];refine ⟨_,rfl,by simp only [aA,bf,aS]; omega,fun it hit=>?_⟩;rcases List.mem_append.1 hit with hit | hit
    ·exact hI.2 it hit
    ·rw [List.mem_singleton.1 hit]; exact ⟨hz1,hz2⟩
   ·exact ⟨_,rfl,by omega,hI.2⟩) (s0:=[]) ⟨ak _,fun it hit=>by simp at hit⟩
 exact ⟨out,h1,h2,h3⟩
theorem fM (l:List Int) (h:∀v∈l,r32 v) (hl:l.length≤1000000):∃n,aN l=some n∧0≤n∧n≤2 * (l.length:Int):=by
 obtain ⟨out,h1,h2,h3⟩:=gF l h hl;unfold aN;rw [h1];simp only [bsm];refine cO (n:=out.length) (fun i (a:Int×Int)=>a.2=(i:Int)∧0≤a.1∧a.1≤2 * (i:Int)) (fun (u:Int)=>0≤u∧u≤2 * (out.length:Int)) (fun i a hi hI=>?_) (fun a hI=>?_) ⟨rfl,by simp,by simp⟩ (by omega) (fun u hu=>⟨_,rfl,hu.1,by omega⟩)
 ·obtain ⟨n,i'⟩:=a;obtain ⟨e,k1,k2⟩:=hI;simp only at e k1 k2;subst e;simp only;rw [ac (dlt hi),di hi (by omega)];simp only [bO hi,bsm];have hw:=h3 _ (bR hi);rw [bw (by omega)];exact .inl ⟨_,rfl,rfl,by simp only; omega,by simp only; omega⟩
 ·obtain ⟨n,i'⟩:=a;obtain ⟨e,k1,k2⟩:=hI;simp only at e k1 k2;subst e;exact ⟨_,by simp only; rw [af (by simp)],k1,k2⟩
end Go.Proofs.Ytmncdniojmigeaa
namespace Go.Proofs.Ytmncdniojmigeaa
structure Sg where
 some:Bool
 last:Int
 pict:Int
 conj:Int
 odd:Bool
def sg0:Sg:=⟨false,0,0,0,false⟩
def nxP (s:Int) (p:ae):Int:=if p.Pict=true then 1 else if s=1∧p.Break=4 then 1 else if s=1∧p.Break=5 then 2 else 0
def nxC (s:Int) (p:ae):Int:=if p.Conj=1 then 1 else if s=0 then 0 else if p.Conj=2 then 2 else if p.Conj=3 then s else 0
def sgN (s:Sg) (p:ae):Sg:=⟨true,p.Break,nxP s.pict p,nxC s.conj p,p.Break==6 && !(s.some && s.last==6 && s.odd)⟩
def sgF (l:List ae):Sg:=l.foldl sgN sg0
def sgJ (pj:Int→Int→Int) (s:Sg) (p:ae):Bool:=
 s.some && ((p.Conj==1 && s.conj==2) || (p.Pict && s.pict==2) || pj s.last p.Break==1 || (pj s.last p.Break==2 && s.last==6 && s.odd))
def hb:List ae→Int
 | []=>0
 | x :: _=>x.Break
end Go.Proofs.Ytmncdniojmigeaa
namespace Go.Proofs.Ytmncdniojmigeaa
open Go Go.Lt
def pjB (a b:Int):Int:=(aJ a b).getD 0
theorem g5 (a b:Int):aJ a b=some (pjB a b):=by
 obtain ⟨x,hx⟩:=e9 a b;unfold pjB;rw [hx];rfl
def pjE (i j:Nat):Bool:=(i==1 || i==2 || i==3) || (match aJ i j with | some x=>x==1 | none=>false)
theorem iz:((List.range 14).all fun i=>([4,5]:List Nat).all fun j=>pjE i j)=true:=by kernel_rfl
def ctl (a:Int):Prop:=a=1∨a=2∨a=3
theorem iA {a b:Int} (ha:¬ctl a) (hb:b=4∨b=5):pjB a b=1:=by
 obtain ⟨i,hi,i14⟩:=fk a;have hi2:¬(i=1∨i=2∨i=3):=by
  unfold ctl at ha;unfold clz at hi;split at hi <;> omega
 obtain ⟨j,hj,hj2⟩:∃j:Nat,clz b=(j:Int)∧(j=4∨j=5):=by
  rcases hb with rfl | rfl
  ·exact ⟨4,rfl,.inl rfl⟩
  ·exact ⟨5,rfl,.inr rfl⟩
 have h:=List.all_eq_true.1 (List.all_eq_true.1 iz i (List.mem_range.2 i14)) j (by rcases hj2 with rfl | rfl <;> simp);unfold pjB;rw [fa,hi,hj];unfold pjE at h
 cases e:aJ (i:Int) (j:Int) with
 | none=>rw [e] at h; simp at h; omega
 | some x=>rw [e] at h; simp at h; simp; omega
theorem i7:pjB 6 6=2:=by
 have:aJ 6 6=some 2:=by kernel_rfl
 unfold pjB;rw [this];rfl
def sgB (s:Sg):az:=⟨s.some,s.last,s.pict,s.conj,s.odd⟩
theorem e8 (s:Sg) (p:ae):av (sgB s) p=some (sgB (sgN s p),sgJ pjB s p):=by
 have hj:au (sgB s) p=some (sgJ pjB s p):=by
  unfold au sgB sgJ;simp only [cP,bsm,g5]
  cases s.some with
  | false=>rfl
  | true=>
   simp only [fe,aE,cD,Bool.true_and]
   cases h1:(p.Conj==1 && s.conj==2) with
   | true=>rfl
   | false=>
    simp only [aE,cD,bsm,iR]
    cases h2:(p.Pict && s.pict==2) with
    | true=>rfl
    | false=>
     simp only [aE,cD,iR];by_cases h3:pjB s.last p.Break=1
     ·rw [ac (by simpa using h3),h3];rfl
     ·rw [af (by simpa using h3),show (pjB s.last p.Break==1)=false by simpa using h3,iR];by_cases h4:pjB s.last p.Break=2
      ·rw [ac (by simpa using h4),h4];rfl
      ·rw [af (by simpa using h4),show (pjB s.last p.Break==2)=false by simpa using h4];rfl
 have hp:an (sgB s) p=some (nxP s.pict p):=by
  unfold an sgB nxP;simp only [cP,bsm];by_cases h1:p.Pict=true
  ·rw [ac h1,ac h1]
  ·rw [af h1,af h1];by_cases h2:s.pict=1∧p.Break=4
   ·rw [ac (by simpa using h2),ac h2]
   ·rw [af (by simpa using h2),af h2];by_cases h3:s.pict=1∧p.Break=5
    ·rw [ac (by simpa using h3),ac h3]
    ·rw [af (by simpa using h3),af h3]
 have hc:am (sgB s) p=some (nxC s.conj p):=by
  unfold am sgB nxC;simp only [dd]
  repeat' split
  all_goals rfl
 unfold av;simp only [aE,cD];rw [hj,hp,hc];simp only [bsm,cP];rfl
def okp (p:ae):Prop:=(p.Pict=true→¬ctl p.Break)∧(p.Conj=1→¬ctl p.Break)∧(p.Conj=2∨p.Conj=3→p.Break=4∨p.Break=5)
def jF:List (Int×Int×Int):=gT.filter fun g=>g.2.2==1 || g.2.2==2 || g.2.2==3
def jE:List (Int×Int×Int):=gT.filter fun g=>g.2.2==4 || g.2.2==5
def off (a b:Int):Bool:=jF.all fun g=>decide (b < g.1) || decide (g.2.1 < a)
def cov (G:List (Int×Int×Int)) (a b:Int):Bool:=decide (b < G.foldl (fun cur g=>if g.1≤cur∧cur≤g.2.1 then g.2.1+1 else cur) a)
theorem i8:pT.all (fun x=>off x.1 x.2)=true:=by kernel_rfl
theorem jf:cT.all (fun x=>x.2.2 != 1 || off x.1 x.2.1)=true:=by kernel_rfl
theorem jg:cT.all (fun x=>x.2.2==1 || cov jE x.1 x.2.1)=true:=by kernel_rfl
theorem ga {T:List (Int×Int×Int)} {r v:Int} (h:lk T r=some v):∃x∈T,x.1≤r∧r≤x.2.1∧x.2.2=v:=by
 unfold lk at h;obtain ⟨x,hx,rfl⟩:=Option.map_eq_some_iff.1 h;obtain ⟨h1,h2⟩:=gp hx;exact ⟨x,h1,(cN.1 h2).1,(cN.1 h2).2,rfl⟩
theorem iD (r:Int):¬ctl (hcl r):=by
 unfold hcl ctl
 repeat' split
 all_goals omega
theorem gn {a b r:Int} (h:off a b=true) (h1:a≤r) (h2:r≤b):¬ctl ((lk gT r).getD (hcl r)):=by
 intro hc
 cases e:lk gT r with
 | none=>rw [e] at hc; exact iD r hc
 | some v=>
  rw [e] at hc;obtain ⟨x,hx,k1,k2,k3⟩:=ga e;have hc:ctl v:=hc;have hm:x∈jF:=List.mem_filter.2 ⟨hx,by unfold ctl at hc; simp only [aT,dd]; omega⟩;have:=List.all_eq_true.1 h x hm;simp only [aT,bp] at this;omega
theorem jd (G:List (Int×Int×Int)):∀(a cur r:Int),a≤r→r < G.foldl (fun cur g=>if g.1≤cur∧cur≤g.2.1 then g.2.1+1 else cur) cur→cur≤r→∃g∈G,g.1≤r∧r≤g.2.1:=by
 induction G with
 | nil=>intro a cur r _ h1 h2; simp only [List.foldl_nil] at h1; omega
 | cons g G ih=>
  intro a cur r h0 h1 h2;rw [List.foldl_cons] at h1;by_cases hr:g.1≤r∧r≤g.2.1
  ·exact ⟨g,.head _,hr⟩
  ·split at h1
   ·rename_i hg
    obtain ⟨x,hx,hx2⟩:=ih a (g.2.1+1) r h0 h1 (by omega);exact ⟨x,.tail _ hx,hx2⟩
   ·obtain ⟨x,hx,hx2⟩:=ih a cur r h0 h1 h2;exact ⟨x,.tail _ hx,hx2⟩
theorem gZ (r:Int):okp (pr r):=by
 refine ⟨fun hp=>?_,fun hc=>?_,fun hc=>?_⟩
 ·have hp:pic r=true:=hp;unfold pic at hp;obtain ⟨x,hx⟩:=Option.isSome_iff_exists.1 hp;obtain ⟨h1,h2⟩:=gp hx;exact gn (List.all_eq_true.1 i8 x h1) (cN.1 h2).1 (cN.1 h2).2
 ·have hc:(lk cT r).getD 0=1:=hc
  cases e:lk cT r with
  | none=>rw [e] at hc; simp at hc
  | some v=>
   rw [e] at hc;have hc:v=1:=hc;obtain ⟨x,hx,k1,k2,k3⟩:=ga e;have:=List.all_eq_true.1 jf x hx;simp only [aT,bne_iff_ne,ne_eq] at this;rcases this with q | q
   ·omega
   ·exact gn q k1 k2
 ·have hc:(lk cT r).getD 0=2∨(lk cT r).getD 0=3:=hc
  cases e:lk cT r with
  | none=>rw [e] at hc; simp at hc
  | some v=>
   rw [e] at hc;have hc:v=2∨v=3:=hc;obtain ⟨x,hx,k1,k2,k3⟩:=ga e;have:=List.all_eq_true.1 jg x hx;simp only [aT,dd] at this;rcases this with q | q
   ·omega
   ·unfold cov at q;obtain ⟨g,hg,g1,g2⟩:=jd jE x.1 x.1 r k1 (Int.lt_of_le_of_lt k2 (kj q)) k1;obtain ⟨hg,hv⟩:=List.mem_filter.1 hg;have hl:lk gT r=some g.2.2:=by
     unfold lk;rw [hG jb hg (cN.2 ⟨g1,g2⟩)];rfl
    have hb:(pr r).Break=g.2.2:=by
     show (lk gT r).getD (hcl r)=_;rw [hl]; rfl
    rw [hb];simpa using hv
def Jn (s:Sg):Prop:=(s.pict=1∨s.conj≠0)→s.some=true∧¬ctl s.last
theorem Jn0:Jn sg0:=by intro h; simp [sg0] at h
theorem iQ {s:Sg} (h:Jn s) {p:ae} (hp:okp p):Jn (sgN s p):=by
 intro hh;refine ⟨rfl,?_⟩;show ¬ctl p.Break;obtain ⟨p1,p2,p3⟩:=hp;have hx:∀{b:Int},b=4∨b=5→¬ctl b:=fun hb=>by unfold ctl; omega
 rcases hh with hh | hh
 ·have hh:nxP s.pict p=1:=hh;unfold nxP at hh;split at hh
  ·rename_i q; exact p1 q
  ·split at hh
   ·rename_i q; exact hx (.inl q.2)
   ·split at hh <;> omega
 ·have hh:nxC s.conj p≠0:=hh;unfold nxC at hh;split at hh
  ·rename_i q; exact p2 q
  ·split at hh
   ·omega
   ·split at hh
    ·rename_i q; exact hx (p3 (.inl q))
    ·split at hh
     ·rename_i q; exact hx (p3 (.inr q))
     ·omega
theorem ip {s:Sg} (h:Jn s) {p:ae} (hp:okp p) (hj:sgJ pjB s p=false):sgN s p=sgN sg0 p:=by
 have e0:(s.pict=1∨s.conj≠0)→¬(p.Break=4∨p.Break=5):=fun q hb=>by
  obtain ⟨h1,h2⟩:=h q;unfold sgJ at hj;rw [h1,iA h2 hb] at hj;simp at hj
 have e1:nxP s.pict p=nxP sg0.pict p:=by
  unfold nxP;split
  ·rfl
  ·have:¬(s.pict=1∧p.Break=4):=fun q=>e0 (.inl q.1) (.inl q.2);have h2:¬(s.pict=1∧p.Break=5):=fun q=>e0 (.inl q.1) (.inr q.2);rw [af this,af h2,af (by simp [sg0]),af (by simp [sg0])]
 have e2:nxC s.conj p=nxC sg0.conj p:=by
  unfold nxC;split
  ·rfl
  ·rw [ac (show sg0.conj=0 from rfl)];split
   ·rfl
   ·rename_i q
    have hn:=e0 (.inr q);rw [af (fun q2=>hn (hp.2.2 (.inl q2))),af (fun q2=>hn (hp.2.2 (.inr q2)))]
 have e3:(p.Break==6 && !(s.some && s.last==6 && s.odd))=(p.Break==6 && !(sg0.some && sg0.last==6 && sg0.odd)):=by
  have:(sg0.some && sg0.last==6 && sg0.odd)=false:=rfl;rw [this];by_cases hb:p.Break=6
  ·have:(s.some && s.last==6 && s.odd)=false:=by
    rw [Bool.eq_false_iff];intro q;simp only [aG,dd] at q;unfold sgJ at hj;rw [q.1.1,q.1.2,q.2,hb,i7] at hj;simp at hj
   rw [this]
  ·have:(p.Break==6)=false:=by simpa using hb
   rw [this]; rfl
 unfold sgN;rw [e1,e2,e3]
theorem eZ (l:List ae) (x:ae):sgF (l++ [x])=sgN (sgF l) x:=by
 unfold sgF;rw [List.foldl_append];rfl
def One (x:List Int):Prop:=∀i (h:i < x.length),0 < i→sgJ pjB (sgF ((x.take i).map pr)) (pr x[i])=true
theorem One.snoc {x:List Int} {r:Int} (h:One x) (hj:x≠ []→sgJ pjB (sgF (x.map pr)) (pr r)=true):One (x++ [r]):=by
 intro i hi h0;rw [aA,eD] at hi;by_cases he:i < x.length
 ·rw [du (by omega),iP he];exact h i he h0
 ·have:i=x.length:=by omega
  subst this;rw [List.take_left,ij (ak _)];simpa using hj (by intro e; subst e; simp at h0)
theorem One.single (r:Int):One [r]:=by
 intro i hi h0;simp at hi;omega
theorem iJ {σ:Type} {y:σ→Int→List Int→Option (σ×Bool)} (I:σ→Nat→Prop) (l:List Int) (h:∀v∈l,r32 v) (hl:l.length≤1000000)
  (hy:∀s k m,I s k→k < m→m≤l.length→One ((l.drop k).take (m - k))→∃s',y s (k:Int) ((l.drop k).take (m - k))=some (s',true)∧I s' m) {s0:σ} (h0:I s0 0):∃s',aP y l s0=some s'∧I s' l.length:=by
 have hsl:∀k m:Nat,k≤m→m≤l.length→slc l (k:Int) (m:Int)=some ((l.drop k).take (m - k)):=fun k m h1 h2=>gU h1 h2;have hsn:∀(k i:Nat) (hi:i < l.length),k≤i→(l.drop k).take (i+1 - k)=(l.drop k).take (i - k)++ [l[i]]:=fun k i hi hk=>by
  have e:i+1 - k=(i - k)+1:=by omega
  have hd:i - k < (l.drop k).length:=by rw [be]; omega
  rw [e,fY hd,List.getElem_drop]
  congr 3
  omega
 unfold aP;refine cO (n:=l.length) (fun i (a:az×Int×Int×σ)=>a.2.2.1=(i:Int)∧∃(k:Nat) (s:Sg),a.1=sgB s∧Jn s∧s=sgF (((l.drop k).take (i - k)).map pr)∧One ((l.drop k).take (i - k))∧a.2.1=(k:Int)∧k≤i∧(0 < i→k < i)∧I a.2.2.2 k)
  (fun (u:σ ⊕ (Int×σ))=>∃(k:Nat) (s:σ),u= .inr ((k:Int),s)∧I s k∧One ((l.drop k).take (l.length - k))∧k≤l.length∧(0 < l.length→k < l.length)) (fun i a hi hI=>?_) (fun a hI=>?_) ⟨rfl,0,sg0,rfl,Jn0,(by simp [sgF]),(by intro i hi; simp at hi),rfl,ak _,fun h=>h,h0⟩ (by omega) (fun u hu=>?_)
 ·obtain ⟨st,fr,i',s⟩:=a;obtain ⟨e,k,sg,es,hJ,hF,hO,ek,hk,hk2,hI⟩:=hI;simp only at e es ek hI;subst e es ek;simp only;rw [ac (dlt hi),di hi (by omega)];simp only [bO hi,bsm];rw [ff _ (h _ (bR hi))];simp only [bsm];rw [e8];simp only [bsm,bN];have hJ2:=iQ hJ (gZ l[i]);by_cases ht:(sgJ pjB sg (pr l[i]) || ((i:Int)==0))=true
  ·rw [ac ht];refine .inl ⟨_,rfl,rfl,k,_,rfl,hJ2,?_,?_,rfl,by omega,fun _=>by omega,hI⟩
   ·rw [hsn k i hi hk,kv,kb,eZ,←hF]
   ·rw [hsn k i hi hk];refine hO.snoc fun hne=>?_;rw [←hF];simp only [aT,dd] at ht;rcases ht with q | q
    ·exact q
    ·have:i=0:=by omega
     subst this;simp at hne
  ·rw [af ht];simp only [aT,dd,not_or] at ht;have hi0:0 < i:=by omega
   obtain ⟨s',hs',hI'⟩:=hy s k i hI (hk2 hi0) (by omega) hO;rw [hsl k i (by omega) (by omega)];simp only [bsm];rw [hs'];simp only [bsm,fe,aE,cD];have hsi:(l.drop i).take (i+1 - i)= [l[i]]:=by
    rw [hsn i i hi (ak _),Nat.sub_self]; rfl
   refine .inl ⟨_,rfl,rfl,i,_,rfl,hJ2,?_,?_,rfl,by omega,fun _=>by omega,hI'⟩
   ·rw [hsi,ip hJ (gZ _) (by simpa using ht.1)];rfl
   ·rw [hsi]; exact One.single _
 ·obtain ⟨st,fr,i',s⟩:=a;obtain ⟨e,k,sg,es,hJ,hF,hO,ek,hk,hk2,hI⟩:=hI;simp only at e es ek hI;subst e es ek;exact ⟨_,by simp only; rw [af (by simp)],k,s,rfl,hI,hO,hk,hk2⟩
 ·obtain ⟨k,s,rfl,hI,hO,hk,hk2⟩:=hu;simp only;by_cases hp:0 < l.length
  ·rw [ac (by simpa using hp),hsl k l.length hk (ak _)];simp only [bsm];obtain ⟨s',hs',hI'⟩:=hy s k l.length hI (hk2 hp) (ak _) hO;rw [hs'];exact ⟨_,rfl,hI'⟩
  ·rw [af (by simpa using hp)];have:k=l.length:=by omega
   subst this;exact ⟨_,rfl,hI⟩
theorem gj {σ:Type} {y:σ→Int→List Int→Option (σ×Bool)} (x:List Int) (h:∀v∈x,r32 v) (hl:x.length≤1000000) (h0:0 < x.length) (hO:One x) {s0 s1:σ} (hy:y s0 0 x=some (s1,true)):aP y x s0=some s1:=by
 unfold aP;refine gE (n:=x.length) (fun i (a:az×Int×Int×σ)=>a=(sgB (sgF ((x.take i).map pr)),0,(i:Int),s0)) (fun (u:σ ⊕ (Int×σ))=>u= .inr (0,s0)) (fun i a hi hI=>?_) (fun a hI=>?_) rfl (by omega) (fun u hu=>?_)
 ·subst hI;simp only;rw [ac (dlt hi),di hi (by omega)];simp only [bO hi,bsm];rw [ff _ (h _ (bR hi))];simp only [bsm];rw [e8];simp only [bsm,bN];have ht:(sgJ pjB (sgF ((x.take i).map pr)) (pr x[i]) || ((i:Int)==0))=true:=by
   by_cases h1:0 < i
   ·rw [hO i hi h1]; rfl
   ·have:i=0:=by omega
    subst this;simp
  rw [ac ht];refine .inl ⟨_,rfl,?_⟩;rw [fY hi,kv,kb,eZ]
 ·subst hI;exact ⟨_,by simp only; rw [af (by simp)],rfl⟩
 ·subst hu;simp only;rw [ac (by simpa using h0)];have:slc x (0:Int) (x.length:Int)=some x:=by
   have:=gU (xs:=x) (i:=0) (j:=x.length) (by omega) (by omega);simpa using this
  rw [this];simp only [bsm];rw [hy];rfl
theorem gz (x:List Int) (h:∀y∈x,r32 y) (hl:x.length≤1000000) (h0:0 < x.length) (hs:aQ x[0]=some false):∃z,aU x=some z∧z.2=true∧1≤z.1.Wide∧z.1.Wide≤2:=by
 obtain ⟨c,hc,hk⟩:=em x h hl;obtain ⟨t,ht,ht2,ht3⟩:=fC c hk;obtain ⟨n,hn,hn1,hn2⟩:=eL t ht2 (by omega);have hi:idx x 0=some x[0]:=bO h0;unfold aU;rw [hi];simp only [bsm];rw [hs];simp only [bsm,aE,cD];rw [hc];simp only [bsm];rw [ht];simp only [bsm];rw [hn];exact ⟨_,rfl,rfl,hn1,hn2⟩
theorem fN (x:List Int) (h:∀y∈x,r32 y) (hl:x.length≤1000000) (h0:0 < x.length) (hO:One x) (hs:aQ x[0]=some false):∃n,aN x=some n∧1≤n∧n≤2:=by
 obtain ⟨z,hz,hz2,hw1,hw2⟩:=gz x h hl h0 hs;have hI:bb x=some [z.1]:=by
  unfold bb;refine gj x h hl h0 hO ?_;rw [hz];simp only [bsm];rw [ac hz2];rfl
 unfold aN;rw [hI];simp only [bsm];refine cO (n:=1) (fun i (a:Int×Int)=>a.2=(i:Int)∧(i=0→a.1=0)∧(0 < i→a.1=z.1.Wide)) (fun (u:Int)=>u=z.1.Wide) (fun i a hi hI=>?_) (fun a hI=>?_) ⟨rfl,fun _=>rfl,fun h=>by omega⟩ (by simp) (fun u hu=>⟨_,rfl,by omega,by omega⟩)
 ·obtain ⟨n,i'⟩:=a;obtain ⟨e,k1,k2⟩:=hI;simp only at e k1 k2;have:i=0:=by omega
  subst this;obtain rfl:=k1 rfl;subst e;refine .inl ⟨(w64 (0+z.1.Wide),w64 (((0:Nat):Int)+1)),rfl,rfl,fun h=>by omega,fun _=>?_⟩;simp only;rw [bw (by omega)];omega
 ·obtain ⟨n,i'⟩:=a;obtain ⟨e,k1,k2⟩:=hI;simp only at e k1 k2;subst e;exact ⟨_,rfl,k2 (by omega)⟩
structure Bk (W q e:Int) (ob:ab) (k:Nat):Prop where
 w:ob.w=W
 r0:0≤ob.room
 r1:ob.room≤W
 ln:ob.line.length≤k
 ou:ob.out.length≤k
 sum:(ob.out.length:Int) * q+(W - ob.room)≤e * (k:Int)
 fst:ob.out.length=0∨ob.room < W
theorem iy {W q e:Int} (hq:(W=1∧q=1∧e=1)∨(2≤W∧W≤1024∧q=W - 1∧e=2)) {ob:ab} {k m:Nat} (hB:Bk W q e ob k) (hkm:k < m) (hm:m≤1000000) (x:List Int) (hx:x.length=m - k) (h:∀y∈x,r32 y) (hO:One x) (h0:0 < x.length) (hs:aQ x[0]=some false):
  ∃ob',aO ⟨[ob]⟩ (some 0) x=some ⟨[ob']⟩∧Bk W q e ob' m:=by
 obtain ⟨l,hl,hl1,hl2⟩:=fN x h (by omega) h0 hO hs;obtain ⟨hw,r0,r1,hln,hou,hsum,hfst⟩:=hB;have hn:bt l ob.w=min l W:=by rw [d8,hw]
 have hek:e * (m:Int)=e * (k:Int)+e * ((m - k:Nat):Int):=by rw [←Int.mul_add]; congr 1; omega
 have hek2:min l W≤e * ((m - k:Nat):Int):=by
  rcases hq with ⟨rfl,rfl,rfl⟩ | ⟨h1,h2,rfl,rfl⟩ <;> omega
 unfold aO;simp only [bsm];rw [show (([ob]:List ab)[0]? = some ob) from rfl];simp only [bsm];rw [hl];simp only [bsm];rw [hn];by_cases hc:min l W > ob.room
 ·rw [ac (by simpa using hc)];have ha:app ob.out [ob.line]=some (ob.out++ [ob.line]):=fv (by simp only [bf,aS]; omega);rw [ha];have ha2:app ([]:List Int) x=some ([]++x):=fv (by simp only [aS]; omega);refine ⟨⟨ob.w,w64 (ob.w - min l W),ob.out++ [ob.line],[]++x⟩,?_,?_⟩
  ·simp only [bsm];simp only [Sto.set_fitline_breaker,bf,aS,bV,Nat.lt_one_iff,ac,bsm,ka,dA];simp only [ef,bsm,ha2]
  ·have hr:w64 (ob.w - min l W)=W - min l W:=by rw [hw,bw]; omega
   have hcl:ob.room+q≤W:=by rcases hq with ⟨rfl,rfl,rfl⟩ | ⟨h1,h2,rfl,rfl⟩ <;> omega
   refine ⟨hw,?_,?_,?_,?_,?_,?_⟩
   ·simp only [hr]; omega
   ·simp only [hr]; omega
   ·simp only [cL]; omega
   ·simp only [aA,eD]; omega
   ·simp only [hr,aA,eD];have:((ob.out.length+1:Nat):Int) * q=(ob.out.length:Int) * q+q:=by
     rw [show ((ob.out.length+1:Nat):Int)=(ob.out.length:Int)+1 by omega,Int.add_mul,Int.one_mul]
    rw [this,hek];omega
   ·right; simp only [hr]; omega
 ·rw [af (by simpa using hc)];simp only [bsm];have ha2:app ob.line x=some (ob.line++x):=fv (by omega);refine ⟨⟨ob.w,w64 (ob.room - min l W),ob.out,ob.line++x⟩,?_,?_⟩
  ·rw [show (([ob]:List ab)[0]? = some ob) from rfl];simp only [bsm];rw [ha2];simp only [bsm];simp only [Sto.set_fitline_breaker,bf,aS,bV,Nat.lt_one_iff,ac,bsm,ka,dA]
  ·have hr:w64 (ob.room - min l W)=ob.room - min l W:=by rw [bw]; rcases hq with ⟨rfl,rfl,rfl⟩ | ⟨h1,h2,rfl,rfl⟩ <;> omega
   refine ⟨hw,?_,?_,?_,?_,?_,?_⟩
   ·simp only [hr]; omega
   ·simp only [hr]; omega
   ·simp only [aA]; omega
   ·simp only; omega
   ·simp only [hr];rw [hek];omega
   ·right; simp only [hr]; omega
theorem gH (l:List Int) (h:∀v∈l,r32 v) (hl:l.length≤500) (w:Int) {W q e:Int} (hW:cu 1 (bt w 1024)=W) (hq:(W=1∧q=1∧e=1)∨(2≤W∧W≤1024∧q=W - 1∧e=2)):
  ∃st n,bD ⟨[]⟩ l w=some (st,n)∧∃u:Nat,n=(u:Int)+1∧u≤l.length∧(u=0∨(u:Int) * q+1≤e * (l.length:Int)):=by
 have hI:=iJ (σ:=Sto) (I:=fun s k=>∃ob,s=⟨[ob]⟩∧Bk W q e ob k) l h (by omega)
  (y:=fun (s:Sto) _ x=>(idx x 0).bind fun d=>(aQ d).bind fun e=>if (!e)=true then (aO s (some 0) x).bind fun s'=>some (s',true) else some (s,true))
  (fun s k m hI hkm hm hO=>by
   obtain ⟨ob,rfl,hB⟩:=hI;have hx:((l.drop k).take (m - k)).length=m - k:=by rw [aw,be]; omega
   have h0:0 < ((l.drop k).take (m - k)).length:=by omega
   have hr:∀y∈(l.drop k).take (m - k),r32 y:=fun y hy=>h y (jO (eS hy));generalize (l.drop k).take (m - k)=x at hx h0 hr hO;obtain ⟨b,hb⟩:=eH x[0];have hi:idx x 0=some x[0]:=bO h0;rw [hi];simp only [bsm];rw [hb];simp only [bsm]
   cases b with
   | true=>
    refine ⟨_,rfl,ob,rfl,?_⟩;obtain ⟨hw,r0,r1,hln,hou,hsum,hfst⟩:=hB;refine ⟨hw,r0,r1,by omega,by omega,?_,hfst⟩;have:e * (k:Int)≤e * (m:Int):=Int.mul_le_mul_of_nonneg_left (by omega) (by rcases hq with ⟨rfl,rfl,rfl⟩ | ⟨h1,h2,rfl,rfl⟩ <;> omega);omega
   | false=>
    obtain ⟨ob',hp,hB'⟩:=iy hq hB hkm (by omega) x hx hr hO h0 hb;rw [ac (show (!false)=true from rfl),hp];exact ⟨_,rfl,ob',rfl,hB'⟩)
  (s0:=⟨[⟨W,W,[],[]⟩]⟩) ⟨_,rfl,rfl,by simp only; rcases hq with ⟨rfl,rfl,rfl⟩ | ⟨h1,h2,rfl,rfl⟩ <;> omega,jQ _,by simp,by simp,by simp,.inl rfl⟩
 obtain ⟨s',hs',ob,rfl,hB⟩:=hI;obtain ⟨hw,r0,r1,hln,hou,hsum,hfst⟩:=hB;have ha:app ob.out [ob.line]=some (ob.out++ [ob.line]):=fv (by simp only [bf,aS]; omega);have hL:bC ⟨[]⟩ l w=some (⟨[ob]⟩,ob.out++ [ob.line]):=by
  unfold bC;rw [hW];simp only [bsm];refine iH hs' ?_;show (some ob).bind _=_;simp only [bsm];rw [ha];rfl
 refine ⟨⟨[ob]⟩,((ob.out++ [ob.line]).length:Int),by unfold bD; rw [hL]; rfl,ob.out.length,by simp,hou,?_⟩;rcases hfst with q | q
 ·exact .inl q
 ·exact .inr (by omega)
theorem iv (n:Nat) (hn:n≤500) (w:Int):∃r,bB (n:Int) w=some r∧∀u:Nat,(n=0→u=0)→(∀W q e:Int,cu 1 (bt w 1024)=W→((W=1∧q=1∧e=1)∨(2≤W∧W≤1024∧q=W - 1∧e=2))→u=0∨(u:Int) * q+1≤e * (n:Int))→(u:Int)+1≤r:=by
 have hc:bh (n:Int)=some (n:Int):=by
  unfold bh;rw [eE,d8]
  congr 1
  omega
 obtain ⟨W,hW⟩:∃W,W=cu 1 (bt w 1024):=⟨_,rfl⟩;have hs:bA w=some W:=by unfold bA; rw [hW]
 have hW2:1≤W∧W≤1024:=by rw [hW,eE,d8]; omega
 unfold bB;rw [hc,hs];simp only [bsm];by_cases h0:n=0
 ·subst h0;exact ⟨1,rfl,fun u hu _=>by have:=hu rfl; omega⟩
 rw [af (by simp; omega)];by_cases h1:W=1
 ·subst h1;refine ⟨(n:Int),rfl,fun u _ hu=>?_⟩;rcases hu 1 1 1 hW.symm (.inl ⟨rfl,rfl,rfl⟩) with q | q <;> omega
 ·rw [af (by simpa using h1)];have e1:w64 (W - 1)=W - 1:=bw (by omega);rw [e1,jc (by omega)];simp only [bsm];have e2:w64 (2 * (n:Int))=2 * (n:Int):=bw (by omega);have e3:w64 (2 * (n:Int)+W)=2 * (n:Int)+W:=bw (by omega);have e4:w64 (2 * (n:Int)+W - 2)=2 * (n:Int)+W - 2:=bw (by omega);rw [e2,e3,e4,Int.tdiv_eq_ediv_of_nonneg (by omega)];have e5:(2 * (n:Int)+W - 2) / (W - 1)≤2 * (n:Int)+W - 2:=Int.ediv_le_self _ (by omega);have e6:0≤(2 * (n:Int)+W - 2) / (W - 1):=Int.ediv_nonneg (by omega) (by omega);rw [bw (by omega)];refine ⟨_,rfl,fun u _ hu=>?_⟩;refine Int.le_ediv_of_mul_le (by omega) ?_;rw [Int.add_mul,Int.one_mul];rcases hu W (W - 1) 2 hW.symm (.inr ⟨by omega,hW2.2,rfl,rfl⟩) with q | q
  ·subst q; simp only [Int.natCast_zero,Int.zero_mul]; omega
  ·omega
theorem ik:aW=some true:=by kernel_rfl
theorem eB (l:List Int) (h:∀v∈l,r32 v) (hl0:l.length≤9223372036854775807) (w:Int):∃st,aI ⟨[]⟩ l w=some (st,true):=by
 unfold aI;rw [ik];simp only [bsm,fe,fb];by_cases hl:(l.length:Int) > 500
 ·rw [ac (by simpa using hl)];exact ⟨_,rfl⟩
 rw [af (by simpa using hl)];obtain ⟨d,hd,hd1,hd2⟩:=fM l h (by omega);rw [hd];simp only [bsm];have hc:bE (l.length:Int)=some (2 * (l.length:Int)):=by
  have hc:bh (l.length:Int)=some (l.length:Int):=by
   unfold bh;rw [eE,d8]
   congr 1
   omega
  unfold bE;rw [hc];simp only [bsm];rw [bw (by omega)]
 rw [hc];simp only [bsm];rw [ac (by simpa using hd2)];have hW2:1≤cu 1 (bt w 1024)∧cu 1 (bt w 1024)≤1024:=by rw [eE,d8]; omega
 obtain ⟨q,e,hq⟩:∃q e:Int,(cu 1 (bt w 1024)=1∧q=1∧e=1)∨(2≤cu 1 (bt w 1024)∧cu 1 (bt w 1024)≤1024∧q=cu 1 (bt w 1024) - 1∧e=2):=by
  by_cases h1:cu 1 (bt w 1024)=1
  ·exact ⟨1,1,.inl ⟨h1,rfl,rfl⟩⟩
  ·exact ⟨_,2,.inr ⟨by omega,hW2.2,rfl,rfl⟩⟩
 obtain ⟨st,n,hn,u,rfl,hu1,hu2⟩:=gH l h (by omega) w rfl hq;obtain ⟨r,hr,hr2⟩:=iv l.length (by omega) w;rw [hn];simp only [bsm];rw [hr];simp only [bsm];have:=hr2 u (by omega) (fun W q' e' hW' hq'=>by
  subst hW';have:q'=q∧e'=e:=by omega
  rw [this.1,this.2];exact hu2)
 exact ⟨st,by rw [decide_eq_true this]⟩
end Go.Proofs.Ytmncdniojmigeaa
