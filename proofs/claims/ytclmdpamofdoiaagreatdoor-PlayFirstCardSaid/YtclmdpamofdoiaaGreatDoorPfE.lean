/- Parts of the proofs of PlayFirst: the walk through the code, and plain Lean. No condition. -/
import Derived.Test.YtclmdpamofdoiaaGreatDoorPfA
import Derived.Test.YtclmdpamofdoiaaGreatDoorProg
import Derived.Test.YtclmdpamofdoiaaGreatDoorPfD
import Derived.Test.YtclmdpamofdoiaaGreatDoorPfB
import Derived.Test.YtclmdpamofdoiaaGreatDoorPfC
import Derived.OpenShut
import Derived.LaidLaws
import Derived.Handed
import Derived.Lay
import Derived.JoinedOf
import Derived.KernelRfl
import Derived.SizedLaws
set_option linter.unusedVariables false
set_option linter.unusedSimpArgs false
namespace Go.Proofs.YtclmdpamofdoiaaGreatDoor
open Go Go.Lt
set_option maxRecDepth 10000
set_option linter.unusedVariables false
attribute [local irreducible] W WL AC
def lI {σ:Type} (y:σ→Int→gu→Option (σ×Bool)) (sg:Sto) (p:bb) (s:σ):Option (Sto×σ):=
 (jB sg p.W p.H).bind fun a=>
 (dH a.1 a.2).bind fun v=>
 (y s 0 v).bind fun z=>
 if (!z.2)=true then
 some (a.1,z.1)
 else
 (cM (σ:=Int×Sto×σ) (τ:=(Sto×σ) ⊕ (Sto×σ)) (((p.Ops.length:Int) - 0).toNat+1) (fun b=>
 if (decide (b.1 < (p.Ops.length:Int)))=true then
 (idx p.Ops b.1).bind fun o=>
 (eG b.2.1 a.2 o).bind fun d=>
 (dH d.1 a.2).bind fun v=>
 (y b.2.2 (w64 (b.1+1)) v).bind fun z=>
 if (!z.2)=true then
 some (.inr (.inl (d.1,z.1)))
 else
 some (.inl (w64 (b.1+1),d.1,z.1))
 else
 some (.inr (.inr (b.2.1,b.2.2)))) (0,a.1,z.1)).bind fun u=>match u with
 | .inl q=>some q
 | .inr q=>some q
open Tryz
variable {c0:Cx} {G:Gm} {F:List En} {sg:Sto} {v1 v2:Value}
set_option maxHeartbeats 1000000 in
theorem vE {σ:Type} {E:σ→List En} {K:σ→Cx→Prop} (hK:∀s c c',c.le c'→K s c→K s c') {y:σ→Int→gu→Option (σ×Bool)} (lr:Nat)
    (hY:∀s i v z c G F vv,y s i v=some z→Own c G (E s++F)→K s c→Sl an c vv v.Lines→YieldAt (fen none) 0 Tryz.prog lr #[I i,.agg #[I v.Wide,I v.High,vv,I v.At.Row,I v.At.Col,B v.At.Pending,B v.Auto]] c.w fun x w'=>∃c',w'=c'.w∧c.lw c'∧x= .returned (B z.2)∧Own c' G (E z.1++F)∧K z.1 c')
    {p:bb} {s0:σ} {r:Sto×σ} {bc:Nat} (hb:∀j u,([I p.W,I p.H,v1]:List Value)[j]? = some u→Im c0 bc (0+j) u) (hl:Sl io c0 v1 p.Ops) (hG:Gl [2,4,7] c0) (O0:Own c0 G (E s0++F)) (R0:Rel c0 sg G) (hk:K s0 c0) (H:lI y sg p s0=some r):
    Calls Tryz.prog 97 #[.func (.yield lr) #[] #[],Q bc] c0.w fun x w'=>∃c' G',w'=c'.w∧c0.lw c'∧x= .returned (.tuple #[])∧Own c' G' (E r.2++F)∧Rel c' r.1 G'∧K r.2 c':=by
  unfold lI at H
  refine en func97 rfl rfl (sr (va (Q bc) (vx (l1 u_3 (hb 0 _ rfl)) (va (Qo bc (0+1)) (vx (l1 u_3 (hb 1 _ rfl)) (bn H fun a ha H=>cl (pb O0 R0 p.W p.H ha) ?_))))))
  rintro vs c1 k1 ⟨_,G1,O1,R1,ad,rfl,hs⟩
  refine va vs (wln (W.seq (sr (va (.func (.yield lr) #[] #[]) (va vs (bn H fun v hv H=>cl (ko O1 R1 a.2 hs hv) ?_))))))
  rintro vv c2 k2 ⟨X,y2,O2,rfl,hX⟩
  obtain ⟨c3,e3,k3,O3,hS⟩:=O2.frz 0 rfl hX
  have O3':=O3.tail
  refine WL.gh e3 (bn H fun z hz H=>WL.round (l:=lr) (args:= #[I 0,.agg #[I v.Wide,I v.High,X,I v.At.Row,I v.At.Col,B v.At.Pending,B v.Auto]]) rfl (by kernel_rfl) (ym (hY _ _ _ _ _ _ _ _ hz O3' (hK _ _ _ (k1.trans (k2.trans k3)) hk) hS) ?_))
  rintro x w' ⟨c4,rfl,k4,rfl,O4,hk4⟩
  have kA:c0.lw c4:=(k1.trans (k2.trans k3)).lw.trans k4
  have hG4:=hG.lw kA
  have hl4:=hl.lw kA
  have hs4:Pt 5 c4 vs a.2:=(hs.mono (k2.trans k3)).lw k4
  have R4:Rel c4 a.1 G1:=(R1.mono (k2.trans k3)).lw k4
  refine ⟨_,rfl,va (B (!z.2)) (wln (cn H (fun h H=>?_) (fun h H=>?_)))⟩
  · refine W.ret (thr ?_)
    obtain rfl:=si H
    exact r0 ⟨c4,G1,rfl,kA,rfl,O4,R4,hk4⟩
  refine W.skip (nrm (sr (va (Qo bc (0+2)) (vx (l1 oa ((hb 2 _ rfl).lw kA)) (vx (ln 3 oa hl4) (va (I 0) (wln (W.block (bn H fun u hu H=>lp hu (fun b=>JnW c4 fun c sl=>∃G_,Own c G_ (E b.2.2++F)∧sl= [(0,.func (.yield lr) #[] #[]),(3,vs),(17,v1),(18,I (p.Ops.length:Int)),(19,I b.1)]∧Rel c b.2.1 G_∧K b.2.2 c)
    (fun u ex e w=>match u with | .inl q=>ex= .ret∧JnW c4 (fun c sl=>∃G_,Own c G_ (E q.2++F)∧sl= []∧Rel c q.1 G_∧K q.2 c) e w | .inr q=>ex= .exit 0∧JnW c4 (fun c sl=>∃G_,Own c G_ (E q.2++F)∧sl= []∧Rel c q.1 G_∧K q.2 c) e w) ?_ ?_ ?_)))))))))
  · clear H hu
    intro b x e w H
    rintro ⟨c,e0,_,rfl,kc,rfl,Gb,Ob,rfl,Rb,Kb⟩
    refine sr (va (B (decide (b.1 < (p.Ops.length:Int)))) (wln (W.seq (cn H (fun D H=>?_) (fun D H=>?_)))))
    · refine W.skip (nrm (W.seq (W.block (sr (va (I b.1) (bn H fun o ho H=>?_))))))
      have hlc:=hl4.lw kc
      obtain ⟨t2,q1,f2⟩:=Sl.at hlc (aX ho)
      obtain ⟨vb,rfl,S⟩:=q1
      refine vx (ix oa hlc ho) (vx (lN 38 f2) (me (al 38 [I 0,I 0,I 0,Y] Ob) ?_))
      rintro v47 c5 k5 ⟨M,rfl,j0⟩
      refine va (I b.1) ?_
      obtain ⟨y0,z0,a1,rfl⟩:=((S.mono k5)).form
      refine md (sA 38 [I o.Kind,I o.A,I o.B,.slice y0 z0 a1] 0 j0 ⟨rfl,rfl,rfl,S.m.one,trivial⟩) ?_
      rintro c6 k6 O6
      refine wln (sr (va vs (vx (leN 38 0 [I o.Kind,I o.A,I o.B,.slice y0 z0 a1] (O6.on 0 rfl)) (bn H fun d hd H=>cl (lu O6 (Rb.mono (k5.trans k6)) ((hG4.lw kc).mono (k5.trans k6)) a.2 o ((hs4.lw kc).mono (k5.trans k6)) (S.mono (k5.trans k6)) hd) ?_))))
      rintro v26 c7 k7 ⟨_,G7,O7,R7,rfl,hE⟩
      refine wln (sr (va (.func (.yield lr) #[] #[]) (va (I b.1) (va (I (w64 (b.1+1))) (va vs (bn H fun v hv H=>cl (ko O7 R7 a.2 ((hs4.lw kc).mono (k5.trans (k6.trans k7))) hv) ?_))))))
      rintro vv c8 k8 ⟨X,y2,O8,rfl,hX⟩
      obtain ⟨c9,e9,k9,O9,hS⟩:=O8.frz 0 rfl hX
      have O9':=O9.tail.tail
      have kl:=k5.trans (k6.trans (k7.trans (k8.trans k9)))
      refine WL.gh e9 (bn H fun z hz H=>WL.round (l:=lr) (args:= #[I (w64 (b.1+1)),.agg #[I v.Wide,I v.High,X,I v.At.Row,I v.At.Col,B v.At.Pending,B v.Auto]]) rfl (by kernel_rfl) (ym (hY _ _ _ _ _ _ _ _ hz O9' (hK _ _ _ kl Kb) hS) ?_))
      rintro x w' ⟨cA,rfl,kB,rfl,OA_,hkA⟩
      have kcA:=kc.trans (kl.lw.trans kB)
      have RA:Rel cA d.1 G7:=(R7.mono (k8.trans k9)).lw kB
      refine ⟨_,rfl,va (B (!z.2)) (wln (cn H (fun h H=>?_) (fun h H=>?_)))⟩
      · refine W.ret (bkr (thr ?_))
        obtain rfl:=si H
        exact ⟨_,rfl,rfl,jnW cA ⟨G7,OA_,rfl,RA,hkA⟩ kcA⟩
      · refine W.skip (bkn (nrm (W.region (vv (I (w64 (b.1+1))) (WL.nil ?_)))))
        obtain rfl:=si H
        exact ⟨_,rfl,jnW cA ⟨G7,OA_,rfl,RA,hkA⟩ kcA⟩
    · refine W.exit (thx ?_)
      obtain rfl:=si H
      exact ⟨_,rfl,rfl,jnW c ⟨Gb,Ob,rfl,Rb,Kb⟩ kc⟩
  · exact jnW c4 ⟨G1,O4,rfl,R4,hk4⟩ (Cx.le.refl c4).lw
  · rintro ex e w hx
    cases u with
    | inl q=>
      obtain ⟨rfl,c,e0,_,rfl,kc,rfl,G_,Oq,rfl,Rq,Kq⟩:=hx
      obtain rfl:=si H
      exact bkr (r0 ⟨c,G_,rfl,kA.trans kc,rfl,Oq,Rq,Kq⟩)
    | inr q=>
      obtain ⟨rfl,c,e0,_,rfl,kc,rfl,G_,Oq,rfl,Rq,Kq⟩:=hx
      obtain rfl:=si H
      exact bke (n0 ⟨c,G_,rfl,kA.trans kc,rfl,Oq,Rq,Kq⟩)
theorem Hz {P:Program} {fn:Func} {n:Fr} {R:Ending→World→Prop} {c:Cx} {e:Nat→Value} {t b:Nat} {T:TypeId} {v:Value} (hl:(Instr.loadAt T (Q b)).run P c.w= .ok v c.w) (h:R (.returned v) c.w) (hr:fn.results= #[.cell t T]:=by rfl) (hv:ev n e (.tmp t)=Q b:=by kernel_rfl):lZ P fn n R .ret e c.w:=by
  refine ⟨v,?_,h⟩;have ht:=fi n e t;rw [hv,bw] at ht;simp only [Instr.loadAt,Instr.sureAddr,fm,qd,Result.andThen] at hl;simp [results,hr,ht,asAddr,hl]
theorem Cs {P:Program} {fn:Func} {n:Nat} {R:Ending→World→Prop} {c:Cx} {e:Nat→Value} {D t b:Nat} {T:TypeId} {v:Value} (hD:c.w.heap[D]? = some (.deferred (some []))) (hl:(Instr.loadAt T (Q b)).run P (c.turn D (.deferred none)).w= .ok v (c.turn D (.deferred none)).w) (h:R (.returned v) (c.turn D (.deferred none)).w)
    (hr:fn.results= #[.cell t T]:=by rfl) (hv:ev n e (.tmp t)=Q b:=by kernel_rfl):E1 P fn n R [Go.Lt.mark D] .ret e c.w:=by
  refine FI hD ?_ h;have ht:=fi ⟨n,[],none⟩ e t;rw [hv,bw] at ht;simp only [Instr.loadAt,Instr.sureAddr,fm,qd,Result.andThen] at hl;have hl':(loadVar T ⟨b,0,none⟩).run P (c.w.putObj D (.deferred none))= .ok v (c.w.putObj D (.deferred none)):=hl;simp [results,hr,ht,asAddr,hl']
def oY (p0:bb):Option Int:=some (-1)
theorem xu (O0:Own c0 G F) (p0:bb) {r:Int} (h2:Sl io c0 v1 p0.Ops) (H:oY p0=some r):
    Calls Tryz.prog 44 #[.agg #[I p0.W,I p0.H,v1],.nilFunc] c0.w (aO c0 fun c v=>Own c G F∧v=I r):=by
  obtain ⟨a,k,q,rfl⟩:=h2.form
  refine en func44 rfl rfl (sr (me (bx 79 [I p0.W,I p0.H,.slice a k q] O0) ?_))
  rintro v5 c1 k1 ⟨b1,rfl,O1,m1⟩
  refine me (bx 56 [.nilFunc] O1) ?_
  rintro v6 c2 k2 ⟨b2,rfl,O2,m2⟩
  refine me (al 3 [I 0] O2) ?_
  rintro v7 c3 k3 ⟨b3,rfl,O3⟩
  refine wln (W.seq (sr (vx (l1 underlying56 ((mm m2) 0 _ rfl)) (va (B true) (wln (W.cond (t:=true) (by kernel_rfl) (fun _=>?_) (fun h=>by cases h)))))))
  refine sr (md (sC 3 0 (I (-1)) [I (-1)] 0 O3 ⟨rfl,trivial⟩) ?_)
  intro c4 k4 O4
  refine wln (W.ret (thr ?_))
  obtain rfl:=si H
  exact Hz (b:=b3) (le1 0 u_3 (O4.on 0 rfl)) ⟨_,c4,rfl,rfl,pt,O4.tail,rfl⟩
def sv (row:Int) (s:Option Int) (i:Int) (v:gu):Option (Option Int×Bool):=match s with
 | none=>if (v.At.Row==row)=true then some (some i,false) else some (none,true)
 | some _=>none
def iU (sg:Sto) (p:bb) (row:Int):Option (Sto×Int):=
 (lI (sv row) sg p none).bind fun r=>some (r.1,r.2.getD (-1))
def EP (cb:Cx) (lr D:Nat) (rc:LoopState→Option Code→Loop) (s:Option Int) (c:Cx):Prop:=Rec c lr D (match s with | none=>rc .ready none | some _=>rc .done (some .ret))∧cb.le c
set_option maxHeartbeats 1000000 in
theorem tf (O0:Own c0 G F) (R0:Rel c0 sg G) (hG:Gl [2,4,7] c0) (p:bb) (row:Int) {r:Sto×Int} {bc:Nat} (hl:Sl io c0 v1 p.Ops) (hc:∀j u,([I row]:List Value)[j]? = some u→Im c0 bc (0+j) u) (H:iU sg p row=some r):
    Calls Tryz.prog 44 #[.agg #[I p.W,I p.H,v1],.func (.func 45) #[] #[Q bc]] c0.w (aO c0 fun c v=>∃G_,Own c G_ F∧Rel c r.1 G_∧v=I r.2):=by
  unfold iU at H
  obtain ⟨q,Hq,H⟩:=bs H
  obtain rfl:=si H
  obtain ⟨a,n1,n2,rfl⟩:=hl.form
  refine enR func44 rfl rfl (WR.sr (me (bx 79 [I p.W,I p.H,.slice a n1 n2] O0) ?_))
  rintro v5 c1 k1 ⟨b1,rfl,O1,m1⟩
  refine me (bx 56 [.func (.func 45) #[] #[Q bc]] O1) ?_
  rintro v6 c2 k2 ⟨b2,rfl,O2,m2⟩
  refine me (al 3 [I 0] O2) ?_
  rintro v7 c3 k3 ⟨b3,rfl,O3⟩
  refine wln (WR.seq (WR.sr (vx (l1 underlying56 ((mm m2) 0 _ rfl)) (va (B false) (wln (WR.cond (t:=false) (by kernel_rfl) (fun h=>by cases h) (fun _=>WR.of (W.skip (nrm ?_)))))))))
  refine WR.seq (WR.sr (vx (lN 79 (mm m1)) (cl (td O3 p hl.m rfl) ?_)))
  rintro v9 c4 k4 ⟨d,O4,rfl,hd⟩
  refine wln (WR.block (WR.range rfl (fun args w=>by kernel_rfl) fun fn rc hrc=>?_))
  obtain ⟨c5,e5,b5,r5⟩:=Cx.loop c4 (rc .ready none)
  rw [←e5]
  have k5:=b5.le
  have k05:c0.le c5:=k1.trans (k2.trans (k3.trans (k4.trans k5)))
  refine (vE (E:=fun s=>[Eb b3 3 [I (s.getD 0)]]) (K:=EP c4 (c4.w.heap.size+1) c4.w.heap.size rc) (fun s c c' k h=>⟨h.1.mono k,h.2.trans k⟩) (s0:=none) (c4.w.heap.size+1) ?_ (fun j u h=>(hd j u h).mono k5) (hl.mono k05) (hG.mono k05) (O4.keep b5) (R0.mono k05) ⟨r5,k5⟩ Hq).mono ?_
  · rintro s i v z c G' F' vv hz O ⟨hr,hcb⟩ hS
    cases s with
    | some _=>cases hz
    | none=>
      have hz':(if (v.At.Row==row)=true then some (some i,false) else some (none,true))=some z:=hz
      have hr1:Rec c (c4.w.heap.size+1) c4.w.heap.size (rc .ready none):=hr
      have O':Own c G' (Eb b3 3 [I 0] :: F'):=O
      obtain ⟨y0,y1,y2,rfl⟩:=hS.form
      refine BW hrc hr1.rc rfl (Hb _ _ _ _ _ 11 12 _ _) ?_
      refine sr (va (I i) (wln (W.region (me (al 45 [I 0,I 0,Y,I 0,I 0,B false,B false] O') ?_))))
      rintro v6 c7 k7 ⟨bx,rfl,O7⟩
      refine md (sA 45 [I v.Wide,I v.High,.slice y0 y1 y2,I v.At.Row,I v.At.Col,B v.At.Pending,B v.Auto] 0 O7 ⟨rfl,rfl,rfl,rfl,rfl,rfl,rfl,trivial⟩) ?_
      intro c8 k8 O8
      have r8:=hr1.mono (k7.trans k8)
      refine WL.nil (nrm ⟨r8.rc,?_⟩)
      have k9:=Cx.turn_lw (o':= .loop (rc .busy none)) r8.rc rfl rfl
      have Ob:=Own.turn (o':= .loop (rc .busy none)) O8 r8.rc rfl
      have rb:=r8.turn (rc .busy none)
      have hb:=(hcb.trans (k7.trans k8)).turn (o':= .loop (rc .busy none)) (vQ _) r8.rc rfl rfl
      have hSb:=(hS.mono (k7.trans k8)).lw k9
      have kc:c.lw (c8.turn (c4.w.heap.size+1) (.loop (rc .busy none))):=(k7.trans k8).lw.trans k9
      show W _ _ _ _ _ (c8.turn (c4.w.heap.size+1) (.loop (rc .busy none))).w
      generalize c8.turn (c4.w.heap.size+1) (.loop (rc .busy none))=cb at Ob rb hb hSb kc
      have m2b:∀j u,([.func (.func 45) #[] #[Q bc]]:List Value)[j]? = some u→Im cb b2 (0+j) u:=fun j u h=>(m2 j u h).mono ((k3.trans k4).trans hb)
      have hcc:∀j u,([I row]:List Value)[j]? = some u→Im cb bc (0+j) u:=fun j u h=>(hc j u h).mono ((k1.trans (k2.trans (k3.trans k4))).trans hb)
      refine W.block (sr (vx (l1 underlying56 (m2b 0 _ rfl)) (vx (leN 45 0 [I v.Wide,I v.High,.slice y0 y1 y2,I v.At.Row,I v.At.Col,B v.At.Pending,B v.Auto] (Ob.on 0 rfl)) (cl (nh Ob v row hSb hcc rfl) ?_))))
      rintro v15 cC kC ⟨OC,rfl⟩
      refine wln (cn hz' (fun h hz=>?_) (fun h hz=>?_))
      · obtain rfl:=si hz
        refine sr (va (I i) (md (sC 3 0 (I i) [I i] 1 OC ⟨rfl,trivial⟩) ?_))
        intro cD kD OD
        have rD:=rb.mono (kC.trans kD)
        have kt:=Cx.turn_lw (o':= .loop (rc .done (some .ret))) rD.rc rfl rfl
        refine wln (W.ret (bkr ?_))
        exact ⟨rD.rc,cD.turn _ (.loop (rc .done (some .ret))),rfl,kc.trans ((kC.trans kD).lw.trans kt),rfl,(Own.turn OD rD.rc rfl).tail,rD.turn _,(hb.trans (kC.trans kD)).turn (vQ _) rD.rc rfl rfl⟩
      · obtain rfl:=si hz
        have rD:=rb.mono kC
        have kt:=Cx.turn_lw (o':= .loop (rc .ready none)) rD.rc rfl rfl
        refine W.skip (bkn ?_)
        exact ⟨rD.rc,cC.turn _ (.loop (rc .ready none)),rfl,kc.trans (kC.lw.trans kt),rfl,(Own.turn OC rD.rc rfl).tail,rD.turn _,(hb.trans kC).turn (vQ _) rD.rc rfl rfl⟩
  · rintro ex w' ⟨c7,G7,rfl,k7,rfl,O7,R7,hr,hcb⟩
    obtain ⟨sq,q2⟩:=q
    cases q2 with
    | none=>
      have hr1:Rec c7 (c4.w.heap.size+1) c4.w.heap.size (rc .ready none):=hr
      have O':Own c7 G7 (Eb b3 3 [I 0] :: F):=O7
      have kt:=Cx.turn_lw (o':= .loop (rc .exhausted none)) hr1.rc rfl rfl
      have Ot:=Own.turn (o':= .loop (rc .exhausted none)) O' hr1.rc rfl
      have rt:=hr1.turn (rc .exhausted none)
      have hct:=hcb.turn (o':= .loop (rc .exhausted none)) (vQ _) hr1.rc rfl rfl
      have Rt:=R7.lw kt
      refine ⟨_,rfl,.inl ⟨hr1.rc,?_⟩⟩
      show mz _ _ _ _ (c7.turn (c4.w.heap.size+1) (.loop (rc .exhausted none))).w
      generalize c7.turn (c4.w.heap.size+1) (.loop (rc .exhausted none))=ct at kt Ot rt hct Rt
      refine bkn (nrm (WR.sr (md (sC 3 0 (I (-1)) [I (-1)] 0 Ot ⟨rfl,trivial⟩) ?_)))
      intro c8 k8 O8
      refine wln (WR.of (W.ret ?_))
      have rd:=rt.mono k8
      have kd:=Cx.turn_lw (o':= .deferred none) rd.def_ rfl rfl
      have Od:=Own.turn (o':= .deferred none) O8 rd.def_ rfl
      exact Cs (b:=b3) rd.def_ (le1 0 u_3 (Od.on 0 rfl)) ⟨_,c8.turn c4.w.heap.size (.deferred none),rfl,rfl,(k1.trans (k2.trans (k3.trans k4))).trans ((hct.trans k8).turn (az _) rd.def_ rfl rfl),G7,Od.tail,(Rt.mono k8).lw kd,rfl⟩
    | some i=>
      have hr1:Rec c7 (c4.w.heap.size+1) c4.w.heap.size (rc .done (some .ret)):=hr
      have O':Own c7 G7 (Eb b3 3 [I i] :: F):=O7
      have kt:=Cx.turn_lw (o':= .loop (rc .exhausted (some .ret))) hr1.rc rfl rfl
      have Ot:=Own.turn (o':= .loop (rc .exhausted (some .ret))) O' hr1.rc rfl
      have rt:=hr1.turn (rc .exhausted (some .ret))
      have hct:=hcb.turn (o':= .loop (rc .exhausted (some .ret))) (vQ _) hr1.rc rfl rfl
      have Rt:=R7.lw kt
      refine ⟨_,rfl,.inr ⟨.ret,hr1.rc,?_⟩⟩
      show WR _ _ _ _ _ _ (c7.turn (c4.w.heap.size+1) (.loop (rc .exhausted (some .ret)))).w
      generalize c7.turn (c4.w.heap.size+1) (.loop (rc .exhausted (some .ret)))=ct at kt Ot rt hct Rt
      refine WR.of (W.ret (bkr (thr ?_)))
      have kd:=Cx.turn_lw (o':= .deferred none) rt.def_ rfl rfl
      have Od:=Own.turn (o':= .deferred none) Ot rt.def_ rfl
      exact Cs (b:=b3) rt.def_ (le1 0 u_3 (Od.on 0 rfl)) ⟨_,ct.turn c4.w.heap.size (.deferred none),rfl,rfl,(k1.trans (k2.trans (k3.trans k4))).trans (hct.turn (az _) rt.def_ rfl rfl),G7,Od.tail,Rt.lw kd,rfl⟩
end Go.Proofs.YtclmdpamofdoiaaGreatDoor
namespace Go.Proofs.YtclmdpamofdoiaaGreatDoor
open Go Go.Lt
set_option maxRecDepth 10000
set_option linter.unusedVariables false
attribute [local irreducible] W WL AC
open Tryz
variable {c0:Cx} {G:Gm} {F:List En} {sg:Sto} {v1 v2 v3 v4 v5 v6 v7 v8 v9 v10 v11 v12 v13 v14 v15 v16 v17 v18 v19 v20 v21 v22 v23 v24 v25 v26 v27 v28 v29 v30 v31 v32 v33 v34 v35 v36 v37 v38 v39 v40 v41 v42 v43 v44 v45 v46 v47 v48 v49 v50 v51 v52 v53 v54 v55 v56 v57 v58 v59 v60:Value}
def dY (sg:Sto) (p0:bb) (p1:Int):Option (Sto×Bool):=
 (dD sg).bind fun h=>
 (orE (!h.2) ((fC p0).bind fun l=>
 some l)).bind fun p=>
 if p=true then
 (dD h.1).bind fun f=>
 some (f.1,f.2)
 else
 (iU h.1 p0 p1).bind fun g=>
 (gx p0.W p0.H).bind fun d=>
 (cM (σ:=Int×Int×(List ak)×Int×Int×Bool×Bool×(List Int)×(List Int)×Int) (τ:=(Int×(List ak)×Int×Int×Bool×Bool×(List Int)×(List Int)×Int)) (((p0.Ops.length:Int) - 0).toNat+2) (fun a=>
 (bV (decide (a.2.1≤(p0.Ops.length:Int))) (some (decide (a.1 < 0)))).bind fun i=>
 if i=true then
 ((if (decide (a.2.1 > 0))=true then
 (idx p0.Ops (w64 (a.2.1 - 1))).bind fun m=>
 (fJ (⟨(⟨a.2.2.1,(⟨a.2.2.2.1,a.2.2.2.2.1,a.2.2.2.2.2.1⟩:ai),a.2.2.2.2.2.2.1⟩:aa),a.2.2.2.2.2.2.2.1,a.2.2.2.2.2.2.2.2.1,a.2.2.2.2.2.2.2.2.2⟩:ao) m).bind fun e=>
 some (e.1.P.L,e.1.P.At.Row,e.1.P.At.Col,e.1.P.At.Pending,e.1.P.Auto,e.1.Group,e.1.Raw,e.1.Parts)
 else
 some (a.2.2.1,a.2.2.2.1,a.2.2.2.2.1,a.2.2.2.2.2.1,a.2.2.2.2.2.2.1,a.2.2.2.2.2.2.2.1,a.2.2.2.2.2.2.2.2.1,a.2.2.2.2.2.2.2.2.2)).bind fun b=>
 (da (⟨(⟨b.1,(⟨b.2.1,b.2.2.1,b.2.2.2.1⟩:ai),b.2.2.2.2.1⟩:aa),b.2.2.2.2.2.1,b.2.2.2.2.2.2.1,b.2.2.2.2.2.2.2⟩:ao)).bind fun n=>
 if (n.At.Row==p1)=true then
 some (a.2.1,b.1,b.2.1,b.2.2.1,b.2.2.2.1,b.2.2.2.2.1,b.2.2.2.2.2.1,b.2.2.2.2.2.2.1,b.2.2.2.2.2.2.2)
 else
 some (a.1,b.1,b.2.1,b.2.2.1,b.2.2.2.1,b.2.2.2.2.1,b.2.2.2.2.2.1,b.2.2.2.2.2.2.1,b.2.2.2.2.2.2.2)).bind fun c=>
 some (.inl (c.1,(w64 (a.2.1+1)),c.2.1,c.2.2.1,c.2.2.2.1,c.2.2.2.2.1,c.2.2.2.2.2.1,c.2.2.2.2.2.2.1,c.2.2.2.2.2.2.2.1,c.2.2.2.2.2.2.2.2))
 else
 some (.inr (a.1,a.2.2.1,a.2.2.2.1,a.2.2.2.2.1,a.2.2.2.2.2.1,a.2.2.2.2.2.2.1,a.2.2.2.2.2.2.2.1,a.2.2.2.2.2.2.2.2.1,a.2.2.2.2.2.2.2.2.2))) ((-1),0,d.P.L,d.P.At.Row,d.P.At.Col,d.P.At.Pending,d.P.Auto,d.Group,d.Raw,d.Parts)).bind fun k=>
 (bV (g.2==k.1) ((oY p0).bind fun o=>
 some (o==(-1)))).bind fun j=>
 some (g.1,j)
theorem nG (O0:Own c0 G F) (R0:Rel c0 sg G) (hG:Gl [2,4,7] c0) (hT:Et c0) (x:bb) (p1:Int) {r:Sto×Bool} (h2:Sl io c0 v1 x.Ops) (H:dY sg x p1=some r): Calls prog 7 #[.agg #[I x.W,I x.H,v1],I p1] c0.w (aO c0 fun c v=>∃G_:Gm,Own c G_ (F)∧Rel c r.1 G_∧v=B r.2):=by
 unfold dY at H;refine en func7 rfl rfl (sr ?_);obtain ⟨a3,a4,a5,rfl⟩:=(h2).form;refine me (bx 79 [I x.W,I x.H,.slice a3 a4 a5] O0) ?_;rintro v10 c9 l9 ⟨N,rfl,O7,m8⟩;refine me (bx 3 [I p1] O7) ?_;rintro v15 u5 h6 ⟨R,rfl,l5,g3⟩;refine va (B false) (wln (W.seq (W.seq (bn H fun l2 a6 H=>bn H fun y5 e3 H=>W.join (Jn u5 fun c l=>∃G_,Own c G_ (F)∧l= [(2,Q N),(3,Q R),(14,B y5)]∧Rel c l2.1 G_) ?_ ?_))))
 ·clear H;refine W.region (cl (mp l5 R0.m (hG.m.le (by decide)) hT.m a6) ?_);rintro v23 v5 d8 ⟨m2,n2,q2,rfl⟩;refine va (B (!l2.2)) ?_;rcases bo (!l2.2) with a0 | a0
  ·obtain rfl:=orT a0 e3;exact vb a0 (pz (va (B true) (wln (jn v5 ⟨m2,n2,rfl,q2⟩))))
  have z0:=orF a0 e3;refine vb a0 (wn (vx (lN 79 (mm m8)) (wn (bn z0 fun h5 c6 z0=>cl (qa n2 x h2.m c6) ?_))));rintro v32 w5 e8 ⟨m5,rfl⟩;obtain rfl:=si z0;exact va (B h5) (wln (jn w5 ⟨m2,m5,rfl,q2.m⟩))
 rintro e_ w_ ⟨x7,b8,_,rfl,i6,rfl,w7,o2,rfl,s2⟩;refine nrm (cn H (fun d6 H=>?_) (fun d6 H=>?_))
 ·refine sr (bn H fun i5 e6 H=>cl (mp o2 s2 (hG.m.le (by decide)) hT.m e6) ?_);rintro v46 x5 f8 ⟨k5,n5,s5,rfl⟩;refine va (B i5.2) (wln (W.ret (thr ?_)));obtain rfl:=si H;exact r1 (qq x5 ⟨k5,n5,s5,rfl⟩)
 refine W.skip (nrm (sr (vx (lN 79 (mm m8)) (va (.func (.func 45) #[] #[Q R]) (bn H fun n f6 H=>cl (tf o2 s2 (hG.m.le (by decide)) x p1 h2.m (mm g3) f6) ?_)))));rintro v53 y7 j6 ⟨y,o5,t5,rfl⟩;refine va (I n.2) (wln (sr (va (I (-1)) (wln (sr (va (Q N) (vx (l1 u_3 ((mm m8) 0 _ rfl)) (va (Qo N (0+1)) (vx (l1 u_3 ((mm m8) 1 _ rfl)) (bn H fun E g6 H=>cl (ra o5 x.W x.H g6) ?_))))))))));rintro k8 z7 k6 ⟨v55,g8,v58,h8,j8,i8,p5,rfl,y1,z1,b2⟩;refine me (al 35 [Y,I 0,I 0,B false,B false,Y,Y,I 0] p5) ?_;rintro l8 a8 D ⟨f,rfl,q5⟩;obtain ⟨t2,u2,v2,rfl⟩:=((y1.mono D)).form;obtain ⟨w2,x2,y2,rfl⟩:=((z1.mono D)).form;obtain ⟨z2,b3,c3,rfl⟩:=((b2.mono D)).form;refine md (sA 35 [.slice t2 u2 v2,I E.P.At.Row,I E.P.At.Col,B E.P.At.Pending,B E.P.Auto,.slice w2 x2 y2,.slice z2 b3 c3,I E.Parts] 0 q5 ⟨y1.m.one,rfl,rfl,rfl,rfl,z1.m.one,b2.m.one,rfl,trivial⟩) ?_;rintro d3 t0 r5;refine wln (W.seq (sr (va (I 0) (wln (W.block (bn H fun p f3 Z=>lp f3 (fun a=>Jn d3 fun c l=>∃q s t,Own c y ((Eb f 35 [q,I a.2.2.2.1,I a.2.2.2.2.1,B a.2.2.2.2.2.1,B a.2.2.2.2.2.2.1,s,t,I a.2.2.2.2.2.2.2.2.2]) :: F)∧l= [(2,Q N),(3,Q R),(5,I n.2),(6,I a.1),(7,Q f),(8,I a.2.1)]∧Sl an c q a.2.2.1∧Sl (RI .i32) c s a.2.2.2.2.2.2.2.1∧Sl (RI .u8) c t a.2.2.2.2.2.2.2.2.1) (fun g ex e w=>ex= .exit 0∧(Jn d3 fun c l=>∃u0 v0 w0,Own c y ((Eb f 35 [u0,I g.2.2.1,I g.2.2.2.1,B g.2.2.2.2.1,B g.2.2.2.2.2.1,v0,w0,I g.2.2.2.2.2.2.2.2]) :: F)∧l= [(2,Q N),(5,I n.2),(6,I g.1)]∧Sl an c u0 g.2.1∧Sl (RI .i32) c v0 g.2.2.2.2.2.2.1∧Sl (RI .u8) c w0 g.2.2.2.2.2.2.2.1) e w) ?_ ?_ ?_))))))
 ·clear Z f3;intro a n8 z5 m6 H;revert z5 m6;rintro e_ w_ ⟨t1,c8,_,rfl,l6,rfl,q,s,t,p2,rfl,c2,d2,e2⟩;refine W.seq (W.seq (bn H fun e4 u1 H=>W.join (Jn t1 fun c l=>Own c y ((Eb f 35 [q,I a.2.2.2.1,I a.2.2.2.2.1,B a.2.2.2.2.2.1,B a.2.2.2.2.2.2.1,s,t,I a.2.2.2.2.2.2.2.2.2]) :: F)∧l= [(2,Q N),(3,Q R),(5,I n.2),(6,I a.1),(7,Q f),(8,I a.2.1),(32,B e4)]) ?_ ?_))
  ·clear H;refine W.region (va (I a.2.1) (va (Qo N (0+2)) (vx (l1 oa ((mm m8) 2 _ rfl)) (vx (ln 3 oa h2.m) (va (B (decide (a.2.1≤(x.Ops.length:Int)))) ?_)))));rcases bo (decide (a.2.1≤(x.Ops.length:Int))) with z | z
   ·have h3:=anT z u1;refine vb z (wa (I a.1) (wa (B (decide (a.1 < 0))) ?_));obtain rfl:=si h3;exact va (B (decide (a.1 < 0))) (wln (jn t1 ⟨p2,rfl⟩))
   obtain rfl:=anF z u1;exact vb z (pz (va (B false) (wln (jn t1 ⟨p2,rfl⟩))))
  rintro e_ w_ ⟨S,x6,_,rfl,y4,rfl,e0,rfl⟩;refine nrm (cn H (fun g4 H=>?_) (fun g4 H=>?_))
  ·refine W.skip (nrm (bn H fun o i3 j3=>W.seqJ (Jn S fun c l=>∃T U X,Own c y ((Eb f 35 [T,I o.2.2.1,I o.2.2.2.1,B o.2.2.2.2.1,B o.2.2.2.2.2.1,U,X,I o.2.2.2.2.2.2.2.2]) :: F)∧l= [(2,Q N),(3,Q R),(5,I n.2),(6,I o.1),(7,Q f),(8,I a.2.1)]∧Sl an c T o.2.1∧Sl (RI .i32) c U o.2.2.2.2.2.2.1∧Sl (RI .u8) c X o.2.2.2.2.2.2.2.1) ?_ ?_))
   ·refine W.block (bn i3 fun b h u=>W.seqJ (Jn S fun c l=>∃i j k,Own c y ((Eb f 35 [i,I b.2.1,I b.2.2.1,B b.2.2.2.1,B b.2.2.2.2.1,j,k,I b.2.2.2.2.2.2.2]) :: F)∧l= [(2,Q N),(3,Q R),(5,I n.2),(6,I a.1),(7,Q f),(8,I a.2.1)]∧Sl an c i b.1∧Sl (RI .i32) c j b.2.2.2.2.2.1∧Sl (RI .u8) c k b.2.2.2.2.2.2.1) ?_ ?_)
    ·refine sr (va (I a.2.1) (va (B (decide (a.2.1 > 0))) (wln (cn h (fun h4 h=>?_) (fun h4 h=>?_)))))
     ·refine rD [11] (Kp G0 [(Eb f 35 [q,I a.2.2.2.1,I a.2.2.2.2.1,B a.2.2.2.2.2.1,B a.2.2.2.2.2.2.1,s,t,I a.2.2.2.2.2.2.2.2.2])]) e0 ?_;intro v3 z4 a1;have d5:Kp G0 [(Eb f 35 [q,I a.2.2.2.1,I a.2.2.2.2.1,B a.2.2.2.2.2.1,B a.2.2.2.2.2.2.1,s,t,I a.2.2.2.2.2.2.2.2.2])] v3:=(Kp.cons (a1.on 0 rfl) Kp.nil0);refine tkx 0 d5 (fun c' b0 hk=>leN 35 0 [q,I a.2.2.2.1,I a.2.2.2.2.1,B a.2.2.2.2.2.1,B a.2.2.2.2.2.2.1,s,t,I a.2.2.2.2.2.2.2.2.2] (hk.on 0 rfl)) (ta 1 (Qo N (0+2)) (tx 2 (fun c' b0=>l1 oa ((mm m8) 2 _ rfl)) (ta 3 (I a.2.1) (ta 4 (I (w64 (a.2.1 - 1))) (bn h fun j5 w1 h=>?_)))));obtain ⟨n6,i4,c5⟩:=Sl.at (h2.mono (l9.trans (h6.trans (i6.trans (j6.trans (k6.trans (D.trans (t0.trans (l6.trans (y4.trans z4)))))))))) (aX w1);obtain ⟨r7,rfl,j4⟩:=i4;refine tx 5 (fun c' b0=>ix oa h2.m w1) (tx 6 (fun c' b0=>lN 38 (mm c5)) (bn h fun d k4 h=>o1 7 (gc 7 (rU a1 (⟨(⟨a.2.2.1,(⟨a.2.2.2.1,a.2.2.2.2.1,a.2.2.2.2.2.1⟩:ai),a.2.2.2.2.2.2.1⟩:aa),a.2.2.2.2.2.2.2.1,a.2.2.2.2.2.2.2.2.1,a.2.2.2.2.2.2.2.2.2⟩:ao) j5 c2.m d2.m e2.m j4 k4) ?_)));rintro s7 w3 g7 ⟨i2,j2,k2,b1,rfl,h0,i0,j0⟩;have e5:Kp G0 [(Eb f 35 [q,I a.2.2.2.1,I a.2.2.2.2.1,B a.2.2.2.2.2.1,B a.2.2.2.2.2.2.1,s,t,I a.2.2.2.2.2.2.2.2.2])] w3:=(Kp.cons (b1.on 0 rfl) Kp.nil0);refine ⟨.inr e5,ta 8 (.tuple #[.agg #[i2,I d.1.P.At.Row,I d.1.P.At.Col,B d.1.P.At.Pending,B d.1.P.Auto,j2,k2,I d.1.Parts],I d.2]) (ta 9 (.agg #[i2,I d.1.P.At.Row,I d.1.P.At.Col,B d.1.P.At.Pending,B d.1.P.Auto,j2,k2,I d.1.Parts]) (ta 10 (I d.2) ?_))⟩;obtain ⟨e1,f1,g1,rfl⟩:=(h0).form;obtain ⟨h1,i1,j1,rfl⟩:=(i0).form;obtain ⟨k1,m1,n1,rfl⟩:=(j0).form;refine o1 11 (gD 11 (sA 35 [.slice e1 f1 g1,I d.1.P.At.Row,I d.1.P.At.Col,B d.1.P.At.Pending,B d.1.P.Auto,.slice h1 i1 j1,.slice k1 m1 n1,I d.1.Parts] 0 b1 ⟨h0.one,rfl,rfl,rfl,rfl,i0.one,j0.one,rfl,trivial⟩) ?_);rintro x3 h7 k3;refine ⟨.inl rfl,dn (nrm ?_)⟩;obtain rfl:=si h;exact jn x3 ⟨(.slice e1 f1 g1),(.slice h1 i1 j1),(.slice k1 m1 n1),k3,rfl,h0.m,i0.m,j0.m⟩
     refine W.skip (nrm ?_);obtain rfl:=si h;exact jn S ⟨q,s,t,e0,rfl,c2.m,d2.m,e2.m⟩
    rintro e_ w_ ⟨u6,y6,_,rfl,i7,rfl,i,j,k,l3,rfl,k0,l0,m0⟩;refine W.seq (rD [] (Kp G0 [(Eb f 35 [i,I b.2.1,I b.2.2.1,B b.2.2.2.1,B b.2.2.2.2.1,j,k,I b.2.2.2.2.2.2.2])]) l3 ?_);intro y3 j7 c1;have f5:Kp G0 [(Eb f 35 [i,I b.2.1,I b.2.2.1,B b.2.2.2.1,B b.2.2.2.2.1,j,k,I b.2.2.2.2.2.2.2])] y3:=(Kp.cons (c1.on 0 rfl) Kp.nil0);refine tkx 0 f5 (fun c' b0 hk=>leN 35 0 [i,I b.2.1,I b.2.2.1,B b.2.2.2.1,B b.2.2.2.2.1,j,k,I b.2.2.2.2.2.2.2] (hk.on 0 rfl)) (tx 4 (fun c' b0=>l1 u_3 ((mm g3) 0 _ rfl)) (bn u fun M l4 u=>o1 1 (gc 1 (la c1 (⟨(⟨b.1,(⟨b.2.1,b.2.2.1,b.2.2.2.1⟩:ai),b.2.2.2.2.1⟩:aa),b.2.2.2.2.2.1,b.2.2.2.2.2.2.1,b.2.2.2.2.2.2.2⟩:ao) k0.m l0.m m0.m l4) ?_)));rintro u7 g0 k7 ⟨t7,f0,rfl,c7⟩;have g5:Kp G0 [(Eb f 35 [i,I b.2.1,I b.2.2.1,B b.2.2.2.1,B b.2.2.2.2.1,j,k,I b.2.2.2.2.2.2.2])] g0:=(Kp.cons (f0.on 0 rfl) Kp.nil0);refine ⟨.inr g5,ta 2 (.agg #[I M.At.Row,I M.At.Col,B M.At.Pending]) (ta 3 (I M.At.Row) (ta 5 (B (M.At.Row==p1)) (dn (nrm (cn u (fun m4 u=>?_) (fun m4 u=>?_))))))⟩
    ·refine W.region (vv (I a.2.1) (WL.nil (bkn (nrm ?_))));obtain rfl:=si u;exact jn g0 ⟨i,j,k,f0,rfl,k0.m,l0.m,m0.m⟩
    refine W.skip (bkn (nrm ?_));obtain rfl:=si u;exact jn g0 ⟨i,j,k,f0,rfl,k0.m,l0.m,m0.m⟩
   rintro e_ w_ ⟨z3,z6,_,rfl,l7,rfl,T,U,X,m3,rfl,n4,o4,p4⟩;refine W.region (va (I a.2.1) (vv (I (w64 (a.2.1+1))) (WL.nil ?_)));obtain rfl:=si j3;exact ⟨_,rfl,jn z3 ⟨T,U,X,m3,rfl,n4,o4,p4⟩⟩
  refine W.exit (thx ?_);obtain rfl:=si H;exact ⟨_,rfl,rfl,jn S ⟨q,s,t,e0,rfl,c2.m,d2.m,e2.m⟩⟩
 ·obtain ⟨v6,r4,f2,n3,q4⟩:=r5.frz 1 rfl (y1.mono (D.trans t0));obtain ⟨w6,t4,b5,o3,s4⟩:=n3.frz 2 rfl (z1.mono (D.trans (t0.trans f2)));obtain ⟨b4,v4,m7,p3,u4⟩:=o3.frz 3 rfl (b2.mono (D.trans (t0.trans (f2.trans b5))));have q3:=p3.sD 4 [0];exact ⟨b4,_,_,((r4.symm.trans t4.symm).trans v4.symm),pt,us,(.slice t2 u2 v2),(.slice w2 x2 y2),(.slice z2 b3 c3),q3,rfl,q4.m,s4.m,u4⟩
 rintro _ e_ w_ ⟨rfl,s1,a7,_,rfl,n7,rfl,u0,v0,w0,d1,rfl,d7,e7,f7⟩;refine bke (nrm (W.seq (bn Z fun f4 x1 Z=>W.join (Jn s1 fun c l=>Own c y ((Eb f 35 [u0,I p.2.2.1,I p.2.2.2.1,B p.2.2.2.2.1,B p.2.2.2.2.2.1,v0,w0,I p.2.2.2.2.2.2.2.2]) :: F)∧l= [(4,B f4)]) ?_ ?_)))
 ·clear Z;refine W.region (va (I n.2) (va (I p.1) (va (B (n.2==p.1)) ?_)));rcases bo (n.2==p.1) with A | A
  ·have d0:=anT A x1;refine vb A (wn (vx (lN 79 (mm m8)) (wn (bn d0 fun s0 w4 d0=>cl (xu d1 x h2.m w4) ?_))));rintro v7 c4 o7 ⟨s3,rfl⟩;refine wa (B (s0==(-1))) ?_;obtain rfl:=si d0;exact vv (B (s0==(-1))) (wln (jn c4 ⟨s3,rfl⟩))
  obtain rfl:=anF A x1;exact vb A (pz (ps (vv (B false) (wln (jn s1 ⟨d1,rfl⟩)))))
 rintro e_ w_ ⟨d4,b7,_,rfl,p7,rfl,t3,rfl⟩;refine nrm (W.ret ?_);obtain rfl:=si Z;have u3:=t3.sD 1 [];exact r1 (qq d4 ⟨y,u3,t5.m,rfl⟩)
end Go.Proofs.YtclmdpamofdoiaaGreatDoor
namespace Go.Lt
open Go.ChangeShapes Go.WideShapes Go.RowKit
def C0 (w:World):Cx:=⟨w,fun _ _=>False,fun _ _=>none⟩
theorem HF (w:World):Own (C0 w) (fun _ _=>[]) []:=
 ⟨⟨fun i e h=>by cases i <;> simp [at_] at h,fun i j e e' h=>by cases i <;> simp [at_] at h⟩,fun _ _ _=>rfl⟩
theorem im0 {w:World} {b o:Nat} {v:Value} (h:w.cell? ⟨b,o,none⟩=some v):Im (C0 w) b o v:=by
 refine ⟨?_,id,h⟩;unfold World.cell? at h;split at h
 ·rename_i hh; exact (Array.getElem?_eq_some_iff.1 hh).1
 ·cases h
def Rd (P:Program) (t:TypeId) {α:Type} (R:Rp α) (K:α→Prop):Prop:=
 P.cellsOf t=R.size∧∀{H:Type} {enc:TypeId×Value→H} {w:World} {sp:Nat→Bool} {held:Bool} {fuel:Nat} {cs:List Value} {x:DataW H×List MemPlace},
  DataW.trod enc P w 0 sp held fuel t cs=some x→∃y,R.cells (C0 w) cs y∧K y
theorem Rd.int {P:Program} {t:TypeId} {k:IntKind} (ht:P.underlying t=some (.int k)) (hc:P.cellsOf t=1):Rd P t (RI k) (fun n=>(Lit.int k n).wf=true):=
 ⟨hc,fun h=>by obtain ⟨n,rfl,_,hw⟩:=DataW.trod_int ht h; exact ⟨n,rfl,hw⟩⟩
theorem GR {α:Type} {Q:Nat→α→Prop}:∀n,(∀i,i < n→∃x,Q i x)→∃xs:List α,xs.length=n∧∀i x,xs[i]? = some x→Q i x
 | 0,_=>⟨[],rfl,fun i x h=>by simp at h⟩
 | n+1,h=>by
  obtain ⟨xs,hl,hx⟩:=GR n fun i hi=>h i (Nat.lt_succ_of_lt hi);obtain ⟨y,hy⟩:=h n (Nat.lt_succ_self n);refine ⟨xs++ [y],by simp [hl],fun i x hi=>?_⟩;rw [fH] at hi;split at hi
  ·exact hx i x hi
  ·rename_i hn
   have h1:=(List.getElem?_eq_some_iff.1 hi).1;simp only [aJ,aP] at h1;obtain rfl:i=n:=by omega
   rw [hl,nB] at hi;cases hi;exact hy
theorem yP {w:World} {a:Addr} {n:Nat} {cs:List Value} (h:w.cells? 0 a n=some cs):cs.length=n∧∀j u,cs[j]? = some u→w.cell? (a.add j)=some u:=by
 unfold World.cells? at h;rw [ae (cw _)] at h;have hl:cs.length=n:=by simpa using mapM_some_length h
 refine ⟨hl,fun j u hu=>?_⟩;have hjn:j < n:=by have:=(List.getElem?_eq_some_iff.1 hu).1; omega
 have hj:=mapM_some_get h j j (dv hjn);rw [hu] at hj;exact hj
section
variable {P:Program} {H:Type} {enc:TypeId×Value→H} {w:World} {sp:Nat→Bool} {held:Bool} {t:TypeId} {v:Value} {d:DataW H} {p:List MemPlace}
end
theorem sx {H:Type} {enc:TypeId×Value→H} {P:Program} (hl:laidOutB P=true) {w w':World} (h:∀k,k < w.heap.size→w'.heap[k]? = w.heap[k]?) {sp:Nat→Bool}:
  ∀{ts:List TypeId} {vs:List Value} {ds:List (DataW H)} {ps:List MemPlace},(ts.all fun t=>P.readableRec t && decide (t < P.types.size))=true→(∀x∈ps,x.block < w.heap.size)→(∀x∈ps,sp x.block=true)→
  DataW.TrodAll enc P w 0 (fun _=>true) true ts vs ds ps→DataW.TrodAll enc P w' 0 sp true ts vs ds ps
 | [],[],[],_,_,_,_,hA=>hA
 | [],_ :: _,_,_,_,_,_,hA=>hA.elim
 | [],[],_ :: _,_,_,_,_,hA=>hA.elim
 | _ :: _,[],_,_,_,_,_,hA=>hA.elim
 | _ :: _,_ :: _,[],_,_,_,_,hA=>hA.elim
 | t :: ts,v :: vs,d :: ds,ps,hr,hlt,hsp,hA=>by
  obtain ⟨p,q,h1,h2,rfl⟩:=hA;simp only [List.all_cons,aq,am] at hr;refine ⟨p,q,WideElems.Trod_stays hl hr.1.1 hr.1.2 h1 (fun x hx=>?_) (fun x hx=>hsp x (fG _ hx)),sx hl h hr.2 (fun x hx=>hlt x (uC _ hx)) (fun x hx=>hsp x (uC _ hx)) h2,rfl⟩;have hb:=hlt x (fG _ hx)
  cases x with
  | cell b o=>exact jO (w:=w) (h b hb)
  | map b=>exact h b hb
theorem Bk {H:Type} {enc:TypeId×Value→H} {P:Program} {f:Func} {s:ChangeSpec} {apart fresh handsOn again:Bool} {w w':World} {args:Array Value} {v:Value} {ds gs:List (DataW H)} {ps before:List MemPlace}
  (hW:DataW.Whole enc P f.params.toList s.vars apart w args.toList ds gs before) (he:before=ps++ [])
  (hr:∀(b:Nat) (sp:Nat→Bool) (hd:Bool),DataW.TrodAll enc P w' b sp hd f.resultTypes.toList (v.resultList f.resultTypes.size) (s.fn H (ds++gs)).results [])
  (ha:∀sp:Nat→Bool,(∀x∈ps,sp x.block=true)→DataW.TrodAll enc P w' 0 sp true f.params.toList args.toList (s.fn H (ds++gs)).args ps)
  (hv:∀sp:Nat→Bool,DataW.TrodVars enc P w' sp s.vars (s.fn H (ds++gs)).vars [])
  (hg:Gr w w') (ho:∀(j:Nat) (t:TypeId) (r:Value),f.resultTypes[j]? = some t→(v.resultList f.resultTypes.size)[j]? = some r→Value.okWide P w' .any 0 t r):s.post enc P f apart fresh handsOn again w args v w':=by
 rw [eB] at he;subst he;have hlt:∀x∈before,x.block < w.heap.size:=fun x hx=>hW.lt x hx;refine ⟨ds,gs,before,[],before,[],hW,hr _ _ _,ha _ (fun x hx=>vy (hlt x hx)),hv _,HP (fun x hx=>⟨hx,.inr (.inl hx)⟩) (hg.frame (· ∈before)),fun _=>?_⟩;obtain ⟨_,_,_,_,_,hz,hn⟩:=hW;refine ⟨ho,_,_,([]++before)++ [],⟨[]++before,[],trodAll_append (ha _ fun _ _=>rfl) (hr _ _ _),hv _,rfl,fun b off hb=>?_,fun e=>?_⟩,fun x hx _=>by simpa using hx⟩
 ·have hb':MemPlace.cell b off∈before:=by simpa using hb
  have:=hlt _ hb';rw [hg.2.1 ⟨b,off,none⟩ this];exact hz b off (by simpa using hb')
 ·simpa using hn e
theorem GY {P:Program} {laid:List (String×DataW Unit)} {w:World} (h:(laid.filter fun x=>x.2.handleName?.isSome)= []):laidMetH P laid w=laidMet P laid w:=by
 unfold laidMetH;rw [h]
theorem wI {P:Program} {W:World} {ti tp te ts:TypeId} {ms:Array (String×TypeId)} {f:Field} (hi:P.underlying ti=some (.interface ms)) (hrow:∀u,P.typeName? 3 u=some "*errors.errorString"→u=tp)
  (hp:P.underlying tp=some (.pointer te)) (he:P.underlying te=some (.struct #[f])) (hft:f.type=ts) (hfo:f.offset=0) (hs:P.underlying ts=some .string) (hc:P.cellsOf te=1) (hcs:P.cellsOf ts=1):
  ∀{laid:List (String×DataW Unit)} {ps:List MemPlace},DataW.LaidVars P W laid ps→(∀b off,MemPlace.cell b off∈ps→(∃c t,W.heap[b]? = some (.cells c t (0,0)))∧∀u v,W.cell? ⟨b,off,none⟩=some (.iface u v)→Value.okWide P W .any 0 u v)→
  ∀n text g,(n,DataW.iface "*errors.errorString" (.ptr (.agg [.lit (.string text)])))∈laid→P.globalNamed n=some g→(P.globals[g]?).map (·.type)=some ti→∃a s,W.cell? ⟨g,0,none⟩=some (.iface tp (.pointer (some a)))∧W.cell? a=some (.string s)∧s.data.toList=text∧∃c t,W.heap[a.block]? = some (.cells c t (0,0))
 | [],_,_,_,_,_,_,hm,_,_=>by cases hm
 | (n',d) :: r,ps,⟨g',t,cs,fuel,p,q,hg',ht',hv,hd,hr,e⟩,hrows,n,text,g,hm,hg,ht=>by
  subst e;rcases List.mem_cons.1 hm with hh | hm
  ·cases hh;obtain rfl:=bm (hg.symm.trans hg');obtain rfl:=bm (ht.symm.trans ht');obtain ⟨l⟩:=cs;have ok:∀u v,l= [.iface u v]→Value.okWide P W .any 0 u v:=fun u v e=>by
    subst e;exact (hrows g 0 (by simp [MemPlace.row])).2 u v (by simpa using BU hg hv 0)
   obtain ⟨a,s,rfl,h1,h2,_,rfl⟩:=errorString_of_trod hi hrow hp he hft hfo hs hc hcs hd ok;exact ⟨a,s,by simpa using BU hg hv 0,h1,h2,(hrows a.block a.off (by simp [MemPlace.row])).1⟩
  ·exact wI hi hrow hp he hft hfo hs hc hcs hr (fun b off hb=>hrows b off (uC _ hb)) n text g hm hg ht
theorem FN {P:Program} {f:FuncId} {fn:Func} {s:ChangeSpec} {c:OpenClaim} (l1:laidOutB P=true) (l2:mapsRowed P=true) (l3:(P.stops== [])=true) (l4:(P.stopKnobs== [])=true) (l5:P.stopsHeard=true) (l6:P.mayEnter=true)
  (l7:(c.lifted==P.liftsFinal)=true) (l8:(P.make==some c.make)=true) (l9:(c.plainKeys==P.plainKeys)=true)
  (a0:c.wf (OpenSpec.ofChange s)=true) (a1:(fn.params.all (P.readableRec ·) && namedTie P c.named s.vars && (c.stops== []) && (c.knobs== []))=true)
  (a2:(c.inPlace==P.inPlace f)=true) (a3:(c.unfollowed==P.unfollowed f)=true) (a4:(c.recurses==P.recurses f)=true) (a5:(c.named==P.varsNamed f)=true)
  (a6:((c.maps==(fn.params.toList++s.plain.varTypes P).any (P.mapsRec ·)) && (c.ifaces==(fn.params.toList++s.plain.varTypes P).any (P.ifacesRec ·)) && (c.mapsOut==P.mapsAmong fn.resultTypes.toList) &&
   (c.loops==(fn.params.toList++s.plain.varTypes P).any (P.loopsFrom ·)) && (c.wideKeys==(fn.params.toList++s.plain.varTypes P++fn.resultTypes.toList).any (P.wideKeysFrom ·)) &&
   s.vars.all (P.varReadable ·) && fn.resultTypes.all (fun t=>P.readableRec t && decide (t < P.types.size)) && (c.ifacesOut==fn.resultTypes.toList.any (P.ifacesRec ·)) && (c.loopsOut==fn.resultTypes.toList.any (P.loopsFrom ·)))=true)
  (a7:(c.shortTexts.isNone && (c.kinds==(if c.domain.isEmpty then [] else fn.params.toList.map fun t=>match P.underlying t with | some (.int k)=>some k | _=>none)) && (c.pinned==c.pinnedBy) &&
   (c.veiled==(fn.params.toList++s.plain.varTypes P++fn.resultTypes.toList).any (P.veiledRec ·)) && c.veiledFits P fn.params.toList (fn.params.toList++s.plain.varTypes P++fn.resultTypes.toList))=true):joinedFacts P f fn s c=true:=by
 simp only [aq] at a1 a6 a7;obtain ⟨⟨⟨b1,b2⟩,b3⟩,b4⟩:=a1;obtain ⟨⟨⟨⟨⟨⟨⟨⟨c1,c2⟩,c3⟩,c4⟩,c5⟩,c6⟩,c7⟩,c8⟩,c9⟩:=a6;obtain ⟨⟨⟨⟨d1,d2⟩,d3⟩,d4⟩,d5⟩:=a7;unfold joinedFacts;simp only [aq];exact ⟨⟨⟨⟨⟨⟨⟨⟨⟨⟨⟨⟨⟨⟨⟨⟨⟨⟨⟨⟨⟨⟨⟨⟨⟨⟨⟨⟨⟨⟨⟨a0,l1⟩,l2⟩,b1⟩,b2⟩,b3⟩,l3⟩,b4⟩,l4⟩,a2⟩,a3⟩,a4⟩,a5⟩,c1⟩,c2⟩,c3⟩,c4⟩,c5⟩,c6⟩,c7⟩,c8⟩,c9⟩,l9⟩,d1⟩,l5⟩,l6⟩,l7⟩,l8⟩,d2⟩,d3⟩,d4⟩,d5⟩
end Go.Lt
namespace Go.Proofs.YtclmdpamofdoiaaGreatDoor
open Go Go.Lt
set_option linter.unusedVariables false
theorem HH {α:Type} {cs:List α} (h:cs.length=4):∃a0 a1 a2 a3,cs= [a0,a1,a2,a3]:=by
 match cs,h with
 | [a0,a1,a2,a3],_=>exact ⟨_,_,_,_,rfl⟩
theorem HI {α:Type} {cs:List α} (h:cs.length=3):∃a0 a1 a2,cs= [a0,a1,a2]:=by
 match cs,h with
 | [a0,a1,a2],_=>exact ⟨_,_,_,rfl⟩
def K_3 (n:Int):Prop:=(Lit.int .i64 n).wf=true
theorem D_3:Rd Tryz.prog 3 (RI .i64) K_3:=Rd.int Tryz.underlying3 (by kernel_rfl)
def K_5 (n:Int):Prop:=(Lit.int .u8 n).wf=true
theorem D_5:Rd Tryz.prog 5 (RI .u8) K_5:=Rd.int Tryz.underlying5 (by kernel_rfl)
theorem HD (w:World):Rel (C0 w) ⟨[],[],[],[],[],[]⟩ (fun _ _=>[]):=
 ⟨⟨fun k x h=>by simp at h,fun _ _=>rfl⟩,⟨fun k x h=>by simp at h,fun _ _=>rfl⟩,⟨fun k x h=>by simp at h,fun _ _=>rfl⟩,⟨fun k x h=>by simp at h,fun _ _=>rfl⟩,⟨fun k x h=>by simp at h,fun _ _=>rfl⟩,⟨fun k x h=>by simp at h,fun _ _=>rfl⟩⟩
theorem GC: "*" ++ "errors.errorString" = "*errors.errorString" :=by decide
set_option maxRecDepth 100000 in
theorem Ce (u:TypeId) (h:Tryz.prog.typeName? 3 u=some "*errors.errorString"):u=350:=
 typeName_ptr_named (nm:= "errors.errorString") (by rw [GC]; kernel_rfl) (by kernel_rfl) (by decide) u (by rw [GC]; exact h)
set_option maxRecDepth 100000 in
theorem xp {W:World} {laid:List (String×DataW Unit)} (h:laidMetH Tryz.prog laid W) (hf:(laid.filter fun x=>x.2.handleName?.isSome)= []) (n:String) (text:List UInt8) (g:Nat)
  (hm:(n,DataW.iface "*errors.errorString" (.ptr (.agg [.lit (.string text)])))∈laid) (hg:Tryz.prog.globalNamed n=some g) (ht:(Tryz.prog.globals[g]?).map (·.type)=some 66):
  ∃a s,Im (C0 W) g 0 (.iface 350 (.pointer (some a)))∧W.cell? a=some (.string s)∧s.data.toList=text∧RE 350 144 (C0 W) (.iface 350 (.pointer (some a))) (.sent g):=by
 rw [GY hf] at h;obtain ⟨ps,hl,_,hr⟩:=h;obtain ⟨a,s,h1,h2,h3,cs,t,h4⟩:=wI Tryz.underlying66 Ce Tryz.underlying350 Tryz.underlying371 rfl rfl Tryz.underlying9 (by kernel_rfl) (by kernel_rfl) hl hr n text g hm hg ht;exact ⟨a,s,im0 h1,h2,h3,a,rfl,im0 h1,(Array.getElem?_eq_some_iff.1 h4).1,fun _=>id,cs,t,h4⟩
theorem FP {W:World} {n:List Nat} (tx:Nat→List UInt8) (h:∀g,g∈n→∃a s,Im (C0 W) g 0 (.iface 350 (.pointer (some a)))∧W.cell? a=some (.string s)∧s.data.toList=tx g∧RE 350 144 (C0 W) (.iface 350 (.pointer (some a))) (.sent g))
  (hd:∀g,g∈n→∀g',g'∈n→tx g=tx g'→g=g'):Gl n (C0 W):=by
 refine ⟨fun g hg=>?_,fun g g' hg hg' hne a h1 h2=>?_⟩
 ·obtain ⟨a,_,_,_,_,h4⟩:=h g hg;exact ⟨_,h4⟩
 ·obtain ⟨a1,s1,e1,e2,e3,_⟩:=h g hg;obtain ⟨a2,s2,f1,f2,f3,_⟩:=h g' hg';have q1:=e1.cell.symm.trans h1.cell;have q2:=f1.cell.symm.trans h2.cell;cases q1;cases q2;have q3:=e2.symm.trans f2;cases q3;exact hne (hd g hg g' hg' (e3.symm.trans f3))
end Go.Proofs.YtclmdpamofdoiaaGreatDoor
namespace Go.Lt
open Go.ChangeShapes Go.WideShapes Go.RowKit
def RdM (P:Program) (t:TypeId) {α:Type} (R:Rp α) (K:α→Prop):Prop:=
 P.cellsOf t=R.size∧∀{H:Type} {enc:TypeId×Value→H} {w:World} {sp:Nat→Bool} {held:Bool} {fuel:Nat} {cs:List Value} {x:DataW H×List MemPlace},
  DataW.trod enc P w 0 sp held fuel t cs=some x→(∀n∈x.1.weights P t,n≤reachBytes)→∃y,R.cells (C0 w) cs y∧K y
theorem Rd.m {P:Program} {t:TypeId} {α:Type} {R:Rp α} {K:α→Prop} (h:Rd P t R K):RdM P t R K:=⟨h.1,fun hd _=>h.2 hd⟩
theorem ud {H:Type} {P:Program} {e:TypeId}:∀{l:List (DataW H)} {i:Nat} {d:DataW H},l[i]? = some d→∀n∈d.weights P e,n∈DataW.weightsAll P e l
 | d0 :: l,0,d,h,n,hn=>by
  simp only [tu,aQ] at h;subst h;simp only [DataW.weightsAll,ut];exact Or.inl hn
 | d0 :: l,i+1,d,h,n,hn=>by
  simp only [E3] at h;simp only [DataW.weightsAll,ut];exact Or.inr (ud h n hn)
 | [],_,_,h,_,_=>by simp at h
theorem RdM.slice {P:Program} {t e:TypeId} {α:Type} {R:Rp α} {K:α→Prop} (ht:P.underlying t=some (.slice e)) (hc:P.cellsOf t=1) (h0:0 < R.size) (hb:0 < P.bytesOf e) (h:RdM P e R K):RdM P t (RL R) (fun xs=>xs.length≤reachBytes∧∀x∈xs,K x):=by
 refine ⟨hc,fun {H enc w sp held fuel cs x} hd hw=>?_⟩;rcases DataW.trod_slice ht hd with ⟨rfl,_⟩ | ⟨a,len,cap,elems,rest,n,_,rfl,hx,_,hl,hm,hlen,hel,_,_⟩
 ·exact ⟨[],⟨_,rfl,Sl.nl R _⟩,cw _,fun x hx=>by cases hx⟩
 ·subst hx;simp only [DataW.weights,ht] at hw;have hlr:len≤reachBytes:=by
   have h1:=hw _ (List.mem_cons_self ..);have h2:len≤((elems.map (·.1)).length+(rest.map (·.1)).length) * P.bytesOf e:=by
    rw [dh,hlen];exact dj (Nat.le_add_right _ _) (Nat.le_mul_of_pos_right _ hb)
   omega
  obtain ⟨b,o,s⟩:=a;have key:∀i,i < len→∃x,K x∧∃b' off l,(some ⟨b,o,s⟩:Option Addr)=some ⟨b',off,none⟩∧R.cells (C0 w) l x∧∀j u,l[j]? = some u→Im (C0 w) b' (off+i * R.size+j) u:=by
   intro i hi;have hs:s=none:=by
    have hE:=hel 0 (by omega);rw [ah (show 0 < elems.length by omega),E2] at hE;obtain ⟨cs,hcs,_⟩:=hE;obtain ⟨c1,c2⟩:=yP hcs;have hp:0 < cs.length:=by rw [c1,h.1]; exact h0
    have:=World.cell?_spot (c2 0 _ (ah hp));simpa [Addr.add] using this
   subst hs;have hE:=hel i hi;rw [ah (show i < elems.length by omega),E2] at hE;obtain ⟨cs,hcs,hr⟩:=hE;obtain ⟨c1,c2⟩:=yP hcs;have hget:(elems.map (·.1))[i]? = some elems[i].1:=by
    rw [bF,ah (show i < elems.length by omega)];rfl
   obtain ⟨x,hx,hk⟩:=h.2 hr fun n hn=>hw n (vS _ (fG _ (ud hget n hn)));refine ⟨x,hk,b,o,cs,rfl,hx,fun j u hu=>im0 ?_⟩;have:=c2 j u hu;rw [E7,E7,h.1] at this;exact this
  obtain ⟨xs,hxl,hxs⟩:=GR len key;subst hxl;refine ⟨xs,⟨_,rfl,some ⟨b,o,s⟩,cap,rfl,hl,hm,fun i x hx=>(hxs i x hx).2⟩,hlr,fun x hx=>?_⟩;obtain ⟨i,hi⟩:=List.mem_iff_getElem?.1 hx;exact (hxs i x hi).1
theorem RdM.field {P:Program} {H:Type} {enc:TypeId×Value→H} {w:World} {sp:Nat→Bool} {held:Bool} {n:Nat} {cs:List Value} {t:TypeId} {fs:Array Field} {xs:List (DataW H×List MemPlace)}
  (ht:P.underlying t=some (.struct fs)) (hw:∀m∈(DataW.agg (xs.map (·.1)):DataW H).weights P t,m≤reachBytes)
  (hf:∀(i:Nat) (f:Field),fs[i]? = some f→DataW.trod enc P w 0 sp held n f.type ((cs.drop f.offset).take (P.cellsOf f.type))=xs[i]?) (hx:xs.length=fs.size)
  (i:Nat) {f:Field} (hi:fs[i]? = some f) {α:Type} {R:Rp α} {K:α→Prop} (h:RdM P f.type R K):∃y,R.cells (C0 w) ((cs.drop f.offset).take R.size) y∧K y:=by
 have hlt:=(Array.getElem?_eq_some_iff.1 hi).1;have:=hf i f hi;have hxi:=ah (show i < xs.length by omega);rw [hxi,h.1] at this;refine h.2 this fun m hm=>hw m ?_;simp only [DataW.weights,ht];refine DataW.weights_mem_each (j:=i) (t:=f.type) (d:=xs[i].1) ?_ ?_ m hm
 ·rw [bF,Gz,hi];rfl
 ·rw [bF,hxi];rfl
end Go.Lt
namespace Go.Lt
theorem Ds {P:Program} {H:Type} {enc:TypeId×Value→H} {w:World} {sp:Nat→Bool} {held:Bool} {t:TypeId} {v:Value} {d:DataW H} {p:List MemPlace} {α:Type} {R:Rp α} {K:α→Prop} {fs:Array Field} (ht:P.underlying t=some (.struct fs)) (h:RdM P t R K) (hok:Value.okWide P w .any 0 t v) (hd:DataW.Trod enc P w 0 sp held t v d p)
  (hw:∀n∈d.weights P t,n≤reachBytes):∃cs x,v= .agg cs∧R.cells (C0 w) cs.toList x∧K x:=by
 obtain ⟨fuel,hd⟩:=hd;obtain ⟨x,hx,hk⟩:=h.2 hd hw;unfold Value.okWide at hok;rw [ht] at hok;obtain ⟨cs,rfl,_⟩:=hok;exact ⟨cs,x,rfl,hx,hk⟩
end Go.Lt
namespace Go.Proofs.YtclmdpamofdoiaaGreatDoor
open Go Go.Lt Go.ChangeShapes Go.WideShapes Go.RowKit
set_option maxRecDepth 100000
def E5 (xs:List Int):Prop:=xs.length≤reachBytes∧∀x∈xs,K_5 x
theorem Hu:RdM Tryz.prog 33 (RL (RI .u8)) E5:=RdM.slice Tryz.underlying33 (by kernel_rfl) (by decide) (by rw [show Tryz.prog.bytesOf 5=1 by kernel_rfl]; decide) D_5.m
def E4 (x:aS):Prop:=K_3 x.Kind∧K_3 x.A∧K_3 x.B∧E5 x.Bytes
theorem Ht:RdM Tryz.prog 38 io E4:=by
 refine ⟨by kernel_rfl,fun {H enc w sp held fuel cs x} h hw=>?_⟩;obtain ⟨xs,n,rfl,rfl,hl,hn,hf⟩:=Ia Tryz.underlying38 h;replace hl:=hl.trans (show Tryz.prog.cellsOf 38=4 by kernel_rfl);obtain ⟨a0,a1,a2,a3,rfl⟩:=HH hl;obtain ⟨y0,e0,k0⟩:=RdM.field Tryz.underlying38 hw hf hn 0 rfl D_3.m;have e0: [a0]= [.int .i64 y0]:=e0;cases e0;obtain ⟨y1,e1,k1⟩:=RdM.field Tryz.underlying38 hw hf hn 1 rfl D_3.m;have e1: [a1]= [.int .i64 y1]:=e1;cases e1;obtain ⟨y2,e2,k2⟩:=RdM.field Tryz.underlying38 hw hf hn 2 rfl D_3.m;have e2: [a2]= [.int .i64 y2]:=e2;cases e2;obtain ⟨y3,e3,k3⟩:=RdM.field Tryz.underlying38 hw hf hn 3 rfl Hu;obtain ⟨v3,e3,s3⟩:=e3;have e3: [a3]= [v3]:=e3;cases e3;exact ⟨⟨y0,y1,y2,y3⟩,⟨_,rfl,s3⟩,k0,k1,k2,k3⟩
def E6 (xs:List aS):Prop:=xs.length≤reachBytes∧∀x∈xs,E4 x
theorem Hv:RdM Tryz.prog 22 (RL io) E6:=RdM.slice Tryz.underlying22 (by kernel_rfl) (by decide) (by rw [show Tryz.prog.bytesOf 38=48 by kernel_rfl]; decide) Ht
def Hr (x:bb):Prop:=K_3 x.W∧K_3 x.H∧E6 x.Ops
theorem Hs:RdM Tryz.prog 79 uB Hr:=by
 refine ⟨by kernel_rfl,fun {H enc w sp held fuel cs x} h hw=>?_⟩;obtain ⟨xs,n,rfl,rfl,hl,hn,hf⟩:=Ia Tryz.underlying79 h;replace hl:=hl.trans (show Tryz.prog.cellsOf 79=3 by kernel_rfl);obtain ⟨a0,a1,a2,rfl⟩:=HI hl;obtain ⟨y0,e0,k0⟩:=RdM.field Tryz.underlying79 hw hf hn 0 rfl D_3.m;have e0: [a0]= [.int .i64 y0]:=e0;cases e0;obtain ⟨y1,e1,k1⟩:=RdM.field Tryz.underlying79 hw hf hn 1 rfl D_3.m;have e1: [a1]= [.int .i64 y1]:=e1;cases e1;obtain ⟨y2,e2,k2⟩:=RdM.field Tryz.underlying79 hw hf hn 2 rfl Hv;obtain ⟨v2,e2,s2⟩:=e2;have e2: [a2]= [v2]:=e2;cases e2;exact ⟨⟨y0,y1,y2⟩,⟨_,rfl,s2⟩,k0,k1,k2⟩
end Go.Proofs.YtclmdpamofdoiaaGreatDoor
namespace Go.Proofs.YtclmdpamofdoiaaGreatDoor
structure Sg where
 some:Bool
 last:Int
 pict:Int
 conj:Int
 odd:Bool
def sg0:Sg:=⟨false,0,0,0,false⟩
def nxP (s:Int) (p:aw):Int:=if p.Pict=true then 1 else if s=1∧p.Break=4 then 1 else if s=1∧p.Break=5 then 2 else 0
def nxC (s:Int) (p:aw):Int:=if p.Conj=1 then 1 else if s=0 then 0 else if p.Conj=2 then 2 else if p.Conj=3 then s else 0
def sgN (s:Sg) (p:aw):Sg:=⟨true,p.Break,nxP s.pict p,nxC s.conj p,p.Break==6 && !(s.some && s.last==6 && s.odd)⟩
def sgF (l:List aw):Sg:=l.foldl sgN sg0
def sgJ (pj:Int→Int→Int) (s:Sg) (p:aw):Bool:=
 s.some && ((p.Conj==1 && s.conj==2) || (p.Pict && s.pict==2) || pj s.last p.Break==1 || (pj s.last p.Break==2 && s.last==6 && s.odd))
def cj:List aw→Nat→Bool
 | [],_=>false
 | x :: l,n=>if x.Conj=1 then decide (0 < n) else if x.Conj=2 then cj l (n+1) else if x.Conj=3 then cj l n else false
def pk:List aw→Bool
 | []=>false
 | x :: l=>if x.Pict=true then true else if x.Break=4 then pk l else false
def ri:List aw→Nat
 | []=>0
 | x :: l=>if x.Break=6 then ri l+1 else 0
def rj (pj:Int→Int→Int) (l:List aw) (p:aw):Bool:=
 match l with
 | []=>false
 | a :: l'=>pj a.Break p.Break==1 || (p.Conj==1 && cj (a :: l') 0) || (p.Pict && (!a.Pict && a.Break==5 && pk l')) || (pj a.Break p.Break==2 && p.Break==6 && ri (a :: l') % 2==1)
def pst:List aw→Int
 | []=>0
 | x :: l=>nxP (pst l) x
def cst:List aw→Int
 | []=>0
 | x :: l=>nxC (cst l) x
def hb:List aw→Int
 | []=>0
 | x :: _=>x.Break
def od:List aw→Bool
 | []=>false
 | x :: l=>x.Break==6 && !(!l.isEmpty && hb l==6 && od l)
theorem Fl (l:List aw):sgF l=⟨!l.reverse.isEmpty,hb l.reverse,pst l.reverse,cst l.reverse,od l.reverse⟩:=by
 have key:∀r:List aw,sgF r.reverse=⟨!r.isEmpty,hb r,pst r,cst r,od r⟩:=by
  intro r
  induction r with
  | nil=>rfl
  | cons x r ih=>
   unfold sgF at ih⊢;rw [HY,lE,ih];rfl
 have:=key l.reverse
 rwa [Ho] at this
theorem Ft (l:List aw):pk l=decide (pst l=1):=by
 induction l with
 | nil=>rfl
 | cons x l ih=>
  unfold pk pst nxP;by_cases h1:x.Pict=true
  ·rw [ae h1,ae h1]; rfl
  ·rw [af h1,af h1];by_cases h2:x.Break=4
   ·rw [ae h2,ih];by_cases h3:pst l=1
    ·rw [ae ⟨h3,h2⟩]; simp [h3]
    ·rw [af (fun q=>h3 q.1),af (fun q=>h3 q.1)]; simp [h3]
   ·rw [af h2,af (fun q=>h2 q.2)];split <;> rfl
theorem F5 (l:List aw) (n:Nat):cj l n=decide (cst l=2∨(cst l≠0∧0 < n)):=by
 induction l generalizing n with
 | nil=>rfl
 | cons x l ih=>
  unfold cj cst nxC;by_cases h1:x.Conj=1
  ·rw [ae h1,ae h1];simp
  ·rw [af h1,af h1];by_cases h2:x.Conj=2
   ·rw [ae h2,ih];by_cases h0:cst l=0
    ·rw [ae h0]; simp [h0]
    ·rw [af h0,ae h2]; simp [h0]
   ·rw [af h2];by_cases h3:x.Conj=3
    ·rw [ae h3,ih];by_cases h0:cst l=0
     ·rw [ae h0,h0]
     ·rw [af h0,af h2,ae h3]
    ·rw [af h3];by_cases h0:cst l=0
     ·rw [ae h0]; rfl
     ·rw [af h0,af h2,af h3]; rfl
theorem GI (l:List aw):od l=(ri l % 2==1):=by
 induction l with
 | nil=>rfl
 | cons x l ih=>
  unfold od ri;by_cases h:x.Break=6
  ·rw [ae h,ih];have hb':(x.Break==6)=true:=by simp [h]
   rw [hb',dz]
   cases l with
   | nil=>rfl
   | cons y l=>
    by_cases h2:y.Break=6
    ·have e:(hb (y :: l)==6)=true:=by simp [hb,h2]
     rw [e];simp only [H0,eA,dz];rw [ck];simp only [dB,eR,aL];omega
    ·have e:(hb (y :: l)==6)=false:=by simp [hb,h2]
     rw [e];simp only [DD,mb,eA];have:ri (y :: l)=0:=by unfold ri; rw [af h2]
     rw [this];rfl
  ·rw [af h];simp [h]
theorem Fk (pj:Int→Int→Int) (hp:∀a b,pj a b=2→(a=6↔b=6)) (l:List aw) (p:aw):sgJ pj (sgF l) p=rj pj l.reverse p:=by
 rw [Fl];generalize l.reverse=r
 cases r with
 | nil=>rfl
 | cons a r=>
  unfold sgJ rj;simp only [H0,eA,dz,hb];rw [F5,Ft,←GI];have e1:(cst (a :: r)==2)=decide (cst (a :: r)=2∨(cst (a :: r)≠0∧0 < 0)):=by
   rw [ck]; simp
  have e2:(pst (a :: r)==2)=(!a.Pict && a.Break==5 && decide (pst r=1)):=by
   rw [ck];simp only [aL,aq,dB,am];show nxP (pst r) a=2↔_;unfold nxP;by_cases h1:a.Pict=true
   ·rw [ae h1,h1]; simp
   ·rw [af h1];simp only [tw] at h1;by_cases h2:pst r=1∧a.Break=4
    ·rw [ae h2]; simp [h1,h2]
    ·rw [af h2];by_cases h3:pst r=1∧a.Break=5
     ·rw [ae h3]; simp [h1,h3]
     ·rw [af h3];simp only [h1];constructor
      ·intro e; exact absurd e (by decide)
      ·rintro ⟨⟨_,q1⟩,q2⟩; exact absurd ⟨q2,q1⟩ h3
  have e3:(pj a.Break p.Break==2 && a.Break==6 && od (a :: r))=(pj a.Break p.Break==2 && p.Break==6 && od (a :: r)):=by
   by_cases h:pj a.Break p.Break=2
   ·have e6:(a.Break==6)=(p.Break==6):=by
     rw [ck,aL,aL];exact hp _ _ h
    rw [e6]
   ·have e7:(pj a.Break p.Break==2)=false:=by rw [eR]; exact h
    rw [e7];rfl
  rw [e1,e2,e3]
  cases (p.Conj==1 && decide (cst (a :: r)=2∨(cst (a :: r)≠0∧0 < 0))) <;> cases (p.Pict && (!a.Pict && a.Break==5 && decide (pst r=1))) <;> cases (pj a.Break p.Break==1) <;> rfl
structure Sq (s t:Sg):Prop where
 pict:s.pict=t.pict
 conj:s.conj=t.conj
 odd:s.odd=t.odd
theorem Fj {s t:Sg} (h:Sq s t) (h1:s.odd=true→s.some=true∧s.last=6) (h2:t.odd=true→t.some=true∧t.last=6) (p:aw):sgN s p=sgN t p:=by
 unfold sgN;rw [h.pict,h.conj]
 congr 2
 have:(s.some && s.last==6 && s.odd)=(t.some && t.last==6 && t.odd):=by
  have ho:=h.odd;rw [ck];simp only [aq,aL];constructor
  ·rintro ⟨_,q⟩;have:=h2 (ho▸ q);exact ⟨this,ho▸ q⟩
  ·rintro ⟨_,q⟩;have:=h1 (ho▸ q);exact ⟨this,ho▸ q⟩
 rw [this]
end Go.Proofs.YtclmdpamofdoiaaGreatDoor
namespace Go.Proofs.YtclmdpamofdoiaaGreatDoor
def Dx (c:List (List Int)) (r:Int):List (List Int):=c.dropLast++ [c.getLast?.getD []++ [r]]
theorem oL (c:List (List Int)) (x:List Int) (r:Int):Dx (c++ [x]) r=c++ [x++ [r]]:=by
 unfold Dx;simp
section
variable (pj:Int→Int→Int) (pr:Int→aw)
def clS (l:List Int):List (List Int)×Sg:=l.foldl (fun a r=>(if sgJ pj a.2 (pr r)=true then Dx a.1 r else a.1++ [[r]],sgN a.2 (pr r))) ([],sg0)
def cls (l:List Int):List (List Int):=(clS pj pr l).1
def jn (l:List Int) (r:Int):Bool:=sgJ pj (sgF (l.map pr)) (pr r)
theorem uQ (l:List aw) (x:aw):sgF (l++ [x])=sgN (sgF l) x:=by
 unfold sgF;rw [lE];rfl
theorem Hi (l:List Int):(clS pj pr l).2=sgF (l.map pr):=by
 have key:∀(l:List Int) (a:List (List Int)×Sg),(l.foldl (fun a r=>(if sgJ pj a.2 (pr r)=true then Dx a.1 r else a.1++ [[r]],sgN a.2 (pr r))) a).2=(l.map pr).foldl sgN a.2:=by
  intro l
  induction l with
  | nil=>intro a; rfl
  | cons r l ih=>intro a; rw [Ir,ih,ss,Ir]
 exact key l _
theorem AG:cls pj pr []= []:=rfl
theorem tc (l:List Int) (r:Int):cls pj pr (l++ [r])=if jn pj pr l r=true then Dx (cls pj pr l) r else cls pj pr l++ [[r]]:=by
 unfold cls jn;rw [←Hi pj];unfold clS;rw [lE];rfl
theorem wJ {l:List Int} {r:Int} (h:jn pj pr l r=true):l≠ []:=by
 rintro rfl;simp [jn,sgJ,sgF,sg0] at h
end
theorem sH {P:List Int→Prop} (h0:P []) (h1:∀l r,P l→P (l++ [r])) (l:List Int):P l:=by
 have key:∀l:List Int,P l.reverse:=by
  intro l
  induction l with
  | nil=>exact h0
  | cons r l ih=>rw [HY]; exact h1 _ _ ih
 have:=key l.reverse
 rwa [Ho] at this
theorem jy {α:Type} {l:List α} (h:l≠ []):∃l0 x,l=l0++ [x]:=⟨l.dropLast,l.getLast h,(List.dropLast_concat_getLast h).symm⟩
variable {pj:Int→Int→Int} {pr:Int→aw}
theorem qx (l:List Int):(cls pj pr l).flatten=l∧(∀c∈cls pj pr l,c≠ [])∧(l≠ []→cls pj pr l≠ []):=by
 refine sH (P:=fun l=>(cls pj pr l).flatten=l∧(∀c∈cls pj pr l,c≠ [])∧(l≠ []→cls pj pr l≠ [])) ⟨rfl,fun c hc=>by simp [AG] at hc,fun h=>absurd rfl h⟩ (fun l r ih=>?_) l;obtain ⟨h1,h2,h3⟩:=ih;rw [tc];split
 ·rename_i hj
  obtain ⟨c0,x,e⟩:=jy (h3 (wJ pj pr hj));rw [e] at h1 h2⊢;rw [oL];refine ⟨?_,fun c hc=>?_,fun _=>by simp⟩
  ·rw [←h1]; simp
  ·rcases List.mem_append.1 hc with hc | hc
   ·exact h2 c (fG _ hc)
   ·rw [List.mem_singleton.1 hc]; simp
 ·refine ⟨by rw [wk,h1]; simp,fun c hc=>?_,fun _=>by simp⟩;rcases List.mem_append.1 hc with hc | hc
  ·exact h2 c hc
  ·rw [List.mem_singleton.1 hc]; simp
theorem yO {l:List Int} {x:Int} {c0:List (List Int)} {c:List Int} (h:cls pj pr (l++ [x])=c0++ [c]):∃c',c=c'++ [x]:=by
 obtain ⟨h1,h2,_⟩:=qx (pj:=pj) (pr:=pr) (l++ [x]);rw [h] at h1 h2;obtain ⟨c',y,rfl⟩:=jy (h2 c (by simp));refine ⟨c',?_⟩;rw [wk] at h1;simp only [lF,List.flatten_nil,eB] at h1;rw [←aK] at h1;have:=Gq h1 rfl;rw [List.singleton_inj.1 this]
section
variable (pj:Int→Int→Int) (pr:Int→aw)
def sts (l:List Int):List Nat:=(List.range l.length).filter fun i=> !jn pj pr (l.take i) (l.getD i 0)
theorem uP (l:List Int) (r:Int):sts pj pr (l++ [r])=sts pj pr l++(if jn pj pr l r=true then [] else [l.length]):=by
 unfold sts;rw [aA,Gv,pv,List.filter_append]
 congr 1
 ·refine List.filter_congr fun i hi=>?_;have hi:=List.mem_range.1 hi;rw [cZ (by omega)]
  congr 2
  rw [av,av,aI hi]
 ·rw [List.filter_cons,List.filter_nil];have e1:(l++ [r]).take l.length=l:=by simp
  have e2:(l++ [r]).getD l.length 0=r:=by simp
  rw [e1,e2]
  cases jn pj pr l r <;> rfl
end
theorem zo {l:List Int} {i:Nat} (h:i∈sts pj pr l):i < l.length:=by
 unfold sts at h;exact List.mem_range.1 (List.mem_filter.1 h).1
theorem Fc {l:List Int} (h:l≠ []):sts pj pr l≠ []:=by
 refine sH (P:=fun l=>l≠ []→sts pj pr l≠ []) (fun h=>absurd rfl h) (fun l r ih _=>?_) l h;rw [uP];split
 ·rename_i hj
  intro e;exact ih (wJ pj pr hj) (by simpa using e)
 ·simp
def slx (l:List Int) (a b:Nat):List Int:=(l.drop a).take (b - a)
def pcs (l:List Int) (a:List Nat):List (List Int):=(List.range (a.length - 1)).map fun i=>slx l (a.getD i 0) (a.getD (i+1) 0)
theorem vf (l:List Int) (B:List Nat) (a b:Nat):pcs l (B++ [a]++ [b])=pcs l (B++ [a])++ [slx l a b]:=by
 unfold pcs;have e1:(B++ [a]++ [b]).length - 1=B.length+1:=by simp
 have e2:(B++ [a]).length - 1=B.length:=by simp
 rw [e1,e2,pv,bO]
 congr 1
 ·refine du fun i hi=>?_;have hi:=List.mem_range.1 hi;have g:∀j,j < B.length+1→(B++ [a]++ [b]).getD j 0=(B++ [a]).getD j 0:=fun j hj=>by
   rw [av,av,aI (by simp; omega)]
  rw [g i (by omega),g (i+1) (by omega)]
 ·simp
theorem DL {l:List Int} {a b:Nat} (h:b≤l.length) (r:List Int):slx (l++r) a b=slx l a b:=by
 unfold slx;rcases aN a l.length with ha | ha
 ·rw [ir (by omega),cZ (by simp; omega)]
 ·rw [show b - a=0 by omega,ez,ez]
theorem Aq {l:List Int} {A:List Nat} (h:∀a∈A,a≤l.length) (r:List Int):pcs (l++r) A=pcs l A:=by
 unfold pcs;refine du fun i hi=>?_;have hi:=List.mem_range.1 hi;refine DL ?_ r;rw [av,ah (by omega)];exact h _ (aH _)
theorem xX {l:List Int} {a:Nat} (h:a≤l.length) (r:Int):slx (l++ [r]) a (l.length+1)=slx l a l.length++ [r]:=by
 unfold slx;rw [ir h,aC (by simp; omega),aC (by simp)]
theorem D3 (l:List Int):pcs l (sts pj pr l++ [l.length])=cls pj pr l:=by
 refine sH (P:=fun l=>pcs l (sts pj pr l++ [l.length])=cls pj pr l) rfl (fun l r ih=>?_) l;have hle:∀a∈sts pj pr l++ [l.length],a≤l.length:=fun a ha=>by
  rcases List.mem_append.1 ha with ha | ha
  ·exact uc (zo ha)
  ·rw [List.mem_singleton.1 ha]; exact az _
 rw [tc,uP,aA,Gv];split
 ·rename_i hj
  obtain ⟨B,a,e⟩:=jy (Fc (pj:=pj) (pr:=pr) (wJ pj pr hj));rw [e] at ih hle⊢;rw [eB,vf,←ih,vf,oL,xX (hle a (by simp)),Aq (fun x hx=>hle x (fG _ hx))]
 ·rw [vf,Aq hle,ih,xX (az _)];simp [slx]
structure Sil (pj:Int→Int→Int) (pr:Int→aw) (sil:Int→Bool):Prop where
 s:∀r,sil r=true→((pr r).Break=1∨(pr r).Break=2∨(pr r).Break=3)∧(pr r).Pict=false∧(pr r).Conj=0
 ja:∀a b,(a=1∨a=2∨a=3)→pj a b≠0→a=1∧b=2
 jb:∀a b,(b=1∨b=2∨b=3)→pj a b≠0→a=1∧b=2
 b:∀r,(pr r).Break=1∨(pr r).Break=2→sil r=true
variable {sil:Int→Bool}
theorem Sil.state (h:Sil pj pr sil) (l:List Int) {x:Int} (hx:sil x=true):sgF ((l++ [x]).map pr)=⟨true,(pr x).Break,0,0,false⟩:=by
 obtain ⟨h1,h2,h3⟩:=h.s x hx;rw [bO,xM,uQ];unfold sgN nxP nxC;rw [h2,h3,af (by simp),af (by omega),af (by omega),af (by omega)]
 congr 1
 ·split <;> rfl
 ·have e:((pr x).Break==6)=false:=by rw [eR]; omega
  rw [e,mb]
theorem Sil.no (h:Sil pj pr sil) (l:List Int) {x r:Int} (hx:sil x=true) (hr:sil r=false):jn pj pr (l++ [x]) r=false:=by
 obtain ⟨h1,_,_⟩:=h.s x hx;unfold jn;rw [h.state l hx];have hz:pj (pr x).Break (pr r).Break=0:=Classical.byContradiction fun hne=>by
  have:=h.b r (.inr (h.ja _ _ h1 hne).2);rw [hr] at this;cases this
 simp [sgJ,hz]
theorem Sil.new (h:Sil pj pr sil) (l:List Int) {x:Int} (hx:sil x=true) (p:aw):sgN (sgF ((l++ [x]).map pr)) p=sgN sg0 p:=by
 rw [h.state l hx];exact Fj (s:=⟨true,(pr x).Break,0,0,false⟩) (t:=sg0) ⟨rfl,rfl,rfl⟩ (fun e=>by simp at e) (fun e=>by simp [sg0] at e) p
theorem Sil.yes (h:Sil pj pr sil) {l:List Int} {r:Int} (hr:sil r=true) (hj:jn pj pr l r=true):∃l0 x,l=l0++ [x]∧sil x=true:=by
 obtain ⟨l0,x,rfl⟩:=jy (wJ pj pr hj);refine ⟨l0,x,rfl,?_⟩;obtain ⟨h1,h2,h3⟩:=h.s r hr;unfold jn at hj;rw [bO,xM,uQ] at hj;have hl:(sgN (sgF (l0.map pr)) (pr x)).last=(pr x).Break:=rfl;unfold sgJ at hj;rw [h2,h3,hl] at hj;have hz:pj (pr x).Break (pr r).Break≠0:=fun e=>by
  rw [e] at hj;simp at hj
 exact h.b x (.inl (h.jb _ _ h1 hz).1)
theorem Sil.all (h:Sil pj pr sil) (l:List Int):∀c∈cls pj pr l,(∀x∈c,sil x=true)∨∀x∈c,sil x=false:=by
 refine sH (P:=fun l=>∀c∈cls pj pr l,(∀x∈c,sil x=true)∨∀x∈c,sil x=false) (fun c hc=>by simp [AG] at hc) (fun l r ih=>?_) l;rw [tc];split
 ·rename_i hj
  obtain ⟨l0,x,rfl⟩:=jy (wJ pj pr hj);obtain ⟨c0,c,e⟩:=jy ((qx (pj:=pj) (pr:=pr) (l0++ [x])).2.2 (by simp));obtain ⟨c',rfl⟩:=yO e;rw [e] at ih⊢;rw [oL];intro d hd;rcases List.mem_append.1 hd with hd | hd
  ·exact ih d (fG _ hd)
  ·rw [List.mem_singleton.1 hd];have hc:=ih (c'++ [x]) (by simp)
   cases hr:sil r with
   | true=>
    obtain ⟨l1,y,e1,hy⟩:=h.yes hr hj;have:x=y:=List.singleton_inj.1 (Gq e1 rfl);subst this
    left
    rcases hc with hc | hc
    ·intro z hz;rcases List.mem_append.1 hz with hz | hz
     ·exact hc z hz
     ·rw [List.mem_singleton.1 hz]; exact hr
    ·have:=hc x (by simp);rw [hy] at this;cases this
   | false=>
    right
    rcases hc with hc | hc
    ·have:=h.no l0 (hc x (by simp)) hr;rw [this] at hj;cases hj
    ·intro z hz;rcases List.mem_append.1 hz with hz | hz
     ·exact hc z hz
     ·rw [List.mem_singleton.1 hz]; exact hr
 ·intro d hd;rcases List.mem_append.1 hd with hd | hd
  ·exact ih d hd
  ·rw [List.mem_singleton.1 hd]
   cases hr:sil r with
   | true=>left; intro z hz; rw [List.mem_singleton.1 hz]; exact hr
   | false=>right; intro z hz; rw [List.mem_singleton.1 hz]; exact hr
end Go.Proofs.YtclmdpamofdoiaaGreatDoor
namespace Go.Lt
theorem aF {n:Int} (h: -9223372036854775808≤n∧n≤9223372036854775807):w64 n=n:=by
 unfold w64;rw [Ad];omega
theorem wR {n:Int} (h: -2147483648≤n∧n≤2147483647):w32 n=n:=by
 unfold w32;rw [IntKind.wrap_i32];omega
theorem bsm {α β:Type} (a:α) (f:α→Option β):(some a).bind f=f a:=by simp
theorem kS {σ τ:Type} {step:σ→Option (σ ⊕ τ)} (Inv:σ→Prop) (μ:σ→Nat) (post:τ→Prop)
  (h:∀s,Inv s→(∃s',step s=some (.inl s')∧Inv s'∧μ s' < μ s)∨∃t,step s=some (.inr t)∧post t):
  ∀(fuel:Nat) (s:σ),Inv s→μ s < fuel→∃t,cM fuel step s=some t∧post t:=by
 intro fuel
 induction fuel with
 | zero=>intro s _ hm; omega
 | succ k ih=>
  intro s hs hm;rcases h s hs with ⟨s',h1,h2,h3⟩ | ⟨t,h1,h2⟩
  ·obtain ⟨t,h4,h5⟩:=ih s' h2 (by omega);exact ⟨t,by simp [cM,h1,h4],h5⟩
  ·exact ⟨t,by simp [cM,h1],h2⟩
theorem oV {σ τ:Type} {step:σ→Option (σ ⊕ τ)} (Inv:σ→Prop) (μ:σ→Nat) {t:τ}
  (h:∀s,Inv s→(∃s',step s=some (.inl s')∧Inv s'∧μ s' < μ s)∨step s=some (.inr t)) {fuel:Nat} {s:σ} (h0:Inv s) (hm:μ s < fuel):cM fuel step s=some t:=by
 obtain ⟨t',h1,h2⟩:=kS Inv μ (fun x=>x=t) (fun s hs=>(h s hs).imp id fun h=>⟨t,h,rfl⟩) fuel s h0 hm;rw [h1,h2]
theorem bz (a b:Bool):orE a (some b)=some (a || b):=by cases a <;> rfl
theorem aY (a b:Bool):bV a (some b)=some (a && b):=by cases a <;> rfl
theorem yo (x:Option Bool):orE true x=some true:=rfl
theorem gn (x:Option Bool):orE false x=x:=rfl
theorem iR (x:Option Bool):bV true x=x:=rfl
theorem ik (x:Option Bool):bV false x=some false:=rfl
theorem uJ {α:Type} (xs:List α) (i:Nat):idx xs (i:Int)=xs[i]? :=by
 unfold idx;rw [ae (HT i)];rfl
theorem bp {α:Type} {xs:List α} {i:Nat} (h:i < xs.length):idx xs (i:Int)=some xs[i]:=by
 rw [uJ,ah h]
theorem kR {α:Type} {xs:List α} {i:Nat} (h:i < xs.length) (x:α):oQ xs (i:Int) x=some (xs.set i x):=by
 unfold oQ;rw [ae ⟨HT i,by omega⟩];rfl
theorem cR {α:Type} {xs ys:List α} (h:xs.length+ys.length≤1099511627776):app xs ys=some (xs++ys):=by
 unfold app far;rw [ae h]
theorem nQ {α:Type} {n:Int} (x:α) (h:0≤n∧n≤1099511627776):rep n x=some (List.replicate n.toNat x):=by
 unfold rep far;rw [ae (by omega)]
theorem nP {α:Type} {xs:List α} {i j:Nat} (h:i≤j) (h2:j≤xs.length):slc xs i j=some ((xs.drop i).take (j - i)):=by
 unfold slc;rw [ae (by omega)]
 congr 2
 omega
theorem eX (x y:Int):aE x y=max x y:=by unfold aE; split <;> omega
theorem dx (x y:Int):aB x y=min x y:=by unfold aB; split <;> omega
theorem rT {τ:Type} {step:Int→Option (Int ⊕ τ)} {n:Nat} (hn:n≤9223372036854775807) (post:τ→Prop) (Inv:Nat→Prop) (h0:Inv 0)
  (h:∀i:Nat,i < n→Inv i→(step i=some (.inl ((i+1:Nat):Int))∧Inv (i+1))∨∃t,step i=some (.inr t)∧post t)
  (hend:Inv n→∃t,step n=some (.inr t)∧post t):∃t,cM (((n:Int) - 0).toNat+1) step 0=some t∧post t:=by
 refine kS (fun s:Int=>∃i:Nat,s=(i:Int)∧i≤n∧Inv i) (fun s:Int=>n - s.toNat) post (fun s ⟨i,hs,hi,hI⟩=>?_) _ _ ⟨0,rfl,cw _,h0⟩ (by simp);subst hs;rcases aN i n with hlt | hge
 ·rcases h i hlt hI with ⟨h1,h2⟩ | h1
  ·exact .inl ⟨_,h1,⟨i+1,rfl,hlt,h2⟩,by simp; omega⟩
  ·exact .inr h1
 ·obtain rfl:i=n:=by omega
  exact .inr (hend hI)
theorem eK {σ τ:Type} {step:σ→Option (σ ⊕ τ)} {n:Nat} (Inv:Nat→σ→Prop) (post:τ→Prop)
  (h:∀i s,i < n→Inv i s→(∃s',step s=some (.inl s')∧Inv (i+1) s')∨∃t,step s=some (.inr t)∧post t)
  (hend:∀s,Inv n s→∃t,step s=some (.inr t)∧post t) {fuel:Nat} {s:σ} (h0:Inv 0 s) (hf:n < fuel):∃t,cM fuel step s=some t∧post t:=by
 have key:∀fuel i s,i≤n→n - i < fuel→Inv i s→∃t,cM fuel step s=some t∧post t:=by
  intro fuel
  induction fuel with
  | zero=>intro i s _ hm; omega
  | succ k ih=>
   intro i s hi hm hs;rcases aN i n with hlt | hge
   ·rcases h i s hlt hs with ⟨s',h1,h2⟩ | ⟨t,h1,h2⟩
    ·obtain ⟨t,h4,h5⟩:=ih (i+1) s' hlt (by omega) h2;exact ⟨t,by simp [cM,h1,h4],h5⟩
    ·exact ⟨t,by simp [cM,h1],h2⟩
   ·obtain rfl:i=n:=by omega
    obtain ⟨t,h1,h2⟩:=hend s hs;exact ⟨t,by simp [cM,h1],h2⟩
 exact key fuel 0 s (cw _) (by omega) h0
theorem xG {α β:Type} {x:Option α} {k:α→Option β} {a:α} {r:Option β} (h:x=some a) (h2:k a=r):x.bind k=r:=by rw [h]; exact h2
theorem ly {σ τ β:Type} {step:σ→Option (σ ⊕ τ)} {n:Nat} (Inv:Nat→σ→Prop) (post:τ→Prop) {fuel:Nat} {s:σ} {k:τ→Option β} {r:Option β}
  (h:∀i s,i < n→Inv i s→(∃s',step s=some (.inl s')∧Inv (i+1) s')∨∃t,step s=some (.inr t)∧post t)
  (hend:∀s,Inv n s→∃t,step s=some (.inr t)∧post t) (h0:Inv 0 s) (hf:n < fuel) (hk:∀t,post t→k t=r):(cM fuel step s).bind k=r:=by
 obtain ⟨t,h1,h2⟩:=eK Inv post h hend h0 hf;rw [h1];exact hk t h2
theorem qU {σ τ β:Type} {step:σ→Option (σ ⊕ τ)} {n:Nat} (Inv:Nat→σ→Prop) (post:τ→Prop) {fuel:Nat} {s:σ} {k:τ→Option β} {p:β→Prop}
  (h:∀i s,i < n→Inv i s→(∃s',step s=some (.inl s')∧Inv (i+1) s')∨∃t,step s=some (.inr t)∧post t)
  (hend:∀s,Inv n s→∃t,step s=some (.inr t)∧post t) (h0:Inv 0 s) (hf:n < fuel) (hk:∀t,post t→∃r,k t=some r∧p r):∃r,(cM fuel step s).bind k=some r∧p r:=by
 obtain ⟨t,h1,h2⟩:=eK Inv post h hend h0 hf;rw [h1];exact hk t h2
theorem vm {α τ:Type} {step:List α×Int→Option (List α×Int ⊕ τ)} {n fuel:Nat} (f:Nat→α) {t:τ}
  (h:∀i,i < n→step ((List.range i).map f,(i:Int))=some (.inl ((List.range i).map f++ [f i],((i+1:Nat):Int))))
  (hend:step ((List.range n).map f,(n:Int))=some (.inr t)) (hf:n < fuel):cM fuel step ([],0)=some t:=by
 obtain ⟨t',h1,h2⟩:=eK (step:=step) (n:=n) (fuel:=fuel) (s:=([],0)) (fun i s=>s=((List.range i).map f,(i:Int))) (fun t'=>t'=t)
  (fun i s hi e=>by subst e; exact .inl ⟨_,h i hi,by rw [pv,bO]; rfl⟩) (fun s e=>by subst e; exact ⟨t,hend,rfl⟩) rfl hf
 rw [h1,h2]
theorem eJ {i n:Nat} (h:i < n) (hn:n≤9223372036854775807):w64 ((i:Int)+1)=((i+1:Nat):Int):=by
 rw [aF (by omega)];simp
theorem dlt {i n:Nat} (h:i < n):decide ((i:Int) < (n:Int))=true:=by simp; exact h
theorem dnl (n:Nat):decide ((n:Int) < (n:Int))=false:=by simp
end Go.Lt
namespace Go.Lt
theorem wL {σ τ β:Type} {step:σ→Option (σ ⊕ τ)} {fuel:Nat} {s:σ} {k:τ→Option β} {r:Option β} (Inv:σ→Prop) (μ:σ→Nat) (post:τ→Prop)
  (h:∀s,Inv s→(∃s',step s=some (.inl s')∧Inv s'∧μ s' < μ s)∨∃t,step s=some (.inr t)∧post t) (h0:Inv s) (hf:μ s < fuel) (hk:∀t,post t→k t=r):(cM fuel step s).bind k=r:=by
 obtain ⟨t,e1,e2⟩:=kS Inv μ post h fuel s h0 hf;rw [e1];exact hk t e2
theorem wK {σ τ β:Type} {step:σ→Option (σ ⊕ τ)} {fuel:Nat} {s:σ} {k:τ→Option β} {p:β→Prop} (Inv:σ→Prop) (μ:σ→Nat) (post:τ→Prop)
  (h:∀s,Inv s→(∃s',step s=some (.inl s')∧Inv s'∧μ s' < μ s)∨∃t,step s=some (.inr t)∧post t) (h0:Inv s) (hf:μ s < fuel) (hk:∀t,post t→∃r,k t=some r∧p r):∃r,(cM fuel step s).bind k=some r∧p r:=by
 obtain ⟨t,e1,e2⟩:=kS Inv μ post h fuel s h0 hf;rw [e1];exact hk t e2
theorem EH {α σ τ:Type} {x:Option α} {k:α→Option (σ ⊕ τ)} {A:σ→Prop} {B:τ→Prop} (post:α→Prop) (hx:∃t,x=some t∧post t)
  (hk:∀t,post t→(∃s',k t=some (.inl s')∧A s')∨∃u,k t=some (.inr u)∧B u):(∃s',x.bind k=some (.inl s')∧A s')∨∃t,x.bind k=some (.inr t)∧B t:=by
 obtain ⟨t,e1,e2⟩:=hx;rw [e1];exact hk t e2
variable {α:Type} {lo hi:α→Int}
def sF (lo hi:α→Int):List α→Bool
 | []=>true
 | x :: l=>decide (lo x≤hi x) && (match l with | []=>true | y :: _=>decide (hi x < lo y)) && sF lo hi l
theorem wV:∀{T:List α},sF lo hi T=true→∀i (h:i < T.length),lo T[i]≤hi T[i]
 | [],_,i,h=>by simp at h
 | x :: l,hs,i,h=>by
  simp only [sF,aq,am] at hs
  cases i with
  | zero=>exact hs.1.1
  | succ i=>exact wV hs.2 i (by simpa using h)
theorem qO:∀{T:List α},sF lo hi T=true→∀i j (h:j < T.length),(hij:i < j)→hi (T[i]'(by omega)) < lo T[j]
 | [],_,i,j,h,_=>by simp at h
 | x :: l,hs,i,j,h,hij=>by
  have hs0:=hs;simp only [sF,aq,am] at hs
  cases j with
  | zero=>omega
  | succ j=>
   have hj:j < l.length:=by simpa using h
   cases i with
   | succ i=>exact qO hs.2 i j hj (by omega)
   | zero=>
    cases l with
    | nil=>simp at hj
    | cons y l'=>
     have h1:hi x < lo y:=by simpa using hs.1.2
     cases j with
     | zero=>exact h1
     | succ j=>
      have h2:=qO hs.2 0 (j+1) hj (by omega);have h3:=wV hs.2 0 (by simp);simp only [Gn] at h2 h3;simp only [Gn,Gp] at h2⊢;omega
def onn (lo hi:α→Int) (r:Int) (x:α):Bool:=decide (lo x≤r) && decide (r≤hi x)
theorem sP {r:Int} {x:α}:onn lo hi r x=true↔lo x≤r∧r≤hi x:=by simp [onn]
theorem CH {T:List α} (hs:sF lo hi T=true) {r:Int} {i j:Nat} (hi':i < T.length) (hj:j < T.length) (h1:onn lo hi r T[i]=true) (h2:onn lo hi r T[j]=true):i=j:=by
 rw [sP] at h1 h2;rcases HX i j with h | h | h
 ·have:=qO hs i j hj h;omega
 ·exact h
 ·have:=qO hs j i hi' h;omega
def fnd (lo hi:α→Int) (T:List α) (r:Int):Option α:=T.find? (onn lo hi r)
theorem C2 {T:List α} (hs:sF lo hi T=true) {r:Int} {x:α} (hx:x∈T) (h:onn lo hi r x=true):fnd lo hi T r=some x:=by
 unfold fnd;obtain ⟨i,hi',rfl⟩:=List.mem_iff_getElem.1 hx;rw [List.find?_eq_some_iff_getElem];refine ⟨h,i,hi',rfl,fun j hj=>?_⟩
 cases hb:onn lo hi r (T[j]'(by omega)) with
 | false=>rfl
 | true=>exact absurd (CH hs (by omega) hi' hb h) (by omega)
theorem yF {T:List α} {r:Int} (h:∀i (h:i < T.length),onn lo hi r T[i]=false):fnd lo hi T r=none:=by
 unfold fnd;rw [List.find?_eq_none];intro x hx;obtain ⟨i,hi',rfl⟩:=List.mem_iff_getElem.1 hx;simp [h i hi']
theorem xq {T:List α} {r:Int} {x:α} (h:fnd lo hi T r=some x):x∈T∧onn lo hi r x=true:=⟨List.mem_of_find?_eq_some h,List.find?_some h⟩
theorem xr {T:List α} (hs:sF lo hi T=true) {r:Int} {i:Nat} (h1:∀j (h:j < T.length),j < i→hi T[j] < r) (h2:∀j (h:j < T.length),i≤j→r≤hi T[j]):
  fnd lo hi T r=if h:i < T.length then (if lo T[i]≤r then some T[i] else none) else none:=by
 have hno:∀j (h:j < T.length),j≠i→onn lo hi r T[j]=false:=fun j h hne=>by
  cases hb:onn lo hi r T[j] with
  | false=>rfl
  | true=>
   rw [sP] at hb;rcases aN j i with hj | hj
   ·have:=h1 j h hj;omega
   ·have h3:=qO hs i j h (by omega);have h4:=h2 i (by omega) (az _);omega
 split
 ·rename_i hi'
  split
  ·rename_i hl
   exact C2 hs (aH hi') (sP.2 ⟨hl,h2 i hi' (az _)⟩)
  ·rename_i hl
   refine yF fun j h=>?_;by_cases hj:j=i
   ·subst hj
    cases hb:onn lo hi r T[j] with
    | false=>rfl
    | true=>exact absurd (sP.1 hb).1 hl
   ·exact hno j h hj
 ·rename_i hi'
  exact yF fun j h=>hno j h (by omega)
theorem Em {a b:Nat} (h:a+b≤4611686018427387904):w64 ((IntKind.u64.wrap (w64 ((a:Int)+(b:Int)))).fdiv (2 ^ 1))=(((a+b) / 2:Nat):Int):=by
 have e0:w64 ((a:Int)+(b:Int))=((a+b:Nat):Int):=by rw [aF (by omega)]; simp
 have h1:IntKind.u64.wrap ((a+b:Nat):Int)=((a+b:Nat):Int):=by
  have:((a+b:Nat):Int) % 18446744073709551616=((a+b:Nat):Int):=Int.emod_eq_of_lt (by omega) (by omega);simpa [IntKind.wrap,IntKind.bits,IntKind.signed] using this
 have e2:(((a+b:Nat):Int)).fdiv (2 ^ 1)=(((a+b) / 2:Nat):Int):=by
  rw [Int.fdiv_eq_ediv_of_nonneg _ (by decide)];omega
 rw [e0,h1,e2,aF (by omega)]
theorem qP {T:List α} (hs:sF lo hi T=true) (hl:T.length≤1000000) (r:Int) {step:Int×Int→Option (Int×Int ⊕ Int)}
  (h1:∀a b:Nat,(hab:a < b)→(hb:b≤T.length)→step ((a:Int),(b:Int))=some (.inl (if r≤hi (T[(a+b) / 2]'(by omega)) then ((a:Int),(((a+b) / 2:Nat):Int)) else (((((a+b) / 2+1:Nat):Int)),(b:Int)))))
  (h2:∀a:Nat,step ((a:Int),(a:Int))=some (.inr (a:Int))):
  ∃i:Nat,cM (((T.length:Int) - 0).toNat+1) step (0,(T.length:Int))=some (i:Int)∧i≤T.length∧(∀j (h:j < T.length),j < i→hi T[j] < r)∧(∀j (h:j < T.length),i≤j→r≤hi T[j]):=by
 have hmono:∀j k (h:k < T.length),(hjk:j≤k)→hi (T[j]'(by omega))≤hi T[k]:=fun j k h hjk=>by
  rcases aN j k with hlt | hge
  ·have e1:=qO hs j k h hlt;have e2:=wV hs k h;omega
  ·obtain rfl:j=k:=by omega
   exact oN _
 obtain ⟨t,e1,i,e2,e3,e4,e5⟩:=kS (step:=step) (fun q=>∃a b:Nat,q=((a:Int),(b:Int))∧a≤b∧b≤T.length∧(∀j (h:j < T.length),j < a→hi T[j] < r)∧(∀j (h:j < T.length),b≤j→r≤hi T[j]))
  (fun q=>(q.2 - q.1).toNat) (fun t=>∃i:Nat,t=(i:Int)∧i≤T.length∧(∀j (h:j < T.length),j < i→hi T[j] < r)∧(∀j (h:j < T.length),i≤j→r≤hi T[j]))
  (by
   rintro q ⟨a,b,rfl,hab,hb,c1,c2⟩;rcases aN a b with hlt | hge
   ·left
    rw [h1 a b hlt hb];refine ⟨_,rfl,?_⟩;by_cases hr:r≤hi (T[(a+b) / 2]'(by omega))
    ·rw [ae hr];exact ⟨⟨a,(a+b) / 2,rfl,by omega,by omega,c1,fun j h hj=>Int.le_trans hr (hmono _ _ h hj)⟩,by simp only; omega⟩
    ·rw [af hr];refine ⟨⟨(a+b) / 2+1,b,rfl,by omega,hb,fun j h hj=>?_,c2⟩,by simp only; omega⟩;have:=hmono j ((a+b) / 2) (by omega) (by omega);omega
   ·right
    obtain rfl:a=b:=by omega
    exact ⟨_,h2 a,a,rfl,hb,c1,c2⟩)
  (((T.length:Int) - 0).toNat+1) (0,(T.length:Int)) ⟨0,T.length,rfl,cw _,az _,fun j h hj=>by omega,fun j h hj=>by omega⟩ (by simp only; omega)
 subst e2;exact ⟨i,e1,e3,e4,e5⟩
def GX (v:Option Int):Int ⊕ Unit:=match v with | some x=> .inl x | none=> .inr ()
theorem CP {n:Nat} (hn:n≤1000000) {v:Option Int} {step:Int→Option (Int ⊕ (Int ⊕ Unit))}
  (h1:∀k:Nat,k < n→step (k:Int)=if v=some ((k:Int)+1) then some (.inr (.inl ((k:Int)+1))) else some (.inl ((k+1:Nat):Int)))
  (h2:step (n:Int)=some (.inr (.inr ()))) (hv:∀x,v=some x→1≤x∧x≤n):cM (((n:Int) - 0).toNat+1) step 0=some (GX v):=by
 refine oV (fun s=>∃k:Nat,s=(k:Int)∧k≤n∧∀j:Nat,j < k→v≠some ((j:Int)+1)) (fun s=>((n:Int) - s).toNat) ?_ ⟨0,rfl,cw _,fun j hj=>by omega⟩ (by omega);rintro s ⟨k,rfl,hk,hno⟩;rcases aN k n with hlt | hge
 ·rw [h1 k hlt];by_cases he:v=some ((k:Int)+1)
  ·rw [ae he]
   right
   subst he;rfl
  ·rw [af he];refine .inl ⟨_,rfl,⟨k+1,rfl,by omega,fun j hj=>?_⟩,by omega⟩;by_cases hjk:j=k
   ·subst hjk; exact he
   ·exact hno j (by omega)
 ·obtain rfl:k=n:=by omega
  rw [h2]
  right
  cases v with
  | none=>rfl
  | some x=>
   obtain ⟨e1,e2⟩:=hv x rfl;exact absurd (show some x=some (((x - 1).toNat:Int)+1) by congr 1; omega) (hno (x - 1).toNat (by omega))
theorem tM {n fuel:Nat} {β:Type} {kk:Int ⊕ Unit→Option β} {rr:Option β} (hn:n≤1000000) {v:Option Int} {step:Int→Option (Int ⊕ (Int ⊕ Unit))}
  (h1:∀k:Nat,k < n→step (k:Int)=if v=some ((k:Int)+1) then some (.inr (.inl ((k:Int)+1))) else some (.inl ((k+1:Nat):Int)))
  (h2:step (n:Int)=some (.inr (.inr ()))) (hv:∀x,v=some x→1≤x∧x≤n) (hf:fuel=((n:Int) - 0).toNat+1) (hk:kk (GX v)=rr):(cM fuel step 0).bind kk=rr:=by
 subst hf;rw [CP hn h1 h2 hv];exact hk
def lk (T:List (Int×Int×Int)) (r:Int):Option Int:=(fnd (fun x=>x.1) (fun x=>x.2.1) T r).map (fun x=>x.2.2)
def vW (l:List (Int×Int)) (r:Int):Bool:=l.any (onn (fun x=>x.1) (fun x=>x.2) r)
def ofv (T:List (Int×Int×Int)) (v:Int):List (Int×Int):=(T.filter (fun x=>x.2.2==v)).map (fun x=>(x.1,x.2.1))
theorem xl {T:List (Int×Int×Int)} (hs:sF (fun x=>x.1) (fun x=>x.2.1) T=true) (v r:Int):vW (ofv T v) r=decide (lk T r=some v):=by
 unfold vW ofv lk;rw [List.any_map,List.any_filter]
 cases hf:fnd (fun x=>x.1) (fun x=>x.2.1) T r with
 | none=>
  simp only [Il,reduceCtorEq,decide_false];rw [H1];intro x hx;unfold fnd at hf;have:=List.find?_eq_none.1 hf x hx;simp only [Function.comp,aq,yt];intro _;simpa [onn] using this
 | some x=>
  obtain ⟨h1,h2⟩:=xq hf;simp only [fp,aQ];by_cases hv:x.2.2=v
  ·rw [vy hv,Ac];exact ⟨x,h1,by simp only [Function.comp,aq,aL]; exact ⟨hv,h2⟩⟩
  ·rw [decide_eq_false hv,H1];intro y hy;simp only [Function.comp,aq,aL,yt];intro e
   cases hb:onn (fun x:Int×Int=>x.1) (fun x=>x.2) r (y.1,y.2.1) with
   | false=>simp
   | true=>
    have:=C2 hs hy (show onn (fun x:Int×Int×Int=>x.1) (fun x=>x.2.1) r y=true from hb);rw [hf] at this;cases this;exact absurd e hv
theorem CO {T:List (Int×Int×Int)} {p:Int→Bool} (h:T.all (fun x=>p x.2.2)=true) {r v:Int} (hv:lk T r=some v):p v=true:=by
 unfold lk at hv;obtain ⟨x,hx,rfl⟩:=Option.map_eq_some_iff.1 hv;exact List.all_eq_true.1 h x (xq hx).1
end Go.Lt
namespace Go.Proofs.YtclmdpamofdoiaaGreatDoor
open Go Go.Lt
set_option maxRecDepth 100000
def gT:List (Int×Int×Int):=match mM with | some t=>t | none=>[]
def pT:List (Int×Int):=match lJ with | some t=>t | none=>[]
def cT:List (Int×Int×Int):=match lP with | some t=>t | none=>[]
def eT:List (Int×Int×Int):=match lO with | some t=>t | none=>[]
theorem G9:mM=some gT:=rfl
theorem GV:lJ=some pT:=rfl
theorem Hl:lP=some cT:=rfl
theorem He:lO=some eT:=rfl
theorem FS:sF (fun x=>x.1) (fun x=>x.2.1) gT=true:=by kernel_rfl
theorem GT:sF (fun x=>x.1) (fun x=>x.2) pT=true:=by kernel_rfl
theorem F7:sF (fun x=>x.1) (fun x=>x.2.1) cT=true:=by kernel_rfl
theorem FX:sF (fun x=>x.1) (fun x=>x.2.1) eT=true:=by kernel_rfl
theorem FT:gT.length≤1000000:=by
 have:Nat.ble gT.length 1000000=true:=by kernel_rfl
 exact bE this
theorem FA:pT.length≤1000000:=by
 have:Nat.ble pT.length 1000000=true:=by kernel_rfl
 exact bE this
theorem F8:cT.length≤1000000:=by
 have:Nat.ble cT.length 1000000=true:=by kernel_rfl
 exact bE this
theorem FY:eT.length≤1000000:=by
 have:Nat.ble eT.length 1000000=true:=by kernel_rfl
 exact bE this
theorem HJ:gT.all (fun x=>decide (1≤x.2.2) && decide (x.2.2≤8))=true:=by kernel_rfl
theorem HO:cT.all (fun x=>decide (1≤x.2.2) && decide (x.2.2≤3))=true:=by kernel_rfl
theorem HM:eT.all (fun x=>decide (1≤x.2.2) && decide (x.2.2≤3))=true:=by kernel_rfl
def hcl (r:Int):Int:=
 if (4352≤r∧r≤4447)∨(43360≤r∧r≤43388) then 9
 else if (4448≤r∧r≤4519)∨(55216≤r∧r≤55238) then 10
 else if (4520≤r∧r≤4607)∨(55243≤r∧r≤55291) then 11
 else if r < 44032∨55203 < r then 0
 else if (r - 44032) % 28=0 then 12 else 13
def r32 (r:Int):Prop:= -2147483648≤r∧r≤2147483647
theorem r32.w {r:Int} (h:r32 r):w64 r=r:=by unfold r32 at h; exact aF (by omega)
theorem py {α:Type} {b:Bool} {p:Prop} [Decidable p] (h:b=true↔p) (x y:α):(if b=true then x else y)=if p then x else y:=by
 by_cases hp:p
 ·rw [ae hp,ae (h.2 hp)]
 ·rw [af hp,af (fun e=>hp (h.1 e))]
theorem sG {α:Type} {p:Prop} [Decidable p] (x y:α):(if p then some x else some y)=some (if p then x else y):=by split <;> rfl
theorem sV (r:Int) (h:r32 r):kh r=some (hcl r):=by
 unfold r32 at h;unfold kh jW gO hcl;simp only [aY,bsm,bz];have hw:44032≤r→r≤55203→(w32 (r - 44032)).tmod 28=(r - 44032) % 28:=fun h1 h2=>by
  rw [wR (by omega),DC (by omega)]
 rw [py (p:=(4352≤r∧r≤4447)∨(43360≤r∧r≤43388)) (by simp),py (p:=(4448≤r∧r≤4519)∨(55216≤r∧r≤55238)) (by simp),py (p:=(4520≤r∧r≤4607)∨(55243≤r∧r≤55291)) (by simp)];rw [py (p:=r < 44032∨55203 < r) (by simp)];by_cases hs:r < 44032∨55203 < r
 ·simp only [ae hs,sG]
 ·simp only [af hs];rw [hw (by omega) (by omega)];rw [py (p:=(r - 44032) % 28=0) (by simp)];simp only [sG]
theorem Bb (r:Int) (h1:44032≤r) (h2:r≤55203):∃x,dC r=some x∧(x.1≠0∧(x.2.2=0↔(r - 44032) % 28=0)):=by
 have hw:w64 r=r:=aF (by omega);unfold dC;simp only [hw,bz,bsm];rw [af (by simp; omega)];refine wK (fun q=>∃i:Nat,i≤19∧q=((44032+588 * (i:Int),4352+(i:Int)):Int×Int)∧44032+588 * (i:Int)≤r) (fun q=>(4371 - q.2).toNat)
  (fun t=>∃x:Int×Int×Int,t= .inl x∧(x.1≠0∧(x.2.2=0↔(r - 44032) % 28=0))) ?_ ⟨0,by omega,by simp,by omega⟩ (by simp only; omega) ?_
 ·rintro q ⟨i,hi,rfl,hir⟩;by_cases hi2:i=19
  ·subst hi2;omega
  dsimp only
  rw [ae (by simp; omega)];refine EH (fun t=>(∃x:Int×Int×Int,t= .inl x∧(x.1≠0∧(x.2.2=0↔(r - 44032) % 28=0)))∨(t= .inr (44032+588 * ((i+1:Nat):Int))∧44032+588 * ((i+1:Nat):Int)≤r))
   (kS (fun q=>∃j:Nat,j≤21∧q=((44032+588 * (i:Int)+28 * (j:Int),4449+(j:Int)):Int×Int)∧44032+588 * (i:Int)+28 * (j:Int)≤r) (fun q=>(4470 - q.2).toNat) _ ?_ _ _ ⟨0,by omega,by simp,by omega⟩ (by simp only; omega)) ?_
  ·rintro q ⟨j,hj,rfl,hjr⟩
   dsimp only
   by_cases hj2:j=21
   ·subst hj2
    right
    refine ⟨.inr (44032+588 * ((i+1:Nat):Int)),?_,.inr ⟨rfl,by omega⟩⟩;rw [af (by simp),show (44032+588 * (i:Int)+28 * ((21:Nat):Int))=44032+588 * ((i+1:Nat):Int) by omega]
   ·rw [ae (by simp; omega),aF (by omega)];by_cases hlt:r < 44032+588 * (i:Int)+28 * (j:Int)+28
    ·right
     rw [ae (by simpa using hlt)];rw [show w64 (4519+r)=4519+r from aF (by omega),aF (by omega)];by_cases hz:4519+r - (44032+588 * (i:Int)+28 * (j:Int))=4519
     ·rw [ae (by simpa using hz)];exact ⟨_,rfl,.inl ⟨_,rfl,by show 4352+(i:Int)≠0; omega,by show (0:Int)=0↔_; simp; omega⟩⟩
     ·rw [af (by simpa using hz)];exact ⟨_,rfl,.inl ⟨_,rfl,by show 4352+(i:Int)≠0; omega,by show 4519+r - (44032+588 * (i:Int)+28 * (j:Int))=0↔_; omega⟩⟩
    ·left
     rw [af (by simpa using hlt),aF (by omega)];exact ⟨_,rfl,⟨j+1,by omega,by simp only [gU]; omega,by omega⟩,by omega⟩
  ·rintro t (⟨x,rfl,hx⟩ | ⟨rfl,hx⟩)
   ·exact .inr ⟨_,rfl,x,rfl,hx⟩
   ·refine .inl ⟨_,rfl,⟨i+1,by omega,?_,by omega⟩,?_⟩
    ·rw [aF (by omega)];exact Prod.ext rfl (by show 4352+(i:Int)+1=4352+((i+1:Nat):Int); omega)
    ·rw [aF (by omega)];omega
 ·rintro t ⟨x,rfl,hx⟩;exact ⟨x,rfl,hx⟩
theorem Bd (r:Int) (h:r32 r):ep r=some (hcl r):=by
 have hw:=h.w;unfold r32 at h;unfold ep hcl;simp only [hw,aY,bsm,bz];rw [py (p:=(4352≤r∧r≤4447)∨(43360≤r∧r≤43388)) (by simp),py (p:=(4448≤r∧r≤4519)∨(55216≤r∧r≤55238)) (by simp),py (p:=(4520≤r∧r≤4607)∨(55243≤r∧r≤55291)) (by simp)];by_cases hs:r < 44032∨55203 < r
 ·have:dC r=some (0,0,0):=by
   unfold dC;simp only [hw,bz,bsm];rw [ae (by simpa using hs)]
  rw [this];simp only [bsm,ae hs,sG];rfl
 ·obtain ⟨⟨l,v,t⟩,e1,e2,e3⟩:=Bb r (by omega) (by omega);have e2':(l==0)=false:=by simpa using e2
  rw [e1];simp only [bsm,e2',aj,aT,af hs];rw [py (b:=t==0) (p:=(r - 44032) % 28=0) (by simpa using e3)];simp only [sG]
theorem xe (l:List (Int×Int)) (hl:l.length≤1000000) (r:Int) (h:r32 r):dN l r=some (vW l r):=by
 have hw:=h.w;unfold dN;simp only [hw];have key:cM (σ:=Int) (τ:=Bool ⊕ Unit) (((l.length:Int) - 0).toNat+1) (fun s_5=>
   if (decide (s_5 < (l.length:Int)))=true then
   (idx l s_5).bind fun x_15=>
   (bV (decide (r≥x_15.1)) ((idx l s_5).bind fun x_25=>
   some (decide (r≤x_25.2)))).bind fun d_19=>
   if d_19=true then
   some (.inr (.inl true))
   else
   some (.inl ((w64 (s_5+1))))
   else
   some (.inr (.inr ()))) (0)=some (if vW l r=true then .inl true else .inr ()):=by
  refine oV (fun s=>∃k:Nat,s=(k:Int)∧k≤l.length∧(l.take k).any (onn (fun x=>x.1) (fun x=>x.2) r)=false) (fun s=>((l.length:Int) - s).toNat) ?_ ⟨0,rfl,cw _,by simp⟩ (by omega);rintro s ⟨k,rfl,hk,hno⟩;rcases aN k l.length with hlt | hge
  ·have e1:(l.take (k+1)).any (onn (fun x=>x.1) (fun x=>x.2) r)=((l.take k).any (onn (fun x=>x.1) (fun x=>x.2) r) || onn (fun x=>x.1) (fun x=>x.2) r l[k]):=by
    rw [ax hlt,List.any_append];simp
   simp only [dlt hlt,bv,bp hlt,bsm,aY];have e2:(decide (r≥l[k].1) && decide (r≤l[k].2))=onn (fun x:Int×Int=>x.1) (fun x=>x.2) r l[k]:=rfl;rw [e2]
   cases hb:onn (fun x:Int×Int=>x.1) (fun x=>x.2) r l[k] with
   | true=>
    right
    have:vW l r=true:=by
     unfold vW;rw [Ac];exact ⟨_,aH hlt,hb⟩
    rw [ae this];rfl
   | false=>
    left
    rw [eJ hlt (by omega)];exact ⟨_,rfl,⟨k+1,rfl,hlt,by rw [e1,hno,hb]; rfl⟩,by omega⟩
  ·obtain rfl:k=l.length:=by omega
   right
   rw [Aa] at hno;simp only [dnl,aj,aT];rw [show vW l r=false from hno];rfl
 rw [key]
 cases vW l r <;> rfl
theorem G8:(match iJ,iI,iH,iG,iF,iE,iD,iC with
 | some a,some b,some c,some d,some e,some f,some g,some h=>[a,b,c,d,e,f,g,h]== [ofv gT 1,ofv gT 2,ofv gT 3,ofv gT 4,ofv gT 5,ofv gT 6,ofv gT 7,ofv gT 8] | _,_,_,_,_,_,_,_=>false)=true:=by kernel_rfl
theorem Hk:(match iB,iA,iz with
 | some a,some b,some c=>[a,b,c]== [ofv cT 1,ofv cT 2,ofv cT 3] | _,_,_=>false)=true:=by kernel_rfl
theorem Hc:(match iy,iw,iv with
 | some a,some b,some c=>[a,b,c]== [ofv eT 1,ofv eT 2,ofv eT 3] | _,_,_=>false)=true:=by kernel_rfl
theorem GU:(iV==some pT)=true:=by kernel_rfl
theorem xi (T:List (Int×Int×Int)) (v:Int):(ofv T v).length≤T.length:=by
 unfold ofv;rw [dh];exact uD _ _
theorem GQ (r:Int) (h:r32 r):ii r=some ((lk gT r).getD (hcl r)):=by
 have hl:=G8;unfold ii;split at hl
 ·rename_i a b c d e f g hh ea eb ec ed ee ef eg eh
  rw [ea,eb,ec,ed,ee,ef,eg,eh];simp only [bsm];have hl2:=eq_of_beq hl;rw [hl2];refine tM (n:=8) (by decide) (v:=lk gT r) (fun k hk=>?_) (by rfl) (fun x hx=>?_) rfl ?_
  ·have hi:idx ([ofv gT 1,ofv gT 2,ofv gT 3,ofv gT 4,ofv gT 5,ofv gT 6,ofv gT 7,ofv gT 8]:List (List (Int×Int))) (k:Int)=some (ofv gT ((k:Int)+1)):=by
    rw [uJ]
    match k,hk with
    | 0,_=>rfl
    | 1,_=>rfl
    | 2,_=>rfl
    | 3,_=>rfl
    | 4,_=>rfl
    | 5,_=>rfl
    | 6,_=>rfl
    | 7,_=>rfl
   simp only [hi,bsm];rw [ae (by simp; omega),xe _ (dj (xi _ _) FT) r h,xl FS,aF (by omega)];simp only [bsm];rw [py (p:=lk gT r=some ((k:Int)+1)) (by simp)];rfl
  ·have:=CO (p:=fun v=>decide (1≤v) && decide (v≤8)) HJ hx;simpa using this
  ·cases lk gT r with
   | none=>show ((ep r).bind fun o=>some o)=_; rw [Bd r h]; rfl
   | some x=>rfl
 ·cases hl
theorem GO (r:Int) (h:r32 r):ic r=some ((lk cT r).getD 0):=by
 have hl:=Hk;unfold ic;split at hl
 ·rename_i a b c ea eb ec
  rw [ea,eb,ec];simp only [bsm];have hl2:=eq_of_beq hl;rw [hl2];refine tM (n:=3) (by decide) (v:=lk cT r) (fun k hk=>?_) (by rfl) (fun x hx=>?_) rfl ?_
  ·have hi:idx ([ofv cT 1,ofv cT 2,ofv cT 3]:List (List (Int×Int))) (k:Int)=some (ofv cT ((k:Int)+1)):=by
    rw [uJ]
    match k,hk with
    | 0,_=>rfl
    | 1,_=>rfl
    | 2,_=>rfl
   simp only [hi,bsm];rw [ae (by simp; omega),xe _ (dj (xi _ _) F8) r h,xl F7,aF (by omega)];simp only [bsm];rw [py (p:=lk cT r=some ((k:Int)+1)) (by simp)];rfl
  ·have:=CO (p:=fun v=>decide (1≤v) && decide (v≤3)) HO hx;simpa using this
  ·cases lk cT r <;> rfl
 ·cases hl
theorem GN (r:Int) (h:r32 r):ib r=some ((lk eT r).getD 0):=by
 have hl:=Hc;unfold ib;split at hl
 ·rename_i a b c ea eb ec
  rw [ea,eb,ec];simp only [bsm];have hl2:=eq_of_beq hl;rw [hl2];refine tM (n:=3) (by decide) (v:=lk eT r) (fun k hk=>?_) (by rfl) (fun x hx=>?_) rfl ?_
  ·have hi:idx ([ofv eT 1,ofv eT 2,ofv eT 3]:List (List (Int×Int))) (k:Int)=some (ofv eT ((k:Int)+1)):=by
    rw [uJ]
    match k,hk with
    | 0,_=>rfl
    | 1,_=>rfl
    | 2,_=>rfl
   simp only [hi,bsm];rw [ae (by simp; omega),xe _ (dj (xi _ _) FY) r h,xl FX,aF (by omega)];simp only [bsm];rw [py (p:=lk eT r=some ((k:Int)+1)) (by simp)];rfl
  ·have:=CO (p:=fun v=>decide (1≤v) && decide (v≤3)) HM hx;simpa using this
  ·cases lk eT r <;> rfl
 ·cases hl
def pic (r:Int):Bool:=(fnd (fun x:Int×Int=>x.1) (fun x=>x.2) pT r).isSome
theorem El (r:Int):vW pT r=pic r:=by
 unfold vW pic fnd;rw [ck,List.find?_isSome,Ac]
theorem GP (r:Int) (h:r32 r):ig r=some (pic r):=by
 unfold ig;rw [eq_of_beq GU];simp only [bsm];rw [xe _ FA r h,El];rfl
def pr (r:Int):aw:=⟨(lk gT r).getD (hcl r),pic r,(lk cT r).getD 0,(lk eT r).getD 0⟩
theorem GM (r:Int) (h:r32 r):dM r=some (pr r):=by
 unfold dM;rw [GQ r h,GP r h,GO r h,GN r h];rfl
theorem qt {a b n:Nat} (h:a < b) (hb:b≤n):(a+b) / 2 < n:=by omega
theorem FQ (r:Int) (h:r32 r):qw r=some ((lk gT r).getD (hcl r)):=by
 have hw:=h.w;have hlen:=FT;unfold qw;rw [G9];simp only [bsm];obtain ⟨i,e1,e2,e3,e4⟩:=qP FS FT r (step:=fun s_7=>
  if (decide (s_7.1 < s_7.2))=true then
  (np (w64 ((IntKind.u64.wrap (w64 (s_7.1+s_7.2))).fdiv (2 ^ 1))) gT r).bind fun x_22=>
  if (!x_22)=true then
  some (.inl ((w64 ((w64 ((IntKind.u64.wrap (w64 (s_7.1+s_7.2))).fdiv (2 ^ 1)))+1)),s_7.2))
  else
  some (.inl (s_7.1,(w64 ((IntKind.u64.wrap (w64 (s_7.1+s_7.2))).fdiv (2 ^ 1)))))
  else
  some (.inr (s_7.1))) (fun a b hab hb=>by
   simp only;rw [ae (by simp; omega),Em (by omega)];unfold np;rw [bp (qt hab hb),hw];simp only [bsm];by_cases hr:r≤(gT[(a+b) / 2]'(qt hab hb)).2.1
   ·rw [af (by simpa using hr),ae hr]
   ·rw [ae (by simpa using hr),af hr,aF (by omega)];rfl) (fun a=>by simp only; rw [af (by simp)])
 unfold go;rw [e1];simp only [bsm,hw];have hf:=xr FS e3 e4;unfold lk;rw [hf];by_cases hi:i < gT.length
 ·rw [vU hi,bp hi];simp only [bsm,aY];by_cases hlo:gT[i].1≤r
  ·rw [ae (by simp; exact ⟨hi,hlo⟩),ae hlo];rfl
  ·rw [af (by simp; omega),af hlo,sV r h];rfl
 ·rw [vV hi,show decide ((i:Int) < (gT.length:Int))=false by simp; omega,ik];simp only [bsm];rw [af (by decide),sV r h];rfl
theorem ED (r:Int) (h:r32 r):oA r=some ((lk cT r).getD 0):=by
 have hw:=h.w;have hlen:=F8;unfold oA;rw [Hl];simp only [bsm];obtain ⟨i,e1,e2,e3,e4⟩:=qP F7 F8 r (step:=fun s_7=>
  if (decide (s_7.1 < s_7.2))=true then
  (mP (w64 ((IntKind.u64.wrap (w64 (s_7.1+s_7.2))).fdiv (2 ^ 1))) cT r).bind fun x_22=>
  if (!x_22)=true then
  some (.inl ((w64 ((w64 ((IntKind.u64.wrap (w64 (s_7.1+s_7.2))).fdiv (2 ^ 1)))+1)),s_7.2))
  else
  some (.inl (s_7.1,(w64 ((IntKind.u64.wrap (w64 (s_7.1+s_7.2))).fdiv (2 ^ 1)))))
  else
  some (.inr (s_7.1))) (fun a b hab hb=>by
   simp only;rw [ae (by simp; omega),Em (by omega)];unfold mP;rw [bp (qt hab hb),hw];simp only [bsm];by_cases hr:r≤(cT[(a+b) / 2]'(qt hab hb)).2.1
   ·rw [af (by simpa using hr),ae hr]
   ·rw [ae (by simpa using hr),af hr,aF (by omega)];rfl) (fun a=>by simp only; rw [af (by simp)])
 unfold fU;rw [e1];simp only [bsm,hw];have hf:=xr F7 e3 e4;unfold lk;rw [hf];by_cases hi:i < cT.length
 ·rw [vU hi,bp hi];simp only [bsm,bz];by_cases hlo:cT[i].1≤r
  ·rw [af (by simp; omega),ae hlo];rfl
  ·rw [ae (by simp; omega),af hlo];rfl
 ·rw [vV hi,show ((i:Int)==(cT.length:Int))=true by simp; omega,yo];simp only [bsm];rw [ae trivial];rfl
theorem Ew (r:Int) (h:r32 r):oy r=some ((lk eT r).getD 0):=by
 have hw:=h.w;have hlen:=FY;unfold oy;rw [He];simp only [bsm];obtain ⟨i,e1,e2,e3,e4⟩:=qP FX FY r (step:=fun s_7=>
  if (decide (s_7.1 < s_7.2))=true then
  (mO (w64 ((IntKind.u64.wrap (w64 (s_7.1+s_7.2))).fdiv (2 ^ 1))) eT r).bind fun x_22=>
  if (!x_22)=true then
  some (.inl ((w64 ((w64 ((IntKind.u64.wrap (w64 (s_7.1+s_7.2))).fdiv (2 ^ 1)))+1)),s_7.2))
  else
  some (.inl (s_7.1,(w64 ((IntKind.u64.wrap (w64 (s_7.1+s_7.2))).fdiv (2 ^ 1)))))
  else
  some (.inr (s_7.1))) (fun a b hab hb=>by
   simp only;rw [ae (by simp; omega),Em (by omega)];unfold mO;rw [bp (qt hab hb),hw];simp only [bsm];by_cases hr:r≤(eT[(a+b) / 2]'(qt hab hb)).2.1
   ·rw [af (by simpa using hr),ae hr]
   ·rw [ae (by simpa using hr),af hr,aF (by omega)];rfl) (fun a=>by simp only; rw [af (by simp)])
 unfold fT;rw [e1];simp only [bsm,hw];have hf:=xr FX e3 e4;unfold lk;rw [hf];by_cases hi:i < eT.length
 ·rw [vU hi,bp hi];simp only [bsm,bz];by_cases hlo:eT[i].1≤r
  ·rw [af (by simp; omega),ae hlo];rfl
  ·rw [ae (by simp; omega),af hlo];rfl
 ·rw [vV hi,show ((i:Int)==(eT.length:Int))=true by simp; omega,yo];simp only [bsm];rw [ae trivial];rfl
theorem D2 (r:Int) (h:r32 r):ot r=some (pic r):=by
 have hlen:=FA;unfold ot;rw [GV];simp only [bsm];obtain ⟨i,e1,e2,e3,e4⟩:=qP GT FA r (step:=fun s_7=>
  if (decide (s_7.1 < s_7.2))=true then
  (mL (w64 ((IntKind.u64.wrap (w64 (s_7.1+s_7.2))).fdiv (2 ^ 1))) pT r).bind fun x_22=>
  if (!x_22)=true then
  some (.inl ((w64 ((w64 ((IntKind.u64.wrap (w64 (s_7.1+s_7.2))).fdiv (2 ^ 1)))+1)),s_7.2))
  else
  some (.inl (s_7.1,(w64 ((IntKind.u64.wrap (w64 (s_7.1+s_7.2))).fdiv (2 ^ 1)))))
  else
  some (.inr (s_7.1))) (fun a b hab hb=>by
   simp only;rw [ae (by simp; omega),Em (by omega)];unfold mL;rw [bp (qt hab hb)];simp only [bsm];by_cases hr:r≤(pT[(a+b) / 2]'(qt hab hb)).2
   ·rw [af (by simpa using hr),ae hr]
   ·rw [ae (by simpa using hr),af hr,aF (by omega)];rfl) (fun a=>by simp only; rw [af (by simp)])
 unfold fS;rw [e1];simp only [bsm];have hf:=xr GT e3 e4;unfold pic;rw [hf];by_cases hi:i < pT.length
 ·rw [vU hi,bp hi];simp only [bsm,aY];by_cases hlo:pT[i].1≤r
  ·rw [ae hlo];simp [hi,hlo]
  ·rw [af hlo];simp [hlo]
 ·rw [vV hi,show decide ((i:Int) < (pT.length:Int))=false by simp; omega,ik];rfl
theorem Fb (r:Int) (h:r32 r):qu r=some (pr r):=by
 unfold qu;rw [FQ r h,D2 r h,ED r h,Ew r h];rfl
end Go.Proofs.YtclmdpamofdoiaaGreatDoor
namespace Go.Proofs.YtclmdpamofdoiaaGreatDoor
open Go Go.Lt
def bl:ab:=⟨0,[]⟩
def vld (r:Int):Bool:=decide (0≤r) && decide (r≤1114111) && (decide (r < 55296) || decide (r > 57343))
theorem tH (r:Int):cQ r=some (vld r):=by
 simp only [cQ,aY,bz,bsm,vld,zG]
theorem tC (r:Int):eZ r=some (vld r):=by
 simp only [eZ,aY,bz,bsm,vld,aQ];rw [ck];simp;omega
def rgt (c:ab):Bool:=
 if c.Kind=0∨c.Kind=3 then c.Text.isEmpty else (decide (c.Kind=1) || decide (c.Kind=2)) && decide (1≤c.Text.length) && decide (c.Text.length≤16) && c.Text.all vld
theorem rL {α:Type} (p:α→Bool) (l:List α) (i:Nat) (h:i < l.length):(l.take (i+1)).all p=((l.take i).all p && p l[i]):=by
 rw [ax h,List.all_append];simp
theorem tn {α:Type} {p:α→Bool} {l:List α} {i:Nat} (h:i < l.length) (hp:p l[i]=false):l.all p=false:=by
 rw [List.all_eq_false];exact ⟨_,aH h,by simp [hp]⟩
theorem uj {α:Type} (l:List α):((l.length:Int)==0)=l.isEmpty:=by
 cases l <;> simp <;> omega
theorem Bc (c:ab):iu c=some (rgt c):=by
 unfold iu rgt;simp only [bz,aY,bsm];by_cases h1:c.Kind=0∨c.Kind=3
 ·have e:(c.Kind==0 || c.Kind==3)=true:=by rcases h1 with h | h <;> simp [h]
  rw [ae e,ae h1,uj]
 ·have e:(c.Kind==0 || c.Kind==3)=false:=by simp; omega
  rw [af (by rw [e]; simp),af h1];by_cases h2:((c.Kind=1∨c.Kind=2)∧1≤c.Text.length∧c.Text.length≤16)
  ·have e2:(((c.Kind != 1 && c.Kind != 2) || decide ((c.Text.length:Int) < 1)) || decide ((c.Text.length:Int) > 16))=false:=by
    simp; omega
   rw [af (by rw [e2]; simp)];obtain ⟨t,h3,h4⟩:=rT (τ:=Bool ⊕ Unit) (n:=c.Text.length) (by omega) (fun t=>match t with | .inl b=>b=c.Text.all vld | .inr _=>c.Text.all vld=true) (fun i=>(c.Text.take i).all vld=true) (by simp)
    (step:=fun s_44=>
     if (decide (s_44 < (c.Text.length:Int)))=true then
     (idx c.Text s_44).bind fun x_54=>
     (cQ x_54).bind fun x_56=>
     if (!x_56)=true then
     some (.inr (.inl false))
     else
     some (.inl ((w64 (s_44+1))))
     else
     some (.inr (.inr ())))
    (fun i hi hI=>by
     have e3:w64 ((i:Int)+1)=((i+1:Nat):Int):=by rw [aF (by omega)]; simp
     simp only [qg,hi,lR,bv,bp hi,bsm,tH,e3]
     cases hv:vld c.Text[i] with
     | true=>exact .inl ⟨by simp,by rw [rL _ _ _ hi,hI,hv]; rfl⟩
     | false=>exact .inr ⟨.inl false,by simp,(tn hi hv).symm⟩)
    (fun hI=>⟨.inr (),by simp,by simpa using hI⟩)
   rw [h3];simp only [bsm];have e4:(decide (c.Kind=1) || decide (c.Kind=2))=true:=by simp; exact h2.1
   rw [e4,vy h2.2.1,vy h2.2.2]
   cases t with
   | inl b=>simp only at h4; simp [h4]
   | inr u=>simp only at h4; simp [h4]
  ·have e2:(((c.Kind != 1 && c.Kind != 2) || decide ((c.Text.length:Int) < 1)) || decide ((c.Text.length:Int) > 16))=true:=by
    simp; omega
   rw [ae e2]
   congr 1
   symm
   simp only [Gy,vT,km];omega
theorem yQ (r:Int):ju r=some (!vld r):=by simp [ju,tC]
theorem vY (l:List Int) (hl:l.length≤9223372036854775807):bS l=some (!l.all vld):=by
 unfold bS cH;obtain ⟨t,h3,h4⟩:=rT (τ:=Int ⊕ Unit) (n:=l.length) (by omega) (fun t=>match t with | .inl i=>0≤i∧l.all vld=false | .inr _=>l.all vld=true) (fun i=>(l.take i).all vld=true) (by simp)
  (step:=fun s_7=>
   if (decide (s_7 < (l.length:Int)))=true then
   (idx l s_7).bind fun x_16=>
   (ju x_16).bind fun x_18=>
   if x_18=true then
   some (.inr (.inl s_7))
   else
   some (.inl ((w64 (s_7+1))))
   else
   some (.inr (.inr ())))
  (fun i hi hI=>by
   have e3:w64 ((i:Int)+1)=((i+1:Nat):Int):=by rw [aF (by omega)]; simp
   simp only [qg,hi,lR,bv,bp hi,bsm,yQ,e3]
   cases hv:vld l[i] with
   | true=>exact .inl ⟨by simp,by rw [rL _ _ _ hi,hI,hv]; rfl⟩
   | false=>exact .inr ⟨.inl i,by simp,by omega,tn hi hv⟩)
  (fun hI=>⟨.inr (),by simp,by simpa using hI⟩)
 rw [h3];simp only [bsm]
 cases t with
 | inl b=>simp only at h4; simp [h4.1,h4.2]
 | inr u=>simp only at h4; simp [h4]
theorem zN (c:ab):kI c=some (rgt c):=by
 unfold kI rgt;by_cases h1:c.Kind=0∨c.Kind=3
 ·rw [ae h1];rcases h1 with h | h <;> simp [h,uj]
 ·have n0:(c.Kind==0)=false:=by simp; omega
  have n3:(c.Kind==3)=false:=by simp; omega
  rw [af h1];simp only [n0,n3,aj,aT,bsm];by_cases h2:c.Kind=1∨c.Kind=2
  ·have e:(if (c.Kind==1)=true then some (c.Kind==1) else some (c.Kind==2):Option Bool)=some true:=by rcases h2 with h | h <;> simp [h]
   have e2:(decide (c.Kind=1) || decide (c.Kind=2))=true:=by simp; exact h2
   rw [e,e2];simp only [bsm,bv,aY,dz];by_cases h3:1≤c.Text.length∧c.Text.length≤16
   ·rw [vY _ (by omega)];have e4:(decide ((c.Text.length:Int) > 0) && decide ((c.Text.length:Int)≤16))=true:=by simp; omega
    have e5:(decide (1≤c.Text.length) && decide (c.Text.length≤16))=true:=by simp; exact h3
    rw [e4,e5];simp [iR]
   ·have e4:(decide ((c.Text.length:Int) > 0) && decide ((c.Text.length:Int)≤16))=false:=by simp; omega
    have e5:(decide (1≤c.Text.length) && decide (c.Text.length≤16))=false:=by simp; omega
    rw [e4,e5];simp [ik]
  ·have n1:(c.Kind==1)=false:=by simp; omega
   have n2:(c.Kind==2)=false:=by simp; omega
   have e2:(decide (c.Kind=1) || decide (c.Kind=2))=false:=by simp; omega
   rw [e2];simp [n1,n2]
def kd (l:List ab) (i:Nat):Int:=match l[i]? with | some c=>c.Kind | none=>0
theorem kK {l:List ab} {i:Nat} (h:i < l.length):kd l i=l[i].Kind:=by simp [kd,ah h]
theorem mw {l:List ab} {i:Nat} (h:l.length≤i):kd l i=0:=by simp [kd,aZ h]
def Snd (l:List ab):Prop:=∀i (h:i < l.length),rgt l[i]=true∧(l[i].Kind=2→kd l (i+1)=3)∧(l[i].Kind=3→0 < i∧kd l (i - 1)=2)
theorem Cw (l:List ab) (i:Int):eO l i=some (if 0≤i then kd l i.toNat else 0):=by
 unfold eO;simp only [bz,bsm];by_cases h0:i < 0
 ·rw [ae (by simp [h0]),af (by omega)]
 ·by_cases h1:i < l.length
  ·obtain ⟨k,rfl⟩:=Int.eq_ofNat_of_zero_le (show 0≤i by omega);have hk:k < l.length:=by omega
   rw [af (by simp; omega),ae (by omega),bp hk];simp [kK hk]
  ·rw [ae (by simp; omega),ae (by omega),mw (by omega)]
theorem Gt (l:List ab) (hl:l.length≤9223372036854775807):∃b,mi l=some b∧(b=true↔Snd l):=by
 unfold mi;obtain ⟨t,h3,h4⟩:=rT (τ:=Bool ⊕ Unit) (n:=l.length) (by omega) (fun t=>match t with | .inl b=>b=false∧¬Snd l | .inr _=>Snd l)
  (fun i=>∀j (h:j < l.length),j < i→rgt l[j]=true∧(l[j].Kind=2→kd l (j+1)=3)∧(l[j].Kind=3→0 < j∧kd l (j - 1)=2)) (fun j _ h=>by omega)
  (step:=fun s_5=>
   if (decide (s_5 < (l.length:Int)))=true then
   (idx l s_5).bind fun x_13=>
   (iu x_13).bind fun x_15=>
   (orE (!x_15) ((idx l s_5).bind fun x_21=>
   (bV (x_21.Kind==2) ((eO l (w64 (s_5+1))).bind fun x_30=>
   some (x_30 != 3))).bind fun d_25=>
   some d_25)).bind fun d_17=>
   (orE d_17 ((idx l s_5).bind fun x_36=>
   (bV (x_36.Kind==3) ((eO l (w64 (s_5 - 1))).bind fun x_45=>
   some (x_45 != 2))).bind fun d_40=>
   some d_40)).bind fun d_32=>
   if d_32=true then
   some (.inr (.inl false))
   else
   some (.inl ((w64 (s_5+1))))
   else
   some (.inr (.inr ())))
  (fun i hi hI=>by
   have e3:w64 ((i:Int)+1)=((i+1:Nat):Int):=by rw [aF (by omega)]; simp
   have e4:w64 ((i:Int) - 1)=(i:Int) - 1:=aF (by omega);simp only [qg,hi,lR,bv,bp hi,bsm,Bc,Cw,e3,e4,aY,bz];by_cases hk:rgt l[i]=true∧(l[i].Kind=2→kd l (i+1)=3)∧(l[i].Kind=3→0 < i∧kd l (i - 1)=2)
   ·refine .inl ⟨?_,fun j h hj=>?_⟩
    ·rw [af];obtain ⟨h1,h2,h5⟩:=hk;simp only [h1,dA,jh,aD,aq,aL,mV,wG,FF,yt,Decidable.not_not];refine ⟨fun h=>?_,fun h=>?_⟩
     ·rw [ae (by omega)]; simpa using h2 h
     ·obtain ⟨h6,h7⟩:=h5 h;rw [ae (by omega),show ((i:Int) - 1).toNat=i - 1 by omega]; exact h7
    ·by_cases hji:j=i
     ·subst hji; exact hk
     ·exact hI j h (by omega)
   ·refine .inr ⟨.inl false,?_,rfl,fun hs=>hk (hs i hi)⟩;rw [ae]
    cases h1:rgt l[i] with
    | false=>simp
    | true=>
     simp only [h1,uO] at hk;have hk:(l[i].Kind=2∧¬kd l (i+1)=3)∨(l[i].Kind=3∧¬(0 < i∧kd l (i - 1)=2)):=by
      by_cases hA:l[i].Kind=2→kd l (i+1)=3
      ·exact .inr (Classical.not_imp.1 fun hB=>hk ⟨hA,hB⟩)
      ·exact .inl (Classical.not_imp.1 hA)
     simp only [dA,jh,aD,aq,aL,mV,wG];rcases hk with ⟨h,h2⟩ | ⟨h,h2⟩
     ·refine .inl ⟨h,?_⟩;rw [ae (by omega)]; simpa using h2
     ·refine .inr ⟨h,?_⟩;by_cases h0:i=0
      ·subst h0; simp
      ·rw [ae (by omega),show ((i:Int) - 1).toNat=i - 1 by omega];exact fun h3=>h2 ⟨by omega,h3⟩)
  (fun hI=>⟨.inr (),by simp,fun j h=>hI j h h⟩)
 rw [h3];simp only [bsm]
 cases t with
 | inl b=>exact ⟨b,rfl,by simp only at h4; rw [h4.1]; simp [h4.2]⟩
 | inr u=>exact ⟨true,rfl,by simpa using h4⟩
theorem vz (l:List ab) (hl:l.length≤9223372036854775807):∃b,kH l=some b∧(b=true↔Snd l):=by
 unfold kH
 let ld:Nat→Bool:=fun i=>match i with | 0=>false | k+1=>decide (kd l k=2)
 have key:∀i (h:i < l.length),((rgt l[i]=true∧(ld i=decide (l[i].Kind=3)))↔rgt l[i]=true∧(l[i].Kind=3→0 < i∧kd l (i - 1)=2)∧(0 < i→kd l (i - 1)=2→l[i].Kind=3)):=fun i h=>by
  cases i with
  | zero=>simp [ld]
  | succ k=>simp only [ld,xK,decide_eq_decide]; constructor <;> (rintro ⟨a,b⟩; exact ⟨a,by omega⟩)
 have snd:Snd l↔(∀i (h:i < l.length),rgt l[i]=true∧ld i=decide (l[i].Kind=3))∧ld l.length=false:=by
  constructor
  ·intro hs;refine ⟨fun i h=>(key i h).2 ⟨(hs i h).1,(hs i h).2.2,fun h0 h2=>?_⟩,?_⟩
   ·have:=(hs (i - 1) (by omega)).2.1 (by rw [←kK]; exact h2);rw [show i - 1+1=i by omega,kK h] at this;exact this
   ·cases hn:l.length with
    | zero=>rfl
    | succ k=>
     simp only [ld,km];intro h2;have:=(hs k (by omega)).2.1 (by rw [←kK]; exact h2);rw [mw (by omega)] at this;cases this
  ·rintro ⟨h1,h2⟩ i h;have hk:=(key i h).1 (h1 i h);refine ⟨hk.1,fun h3=>?_,hk.2.1⟩;by_cases hn:i+1 < l.length
   ·have:=((key (i+1) hn).1 (h1 (i+1) hn)).2.2 (by omega) (by rw [xK,kK h]; exact h3);rw [kK hn]; exact this
   ·exfalso
    have e:l.length=i+1:=by omega
    rw [e] at h2;simp only [ld,km] at h2;rw [kK h] at h2;exact h2 h3
 obtain ⟨t,h3,h4⟩:=kS (τ:=Bool ⊕ Bool) (fun s:Bool×Int=>∃i:Nat,s=(ld i,(i:Int))∧i≤l.length∧∀j (h:j < l.length),j < i→rgt l[j]=true∧ld j=decide (l[j].Kind=3)) (fun s=>l.length - s.2.toNat)
  (fun t=>match t with | .inl b=>b=false∧¬Snd l | .inr b=>(b=false↔Snd l))
  (step:=fun s_9=>
   if (decide (s_9.2 < (l.length:Int)))=true then
   (idx l s_9.2).bind fun x_12=>
   (kI x_12).bind fun x_18=>
   (orE (!x_18) (some (!(s_9.1==(x_12.Kind==3))))).bind fun d_20=>
   if d_20=true then
   some (.inr (.inl false))
   else
   some (.inl (x_12.Kind==2,(w64 (s_9.2+1))))
   else
   some (.inr (.inr (s_9.1))))
  (by
   rintro s ⟨i,rfl,hi,hI⟩;rcases aN i l.length with hlt | hge
   ·have e3:w64 ((i:Int)+1)=((i+1:Nat):Int):=by rw [aF (by omega)]; simp
    simp only [qg,hlt,lR,bv,bp hlt,bsm,zN,bz,e3];by_cases hk:rgt l[i]=true∧ld i=decide (l[i].Kind=3)
    ·refine .inl ⟨_,?_,⟨i+1,rfl,hlt,fun j h hj=>?_⟩,?_⟩
     ·rw [af]
      ·simp only [ld,kK hlt]; rfl
      ·rw [hk.1,hk.2]; simp; rfl
     ·by_cases hji:j=i
      ·subst hji; exact hk
      ·exact hI j h (by omega)
     ·simp; omega
    ·refine .inr ⟨.inl false,?_,rfl,fun hs=>hk ((snd.1 hs).1 i hlt)⟩;rw [ae]
     cases h1:rgt l[i] with
     | false=>simp
     | true=>
      simp only [h1,uO] at hk;simp only [dA,jh,dB,eR,wG];exact hk
   ·obtain rfl:i=l.length:=by omega
    refine .inr ⟨.inr (ld l.length),by simp,?_⟩;simp only;rw [snd];exact ⟨fun h=>⟨fun j hj=>hI j hj hj,h⟩,fun h=>h.2⟩) (((l.length:Int) - 0).toNat+1) (false,0) ⟨0,rfl,cw _,fun j _ h=>by omega⟩ (by simp)
 rw [h3];simp only [bsm]
 cases t with
 | inl b=>exact ⟨b,rfl,by simp only at h4; rw [h4.1]; simp [h4.2]⟩
 | inr b=>exact ⟨!b,rfl,by simp only at h4; rw [←h4]; cases b <;> simp⟩
def Sht (l:List ab):Prop:=∀i (h:i < l.length),l[i].Text.length≤1000000
theorem Snd.sht {l:List ab} (h:Snd l):Sht l:=fun i hi=>by
 have:=(h i hi).1;unfold rgt at this;split at this
 ·have e:l[i].Text= []:=by simpa using this
  rw [e]; simp
 ·simp at this; omega
def fR (r:Int):Int:=if vld r=true then r else 65533
def fx (t:List Int):List Int:=(t.take 16).map fR
def dZ (wide:Int) (t:List Int):List ab:=
 if t= [] then (if wide > 1 then [bl,bl] else [bl]) else if wide > 1 then [⟨2,t⟩,⟨3,[]⟩] else [⟨1,t⟩]
theorem xR (r:Int):vld (fR r)=true:=by
 unfold fR;split
 ·assumption
 ·rfl
theorem FU (t:List Int):∀x∈fx t,vld x=true:=fun x hx=>by
 obtain ⟨y,_,rfl⟩:=List.mem_map.1 hx;exact xR y
theorem FV (t:List Int):(fx t).length≤16:=by simp [fx]; omega
theorem Az (t:List Int):(fx t).length=min 16 t.length:=by simp [fx]
theorem Cq {k:Int} (hk:k=1∨k=2) {t:List Int} (h1:1≤t.length) (h2:t.length≤16) (hv:∀x∈t,vld x=true):rgt ⟨k,t⟩=true:=by
 unfold rgt;rw [af (by simp; omega)];simp only [aq,aD,am,tv];exact ⟨⟨⟨hk,h1⟩,h2⟩,hv⟩
theorem AY (wide:Int) {t:List Int} (hv:∀x∈t,vld x=true) (h2:t.length≤16):Snd (dZ wide t):=by
 unfold dZ;have hb:rgt bl=true:=rfl;have h3:rgt ⟨3,[]⟩=true:=rfl;by_cases ht:t= []
 ·rw [ae ht];split
  ·intro i hi
   match i,hi with
   | 0,_=>exact ⟨hb,fun h=>by simp [bl] at h,fun h=>by simp [bl] at h⟩
   | 1,_=>exact ⟨hb,fun h=>by simp [bl] at h,fun h=>by simp [bl] at h⟩
  ·intro i hi
   match i,hi with
   | 0,_=>exact ⟨hb,fun h=>by simp [bl] at h,fun h=>by simp [bl] at h⟩
 ·rw [af ht];have h1:1≤t.length:=by
   rcases qM t.length with h | h
   ·exact absurd (eU h) ht
   ·exact h
  split
  ·intro i hi
   match i,hi with
   | 0,_=>exact ⟨Cq (.inr rfl) h1 h2 hv,fun _=>rfl,fun h=>by simp at h⟩
   | 1,_=>exact ⟨h3,fun h=>by simp at h,fun _=>⟨by omega,rfl⟩⟩
  ·intro i hi
   match i,hi with
   | 0,_=>exact ⟨Cq (.inl rfl) h1 h2 hv,fun h=>by simp at h,fun h=>by simp at h⟩
theorem Cu (wide:Int) (t:List Int) (ht:t.length≤9223372036854775807):gZ wide t=some (dZ wide (fx t)):=by
 unfold gZ;rw [oV (s:=(([]:List Int),(0:Int))) (t:=fx t) (fun st:List Int×Int=>∃i:Nat,st=((fx t).take i,(i:Int))∧i≤(fx t).length) (fun st=>(fx t).length - st.2.toNat) ?_ ⟨0,rfl,cw _⟩ (by simp [fx]; omega)]
 ·simp only [bsm,aY];unfold dZ;by_cases h0:fx t= []
  ·rw [ae h0,h0];by_cases hw:wide > 1
   ·simp [hw,bl]
   ·simp [hw,bl]
  ·have h1:(((fx t).length:Int)==0)=false:=by
    rw [eR];intro e;exact h0 (eU (by omega))
   rw [af h0];simp only [h1,mb,aj,aT];by_cases hw:wide > 1
   ·simp [hw]
   ·simp [hw]
 ·rintro st ⟨i,rfl,hi⟩;have hl:=Az t;rcases aN i (fx t).length with hlt | hge
  ·refine .inl ⟨_,?_,⟨i+1,rfl,hlt⟩,by simp; omega⟩;have e3:w64 ((i:Int)+1)=((i+1:Nat):Int):=by rw [aF (by omega)]; simp
   have hit:i < t.length:=by omega
   have d1:(decide ((i:Int) < (t.length:Int)) && decide ((i:Int) < 16))=true:=by simp; omega
   have hx:(fx t)[i]=fR t[i]:=by simp [fx]
   simp only [aY,bsm,d1,bv,bp hit,tH,e3];have happ:∀x,x=fR t[i]→app ((fx t).take i) [x]=some ((fx t).take (i+1)):=fun x hxx=>by
    rw [cR (by rw [ay]; simp; omega),ax hlt,hx,hxx]
   cases hv:vld t[i] with
   | true=>
    simp only [bv];rw [happ _ (by simp [fR,hv])];rfl
   | false=>
    simp only [aj,aT];rw [happ _ (by simp [fR,hv])];rfl
  ·obtain rfl:i=(fx t).length:=by omega
   have d1:(decide (((fx t).length:Int) < (t.length:Int)) && decide (((fx t).length:Int) < 16))=false:=by simp; omega
   exact .inr (by simp only [aY,bsm,d1,aj,aT]; simp)
end Go.Proofs.YtclmdpamofdoiaaGreatDoor
namespace Go.Proofs.YtclmdpamofdoiaaGreatDoor
open Go Go.Lt
def Sto.sr (s:Sto) (k:Nat) (x:bf):Sto:={ s with row_Row:=s.row_Row.set k x}
theorem cK {α:Type} {l:List α} {k:Nat} {x:α} (h:l[k]? = some x):k < l.length:=(List.getElem?_eq_some_iff.1 h).1
theorem uE {s:Sto} {k:Nat} {x:bf} (h:k < s.row_Row.length):s.set_row_Row k x=some (s.sr k x):=by
 unfold Sto.set_row_Row;rw [ae h];rfl
theorem Ff (s:Sto) (k:Nat) (x:bf):(s.sr k x).row_Row.length=s.row_Row.length:=by simp [Sto.sr]
theorem rQ {s:Sto} {k:Nat} {x:bf} (h:k < s.row_Row.length):(s.sr k x).row_Row[k]? = some x:=by simp [Sto.sr,h]
theorem xV {s:Sto} {k j:Nat} {x:bf} (h:k≠j):(s.sr k x).row_Row[j]? = s.row_Row[j]? :=by simp [Sto.sr,h]
theorem Ah (s:Sto) (k:Nat) (x y:bf):(s.sr k x).sr k y=s.sr k y:=by simp [Sto.sr]
theorem xW {s:Sto} {k:Nat} {x:bf} (h:s.row_Row[k]? = some x):s.sr k x=s:=by
 have:s.row_Row.set k x=s.row_Row:=by
  apply cm;intro j;by_cases hj:k=j
  ·subst hj; rw [bq (cK h),h]
  ·rw [aW hj]
 simp [Sto.sr,this]
theorem AN (s:Sto) (x:bf):(s.add_row_Row x).row_Row[s.row_Row.length]? = some x:=by simp [Sto.add_row_Row]
theorem Gg (s:Sto) (x y:bf):(s.add_row_Row x).sr s.row_Row.length y=s.add_row_Row y:=by simp [Sto.sr,Sto.add_row_Row]
variable {s:Sto} {k:Nat} {l:List ab} {w:Bool}
theorem jl (h:s.row_Row[k]? = some ⟨l,w⟩):bN s (some k)=some (l.length:Int):=by simp [bN,h]
theorem uG {c:ab} (h:c.Text.length≤1000000):lB c=some c:=by
 simp only [lB,gb,cR (show ([]:List Int).length+c.Text.length≤1099511627776 by simp; omega),bsm,ba]
theorem Cp (h:s.row_Row[k]? = some ⟨l,w⟩):jr s (some k)=some w:=by simp [jr,h,bV]
theorem uV (h:s.row_Row[k]? = some ⟨l,w⟩) (on:Bool):fa s (some k) on=some (s.sr k ⟨l,on⟩):=by
 simp [fa,h,uE (cK h)]
theorem qR (h:s.row_Row[k]? = some ⟨l,w⟩) (hl:l.length≤1000000) (hs:Sht l):eC s (some k)=some l:=by
 unfold eC;rw [jl h];simp only [bsm];rw [oV (s:=(([]:List ab),(0:Int))) (t:=l) (fun st:List ab×Int=>∃i:Nat,st=(l.take i,(i:Int))∧i≤l.length) (fun st=>l.length - st.2.toNat) ?_ ⟨0,rfl,cw _⟩ (by simp)]
 ·rfl
 ·rintro st ⟨i,rfl,hi⟩;rcases aN i l.length with hlt | hge
  ·refine .inl ⟨(l.take (i+1),((i+1:Nat):Int)),?_,⟨i+1,rfl,hlt⟩,by simp; omega⟩;have e3:w64 ((i:Int)+1)=((i+1:Nat):Int):=by rw [aF (by omega)]; simp
   simp only [qg,hlt,lR,bv,bsm,h,bp hlt,uG (hs i hlt),e3];rw [cR (by rw [ay]; simp; omega),ax hlt];rfl
  ·obtain rfl:i=l.length:=by omega
   exact .inr (by simp)
theorem yd (h:s.row_Row[k]? = some ⟨l,w⟩) {i:Nat} (hi:i < l.length) (hs:Sht l):ge s (some k) i=some (l[i],true):=by
 unfold ge;rw [jl h];simp only [bsm,bz];rw [af (by simp; omega)];simp only [h,bsm,bp hi,uG (hs i hi)]
theorem yc (h:s.row_Row[k]? = some ⟨l,w⟩) (i:Nat):gY s (some k) i=some (kd l i):=by
 unfold gY;rw [jl h];simp only [bsm,bz];by_cases hi:i < l.length
 ·rw [af (by simp; omega)];simp only [h,bsm,bp hi,kK hi]
 ·rw [ae (by simp; omega),mw (by omega)]
theorem xb (h:s.row_Row[k]? = some ⟨l,w⟩) {i:Nat} (hi:i < l.length) (hl:l.length≤1000000) {c:ab} (hc:c.Text.length≤1000000):
  fV s (some k) i c=some (s.sr k ⟨l.set i c,w && !decide (i+1=l.length)⟩):=by
 unfold fV;have e:w64 (((l.set i c).length:Int) - 1)=(l.length:Int) - 1:=by rw [cq,aF (by omega)]
 simp only [h,bsm,uG hc,bp hi,kR hi,uE (cK h),e];by_cases hn:i+1=l.length
 ·rw [ae (by simp; omega),uE (by rw [Ff]; exact cK h),Ah];simp [hn]
 ·rw [af (by simp; omega)];simp [hn]
def sd (n:Int):Nat:=(max 1 (min n 1024)).toNat
theorem sI (n:Int):1≤sd n∧sd n≤1024:=by unfold sd; omega
theorem Aj {n:Nat} (h:1≤n) (h2:n≤1024):sd n=n:=by unfold sd; omega
theorem tY (n:Int):ew n=some (List.replicate (max 0 (min n 1024)).toNat bl):=by
 unfold ew;simp only [eX,dx];rw [nQ _ (by omega)];rfl
theorem xc (n:Int):kF s n=some (s.add_row_Row ⟨List.replicate (sd n) bl,false⟩,some s.row_Row.length):=by
 unfold kF;rw [tY];simp only [bsm,eX];rw [show (max 0 (min (max 1 n) 1024)).toNat=sd n by unfold sd; omega]
theorem tz (n:Nat):Snd (List.replicate n bl):=fun i h=>by
 rw [jf];exact ⟨rfl,fun h=>by simp [bl] at h,fun h=>by simp [bl] at h⟩
theorem Fp (hl:1≤l.length) (hl2:l.length≤1024) (hs:Snd l):qv s l=some (s.add_row_Row ⟨l,false⟩,some s.row_Row.length,Er.nil):=by
 unfold qv;obtain ⟨b,h1,h2⟩:=vz l (by omega);have hb:b=true:=h2.2 hs;subst hb;simp only [bz,bsm,h1];rw [af (by rw [aD,aL,am]; omega),af (by simp),xc,Aj hl hl2];simp only [bsm];rw [oV (s:=((0:Int),s.add_row_Row ⟨List.replicate l.length bl,false⟩)) (t:=s.add_row_Row ⟨l,false⟩) (fun st:Int×Sto=>∃i:Nat,st=((i:Int),s.add_row_Row ⟨l.take i++List.replicate (l.length - i) bl,false⟩)∧i≤l.length) (fun st=>l.length - st.1.toNat) ?_ ⟨0,by simp,cw _⟩ (by simp)]
 ·rfl
 ·rintro st ⟨i,rfl,hi⟩;rcases aN i l.length with hlt | hge
  ·refine .inl ⟨_,?_,⟨i+1,rfl,hlt⟩,by simp; omega⟩;have e3:w64 ((i:Int)+1)=((i+1:Nat):Int):=by rw [aF (by omega)]; simp
   have hlen:(l.take i++List.replicate (l.length - i) bl).length=l.length:=by simp; omega
   simp only [qg,hlt,lR,bv,bp hlt,bsm,AN,uG (hs.sht i hlt),e3];rw [bp (show i < (l.take i++List.replicate (l.length - i) bl).length by omega)];simp only [bsm];rw [kR (show i < (l.take i++List.replicate (l.length - i) bl).length by omega)];simp only [bsm];rw [uE (cK (AN _ _)),Gg];simp only [bsm];have:(l.take i++List.replicate (l.length - i) bl).set i l[i]=l.take (i+1)++List.replicate (l.length - (i+1)) bl:=by
    rw [nN _ _ (by rw [ay]; omega),ay,cz hi,nB,show l.length - i=(l.length - (i+1))+1 by omega,List.replicate_succ,qN,ax hlt,aK];rfl
   rw [this]
  ·obtain rfl:i=l.length:=by omega
   exact .inr (by simp)
def tch (l:List ab) (a n j:Nat):Bool:=(decide (a≤j) && decide (j < a+n)) || (decide (kd l j=2) && decide (a≤j+1) && decide (j+1 < a+n)) || (decide (kd l j=3) && decide (a+1≤j) && decide (j < a+n+1))
def pc (l:List ab) (a:Nat) (p:List ab) (j:Nat):ab:=
 if a≤j∧j < a+p.length then p.getD (j - a) bl else if tch l a p.length j=true then bl else l.getD j bl
def pl (l:List ab) (a:Nat) (p:List ab):List ab:=(List.range l.length).map (pc l a p)
def pw (l:List ab) (w:Bool) (a n:Nat):Bool:=w && !(decide (0 < l.length) && tch l a n (l.length - 1))
theorem jz (l:List ab) (a:Nat) (p:List ab):(pl l a p).length=l.length:=by simp [pl]
theorem tJ {a:Nat} {p:List ab} {j:Nat} (h:j < l.length):(pl l a p)[j]? = some (pc l a p j):=by simp [pl,h]
theorem EW {a:Nat} {p:List ab} {j:Nat} (h:j < (pl l a p).length):(pl l a p)[j]=pc l a p j:=by simp [pl]
theorem CQ {a:Nat} {p:List ab} {j:Nat} (h:j < l.length):kd (pl l a p) j=(pc l a p j).Kind:=by simp [kd,tJ h]
theorem Snd.two (h:Snd l) {j:Nat} (hj:kd l j=2):kd l (j+1)=3:=by
 have hlt:j < l.length:=by
  rcases aN j l.length with h | h
  ·exact h
  ·rw [mw h] at hj; cases hj
 exact (h j hlt).2.1 (by rw [←kK hlt]; exact hj)
theorem Snd.three (h:Snd l) {j:Nat} (hj:kd l j=3):0 < j∧kd l (j - 1)=2:=by
 have hlt:j < l.length:=by
  rcases aN j l.length with h | h
  ·exact h
  ·rw [mw h] at hj; cases hj
 exact (h j hlt).2.2 (by rw [←kK hlt]; exact hj)
theorem ui {j:Nat} (h:kd l j≠0):j < l.length:=by
 rcases aN j l.length with h' | h'
 ·exact h'
 ·exact absurd (mw h') h
theorem Snd.rg (h:Snd l) {j:Nat} (hj:j < l.length):rgt (l.getD j bl)=true:=by
 rw [av,ah hj];exact (h j hj).1
theorem nf (l:List ab) (j:Nat):(l.getD j bl).Kind=kd l j:=by
 rw [av,kd]
 cases l[j]? <;> rfl
theorem Snd.paint {a:Nat} {p:List ab} (h:Snd l) (hp:Snd p) (ha:a+p.length≤l.length):Snd (pl l a p):=fun j hj=>by
 rw [jz] at hj;rw [EW];have kpc:∀i,i < l.length→(pc l a p i).Kind=if a≤i∧i < a+p.length then kd p (i - a) else if tch l a p.length i=true then 0 else kd l i:=fun i hi=>by
  unfold pc;split
  ·exact nf _ _
  ·split
   ·rfl
   ·exact nf _ _
 have kall:∀i,kd (pl l a p) i=if i < l.length then (if a≤i∧i < a+p.length then kd p (i - a) else if tch l a p.length i=true then 0 else kd l i) else 0:=fun i=>by
  by_cases hi:i < l.length
  ·rw [ae hi,CQ hi,kpc i hi]
  ·rw [af hi,mw (by rw [jz]; omega)]
 refine ⟨?_,fun h2=>?_,fun h3=>?_⟩
 ·unfold pc;split
  ·exact hp.rg (by omega)
  ·split
   ·rfl
   ·exact h.rg hj
 ·rw [kpc j hj] at h2;rw [kall];by_cases hin:a≤j∧j < a+p.length
  ·rw [ae hin] at h2;have h4:=hp.two h2;have h5:j - a+1 < p.length:=ui (by rw [h4]; decide);rw [ae (by omega),ae (by omega),show j+1 - a=j - a+1 by omega]; exact h4
  ·rw [af hin] at h2;split at h2
   ·cases h2
   ·rename_i ht
    have h4:=h.two h2;have h5:j+1 < l.length:=ui (by rw [h4]; decide);simp only [tch,h2,lR,dz,aD,aq,am,FF,yt] at ht;have h6:¬(a≤j+1∧j+1 < a+p.length):=by omega
    have h7:¬tch l a p.length (j+1)=true:=by
     simp only [tch,h4,aD,aq,am];omega
    rw [ae h5,af h6,af h7]; exact h4
 ·rw [kpc j hj] at h3;by_cases hin:a≤j∧j < a+p.length
  ·rw [ae hin] at h3;have h4:=hp.three h3;refine ⟨by omega,?_⟩;rw [kall,ae (by omega),ae (by omega),show j - 1 - a=j - a - 1 by omega]; exact h4.2
  ·rw [af hin] at h3;split at h3
   ·cases h3
   ·rename_i ht
    have h4:=h.three h3;refine ⟨h4.1,?_⟩;simp only [tch,h3,lR,dz,aD,aq,am,FF,yt] at ht;have h6:¬(a≤j - 1∧j - 1 < a+p.length):=by omega
    have h7:¬tch l a p.length (j - 1)=true:=by
     simp only [tch,h4.2,aD,aq,am];omega
    rw [kall,ae (by omega),af h6,af h7]; exact h4.2
theorem tI (l:List ab) (w:Bool) (a:Nat) (p:List ab) (hl:l.length≤1000000) (ha:a≤1000000) (hp:p.length≤1000000):ek l w a p=some (pl l a p,pw l w a p.length):=by
 unfold ek;rw [oV (s:=(w,([]:List ab),(0:Int))) (t:=(pw l w a p.length,pl l a p)) (fun st:Bool×List ab×Int=>∃i:Nat,st=(if i < l.length then w else pw l w a p.length,(pl l a p).take i,(i:Int))∧i≤l.length) (fun st=>l.length - st.2.2.toNat) ?_ ⟨0,?_,cw _⟩ (by simp)]
 ·rfl
 ·rintro st ⟨i,rfl,hi⟩;rcases aN i l.length with hlt | hge
  ·refine .inl ⟨_,?_,⟨i+1,rfl,hlt⟩,by simp; omega⟩;have e3:w64 ((i:Int)+1)=((i+1:Nat):Int):=by rw [aF (by omega)]; simp
   have e4:w64 ((a:Int)+(p.length:Int))=((a+p.length:Nat):Int):=by rw [aF (by omega)]; simp
   have e5:w64 ((i:Int) - (a:Int))=(i:Int) - a:=aF (by omega);have e6:w64 ((i:Int) - 1)=(i:Int) - 1:=aF (by omega);have hd:decide ((i:Int) < (l.length:Int))=true:=by simp; exact hlt
   simp only [hd,bv,ae hlt,bp hlt,bsm,aY,bz,e3,e4,e5,e6];have happ:∀x:ab,x=pc l a p i→app ((pl l a p).take i) [x]=some ((pl l a p).take (i+1)):=fun x hx=>by
    subst hx;rw [cR (by rw [ay,jz]; simp; omega),ax (show i < (pl l a p).length by rw [jz]; exact hlt),EW]
   by_cases hin:a≤i∧i < a+p.length
   ·have c1:(decide ((i:Int)≥a) && decide ((i:Int) < ((a+p.length:Nat):Int)))=true:=by simp; omega
    obtain ⟨q,hq⟩:∃q:Nat,q=i - a:=⟨_,rfl⟩;have c2:(i:Int) - a=(q:Int):=by omega
    have hqp:q < p.length:=by omega
    simp only [c1,bv,c2,bp hqp,bsm,dA,ik,mb,aj,aT,Bool.true_or,EQ];rw [happ ⟨p[q].Kind,p[q].Text⟩ (by rw [pc,ae hin,←hq,av,ah hqp]; rfl)];by_cases hn:i+1=l.length
    ·have c3:(((i+1:Nat):Int)==(l.length:Int))=true:=by simp; omega
     have c4:pw l w a p.length=false:=by
      have:tch l a p.length (l.length - 1)=true:=by simp [tch]; omega
      simp [pw,this]; omega
     simp only [c3,bv,bsm,c4];rw [af (by omega)]
    ·have c3:(((i+1:Nat):Int)==(l.length:Int))=false:=by simp; omega
     simp only [c3,aj,aT,bsm];rw [ae (show i+1 < l.length by omega)]
   ·have c1:(decide ((i:Int)≥a) && decide ((i:Int) < ((a+p.length:Nat):Int)))=false:=by simp; omega
    have c5:((l[i].Kind==2 && decide (((i+1:Nat):Int)≥a) && decide (((i+1:Nat):Int) < ((a+p.length:Nat):Int))) || (l[i].Kind==3 && decide ((i:Int) - 1≥a) && decide ((i:Int) - 1 < ((a+p.length:Nat):Int))))=tch l a p.length i:=by
     rw [ck];simp only [tch,kK hlt,aD,aq,aL,am];omega
    simp only [c1,aj,aT,bsm,eA,iR,jh,dz];simp only [c5]
    cases ht:tch l a p.length i with
    | true=>
     simp only [bv,bsm,EQ];rw [happ ⟨0,[]⟩ (by rw [pc,af hin,ae ht]; rfl)];by_cases hn:i+1=l.length
     ·have c3:(((i+1:Nat):Int)==(l.length:Int))=true:=by simp; omega
      have c4:pw l w a p.length=false:=by
       have e:l.length - 1=i:=by omega
       simp [pw,e,ht]; omega
      simp only [c3,bv,bsm,c4];rw [af (by omega)]
     ·have c3:(((i+1:Nat):Int)==(l.length:Int))=false:=by simp; omega
      simp only [c3,aj,aT,bsm];rw [ae (show i+1 < l.length by omega)]
    | false=>
     simp only [aj,aT,bsm,DD];rw [happ ⟨l[i].Kind,l[i].Text⟩ (by rw [pc,af hin,af (by simp [ht]),av,ah hlt]; rfl)];by_cases hn:i+1=l.length
     ·have c4:pw l w a p.length=w:=by
       have e:l.length - 1=i:=by omega
       simp [pw,e,ht]
      simp only [bsm,c4,ite_self]
     ·simp only [bsm];rw [ae (show i+1 < l.length by omega)]
  ·obtain rfl:i=l.length:=by omega
   refine .inr ?_;have e:(pl l a p).take l.length=pl l a p:=aC (by rw [jz]; exact az _);simp [e]
 ·by_cases h0:0 < l.length
  ·simp [h0]
  ·simp [h0,pw]
end Go.Proofs.YtclmdpamofdoiaaGreatDoor
namespace Go.Proofs.YtclmdpamofdoiaaGreatDoor
open Go Go.Lt
variable {s:Sto} {k:Nat} {l p:List ab} {w:Bool}
theorem Bt {i j:Nat} (h:i≠j) (c:ab):kd (l.set i c) j=kd l j:=by simp [kd,aW h]
theorem oe (h:s.row_Row[k]? = some ⟨l,w⟩) (hs:Snd l) (hl:l.length≤1024) (hp:Snd p) {a:Nat} (hn:1≤p.length) (ha:a+p.length≤l.length):
  dQ s (some k) a p=some (s.sr k ⟨pl l a p,pw l w a p.length⟩,Er.nil):=by
 unfold dQ;have hk:=cK h;obtain ⟨b,hb1,hb2⟩:=vz p (by omega);have hb:b=true:=hb2.2 hp;subst hb;have e1:w64 ((l.length:Int) - (a:Int))=(l.length:Int) - a:=aF (by omega);have e2:w64 ((a:Int)+(p.length:Int))=((a+p.length:Nat):Int):=by rw [aF (by omega)]; simp
 have o1:decide ((a:Int) < 0)=false:=by simp
 have o2:decide ((a:Int) > (l.length:Int))=false:=by simp; omega
 have o3:decide ((p.length:Int) > (l.length:Int) - (a:Int))=false:=by simp; omega
 have o4:((p.length:Int)==0)=false:=by rw [eR]; omega
 simp only [bJ,gn,o1,o2,o3,o4,h,e1,e2,hb1,bsm,aj,aT,dA,yc h a];obtain ⟨l1,hl1⟩:∃l1,l1=if kd l a=3 then l.set (a - 1) bl else l:=⟨_,rfl⟩;have hlen1:l1.length=l.length:=by rw [hl1]; split <;> simp
 have left:(if (kd l a==3)=true then (fV s (some k) (w64 ((a:Int) - 1)) (⟨0,([]:List Int)⟩:ab)).bind fun x_60=>(some (x_60):Option (Sto)) else (some (s):Option (Sto)))=some (s.sr k ⟨l1,w⟩):=by
  by_cases h3:kd l a=3
  ·have h4:=hs.three h3;have h5:a < l.length:=ui (by rw [h3]; decide);rw [ae (by simpa using h3),show w64 ((a:Int) - 1)=((a - 1:Nat):Int) by rw [aF (by omega)]; omega,xb h (by omega) (by omega) (by simp)];rw [hl1,ae h3];have:decide (a - 1+1=l.length)=false:=by simp; omega
   simp only [bsm,this,eA,EQ];rfl
  ·rw [af (by simpa using h3),hl1,af h3,xW h]
 rw [left];simp only [bsm];obtain ⟨l2,hl2⟩:∃l2,l2=if kd l (a+p.length)=3 then l1.set (a+p.length) bl else l1:=⟨_,rfl⟩;obtain ⟨w2,hw2⟩:∃w2,w2=(w && !(decide (kd l (a+p.length)=3) && decide (a+p.length+1=l.length))):=⟨_,rfl⟩;have hlen2:l2.length=l.length:=by rw [hl2]; split <;> simp [hlen1]
 have hget1:(s.sr k ⟨l1,w⟩).row_Row[k]? = some ⟨l1,w⟩:=rQ hk;have hkd1:kd l1 (a+p.length)=kd l (a+p.length):=by
  rw [hl1]; split
  ·exact Bt (by omega) _
  ·rfl
 have right:((gY (s.sr k ⟨l1,w⟩) (some k) ((a+p.length:Nat):Int)).bind fun x_71=>
   if (x_71==3)=true then
   (fV (s.sr k ⟨l1,w⟩) (some k) ((a+p.length:Nat):Int) (⟨0,([]:List Int)⟩:ab)).bind fun x_77=>
   (some (x_77):Option (Sto))
   else
   (some (s.sr k ⟨l1,w⟩):Option (Sto)))=some (s.sr k ⟨l2,w2⟩):=by
  rw [yc hget1,hkd1];simp only [bsm];by_cases h3:kd l (a+p.length)=3
  ·have h5:a+p.length < l.length:=ui (by rw [h3]; decide);rw [ae (by simpa using h3),xb hget1 (by omega) (by omega) (by simp)];simp only [bsm,Ah];rw [hl2,ae h3,hw2,hlen1];simp only [h3,lR,dz];rfl
  ·rw [af (by simpa using h3),hl2,af h3,hw2];simp [h3]
 rw [right];simp only [bsm];rw [oV (s:=((0:Int),s.sr k ⟨l2,w2⟩)) (t:=s.sr k ⟨l2.take a++p++l2.drop (a+p.length),w2 && !decide (a+p.length=l.length)⟩)
  (fun st:Int×Sto=>∃i:Nat,st=((i:Int),s.sr k ⟨l2.take a++p.take i++l2.drop (a+i),w2 && !(decide (0 < i) && decide (a+i=l.length))⟩)∧i≤p.length) (fun st=>p.length - st.1.toNat) ?_ ⟨0,?_,cw _⟩ (by simp)]
 ·simp only [bsm,aQ,gU,vP]
  congr 1
  congr 1
  ·
   apply cm;intro j;rcases aN j l.length with hj | hj
   ·rw [tJ hj];have g1:∀j,j < l.length→j≠a+p.length→l1[j]? = some (if kd l a=3∧j=a - 1 then bl else l.getD j bl):=fun j hj _=>by
     rw [hl1];split
     ·rename_i h3
      by_cases hja:j=a - 1
      ·subst hja;rw [bq (by omega),ae ⟨h3,rfl⟩]
      ·rw [aW (rM hja),af (fun e=>hja e.2),ah hj,av,ah hj]; rfl
     ·rename_i h3
      rw [af (fun e=>h3 e.1),ah hj,av,ah hj]; rfl
    have lw:(l2.take a).length=a:=by rw [ay]; omega
    rcases aN j a with hja | hja
    ·rw [aK,aI (by omega),aR,ae hja];have e:l2[j]? = l1[j]? :=by
      rw [hl2]; split
      ·exact aW (by omega)
      ·rfl
     have hp0:¬(a≤j∧j < a+p.length):=by omega
     rw [e,g1 j hj (by omega),pc,af hp0]
     congr 1
     by_cases hc:kd l a=3∧j=a - 1
     ·rw [ae hc,ae];have h4:=hs.three hc.1;simp only [tch,aD,aq,am];refine .inl (.inr ⟨⟨?_,?_⟩,?_⟩)
      ·rw [hc.2]; exact h4.2
      ·omega
      ·omega
     ·rw [af hc,af];simp only [tch,aD,aq,am,FF,yt];refine ⟨⟨fun h=>by omega,fun h2=>?_⟩,fun h=>by omega⟩;have h3:=hs.two h2.1;have:j+1=a:=by omega
      rw [this] at h3;exact absurd ⟨h3,by omega⟩ hc
    ·rcases aN j (a+p.length) with hjn | hjn
     ·rw [aK,bh (by omega),aI (by omega),lw,pc,ae ⟨hja,hjn⟩,av,ah (by omega)];rfl
     ·rw [bh (by rw [aA]; omega),bK,aA,lw,show a+p.length+(j - (a+p.length))=j by omega];rw [pc,af (by omega)];by_cases hc:kd l (a+p.length)=3∧j=a+p.length
      ·rw [hl2,ae hc.1,hc.2,bq (by omega),ae];simp only [tch,aD,aq,am];exact .inr ⟨⟨hc.1,by omega⟩,by omega⟩
      ·have e:l2[j]? = some (l.getD j bl):=by
        have e2:l1[j]? = some (l.getD j bl):=by
         rw [hl1]; split
         ·rw [aW (by omega),av,ah hj]; rfl
         ·rw [av,ah hj]; rfl
        rw [hl2]; split
        ·rename_i h3
         rw [aW (fun e=>hc ⟨h3,e.symm⟩),e2]
        ·exact e2
       rw [e,af];simp only [tch,aD,aq,am,FF,yt];refine ⟨⟨fun h=>by omega,fun h=>by omega⟩,fun h2=>?_⟩;intro h4;have:j=a+p.length:=by omega
       exact hc ⟨by rw [←this]; exact h2.1,this⟩
   ·rw [aZ (l:=pl l a p) (by rw [jz]; exact hj),aZ (by simp only [aA,ay,br]; omega)]
  ·
   rw [hw2,pw,Bool.and_assoc]
   congr 1
   rw [←Bool.not_or]
   congr 1
   have h2:kd l (l.length - 1)≠2:=fun h2=>by
    have:=hs.two h2;rw [show l.length - 1+1=l.length by omega,mw (az _)] at this;cases this
   rw [ck];simp only [tch,aD,aq,am];constructor
   ·rintro (⟨h3,h4⟩ | h4)
    ·refine ⟨by omega,.inr ⟨⟨?_,by omega⟩,by omega⟩⟩;rw [show l.length - 1=a+p.length by omega]; exact h3
    ·exact ⟨by omega,.inl (.inl ⟨by omega,by omega⟩)⟩
   ·rintro ⟨h0,(⟨h3,h4⟩ | ⟨⟨h3,_⟩,_⟩) | ⟨⟨h3,h4⟩,h5⟩⟩
    ·exact .inr (by omega)
    ·exact absurd h3 h2
    ·by_cases hx:a+p.length=l.length
     ·exact .inr hx
     ·have:l.length - 1=a+p.length:=by omega
      exact .inl ⟨by rw [←this]; exact h3,by omega⟩
 ·rintro st ⟨i,rfl,hi⟩;rcases aN i p.length with hlt | hge
  ·refine .inl ⟨_,?_,⟨i+1,rfl,hlt⟩,by simp; omega⟩;have e3:w64 ((i:Int)+1)=((i+1:Nat):Int):=by rw [aF (by omega)]; simp
   have e4:w64 ((a:Int)+(i:Int))=((a+i:Nat):Int):=by rw [aF (by omega)]; simp
   have hd:decide ((i:Int) < (p.length:Int))=true:=by simp; exact hlt
   have hli:(l2.take a++p.take i++l2.drop (a+i)).length=l.length:=by
    simp only [aA,ay,br]; omega
   simp only [hd,bv,bp hlt,bsm,e3,e4];rw [xb (rQ hk) (by rw [hli]; omega) (by rw [hli]; omega) (hp.sht i hlt)];simp only [bsm,Ah,hli];have hset:(l2.take a++p.take i++l2.drop (a+i)).set (a+i) p[i]=l2.take a++p.take (i+1)++l2.drop (a+(i+1)):=by
    have hx:(l2.take a++p.take i).length=a+i:=by simp only [aA,ay]; omega
    rw [nN _ _ (by omega),hx,nB,gw (show a+i < l2.length by omega),qN,ax hlt];simp only [aK,co,ba,sn]
   rw [hset];have hwe:((w2 && !(decide (0 < i) && decide (a+i=l.length))) && !decide (a+i+1=l.length))=(w2 && !(decide (0 < i+1) && decide (a+(i+1)=l.length))):=by
    have:decide (a+i=l.length)=false:=by simp; omega
    rw [this];simp [sn]
   rw [hwe]
  ·obtain rfl:i=p.length:=by omega
   refine .inr ?_;have:decide (0 < p.length)=true:=by simp; omega
   simp [this]
 ·simp
def cl (n:Int) (m:Nat):Nat:=(max 0 (min n m)).toNat
theorem mW (n:Int) (m:Nat):cl n m≤m:=by unfold cl; omega
end Go.Proofs.YtclmdpamofdoiaaGreatDoor
namespace Go.Proofs.YtclmdpamofdoiaaGreatDoor
open Go Go.Lt
variable {s:Sto} {g k W:Nat} {ks:List Nat} {l p:List ab} {w:Bool}
def Sto.sg (s:Sto) (g:Nat) (x:bZ):Sto:={ s with grid_Grid:=s.grid_Grid.set g x}
theorem xY {x:bZ} (h:g < s.grid_Grid.length):s.set_grid_Grid g x=some (s.sg g x):=by
 simp only [Sto.set_grid_Grid,h,bv];rfl
theorem Cc {x:bZ} (h:g < s.grid_Grid.length):(s.sg g x).grid_Grid[g]? = some x:=by simp [Sto.sg,h]
theorem GE (s:Sto) (g:Nat) (x y:bZ):(s.sg g x).sg g y=s.sg g y:=by simp [Sto.sg]
theorem GF {x:bZ} (h:s.grid_Grid[g]? = some x):s.sg g x=s:=by
 obtain ⟨h1,h2⟩:=List.getElem?_eq_some_iff.1 h;unfold Sto.sg;rw [←h2,Gu]
def ln (s:Sto) (k:Nat):ak:=match s.row_Row[k]? with | some r=>⟨r.cells,r.wrap⟩ | none=>⟨[],false⟩
theorem nj {r:bf} (h:s.row_Row[k]? = some r):ln s k=⟨r.cells,r.wrap⟩:=by simp [ln,h]
def Rw (s:Sto) (W k:Nat):Prop:=∃r,s.row_Row[k]? = some r∧Snd r.cells∧r.cells.length=W
structure Gw (s:Sto) (g:Nat) (ks:List Nat) (W:Nat):Prop where
 g:s.grid_Grid[g]? = some ⟨ks.map some⟩
 r:∀k∈ks,Rw s W k
 h1:1≤ks.length
 h2:ks.length≤1024
 w1:1≤W
 w2:W≤1024
theorem Gw.at (h:Gw s g ks W) {i:Nat} (hi:i < ks.length):Rw s W ks[i]:=h.r _ (aH hi)
theorem eL (h:Gw s g ks W):bL s (some g)=some (ks.length:Int):=by simp [bL,h.g]
theorem eY (h:Gw s g ks W) {i:Nat} (hi:i < ks.length):bA s (some g) i=some (some ks[i]):=by
 unfold bA;rw [eL h];simp only [bsm,bz];rw [af (by simp; omega)];simp only [bsm,h.g];rw [bp (by simpa using hi)];simp
theorem sW (h:Gw s g ks W) {i:Int} (hi:i < 0∨(ks.length:Int)≤i):bA s (some g) i=some none:=by
 unfold bA;rw [eL h];simp only [bsm,bz];rw [ae (by simp; omega)]
theorem wQ (h:Rw s W k):bN s (some k)=some (W:Int):=by
 obtain ⟨r,h1,_,h3⟩:=h;rw [jl (l:=r.cells) (w:=r.wrap) h1,h3]
theorem jm (h:Gw s g ks W):ci s (some g)=some (W:Int):=by
 unfold ci;rw [show (0:Int)=((0:Nat):Int) from rfl,eY h (show 0 < ks.length from h.h1)];simp only [bsm];rw [wQ (h.at h.h1)];rfl
theorem yC (h:Gw s g ks W) {i:Nat} (hi:i < ks.length) (hk:Rw s W k):eD s (some g) i (some k)=some (s.sg g ⟨(ks.set i k).map some⟩,true):=by
 unfold eD;rw [eY h hi];simp only [bsm,wQ (h.at hi),wQ hk,bJ,gn];rw [af (by simp)];simp only [h.g,bsm];rw [bp (by simpa using hi),kR (by simpa using hi)];simp only [bsm];rw [xY (cK h.g)];simp
theorem Gw.set (h:Gw s g ks W) {i:Nat} (hk:Rw s W k):Gw (s.sg g ⟨(ks.set i k).map some⟩) g (ks.set i k) W:=
 ⟨Cc (cK h.g),fun j hj=>by
  rcases DE hj with hj | rfl
  ·exact h.r j hj
  ·exact hk,by simpa using h.h1,by simpa using h.h2,h.w1,h.w2⟩
theorem zF (h:Gw s g ks W):iW s (some g)=some (ks.map (ln s)):=by
 have hh:=h.h2;have hw:=h.w2;unfold iW;rw [eL h];simp only [bsm];obtain ⟨t,h1,h2⟩:=eK (σ:=(List ak)×Int) (τ:=List ak) (n:=ks.length) (fuel:=((ks.length:Int) - 0).toNat+1) (s:=(([]:List ak),0))
  (fun i q=>q=((ks.take i).map (ln s),(i:Int))) (fun t=>t=ks.map (ln s))
  (step:=fun s_9=>
 if (decide (s_9.2 < (ks.length:Int)))=true then
 (s.grid_Grid[g]?).bind fun o_19=>
 (idx o_19.rows s_9.2).bind fun x_21=>
 (idx o_19.rows s_9.2).bind fun x_28=>
 (eC s x_21).bind fun x_30=>
 (jr s x_28).bind fun x_31=>
 (app s_9.1 ([(⟨x_30,x_31⟩:ak)]:List ak)).bind fun x_34=>
 some (.inl (x_34,(w64 (s_9.2+1))))
 else
 some (.inr (s_9.1)))
  (fun i q hi e=>by
   subst e;refine .inl ⟨_,?_,rfl⟩;obtain ⟨r,r1,r2,r3⟩:=h.at hi;have e5:w64 ((i:Int)+1)=((i+1:Nat):Int):=by rw [aF (by omega)]; simp
   have hd:decide ((i:Int) < (ks.length:Int))=true:=by simp; exact hi
   have hi2:i < (ks.map some).length:=by simpa using hi
   simp only [hd,bv,bsm,h.g,bp hi2,dU,e5];rw [qR (l:=r.cells) (w:=r.wrap) r1 (by omega) r2.sht,Cp (l:=r.cells) (w:=r.wrap) r1];simp only [bsm];rw [cR (by simp; omega)];simp only [bsm];rw [ax hi,bO];simp [nj r1])
  (fun q e=>⟨_,by subst e; simp,rfl⟩)
  (by simp) (by omega)
 subst h2;rw [h1];rfl
def Okl (W:Nat) (x:ak):Prop:=Snd x.Cells∧x.Cells.length=W
theorem vX (h:Gw s g ks W):∀x∈ks.map (ln s),Okl W x:=fun x hx=>by
 obtain ⟨k,hk,rfl⟩:=List.mem_map.1 hx;obtain ⟨r,r1,r2,r3⟩:=h.r k hk;rw [nj r1];exact ⟨r2,r3⟩
theorem Fe {a b:Sto} (h1:a.row_Row=b.row_Row) (h2:a.grid_Grid=b.grid_Grid) (h3: { a with row_Row:=b.row_Row,grid_Grid:=b.grid_Grid}=b):a=b:=
 Eq.trans (show a= { a with row_Row:=b.row_Row,grid_Grid:=b.grid_Grid} by rw [←h1,←h2]) h3
def Sto.rst (s:Sto):Sto:={ s with row_Row:=[],grid_Grid:=[]}
def Sto.oth (s:Sto):Sto:={ s with row_Row:=[],grid_Grid:=[],place_Pen:=[]}
theorem kz {a b:Sto} (h:a.rst=b.rst):a.place_Pen=b.place_Pen:=by
 have:=gL Sto.place_Pen h;exact this
theorem qQ {a b:Sto} (h:a.rst=b.rst):a.oth=b.oth:=by
 have:=gL (fun x:Sto=>({ x with place_Pen:=[]}:Sto)) h;exact this
def Sto.addr (s:Sto) (xs:List bf):Sto:={ s with row_Row:=s.row_Row++xs}
theorem Dt (s:Sto) (xs:List bf):(s.addr xs).row_Row.length=s.row_Row.length+xs.length:=by simp [Sto.addr]
theorem ze {xs:List bf} (h:k < s.row_Row.length):(s.addr xs).row_Row[k]? = s.row_Row[k]? :=aI h
theorem tq {xs:List bf} {i:Nat} (h:i < xs.length):(s.addr xs).row_Row[s.row_Row.length+i]? = some xs[i]:=by
 simp [Sto.addr,bh,h]
theorem Du (s:Sto) (xs:List bf) (x:bf):(s.addr xs).add_row_Row x=s.addr (xs++ [x]):=by simp [Sto.addr,Sto.add_row_Row]
theorem zf (s:Sto):s.addr []=s:=by simp [Sto.addr]
theorem Rw.lt (h:Rw s W k):k < s.row_Row.length:=by obtain ⟨r,h,_⟩:=h; exact cK h
theorem Rw.addr {xs:List bf} (h:Rw s W k):Rw (s.addr xs) W k:=by
 obtain ⟨r,h1,h2⟩:=h;exact ⟨r,by rw [ze (cK h1)]; exact h1,h2⟩
theorem Gw.addr {xs:List bf} (h:Gw s g ks W):Gw (s.addr xs) g ks W:=⟨h.g,fun k hk=>(h.r k hk).addr,h.h1,h.h2,h.w1,h.w2⟩
theorem vi {xs:List bf} (h:k < s.row_Row.length):ln (s.addr xs) k=ln s k:=by unfold ln; rw [ze h]
theorem CN {xs:List bf} {i:Nat} (h:i < xs.length):ln (s.addr xs) (s.row_Row.length+i)=⟨xs[i].cells,xs[i].wrap⟩:=nj (tq h)
def lr (x:ak):bf:=⟨x.Cells,x.Wrap⟩
theorem E0 {L:List ak} (h1:1≤L.length) (h2:L.length≤1024)
  (hok:∀i (h:i < L.length),1≤L[i].Cells.length∧L[i].Cells.length≤1024∧Snd L[i].Cells∧L[i].Cells.length=(L[0]'(by omega)).Cells.length):
  Gw ((s.addr (L.map lr)).add_grid_Grid ⟨(List.range' s.row_Row.length L.length).map some⟩) s.grid_Grid.length (List.range' s.row_Row.length L.length) (L[0]'(by omega)).Cells.length∧
   (List.range' s.row_Row.length L.length).map (ln ((s.addr (L.map lr)).add_grid_Grid ⟨(List.range' s.row_Row.length L.length).map some⟩))=L:=by
 have hr:∀i (h:i < L.length),((s.addr (L.map lr)).add_grid_Grid ⟨(List.range' s.row_Row.length L.length).map some⟩).row_Row[s.row_Row.length+i]? = some (lr L[i]):=fun i h=>by
  have:=tq (s:=s) (xs:=L.map lr) (i:=i) (by simpa using h);rw [dU] at this;exact this
 refine ⟨⟨by simp [Sto.add_grid_Grid,Sto.addr],fun k hk=>?_,by simpa using h1,by simpa using h2,(hok 0 (by omega)).1,(hok 0 (by omega)).2.1⟩,?_⟩
 ·rw [zi] at hk;have hi:k - s.row_Row.length < L.length:=by omega
  have:=hr _ hi;rw [show s.row_Row.length+(k - s.row_Row.length)=k by omega] at this;exact ⟨_,this,(hok _ hi).2.2.1,(hok _ hi).2.2.2⟩
 ·refine Ie (by simp) fun i h1 h2=>?_;rw [dU,List.getElem_range',na,nj (hr i h2)];rfl
theorem icl (a:Int) (m:Nat):aE 0 (aB a (m:Int))=((cl a m:Nat):Int):=by simp only [eX,dx,cl]; omega
theorem ww (h:Gw s g ks W) (a b n:Int):lA s (some g) a b n=some (⟨(cl a ks.length:Nat),(cl b ks.length:Nat),min n ((cl b ks.length:Int) - (cl a ks.length:Int))⟩,decide (cl a ks.length < cl b ks.length) && decide (0 < n)):=by
 have h1:=mW a ks.length;have h2:=mW b ks.length;have hh:=h.h2;unfold lA;rw [eL h];simp only [bsm,icl,aY];rw [dx,aF (by omega)];simp
theorem ug (h:Gw s g ks W) {a b:Nat} (hab:a≤b) (hb:b≤ks.length):jP s (some g) a b=some (((ks.drop a).take (b - a)).map some):=by
 have hh:=h.h2;unfold jP;obtain ⟨t,h1,h2⟩:=eK (σ:=(List (Option Nat))×Int) (τ:=List (Option Nat)) (n:=b - a) (fuel:=((b:Int) - (a:Int)).toNat+1) (s:=(([]:List (Option Nat)),(a:Int)))
  (fun i q=>q=(((ks.drop a).take i).map some,((a+i:Nat):Int))) (fun t=>t=((ks.drop a).take (b - a)).map some)
  (step:=fun s_8=>
 if (decide (s_8.2 < (b:Int)))=true then
 (bA s (some g) s_8.2).bind fun x_16=>
 (app s_8.1 ([x_16]:List (Option Nat))).bind fun x_18=>
 some (.inl (x_18,(w64 (s_8.2+1))))
 else
 some (.inr (s_8.1)))
  (fun i q hi e=>by
   subst e;refine .inl ⟨_,?_,rfl⟩;have e5:w64 (((a+i:Nat):Int)+1)=((a+(i+1):Nat):Int):=by rw [aF (by omega)]; simp; omega
   have hd:decide (((a+i:Nat):Int) < (b:Int))=true:=by simp; omega
   simp only [hd,bv];rw [eY h (show a+i < ks.length by omega)];simp only [bsm,e5];rw [cR (by simp; omega)];simp only [bsm];rw [ax (by simp; omega),bO];simp)
  (fun q e=>by
   subst e;have hd:decide (((a+(b - a):Nat):Int) < (b:Int))=false:=by simp; omega
   exact ⟨_,by simp only [hd]; rfl,rfl⟩)
  (by simp) (by omega)
 subst h2;rw [h1];rfl
def bk (W:Nat):bf:=⟨List.replicate W bl,false⟩
theorem rE (h:Gw s g ks W) {n:Nat} (hn:n≤1024):iP s (some g) n=some (s.addr (List.replicate n (bk W)),(List.range' s.row_Row.length n).map some):=by
 unfold iP;obtain ⟨t,h1,h2⟩:=eK (σ:=(List (Option Nat))×Int×Sto) (τ:=(List (Option Nat))×Sto) (n:=n) (fuel:=((n:Int) - 0).toNat+1) (s:=(([]:List (Option Nat)),0,s))
  (fun i q=>q=((List.range' s.row_Row.length i).map some,(i:Int),s.addr (List.replicate i (bk W)))) (fun t=>t=((List.range' s.row_Row.length n).map some,s.addr (List.replicate n (bk W))))
  (step:=fun s_8=>
 if (decide (s_8.2.1 < (n:Int)))=true then
 (ci s_8.2.2 (some g)).bind fun x_13=>
 (kF s_8.2.2 x_13).bind fun x_14=>
 (app s_8.1 ([x_14.2]:List (Option Nat))).bind fun x_16=>
 some (.inl (x_16,(w64 (s_8.2.1+1)),x_14.1))
 else
 some (.inr (s_8.1,s_8.2.2)))
  (fun i q hi e=>by
   subst e;refine .inl ⟨_,?_,rfl⟩;have e5:w64 ((i:Int)+1)=((i+1:Nat):Int):=by rw [aF (by omega)]; simp
   have hd:decide ((i:Int) < (n:Int))=true:=by simp; exact hi
   simp only [hd,bv];rw [jm (h.addr (xs:=List.replicate i (bk W)))];simp only [bsm,xc,Aj h.w1 h.w2,e5];rw [cR (by simp; omega)];simp only [bsm];rw [Du,Dt,HS,bO,vR];simp [bk])
  (fun q e=>⟨_,by subst e; simp,rfl⟩)
  (by simp [zf]) (by omega)
 subst h2;rw [h1];rfl
def ov (ks:List Nat) (F:Nat) (p:List Nat):List Nat:=ks.take F++p++ks.drop (F+p.length)
theorem tK {F:Nat} {p:List Nat} (h:F+p.length≤ks.length):(ov ks F p).length=ks.length:=by simp [ov]; omega
theorem FC {F i:Nat} {p:List Nat} (h:F+p.length≤ks.length) (hi:i < p.length):(ov ks F (p.take i)).set (F+i) p[i]=ov ks F (p.take (i+1)):=by
 unfold ov;have h1:(ks.take F++p.take i).length=F+i:=by simp; omega
 rw [nN _ _ (by omega),h1,nB,ay,ay,cz (uc hi),cz (show i+1≤p.length by omega),gw (show F+i < ks.length by omega),qN,ax hi];simp only [aK,co,ba,sn]
def off (s:Sto) (k:Nat):Sto:=s.sr k ⟨(ln s k).Cells,false⟩
theorem yE (h:Rw s W k):fa s (some k) false=some (off s k):=by
 obtain ⟨r,h1,_⟩:=h;rw [uV (l:=r.cells) (w:=r.wrap) h1];unfold off;rw [nj h1]
theorem Rw.off {j:Nat} (h:Rw s W j) (hk:Rw s W k):Rw (off s k) W j:=by
 obtain ⟨r,h1,h2,h3⟩:=h;obtain ⟨q,k1,k2,k3⟩:=hk;by_cases e:k=j
 ·subst e;exact ⟨_,rQ (cK k1),by rw [nj k1]; exact ⟨k2,k3⟩⟩
 ·exact ⟨r,(xV e).trans h1,h2,h3⟩
theorem Gw.off (h:Gw s g ks W) (hk:Rw s W k):Gw (off s k) g ks W:=⟨h.g,fun j hj=>(h.r j hj).off hk,h.h1,h.h2,h.w1,h.w2⟩
theorem FH {j:Nat} (hk:Rw s W k):ln (off s k) j=if j=k then ⟨(ln s k).Cells,false⟩ else ln s j:=by
 by_cases e:k=j
 ·subst e;rw [ae rfl];exact nj (rQ hk.lt)
 ·rw [af (rM e)];unfold ln;rw [show (Go.Proofs.YtclmdpamofdoiaaGreatDoor.off s k).row_Row[j]? = s.row_Row[j]? from xV e]
theorem yw (x:bZ) (j:Nat):ln (s.sg g x) j=ln s j:=rfl
def offa (s:Sto) (ks:List Nat) (F:Nat):Sto:=if F=0 then s else off s (ks.getD (F - 1) 0)
theorem uS (h:Gw s g ks W) {F:Nat} {p:List Nat} (hp:F+p.length≤ks.length) (hr:∀k∈p,Rw s W k) (st:gW) (hF:st.from_=(F:Int)):
  eM s st (some g) (p.map some)=some (offa (s.sg g ⟨(ov ks F p).map some⟩) (ov ks F p) F)∧Gw (s.sg g ⟨(ov ks F p).map some⟩) g (ov ks F p) W:=by
 have hh:=h.h2;have key:∀i,i≤p.length→Gw (s.sg g ⟨(ov ks F (p.take i)).map some⟩) g (ov ks F (p.take i)) W:=fun i hi=>
  ⟨Cc (cK h.g),fun k hk=>by
   unfold ov at hk;rw [ut,ut] at hk;rcases hk with (hk | hk) | hk
   ·exact h.r k (dk hk)
   ·exact hr k (dk hk)
   ·exact h.r k (fF hk),by rw [tK (by simp; omega)]; exact h.h1,by rw [tK (by simp; omega)]; exact h.h2,h.w1,h.w2⟩
 have kend:=key p.length (az _);rw [Aa] at kend;refine ⟨?_,kend⟩;unfold eM;rw [hF];obtain ⟨t,h1,h2⟩:=eK (σ:=Int×Sto) (τ:=Sto) (n:=p.length) (fuel:=(((p.map some).length:Int) - 0).toNat+1) (s:=((0:Int),s))
  (fun i q=>q=((i:Int),s.sg g ⟨(ov ks F (p.take i)).map some⟩)) (fun t=>t=s.sg g ⟨(ov ks F p).map some⟩)
  (step:=fun s_7=>
 if (decide (s_7.1 < ((p.map some).length:Int)))=true then
 (idx (p.map some) s_7.1).bind fun x_11=>
 (eD s_7.2 (some g) (w64 ((F:Int)+s_7.1)) x_11).bind fun x_22=>
 some (.inl ((w64 (s_7.1+1)),x_22.1))
 else
 some (.inr (s_7.2)))
  (fun i q hi e=>by
   subst e;refine .inl ⟨_,?_,rfl⟩;have e5:w64 ((i:Int)+1)=((i+1:Nat):Int):=by rw [aF (by omega)]; simp
   have e6:w64 ((F:Int)+(i:Int))=((F+i:Nat):Int):=by rw [aF (by omega)]; simp
   have hd:decide ((i:Int) < ((p.map some).length:Int))=true:=by simp; exact hi
   have hi2:i < (p.map some).length:=by simpa using hi
   have hk:=key i (uc hi);simp only [hd,bv,bp hi2,bsm,dU,e5,e6];have hl:(ov ks F (p.take i)).length=ks.length:=tK (by simp; omega);rw [yC hk (show F+i < (ov ks F (p.take i)).length by omega) (hr _ (aH hi))];simp only [bsm];rw [FC hp hi,GE])
  (fun q e=>by
   subst e;rw [Aa];exact ⟨_,by simp,rfl⟩)
  (by
   simp only [ez,gU];refine ⟨rfl,(GF ?_).symm⟩;rw [h.g];simp [ov]) (by simp)
 subst h2;rw [h1];simp only [bsm];unfold offa;by_cases h0:F=0
 ·subst h0;rw [ae rfl,sW kend (by left; rw [aF (by omega)]; omega)];rfl
 ·have e7:w64 ((F:Int) - 1)=((F - 1:Nat):Int):=by rw [aF (by omega)]; omega
  have hl:(ov ks F p).length=ks.length:=tK hp;have hlt:F - 1 < (ov ks F p).length:=by omega
  rw [af h0,e7,eY kend hlt];simp only [bsm];rw [yE (kend.at hlt),av,ah hlt];rfl
def dl:ak:=⟨[],false⟩
def mvb (W:Nat) (L:List ak) (F T m:Nat) (up:Bool) (i:Nat):ak:=
 if F≤i∧i < T then (if up=true then (if i+m < T then L.getD (i+m) dl else ⟨List.replicate W bl,false⟩) else (if F+m≤i then L.getD (i - m) dl else ⟨List.replicate W bl,false⟩)) else L.getD i dl
def mvl (W:Nat) (L:List ak) (F T m:Nat) (up:Bool) (i:Nat):ak:=
 if i+1=F∨(up=false∧i+1=T) then ⟨(mvb W L F T m up i).Cells,false⟩ else mvb W L F T m up i
def mv (W:Nat) (L:List ak) (F T:Nat) (n:Int) (up:Bool):List ak:=
 if F < T∧0 < n then (List.range L.length).map (mvl W L F T (min n ((T:Int) - (F:Int))).toNat up) else L
theorem gd {i:Nat} (h:i < ks.length):ks.getD i 0=ks[i]:=by rw [av,ah h]; rfl
theorem gdl {L:List ak} {i:Nat} (h:i < L.length):L.getD i dl=L[i]:=by rw [av,ah h]; rfl
theorem As (nd:ks.Nodup) {i j:Nat} (hj:j < ks.length) (hij:i < j):ks.getD i 0≠ks.getD j 0:=by
 rw [gd hj,gd (Nat.lt_trans hij hj)];exact List.pairwise_iff_getElem.1 nd i j _ _ hij
theorem CL {h:Nat} {f:Nat→Nat} (hf:∀i j,i < j→j < h→f i≠f j):((List.range h).map f).Nodup:=by
 rw [List.Nodup,List.pairwise_map];exact List.pairwise_lt_range.imp_of_mem fun _ hb hlt=>hf _ _ hlt (List.mem_range.1 hb)
def kfu (ks:List Nat) (N F T m i:Nat):Nat:=if i < F∨T≤i then ks.getD i 0 else if i+m < T then ks.getD (i+m) 0 else N+(i+m - T)
def kfd (ks:List Nat) (N F T m i:Nat):Nat:=if i < F∨T≤i then ks.getD i 0 else if i < F+m then N+(i - F) else ks.getD (i - m) 0
theorem GW {F T m:Nat} (N:Nat) (h1:F+m≤T) (h2:T≤ks.length):ov ks F ((ks.drop (F+m)).take (T - (F+m))++List.range' N m)=(List.range ks.length).map (kfu ks N F T m):=by
 refine cm fun i=>?_;rcases aN i ks.length with hi | hi
 ·rw [bF,dv hi,fp];have e:((ks.drop (F+m)).take (T - (F+m))++List.range' N m).length=T - F:=by simp; omega
  have et:(ks.take F).length=F:=by simp; omega
  have ex:((ks.drop (F+m)).take (T - (F+m))).length=T - (F+m):=by simp; omega
  unfold ov;rw [e,aK,fH,et];unfold kfu;by_cases c1:i < F
  ·rw [ae c1,ae (Or.inl c1),aR,ae c1,gd hi,ah hi]
  ·rw [af c1,fH,e];by_cases c2:T≤i
   ·rw [af (by omega),ae (Or.inr c2),bK,show F+(T - F)+(i - F - (T - F))=i by omega,gd hi,ah hi]
   ·rw [ae (by omega),af (by omega),fH,ex];by_cases c3:i+m < T
    ·rw [ae (by omega),ae c3,aR,ae (by omega),bK,show F+m+(i - F)=i+m by omega,gd (by omega),ah (by omega)]
    ·rw [af (by omega),af c3,Hp (by omega),na]
     congr 1
     omega
 ·rw [aZ (by rw [tK (by simp; omega)]; exact hi),aZ (by simpa using hi)]
theorem Ed {F T m:Nat} (N:Nat) (h1:F+m≤T) (h2:T≤ks.length):ov ks F (List.range' N m++(ks.drop F).take (T - m - F))=(List.range ks.length).map (kfd ks N F T m):=by
 refine cm fun i=>?_;rcases aN i ks.length with hi | hi
 ·rw [bF,dv hi,fp];have e:(List.range' N m++(ks.drop F).take (T - m - F)).length=T - F:=by simp; omega
  have et:(ks.take F).length=F:=by simp; omega
  have ex:(List.range' N m).length=m:=by simp
  unfold ov;rw [e,aK,fH,et];unfold kfd;by_cases c1:i < F
  ·rw [ae c1,ae (Or.inl c1),aR,ae c1,gd hi,ah hi]
  ·rw [af c1,fH,e];by_cases c2:T≤i
   ·rw [af (by omega),ae (Or.inr c2),bK,show F+(T - F)+(i - F - (T - F))=i by omega,gd hi,ah hi]
   ·rw [ae (by omega),af (by omega),fH,ex];by_cases c3:i < F+m
    ·rw [ae (by omega),ae c3,Hp (by omega),na]
    ·rw [af (by omega),af c3,aR,ae (by omega),bK,show F+(i - F - m)=i - m by omega,gd (by omega),ah (by omega)]
 ·rw [aZ (by rw [tK (by simp; omega)]; exact hi),aZ (by simpa using hi)]
theorem FK (nd:ks.Nodup) {N F T m:Nat} (hN:∀k∈ks,k < N) (h1:F+m≤T) (h2:T≤ks.length) (i j:Nat) (hij:i < j) (hj:j < ks.length):kfu ks N F T m i≠kfu ks N F T m j:=by
 have lt:∀i,i < ks.length→ks.getD i 0 < N:=fun i hi=>by rw [gd hi]; exact hN _ (aH hi)
 have ne:∀a b,a < b→b < ks.length→ks.getD a 0≠ks.getD b 0:=fun a b hab hb=>As nd hb hab;have ne2:∀a b,b < a→a < ks.length→ks.getD a 0≠ks.getD b 0:=fun a b hab ha=>(As nd ha hab).symm;unfold kfu
 repeat' split
 all_goals first
  | exact ne _ _ (by omega) (by omega)
  | exact ne2 _ _ (by omega) (by omega)
  | (have:=lt i (by omega); omega)
  | (have:=lt j (by omega); omega)
  | (have:=lt (i+m) (by omega); omega)
  | (have:=lt (j+m) (by omega); omega)
  | omega
theorem FL (nd:ks.Nodup) {N F T m:Nat} (hN:∀k∈ks,k < N) (h1:F+m≤T) (h2:T≤ks.length) (i j:Nat) (hij:i < j) (hj:j < ks.length):kfd ks N F T m i≠kfd ks N F T m j:=by
 have lt:∀i,i < ks.length→ks.getD i 0 < N:=fun i hi=>by rw [gd hi]; exact hN _ (aH hi)
 have ne:∀a b,a < b→b < ks.length→ks.getD a 0≠ks.getD b 0:=fun a b hab hb=>As nd hb hab;have ne2:∀a b,b < a→a < ks.length→ks.getD a 0≠ks.getD b 0:=fun a b hab ha=>(As nd ha hab).symm;unfold kfd
 repeat' split
 all_goals first
  | exact ne _ _ (by omega) (by omega)
  | exact ne2 _ _ (by omega) (by omega)
  | (have:=lt i (by omega); omega)
  | (have:=lt j (by omega); omega)
  | (have:=lt (i - m) (by omega); omega)
  | (have:=lt (j - m) (by omega); omega)
  | omega
theorem xk {h:Nat} {f:Nat→Nat} {B:Nat→ak} (hf:∀i j,i < j→j < h→f i≠f j) (hB:∀i,i < h→ln s (f i)=B i) {j:Nat} (hj:j < h) (hk:Rw s W (f j)) (i:Nat) (hi:i < h):
  ln (off s (f j)) (f i)=if i=j then ⟨(B j).Cells,false⟩ else B i:=by
 rw [FH hk,hB j hj];by_cases e:i=j
 ·subst e; rw [ae rfl,ae rfl]
 ·rw [af,af e,hB i hi];rcases HR e with h | h
  ·exact hf i j h hj
  ·exact (hf j i h hi).symm
theorem yp (s:Sto) (ks:List Nat) (F:Nat):(offa s ks F).rst=s.rst:=by
 unfold offa;split <;> rfl
theorem lH {h i:Nat} {f:Nat→Nat} (hi:i < h):((List.range h).map f).getD i 0=f i:=by
 rw [gd (by simpa using hi)];simp
structure Rf (s s':Sto) (g:Nat) (ks:List Nat) (g':Nat) (ks':List Nat):Prop where
 gl:s.grid_Grid.length≤s'.grid_Grid.length
 rl:s.row_Row.length≤s'.row_Row.length
 gr:∀j,j < s.grid_Grid.length→j≠g→s'.grid_Grid[j]? = s.grid_Grid[j]?
 rw:∀j,j < s.row_Row.length→j∉ks→s'.row_Row[j]? = s.row_Row[j]?
 ng:g'=g∨s.grid_Grid.length≤g'
 nr:∀r∈ks',r∈ks∨s.row_Row.length≤r
theorem Rf.self (s:Sto) (g:Nat) (ks:List Nat):Rf s s g ks g ks:=⟨az _,az _,fun _ _ _=>rfl,fun _ _ _=>rfl,.inl rfl,fun _ h=> .inl h⟩
theorem Rf.rowoff {s':Sto} {ks':List Nat} (h:Rf s s' g ks g ks') {i:Nat} (hi:i∈ks'):Rf s (off s' i) g ks g ks':=by
 have e:(off s' i).row_Row=s'.row_Row.set i ⟨(ln s' i).Cells,false⟩:=rfl;refine ⟨h.gl,by rw [e,cq]; exact h.rl,h.gr,fun j h1 h2=>?_,h.ng,h.nr⟩;rw [e,aW ?_]
 ·exact h.rw j h1 h2
 ·rintro rfl;rcases h.nr _ hi with q | q
  ·exact h2 q
  ·omega
theorem Rf.aboff {s':Sto} {ks':List Nat} (h:Rf s s' g ks g ks') (F:Nat) (hF:F≤ks'.length):Rf s (offa s' ks' F) g ks g ks':=by
 unfold Go.Proofs.YtclmdpamofdoiaaGreatDoor.offa;split
 ·exact h
 ·refine h.rowoff ?_;rw [gd (by omega)];exact aH _
theorem Rf.lay (xs:List bf) (x:bZ) {ks':List Nat} (h:∀r∈ks',r∈ks∨s.row_Row.length≤r):Rf s ((s.addr xs).sg g x) g ks g ks':=by
 have e:((s.addr xs).sg g x).row_Row=s.row_Row++xs:=rfl;have e2:((s.addr xs).sg g x).grid_Grid=s.grid_Grid.set g x:=rfl;exact ⟨by rw [e2,cq]; exact az _,by rw [e,aA]; omega,fun j _ hj=>by rw [e2,aW (rM hj)],fun j hj _=>by rw [e,aI hj],.inl rfl,h⟩
theorem Ef {N F T m:Nat} (hm:T≤ks.length) {r:Nat} (hr:r∈(List.range ks.length).map (kfu ks N F T m)):r∈ks∨N≤r:=by
 obtain ⟨i,hi,rfl⟩:=List.mem_map.1 hr;have hi:=List.mem_range.1 hi;unfold kfu;split
 ·rw [gd hi]; exact .inl (aH _)
 ·split
  ·rw [gd (by omega)]; exact .inl (aH _)
  ·exact .inr (by omega)
theorem Eg {N F T m:Nat} (hm:T≤ks.length) {r:Nat} (hr:r∈(List.range ks.length).map (kfd ks N F T m)):r∈ks∨N≤r:=by
 obtain ⟨i,hi,rfl⟩:=List.mem_map.1 hr;have hi:=List.mem_range.1 hi;unfold kfd;split
 ·rw [gd hi]; exact .inl (aH _)
 ·split
  ·exact .inr (by omega)
  ·rw [gd (by omega)]; exact .inl (aH _)
theorem zk (h:Gw s g ks W) (nd:ks.Nodup) (a b n:Int):∃s' ks',ke s (some g) a b n=some s'∧(Gw s' g ks' W∧ks'.Nodup∧ks'.length=ks.length∧
  ks'.map (ln s')=mv W (ks.map (ln s)) (cl a ks.length) (cl b ks.length) n true)∧s'.rst=s.rst∧Rf s s' g ks g ks':=by
 have hF:=mW a ks.length;have hT:=mW b ks.length;have hh:=h.h2;have hN:∀k∈ks,k < s.row_Row.length:=fun k hk=>(h.r k hk).lt;unfold ke;rw [ww h];simp only [bsm];generalize cl a ks.length=F at *;generalize cl b ks.length=T at *;unfold mv;by_cases hc:F < T∧0 < n
 ·obtain ⟨m,hm⟩:∃m:Nat,min n ((T:Int) - (F:Int))=(m:Int):=⟨(min n ((T:Int) - (F:Int))).toNat,by omega⟩;have hm2:F+m≤T∧1≤m:=by omega
  rw [ae (by simp; omega),ae hc,hm,aF (by omega),show ((F:Int)+(m:Int))=((F+m:Nat):Int) by simp,ug h hm2.1 hT];simp only [bsm];rw [rE h (by omega)];simp only [bsm];rw [cR (by simp; omega),←bO];simp only [bsm];have h1:=h.addr (xs:=List.replicate m (bk W));have hlen:((ks.drop (F+m)).take (T - (F+m))++List.range' s.row_Row.length m).length=T - F:=by simp; omega
  obtain ⟨h3,h4⟩:=uS h1 (F:=F) (p:=(ks.drop (F+m)).take (T - (F+m))++List.range' s.row_Row.length m) (by rw [hlen]; omega) (fun k hk=>by
   rcases List.mem_append.1 hk with hk | hk
   ·exact h1.r k (fF (dk hk))
   ·rw [zi] at hk;have:=tq (s:=s) (xs:=List.replicate m (bk W)) (i:=k - s.row_Row.length) (by simp; omega);rw [show s.row_Row.length+(k - s.row_Row.length)=k by omega,jf] at this;exact ⟨_,this,tz W,by simp [bk]⟩) ⟨(F:Int),(T:Int),(m:Int)⟩ rfl
  rw [h3];rw [GW s.row_Row.length hm2.1 hT] at h4⊢;have ne:=FK nd (N:=s.row_Row.length) (F:=F) (T:=T) (m:=m) hN hm2.1 hT;have hB:∀i,i < ks.length→ln ((s.addr (List.replicate m (bk W))).sg g ⟨((List.range ks.length).map (kfu ks s.row_Row.length F T m)).map some⟩) (kfu ks s.row_Row.length F T m i)=mvb W (ks.map (ln s)) F T m true i:=by
   intro i hi;rw [yw];have old:∀j,j < ks.length→ln (s.addr (List.replicate m (bk W))) (ks.getD j 0)=(ks.map (ln s)).getD j dl:=fun j hj=>by
    rw [gdl (by simpa using hj),gd hj,vi (hN _ (aH hj)),dU]
   unfold kfu mvb;by_cases c1:i < F∨T≤i
   ·rw [ae c1,af (show ¬(F≤i∧i < T) by omega),old i hi]
   ·rw [af c1,ae (show F≤i∧i < T by omega),ae rfl];by_cases c2:i+m < T
    ·rw [ae c2,ae c2,old _ (by omega)]
    ·rw [af c2,af c2,CN (by simp; omega),jf];rfl
  refine ⟨_,(List.range ks.length).map (kfu ks s.row_Row.length F T m),rfl,⟨?_,CL ne,by simp,?_⟩,yp _ _ _,(Rf.lay _ _ fun r hr=>Ef hT hr).aboff F (by simp; omega)⟩
  ·unfold offa;split
   ·exact h4
   ·refine h4.off ?_;rw [lH (by omega)];exact h4.r _ (List.mem_map.2 ⟨F - 1,List.mem_range.2 (by omega),rfl⟩)
  ·rw [dh,Gk];refine du fun i hi=>?_;have hi:=List.mem_range.1 hi;simp only [Function.comp,bT];unfold offa mvl;by_cases h0:F=0
   ·rw [ae h0,af (by simp; omega),hB i hi]
   ·rw [af h0,lH (by omega),xk ne hB (by omega) (h4.r _ (List.mem_map.2 ⟨F - 1,List.mem_range.2 (by omega),rfl⟩)) i hi];by_cases e:i=F - 1
    ·rw [ae e,ae (by omega),e]
    ·rw [af e,af (by simp; omega)]
 ·rw [af (by simp; omega),af hc];exact ⟨s,ks,rfl,⟨h,nd,rfl,rfl⟩,rfl,Rf.self _ _ _⟩
theorem yK (h:Gw s g ks W) (nd:ks.Nodup) (a b n:Int):∃s' ks',jQ s (some g) a b n=some s'∧(Gw s' g ks' W∧ks'.Nodup∧ks'.length=ks.length∧
  ks'.map (ln s')=mv W (ks.map (ln s)) (cl a ks.length) (cl b ks.length) n false)∧s'.rst=s.rst∧Rf s s' g ks g ks':=by
 have hF:=mW a ks.length;have hT:=mW b ks.length;have hh:=h.h2;have hN:∀k∈ks,k < s.row_Row.length:=fun k hk=>(h.r k hk).lt;unfold jQ;rw [ww h];simp only [bsm];generalize cl a ks.length=F at *;generalize cl b ks.length=T at *;unfold mv;by_cases hc:F < T∧0 < n
 ·obtain ⟨m,hm⟩:∃m:Nat,min n ((T:Int) - (F:Int))=(m:Int):=⟨(min n ((T:Int) - (F:Int))).toNat,by omega⟩;have hm2:F+m≤T∧1≤m:=by omega
  have h1:=h.addr (xs:=List.replicate m (bk W));rw [ae (by simp; omega),ae hc,hm,rE h (by omega)];simp only [bsm];rw [aF (by omega),show ((T:Int) - (m:Int))=((T - m:Nat):Int) by omega,ug h1 (by omega) (by omega)];simp only [bsm];rw [cR (by simp; omega),←bO];simp only [bsm];have hlen:(List.range' s.row_Row.length m++(ks.drop F).take (T - m - F)).length=T - F:=by simp; omega
  obtain ⟨h3,h4⟩:=uS h1 (F:=F) (p:=List.range' s.row_Row.length m++(ks.drop F).take (T - m - F)) (by rw [hlen]; omega) (fun k hk=>by
   rcases List.mem_append.1 hk with hk | hk
   ·rw [zi] at hk;have:=tq (s:=s) (xs:=List.replicate m (bk W)) (i:=k - s.row_Row.length) (by simp; omega);rw [show s.row_Row.length+(k - s.row_Row.length)=k by omega,jf] at this;exact ⟨_,this,tz W,by simp [bk]⟩
   ·exact h1.r k (fF (dk hk))) ⟨(F:Int),(T:Int),(m:Int)⟩ rfl
  rw [h3];rw [Ed s.row_Row.length hm2.1 hT] at h4⊢;have ne:=FL nd (N:=s.row_Row.length) (F:=F) (T:=T) (m:=m) hN hm2.1 hT;have hB:∀i,i < ks.length→ln ((s.addr (List.replicate m (bk W))).sg g ⟨((List.range ks.length).map (kfd ks s.row_Row.length F T m)).map some⟩) (kfd ks s.row_Row.length F T m i)=mvb W (ks.map (ln s)) F T m false i:=by
   intro i hi;rw [yw];have old:∀j,j < ks.length→ln (s.addr (List.replicate m (bk W))) (ks.getD j 0)=(ks.map (ln s)).getD j dl:=fun j hj=>by
    rw [gdl (by simpa using hj),gd hj,vi (hN _ (aH hj)),dU]
   unfold kfd mvb;by_cases c1:i < F∨T≤i
   ·rw [ae c1,af (show ¬(F≤i∧i < T) by omega),old i hi]
   ·rw [af c1,ae (show F≤i∧i < T by omega),af (show ¬(false=true) by simp)];by_cases c2:i < F+m
    ·rw [ae c2,af (show ¬(F+m≤i) by omega),CN (by simp; omega),jf];rfl
    ·rw [af c2,ae (show F+m≤i by omega),old _ (by omega)]
  have hmem:∀j,j < ks.length→kfd ks s.row_Row.length F T m j∈(List.range ks.length).map (kfd ks s.row_Row.length F T m):=fun j hj=>List.mem_map.2 ⟨j,List.mem_range.2 hj,rfl⟩;have h5:Gw (offa ((s.addr (List.replicate m (bk W))).sg g ⟨((List.range ks.length).map (kfd ks s.row_Row.length F T m)).map some⟩) ((List.range ks.length).map (kfd ks s.row_Row.length F T m)) F) g ((List.range ks.length).map (kfd ks s.row_Row.length F T m)) W:=by
   unfold offa;split
   ·exact h4
   ·refine h4.off ?_;rw [lH (by omega)];exact h4.r _ (hmem _ (by omega))
  have hC:∀i,i < ks.length→ln (offa ((s.addr (List.replicate m (bk W))).sg g ⟨((List.range ks.length).map (kfd ks s.row_Row.length F T m)).map some⟩) ((List.range ks.length).map (kfd ks s.row_Row.length F T m)) F) (kfd ks s.row_Row.length F T m i)=
    if i+1=F then ⟨(mvb W (ks.map (ln s)) F T m false i).Cells,false⟩ else mvb W (ks.map (ln s)) F T m false i:=by
   intro i hi;unfold offa;by_cases h0:F=0
   ·rw [ae h0,af (by omega),hB i hi]
   ·rw [af h0,lH (by omega),xk ne hB (by omega) (h4.r _ (hmem _ (by omega))) i hi];by_cases e:i=F - 1
    ·rw [ae e,ae (by omega),e]
    ·rw [af e,af (by omega)]
  have hlt:T - 1 < ((List.range ks.length).map (kfd ks s.row_Row.length F T m)).length:=by simp; omega
  simp only [bsm];rw [aF (by omega),show ((T:Int) - 1)=((T - 1:Nat):Int) by omega,eY h5 hlt];simp only [bsm];rw [yE (h5.at hlt)];simp only [bsm,dU,xN];refine ⟨_,(List.range ks.length).map (kfd ks s.row_Row.length F T m),rfl,⟨h5.off (h5.r _ (hmem _ (by omega))),CL ne,by simp,?_⟩,yp _ _ _,((Rf.lay _ _ fun r hr=>Eg hT hr).aboff F (by simp; omega)).rowoff (hmem _ (by omega))⟩;rw [dh,Gk];refine du fun i hi=>?_;have hi:=List.mem_range.1 hi;simp only [Function.comp,bT];rw [xk ne hC (by omega) (h5.r _ (hmem _ (by omega))) i hi];unfold mvl;by_cases e:i=T - 1
  ·rw [ae e,af (show ¬(T - 1+1=F) by omega),ae (show i+1=F∨(false=false∧i+1=T) from Or.inr ⟨rfl,by omega⟩),e]
  ·rw [af e];by_cases e2:i+1=F
   ·rw [ae e2,ae (Or.inl e2)]
   ·rw [af e2,af (show ¬(i+1=F∨(false=false∧i+1=T)) by simp; omega)]
 ·rw [af (by simp; omega),af hc];exact ⟨s,ks,rfl,⟨h,nd,rfl,rfl⟩,rfl,Rf.self _ _ _⟩
theorem qs {L:List ak} (hl:L.length≤1024) (hW:W≤1024) (hL:∀x∈L,x.Cells.length=W) (a b n:Int) (up:Bool):
  dK L a b n up=some (mv W L (cl a L.length) (cl b L.length) n up):=by
 have hF:=mW a L.length;have hT:=mW b L.length;unfold dK;simp only [icl,bz,bsm];generalize cl a L.length=F at *;generalize cl b L.length=T at *;unfold mv;by_cases hc:F < T∧0 < n
 ·obtain ⟨m,hm⟩:∃m:Nat,min n ((T:Int) - (F:Int))=(m:Int):=⟨(min n ((T:Int) - (F:Int))).toNat,by omega⟩;have hm2:F+m≤T∧1≤m:=by omega
  rw [af (by rw [aD,am,am]; omega),ae hc,aF (by omega),dx,hm,bT];obtain ⟨t,h1,h2⟩:=eK (σ:=(List ak)×Int) (τ:=List ak) (n:=L.length) (fuel:=((L.length:Int) - 0).toNat+1) (s:=(([]:List ak),0))
   (fun i q=>q=((List.range i).map (mvl W L F T m up),(i:Int))) (fun t=>t=(List.range L.length).map (mvl W L F T m up))
   (step:=fun s_41=>
 if (decide (s_41.2 < (L.length:Int)))=true then
 (idx L s_41.2).bind fun x_48=>
 ((bV (decide (s_41.2≥(F:Int))) (some (decide (s_41.2 < (T:Int))))).bind fun d_57=>
 if d_57=true then
 (if (!up)=true then
 (some ((w64 (s_41.2 - (m:Int)))):Option (Int))
 else
 (some ((w64 (s_41.2+(m:Int)))):Option (Int))).bind fun z_68=>
 (idx L s_41.2).bind fun x_79=>
 (rep (x_79.Cells.length:Int) (⟨0,([]:List Int)⟩:ab)).bind fun x_83=>
 (bV (decide (z_68≥(F:Int))) (some (decide (z_68 < (T:Int))))).bind fun d_90=>
 if d_90=true then
 (idx L z_68).bind fun x_98=>
 (some (x_98.Cells,x_98.Wrap):Option ((List ab)×Bool))
 else
 (some (x_83,false):Option ((List ab)×Bool))
 else
 (some (x_48.Cells,x_48.Wrap):Option ((List ab)×Bool))).bind fun z_53=>
 ((orE ((w64 (s_41.2+1))==(F:Int)) ((bV (!up) (some ((w64 (s_41.2+1))==(T:Int)))).bind fun d_111=>
 some d_111)).bind fun d_107=>
 if d_107=true then
 (some (false):Option (Bool))
 else
 (some (z_53.2):Option (Bool))).bind fun z_102=>
 (app s_41.1 ([(⟨z_53.1,z_102⟩:ak)]:List ak)).bind fun x_124=>
 some (.inl (x_124,(w64 (s_41.2+1))))
 else
 some (.inr (s_41.1)))
   (fun i q hi e=>by
    subst e;refine .inl ⟨_,?_,rfl⟩;have e5:w64 ((i:Int)+1)=((i+1:Nat):Int):=by rw [aF (by omega)]; simp
    have hd:decide ((i:Int) < (L.length:Int))=true:=by simp; exact hi
    have hlw:=hL _ (aH hi);simp only [hd,bv,bp hi,bsm,e5,aY];have hz:(if (decide ((i:Int)≥(F:Int)) && decide ((i:Int) < (T:Int)))=true then
      (if (!up)=true then (some ((w64 ((i:Int) - (m:Int)))):Option (Int)) else (some ((w64 ((i:Int)+(m:Int)))):Option (Int))).bind fun z_68=>
      (rep (L[i].Cells.length:Int) (⟨0,([]:List Int)⟩:ab)).bind fun x_83=>
      if (decide (z_68≥(F:Int)) && decide (z_68 < (T:Int)))=true then
      (idx L z_68).bind fun x_98=>(some (x_98.Cells,x_98.Wrap):Option ((List ab)×Bool))
      else (some (x_83,false):Option ((List ab)×Bool))
      else (some (L[i].Cells,L[i].Wrap):Option ((List ab)×Bool)))=some ((mvb W L F T m up i).Cells,(mvb W L F T m up i).Wrap):=by
     unfold mvb;by_cases c1:F≤i∧i < T
     ·rw [ae (by simp; omega),ae c1]
      cases up with
      | true=>
       rw [af (by simp),ae rfl];simp only [bsm];rw [nQ _ (by omega),aF (by omega),show ((i:Int)+(m:Int))=((i+m:Nat):Int) by simp];simp only [bsm];by_cases c2:i+m < T
       ·rw [ae (by simp; omega),ae c2,bp (show i+m < L.length by omega),gdl (by omega)];rfl
       ·rw [af (by simp; omega),af c2,bT,hlw];rfl
      | false=>
       rw [ae (by simp),af (by simp)];simp only [bsm];rw [nQ _ (by omega),aF (by omega)];simp only [bsm];by_cases c2:F+m≤i
       ·rw [show ((i:Int) - (m:Int))=((i - m:Nat):Int) by omega,ae (by simp; omega),ae c2,bp (show i - m < L.length by omega),gdl (by omega)];rfl
       ·rw [af (by simp; omega),af c2,bT,hlw];rfl
     ·rw [af (by simp; omega),af c1,gdl hi]
    rw [hz];simp only [bsm];have hy:(orE (((i+1:Nat):Int)==(F:Int)) (some (!up && (((i+1:Nat):Int)==(T:Int)))))=some (decide (i+1=F∨(up=false∧i+1=T))):=by
     rw [bz]
     congr 1
     rw [ck];simp only [aD,aL,aq,dB,am,Int.ofNat_inj]
    rw [hy];simp only [bsm];have hx:∀y:Bool,(if decide (i+1=F∨(up=false∧i+1=T))=true then (some false:Option Bool) else some y)=some (if i+1=F∨(up=false∧i+1=T) then false else y):=fun y=>by
     by_cases c:i+1=F∨(up=false∧i+1=T)
     ·rw [ae (by simpa using c),ae c]
     ·rw [af (by simpa using c),af c]
    rw [hx];simp only [bsm];rw [cR (by simp; omega)];simp only [bsm];have hz3:(⟨(mvb W L F T m up i).Cells,if i+1=F∨(up=false∧i+1=T) then false else (mvb W L F T m up i).Wrap⟩:ak)=mvl W L F T m up i:=by
     unfold mvl;split <;> rfl
    rw [hz3,pv,bO];rfl)
   (fun q e=>⟨_,by subst e; simp,rfl⟩)
   (by simp) (by omega)
  subst h2;rw [h1];rfl
 ·rw [ae (by rw [aD,am,am]; omega),af hc]
end Go.Proofs.YtclmdpamofdoiaaGreatDoor
namespace Go.Proofs.YtclmdpamofdoiaaGreatDoor
open Go Go.Lt
variable {s:Sto} {k:Nat} {l p:List ab} {w:Bool}
theorem ya (p:List Int) (hp:p.length≤1000000):jq p=some (p.map fR):=by
 unfold jq;rw [nQ _ (by omega),nQ _ (by omega)];simp only [bsm];obtain ⟨t,h1,h2⟩:=eK (σ:=(List Int)×Int) (τ:=List Int) (n:=p.length) (fuel:=((p.length:Int) - 0).toNat+1) (s:=(List.replicate (0:Int).toNat 0,0))
  (fun i q=>q=((p.take i).map fR,(i:Int))) (fun t=>t=p.map fR)
  (step:=fun s_12=>
 if (decide (s_12.2 < (p.length:Int)))=true then
 (idx p s_12.2).bind fun x_15=>
 ((eZ x_15).bind fun x_21=>
 if (!x_21)=true then
 (some (65533):Option (Int))
 else
 (some (x_15):Option (Int))).bind fun z_19=>
 (app s_12.1 ([z_19]:List Int)).bind fun x_29=>
 some (.inl (x_29,(w64 (s_12.2+1))))
 else
 some (.inr (s_12.1)))
  (fun i q hi e=>by
   subst e;refine .inl ⟨_,?_,rfl⟩;have e5:w64 ((i:Int)+1)=((i+1:Nat):Int):=by rw [aF (by omega)]; simp
   have hd:decide ((i:Int) < (p.length:Int))=true:=by simp; exact hi
   simp only [hd,bv,bp hi,bsm,tC,e5];have hz:(if (!vld p[i])=true then (some (65533):Option Int) else some p[i])=some (fR p[i]):=by
    unfold fR
    cases vld p[i] <;> rfl
   rw [hz];simp only [bsm];rw [cR (by simp; omega)];simp only [bsm];rw [ax hi,bO];rfl)
  (fun q e=>⟨_,by subst e; simp,rfl⟩)
  rfl (by omega)
 subst h2;rw [h1];rfl
theorem AL (wide:Int) (t:List Int) (ht:t.length≤9223372036854775807):oB wide t=some (dZ wide (fx t)):=by
 unfold oB;have hz:(if (decide (wide≥2))=true then (app ([(⟨0,([]:List Int)⟩:ab)]:List ab) ([(⟨0,([]:List Int)⟩:ab)]:List ab)).bind fun x_14=>(some (x_14):Option ((List ab))) else
   (some (([(⟨0,([]:List Int)⟩:ab)]:List ab)):Option ((List ab))))=some (if 2≤wide then [bl,bl] else [bl]):=by
  by_cases h:2≤wide
  ·rw [ae (by simpa using h),ae h,cR (by simp)];rfl
  ·rw [af (by simpa using h),af h];rfl
 rw [hz];simp only [bsm];unfold dZ;by_cases h0:t= []
 ·subst h0;rw [ae (show ((([]:List Int).length:Int)==0)=true from rfl),ae (show fx []= [] from rfl)];by_cases h:2≤wide
  ·rw [ae h,ae (show wide > 1 by omega)]
  ·rw [af h,af (show ¬(wide > 1) by omega)]
 ·have hl:0 < t.length:=List.length_pos_iff.2 h0;have hf:fx t≠ []:=by
   have:=Az t;intro h;rw [h,aP] at this;omega
  rw [af (by rw [aL]; omega),af hf,dx,show (min (t.length:Int) 16)=((min t.length 16:Nat):Int) by omega,show (0:Int)=((0:Nat):Int) from rfl,nP (cw _) (Nat.min_le_left _ _)];simp only [bsm];rw [ya _ (by simp; omega)];have ef:((t.drop 0).take (min t.length 16 - 0)).map fR=fx t:=by
   unfold fx;rw [jx,nz]
   congr 1
   rcases Nat.le_total t.length 16 with h | h
   ·rw [cz h,aC (az _),aC h]
   ·rw [Nat.min_eq_right h]
  rw [ef];by_cases h:2≤wide
  ·rw [ae h,ae (show wide > 1 by omega),show decide (wide≥2)=true by simpa using h];rfl
  ·rw [af h,af (show ¬(wide > 1) by omega),show decide (wide≥2)=false by simpa using h];rfl
theorem AV (wide:Int) (t:List Int):1≤(dZ wide t).length∧(dZ wide t).length≤2:=by
 unfold dZ
 repeat' split
 all_goals simp
theorem zp (wide:Int) (t:List Int):Snd (dZ wide (fx t)):=AY wide (FU t) (FV t)
theorem Ha {t:List Int} (h:∀x∈t,vld x=true) (hl:t.length≤16):fx t=t:=by
 unfold fx;rw [aC hl]
 conv=>rhs; rw [←List.map_id t]
 refine du fun x hx=>?_;unfold fR;rw [ae (h x hx)];rfl
theorem CM (h:s.row_Row[k]? = some ⟨l,w⟩) (hs:Snd l) (hl:l.length≤1024) {a:Nat} (wide:Int) {t:List Int} (ht:t.length≤9223372036854775807) (ha:a+(dZ wide (fx t)).length≤l.length):
  lm s (some k) a wide t=some (s.sr k ⟨pl l a (dZ wide (fx t)),pw l w a (dZ wide (fx t)).length⟩,Er.nil):=by
 unfold lm;rw [AL wide t ht];simp only [bsm];rw [oe h hs hl (zp wide t) (AV wide _).1 ha];rfl
def mat (l:List ab) (i:Int):Option Nat:=if 0≤i∧i < l.length then (if kd l i.toNat=0 then none else if kd l i.toNat=3 then some (i.toNat - 1) else some i.toNat) else none
theorem xd (h:s.row_Row[k]? = some ⟨l,w⟩) {i:Int} (hi:¬(0≤i∧i < l.length)):ge s (some k) i=some (bl,false):=by
 unfold ge;rw [jl h];simp only [bsm,bz];rw [ae (by simp; omega)];rfl
theorem FM (hs:Snd l) (j:Nat):kd l j=0∨kd l j=1∨kd l j=2∨kd l j=3:=by
 rcases aN j l.length with h | h
 ·have:=(hs j h).1;unfold rgt at this;rw [kK h];split at this
  ·omega
  ·simp only [aq,aD,am] at this;omega
 ·exact .inl (mw h)
theorem Ee (h:s.row_Row[k]? = some ⟨l,w⟩) (hs:Snd l) (i:Int) (hi: -9223372036854775808≤i∧i≤9223372036854775807):
  ou s (some k) i=some (match mat l i with | some j=>((j:Int),⟨kd l j,(l.getD j bl).Text⟩,true) | none=>(0,⟨0,[]⟩,false)):=by
 unfold ou mat;by_cases hin:0≤i∧i < l.length
 ·obtain ⟨j,rfl⟩:∃j:Nat,i=(j:Int):=⟨i.toNat,by omega⟩;have hj:j < l.length:=by omega
  rw [ae hin,yd h hj hs.sht,bT];have hkd:=kK hj;have hgd:l.getD j bl=l[j]:=by rw [av,ah hj]; rfl
  simp only [bsm,iR];by_cases h3:kd l j=3
  ·obtain ⟨p1,p2⟩:=hs.three h3;have hj2:j - 1 < l.length:=by omega
   have hkd2:=kK hj2;rw [ae (by rw [aL,←hkd]; exact h3),aF (by omega),show ((j:Int) - 1)=((j - 1:Nat):Int) by omega,yd h hj2 hs.sht];simp only [bsm,iR];rw [af (show ¬kd l j=0 by omega),ae h3,af (by rw [aL,←hkd2]; omega),ae (by rw [aL,←hkd2]; exact p2)];simp only;rw [p2,av,ah hj2];rfl
  ·rw [af (by rw [aL,←hkd]; exact h3)];simp only [bsm,iR];rcases FM hs j with h0 | h1 | h2 | h4
   ·rw [af (by rw [aL,←hkd]; omega),af (by rw [aL,←hkd]; omega),ae h0]
   ·rw [ae (by rw [aL,←hkd]; exact h1),af (by omega),af h3];simp only;rw [h1,hgd]
   ·rw [af (by rw [aL,←hkd]; omega),ae (by rw [aL,←hkd]; exact h2),af (by omega),af h3];simp only;rw [h2,hgd]
   ·exact absurd h4 h3
 ·rw [af hin,xd h hin];rfl
theorem CE {a j:Nat} (h:a≤j∧j < a+p.length):pc l a p j=p.getD (j - a) bl:=by unfold pc; rw [ae h]
theorem Fx {a j:Nat} (h:¬(a≤j∧j < a+p.length)):pc l a p j=if tch l a p.length j=true then bl else l.getD j bl:=by unfold pc; rw [af h]
end Go.Proofs.YtclmdpamofdoiaaGreatDoor
namespace Go.Proofs.YtclmdpamofdoiaaGreatDoor
open Go Go.Lt
variable {s C:Sto} {g k W:Nat} {ks:List Nat} {l p:List ab} {w:Bool} {q:aa}
def Sto.sp (s:Sto) (k:Nat) (x:bi):Sto:={ s with place_Pen:=s.place_Pen.set k x}
theorem iT {x:bi} (h:k < s.place_Pen.length):s.set_place_Pen k x=some (s.sp k x):=by
 simp only [Sto.set_place_Pen,h,bv];rfl
theorem wW {x:bi} (h:k < s.place_Pen.length):(s.sp k x).place_Pen[k]? = some x:=by simp [Sto.sp,h]
theorem wt (s:Sto) (k:Nat) (x y:bi):(s.sp k x).sp k y=s.sp k y:=by simp [Sto.sp]
theorem Gw.sp (h:Gw s g ks W) (k:Nat) (x:bi):Gw (s.sp k x) g ks W:=⟨h.g,h.r,h.h1,h.h2,h.w1,h.w2⟩
def ownG (C:Sto) (k g:Nat):Prop:=∃x,C.place_Pen[k]? = some x∧x.G=some g
def ownR (C:Sto) (k r:Nat):Prop:=∃g y,ownG C k g∧C.grid_Grid[g]? = some y∧some r∈y.rows
structure Fr (C s:Sto) (k g:Nat) (ks:List Nat):Prop where
 pl:C.place_Pen.length≤s.place_Pen.length
 gl:C.grid_Grid.length≤s.grid_Grid.length
 rl:C.row_Row.length≤s.row_Row.length
 pn:∀j,j < C.place_Pen.length→j≠k→s.place_Pen[j]? = C.place_Pen[j]?
 gr:∀j,j < C.grid_Grid.length→¬ownG C k j→s.grid_Grid[j]? = C.grid_Grid[j]?
 rw:∀j,j < C.row_Row.length→¬ownR C k j→s.row_Row[j]? = C.row_Row[j]?
 ng:ownG C k g∨C.grid_Grid.length≤g
 nr:∀r∈ks,ownR C k r∨C.row_Row.length≤r
theorem Fr.self {p:bi} (h:s.place_Pen[k]? = some p) (hg:p.G=some g) (hk:s.grid_Grid[g]? = some ⟨ks.map some⟩):Fr s s k g ks:=
 ⟨az _,az _,az _,fun _ _ _=>rfl,fun _ _ _=>rfl,fun _ _ _=>rfl,.inl ⟨p,h,hg⟩,fun r hr=> .inl ⟨g,_,⟨p,h,hg⟩,hk,List.mem_map.2 ⟨r,hr,rfl⟩⟩⟩
theorem Fr.new (h1:C.place_Pen.length≤s.place_Pen.length) (h2:C.grid_Grid.length≤s.grid_Grid.length) (h3:C.row_Row.length≤s.row_Row.length) (h4:∀j,j < C.place_Pen.length→s.place_Pen[j]? = C.place_Pen[j]?)
  (h5:∀j,j < C.grid_Grid.length→s.grid_Grid[j]? = C.grid_Grid[j]?) (h6:∀j,j < C.row_Row.length→s.row_Row[j]? = C.row_Row[j]?) (h7:C.grid_Grid.length≤g) (h8:∀r∈ks,C.row_Row.length≤r):Fr C s k g ks:=
 ⟨h1,h2,h3,fun j a _=>h4 j a,fun j a _=>h5 j a,fun j a _=>h6 j a,.inr h7,fun r hr=> .inr (h8 r hr)⟩
theorem Fr.step {s':Sto} {g':Nat} {ks':List Nat} (h:Fr C s k g ks) (f:Rf s s' g ks g' ks') (hp:s'.place_Pen=s.place_Pen):Fr C s' k g' ks':=by
 refine ⟨by rw [hp]; exact h.pl,dj h.gl f.gl,dj h.rl f.rl,fun j a b=>by rw [hp]; exact h.pn j a b,fun j a b=>?_,fun j a b=>?_,?_,fun r hr=>?_⟩
 ·have:=h.gl;rw [f.gr j (by omega) ?_,h.gr j a b];rintro rfl;rcases h.ng with q | q
  ·exact b q
  ·omega
 ·have:=h.rl;rw [f.rw j (by omega) ?_,h.rw j a b];intro hj;rcases h.nr j hj with q | q
  ·exact b q
  ·omega
 ·rcases f.ng with rfl | q
  ·exact h.ng
  ·exact .inr (dj h.gl q)
 ·rcases f.nr r hr with q | q
  ·exact h.nr r q
  ·exact .inr (dj h.rl q)
theorem Fr.sp (h:Fr C s k g ks) (x:bi):Fr C (s.sp k x) k g ks:=
 ⟨by simp only [Sto.sp,cq]; exact h.pl,h.gl,h.rl,fun j a b=>by simp only [Sto.sp]; rw [aW (rM b)]; exact h.pn j a b,h.gr,h.rw,h.ng,h.nr⟩
theorem Fr.sr (h:Fr C s k g ks) {i:Nat} (hi:i∈ks) (r:bf):Fr C (s.sr i r) k g ks:=by
 refine h.step (s':=s.sr i r) ⟨az _,by simp [Sto.sr],fun _ _ _=>rfl,fun j _ b=>?_,.inl rfl,fun r hr=> .inl hr⟩ rfl;exact xV (fun e=>b (e▸ hi))
theorem Fr.addp (h:Fr C s k g ks) (x:bi):Fr C (s.add_place_Pen x) k g ks:=
 ⟨by have:=h.pl; simp only [Sto.add_place_Pen,aA]; omega,h.gl,h.rl,fun j a b=>by have:=h.pl; simp only [Sto.add_place_Pen]; rw [aI (by omega)]; exact h.pn j a b,h.gr,h.rw,h.ng,h.nr⟩
structure Rgp (s s':Sto):Prop where
 r:s'.row_Row=s.row_Row
 g:s'.grid_Grid=s.grid_Grid
 p:s'.place_Pen=s.place_Pen
theorem Rgp.self (s:Sto):Rgp s s:=⟨rfl,rfl,rfl⟩
theorem Rgp.symm {s s':Sto} (h:Rgp s s'):Rgp s' s:=⟨h.r.symm,h.g.symm,h.p.symm⟩
theorem Rgp.ownG {s s':Sto} (h:Rgp s s') (k g:Nat):ownG s' k g↔ownG s k g:=by unfold Go.Proofs.YtclmdpamofdoiaaGreatDoor.ownG; rw [h.p]
theorem Rgp.ownR {s s':Sto} (h:Rgp s s') (k r:Nat):ownR s' k r↔ownR s k r:=by unfold Go.Proofs.YtclmdpamofdoiaaGreatDoor.ownR; rw [h.g]; simp only [h.ownG]
theorem Fr.rgp {C' s':Sto} (h:Fr C s k g ks) (hC:Rgp C C') (hs:Rgp s s'):Fr C' s' k g ks:=by
 refine ⟨by rw [hC.p,hs.p]; exact h.pl,by rw [hC.g,hs.g]; exact h.gl,by rw [hC.r,hs.r]; exact h.rl,?_,?_,?_,?_,?_⟩
 ·rw [hC.p,hs.p]; exact h.pn
 ·rw [hC.g,hs.g]; simp only [hC.ownG]; exact h.gr
 ·rw [hC.r,hs.r]; simp only [hC.ownR]; exact h.rw
 ·rw [hC.g,hC.ownG]; exact h.ng
 ·rw [hC.r]; simp only [hC.ownR]; exact h.nr
theorem Fr.trans {B:Sto} {g0:Nat} {ks0:List Nat} (h:Fr B C k g0 ks0) (hg:∀j,ownG C k j→j=g0) (hr:∀j,ownR C k j→j∈ks0) (h':Fr C s k g ks):Fr B s k g ks:=by
 have hl:=h.gl;have hl2:=h.rl;have hl3:=h.pl;refine ⟨dj h.pl h'.pl,dj h.gl h'.gl,dj h.rl h'.rl,fun j a b=>?_,fun j a b=>?_,fun j a b=>?_,?_,fun r hr'=>?_⟩
 ·rw [h'.pn j (by omega) b,h.pn j a b]
 ·rw [h'.gr j (by omega) ?_,h.gr j a b];intro q;obtain rfl:=hg j q;rcases h.ng with q | q
  ·exact b q
  ·omega
 ·rw [h'.rw j (by omega) ?_,h.rw j a b];intro q;rcases h.nr j (hr j q) with q | q
  ·exact b q
  ·omega
 ·rcases h'.ng with q | q
  ·obtain rfl:=hg g q; exact h.ng
  ·exact .inr (by omega)
 ·rcases h'.nr r hr' with q | q
  ·exact h.nr r (hr r q)
  ·exact .inr (by omega)
structure Pv (C s:Sto) (k g_ W:Nat) (q:aa) (ks:List Nat):Prop where
 p:s.place_Pen[k]? = some ⟨some g_,q.At,q.Auto⟩
 g:Gw s g_ ks W
 nd:ks.Nodup
 l:ks.map (ln s)=q.L
 o:s.oth=C.oth
 f:Fr C s k g_ ks
theorem Pv.self (h:Pv C s k g W q ks):Pv s s k g W q ks:=⟨h.p,h.g,h.nd,h.l,rfl,Fr.self h.p rfl h.g.g⟩
theorem Pv.oG (h:Pv C s k g W q ks) (j:Nat) (hj:ownG s k j):j=g:=by
 obtain ⟨x,h1,h2⟩:=hj;rw [h.p] at h1;cases h1;exact (bm h2).symm
theorem Pv.oR (h:Pv C s k g W q ks) (j:Nat) (hj:ownR s k j):j∈ks:=by
 obtain ⟨g',y,h1,h2,h3⟩:=hj;obtain rfl:=h.oG g' h1;rw [h.g.g] at h2;cases h2;obtain ⟨r,h4,h5⟩:=List.mem_map.1 h3;cases h5;exact h4
theorem Pv.len (h:Pv C s k g W q ks):q.L.length=ks.length:=by rw [←h.l,dh]
theorem Pv.ok (h:Pv C s k g W q ks):∀x∈q.L,Okl W x:=by rw [←h.l]; exact vX h.g
theorem Pv.at (h:Pv C s k g W q ks) {i:Nat} (hi:i < ks.length):q.L[i]'(by rw [h.len]; exact hi)=ln s ks[i]:=by
 have:=h.l;have e:q.L[i]? = (ks.map (ln s))[i]? :=by rw [this]
 rw [ah (by rw [h.len]; exact hi),bF,ah hi] at e;exact bm e
theorem Pv.set (h:Pv C s k g W q ks) (c:ai) (a:Bool):Pv C (s.sp k ⟨some g,c,a⟩) k g W ⟨q.L,c,a⟩ ks:=
 ⟨wW (cK h.p),h.g.sp _ _,h.nd,h.l,h.o,h.f.sp _⟩
theorem Pv.row (h:Pv C s k g W q ks) {i:Nat} (hi:i < ks.length) {r:bf} (hr:Snd r.cells) (hl:r.cells.length=W):Pv C (s.sr ks[i] r) k g W ⟨q.L.set i ⟨r.cells,r.wrap⟩,q.At,q.Auto⟩ ks:=by
 have hlt:=(h.g.at hi).lt;refine ⟨h.p,⟨h.g.g,fun j hj=>?_,h.g.h1,h.g.h2,h.g.w1,h.g.w2⟩,h.nd,?_,h.o,h.f.sr (aH hi) _⟩
 ·by_cases e:ks[i]=j
  ·subst e; exact ⟨r,rQ hlt,hr,hl⟩
  ·obtain ⟨r0,h1,h2⟩:=h.g.r j hj;exact ⟨r0,(xV e).trans h1,h2⟩
 ·refine cm fun j=>?_;rw [bF,lD];rcases aN j ks.length with hj | hj
  ·rw [ah hj,fp];by_cases e:i=j
   ·subst e;rw [ae rfl,ae (by rw [h.len]; exact hi),nj (rQ hlt)]
   ·have hne:ks[i]≠ks[j]:=by
     rcases HR e with h1 | h1
     ·exact List.pairwise_iff_getElem.1 h.nd i j _ _ h1
     ·exact (List.pairwise_iff_getElem.1 h.nd j i _ _ h1).symm
    rw [af e,ah (by rw [h.len]; exact hj),h.at hj];unfold ln;rw [xV hne]
  ·rw [aZ hj,af (by omega),aZ (by rw [h.len]; exact hj)];rfl
def hc (c:ai) (W h:Nat):ai:=⟨max 0 (min c.Row ((h:Int) - 1)),max 0 (min c.Col ((W:Int) - 1)),c.Pending && (c.Col==(W:Int) - 1)⟩
theorem sY {n:Nat} (h1:1≤n) (h2:n≤1024):gQ n=some (n:Int):=by
 unfold gQ;rw [eX,dx]
 congr 1
 omega
theorem uY {n:Nat} (h1:1≤n) (h2:n≤1024):bY n=some (n:Int):=by
 unfold bY;rw [af (by simp; omega),af (by simp; omega)]
theorem oD (c:ai) {W h:Nat} (w1:1≤W) (w2:W≤1024) (h1:1≤h) (h2:h≤1024):fZ c W h=some (hc c W h):=by
 unfold fZ kX;rw [sY w1 w2,sY h1 h2];simp only [bsm,aY];rw [aF (by omega),aF (by omega),eX,dx,eX,dx];rfl
theorem uX (n:Int) {m:Nat} (h1:1≤m) (h2:m≤1024):dV n m=some (max 0 (min n ((m:Int) - 1))):=by
 unfold dV;rw [aF (by omega)];by_cases a:n < 0
 ·rw [ae (by simpa using a)]
  congr 1
  omega
 ·rw [af (by simpa using a)];by_cases b:(m:Int)≤n
  ·rw [ae (by simpa using b)]
   congr 1
   omega
  ·rw [af (by simpa using b)]
   congr 1
   omega
theorem yf (c:ai) {W h:Nat} (w1:1≤W) (w2:W≤1024) (h1:1≤h) (h2:h≤1024):eN c W h=some (hc c W h):=by
 unfold eN;rw [uY h1 h2,uY w1 w2];simp only [bsm,aY];rw [uX _ h1 h2,uX _ w1 w2,aF (by omega)];rfl
structure Hd (c:ai) (W h:Nat):Prop where
 rr:0≤c.Row∧c.Row < (h:Int)
 cc:0≤c.Col∧c.Col < (W:Int)
 pp:c.Pending=true→c.Col=(W:Int) - 1
theorem sU (c:ai) {W h:Nat} (w1:1≤W) (h1:1≤h):Hd (hc c W h) W h:=by
 refine ⟨by simp only [hc]; omega,by simp only [hc]; omega,fun hp=>?_⟩;simp only [hc,aq,aL] at hp⊢;omega
theorem G2 {c:ai} {W h:Nat} (hd:Hd c W h):hc c W h=c:=by
 obtain ⟨h1,h2,h3⟩:=hd;obtain ⟨a,b,d⟩:=c;simp only at h1 h2 h3;unfold hc;simp only [ai.mk.injEq];refine ⟨by omega,by omega,?_⟩
 cases d with
 | false=>rfl
 | true=>rw [h3 rfl]; simp
theorem wD (h:Pv C s k g W q ks):gp s (some k)=some (s.sp k ⟨some g,hc q.At W ks.length,q.Auto⟩,true):=by
 unfold gp;simp only [bJ,gn,bsm,h.p,aj,aT];rw [jm h.g,eL h.g];simp only [bsm];rw [oD _ h.g.w1 h.g.w2 h.g.h1 h.g.h2];simp only [bsm];rw [iT (cK h.p)];rfl
theorem sM (h:Pv C s k g W q ks):db q=some (W:Int):=by
 have hl:=h.len;have h1:=h.g.h1;have h0:idx q.L (0:Int)=some (q.L[0]'(by omega)):=bp (i:=0) (by omega);unfold db;rw [h0];simp only [bsm];rw [(h.ok _ (aH _)).2]
theorem ol (h:Pv C s k g W q ks):cf q=some ⟨q.L,hc q.At W ks.length,q.Auto⟩:=by
 unfold cf;rw [sM h];simp only [bsm];rw [h.len,yf _ h.g.w1 h.g.w2 h.g.h1 h.g.h2];rfl
theorem vh (h:Pv C s k g W q ks):∃s' q' ks',fk s (some k)=some s'∧dd q=some q'∧Pv C s' k g W q' ks'∧ks'.length=ks.length∧
  Hd q'.At W ks.length∧q'.At.Pending=false∧q'.At.Col=(hc q.At W ks.length).Col∧q'.Auto=q.Auto:=by
 have h1:=h.set (hc q.At W ks.length) q.Auto;have hd:=sU q.At h.g.w1 h.g.h1;have hh:=h.g.h2;unfold fk dd;rw [wD h,ol h];generalize hc q.At W ks.length=c at *;simp only [bsm,dA,aj,aT];rw [h1.p];simp only [bsm];rw [eL h1.g];simp only [bsm];unfold mD;rw [sY h.g.h1 h.g.h2];simp only [bsm];rw [aF (by omega),aF (by have:=hd.rr; omega),h.len];have hr:=hd.rr;by_cases he:(ks.length:Int) - 1≤c.Row
 ·rw [ae (by simpa using he),af (by simp; omega)];have h2:=h1.set ⟨c.Row,c.Col,false⟩ q.Auto;rw [wt] at h2;simp only [bsm];rw [iT (by rw [show (s.sp k ⟨some g,c,q.Auto⟩).place_Pen.length=s.place_Pen.length by simp [Sto.sp]]; exact cK h.p),wt];simp only [bsm,bv];rw [eL h2.g];simp only [bsm];obtain ⟨s',ks',u1,⟨u2,u3,u4,u5⟩,u6,u7⟩:=zk h2.g h2.nd 0 (ks.length:Int) 1;have hm:=qs (W:=W) (L:=q.L) (by rw [h.len]; exact hh) h.g.w2 (fun x hx=>(h.ok x hx).2) 0 (ks.length:Int) 1 true;rw [h.len] at hm;rw [u1,hm];refine ⟨s',_,ks',rfl,rfl,⟨?_,u2,u3,?_,(qQ u6).trans h2.o,h2.f.step u7 (kz u6)⟩,u4,⟨hr,hd.cc,fun e=>by cases e⟩,rfl,rfl,rfl⟩
  ·rw [kz u6]; exact h2.p
  ·rw [u5,h2.l]
 ·rw [af (by simpa using he),ae (by simp; omega)];have h2:=h1.set ⟨c.Row+1,c.Col,false⟩ q.Auto;rw [wt] at h2;simp only [bsm];rw [iT (by rw [show (s.sp k ⟨some g,c,q.Auto⟩).place_Pen.length=s.place_Pen.length by simp [Sto.sp]]; exact cK h.p),wt];simp only [bsm,aj,aT];exact ⟨_,_,ks,rfl,rfl,h2,rfl,⟨by simp only; omega,hd.cc,fun e=>by cases e⟩,rfl,rfl,rfl⟩
theorem sL (h:Pv C s k g W q ks) {i:Nat} (hi:i < ks.length) (x:ak):ce q i x=some ⟨q.L.set i x,q.At,q.Auto⟩:=by
 have hl:=h.len;have hh:=h.g.h2;unfold ce;rw [cR (by simp; omega),ba];simp only [bsm];rw [bp (show i < q.L.length by omega),kR (show i < q.L.length by omega)];rfl
theorem Ay (h:Pv C s k g W q ks) (hd:0≤q.At.Row∧q.At.Row < (ks.length:Int)):∃s' q' ks',fI s (some k)=some s'∧cr q=some q'∧Pv C s' k g W q' ks'∧ks'.length=ks.length∧
  Hd q'.At W ks.length∧q'.At.Pending=false∧q'.At.Col=0∧q'.Auto=q.Auto:=by
 obtain ⟨i,hi⟩:∃i:Nat,q.At.Row=(i:Int):=⟨q.At.Row.toNat,by omega⟩;have hik:i < ks.length:=by omega
 have hl:=h.len;obtain ⟨r,r1,r2,r3⟩:=h.g.at hik;have hrow:=h.row hik (r:=⟨r.cells,true⟩) r2 r3;have h2:=hrow.set ⟨q.At.Row,0,false⟩ q.Auto;have w1:=h.g.w1;unfold fI cr;simp only [bsm,h.p,hi];rw [eY h.g hik];simp only [bsm];rw [uV (l:=r.cells) (w:=r.wrap) r1];simp only [bsm];rw [hrow.p];simp only [bsm,dw];rw [iT (cK hrow.p)];simp only [bsm];rw [bp (show i < q.L.length by omega),h.at hik,nj r1];simp only [bsm];rw [sL h hik];simp only [bsm,hi];obtain ⟨s',q',ks',n1,n2,n3,n4,n5,n6,n7,n8⟩:=vh h2;rw [hi] at n1 n2;rw [n1,n2];refine ⟨s',q',ks',rfl,rfl,n3,n4,n5,n6,?_,n8⟩;rw [n7];simp only [hc];omega
theorem yn (h:Pv C s k g W q ks) {i a:Nat} (hi:i < ks.length) (hp:Snd p) (hn:1≤p.length) (ha:a+p.length≤W):∃s' q',dQ s (some ks[i]) a p=some (s',Er.nil)∧bX q i a p=some q'∧
  Pv C s' k g W q' ks∧q'.At=q.At∧q'.Auto=q.Auto∧q'.L=q.L.set i ⟨pl (ln s ks[i]).Cells a p,pw (ln s ks[i]).Cells (ln s ks[i]).Wrap a p.length⟩:=by
 obtain ⟨r,r1,r2,r3⟩:=h.g.at hi;have w2:=h.g.w2;have hl:=h.len;have hrow:=h.row hi (r:=⟨pl r.cells a p,pw r.cells r.wrap a p.length⟩) (r2.paint hp (by rw [r3]; exact ha)) (by rw [jz]; exact r3);refine ⟨_,_,oe (l:=r.cells) (w:=r.wrap) r1 r2 (by omega) hp hn (by omega),?_,hrow,rfl,rfl,by rw [nj r1]⟩;unfold bX;rw [bp (show i < q.L.length by omega),h.at hi,nj r1];simp only [bsm];rw [tI _ _ _ _ (by omega) (by omega) (by omega)];simp only [bsm];rw [sL h hi];rfl
end Go.Proofs.YtclmdpamofdoiaaGreatDoor
namespace Go.Proofs.YtclmdpamofdoiaaGreatDoor
open Go Go.Lt
def ca (c:ai) (d W:Nat) (au:Bool):ai:=if c.Col < (W:Int) - d then ⟨c.Row,c.Col+d,false⟩ else ⟨c.Row,(W:Int) - 1,au⟩
theorem BF (c:ai) {d W:Nat} (hd:d=1∨d=2) (w1:1≤W) (w2:W≤1024) (hc:0≤c.Col∧c.Col < (W:Int)) (au:Bool):kj c d W au=some (ca c d W au):=by
 unfold kj ca;rw [sY w1 w2];simp only [bsm,eX,dx];rw [show max (1:Int) (min (d:Int) 2)=(d:Int) by omega,aF (by omega),aF (by omega),aF (by omega)];by_cases h:c.Col < (W:Int) - d
 ·rw [ae (by simpa using h),ae h]
 ·rw [af (by simpa using h),af h]
theorem wC (c:ai) {d W:Nat} (hd:d=1∨d=2) (w1:1≤W) (w2:W≤1024) (hc:0≤c.Col∧c.Col < (W:Int)) (au:Bool):fA c d W au=some (ca c d W au):=by
 unfold fA ca;have hz:(if decide ((d:Int) > 1)=true then (some 2:Option Int) else some 1)=some (d:Int):=by
  rcases hd with rfl | rfl <;> rfl
 rw [hz];simp only [bsm];rw [uY w1 w2];simp only [bsm];rw [aF (by omega),aF (by omega),aF (by omega)];by_cases h:c.Col < (W:Int) - d
 ·rw [af (by simp; omega),ae h]
 ·rw [ae (by simp; omega),af h]
variable {s C:Sto} {g k W:Nat} {ks:List Nat} {q:aa}
theorem Hj {c:ai} {d h:Nat} (hd:d=1∨d=2) (w1:1≤W) (hc:0≤c.Col∧c.Col < (W:Int)) (hr:0≤c.Row∧c.Row < (h:Int)) (au:Bool):Hd (ca c d W au) W h:=by
 unfold ca;by_cases h:c.Col < (W:Int) - d
 ·rw [ae h];exact ⟨hr,by simp only; omega,fun e=>by cases e⟩
 ·rw [af h];exact ⟨hr,by simp only; omega,fun _=>rfl⟩
theorem nH (d:Nat) (hd:d=1∨d=2) (t:List Int):(dZ (d:Int) t).length=d:=by
 unfold dZ;rcases hd with rfl | rfl <;> (repeat' split) <;> first | rfl | (exfalso; omega)
def fld (q:aa):(List ak)×Int×Int×Bool×Bool:=(q.L,q.At.Row,q.At.Col,q.At.Pending,q.Auto)
def rp1 (q:aa):Option ((List ak)×Int×Int×Bool×Bool):=
 if q.At.Pending=true then
 (cr q).bind fun x_34=>
 (some (x_34.L,x_34.At.Row,x_34.At.Col,x_34.At.Pending,x_34.Auto):Option ((List ak)×Int×Int×Bool×Bool))
 else
 (some (q.L,q.At.Row,q.At.Col,q.At.Pending,q.Auto):Option ((List ak)×Int×Int×Bool×Bool))
def rp2 (d W:Int) (z_28:(List ak)×Int×Int×Bool×Bool):Option ((List ak)×Int×Int×Bool×Bool):=
 (bV (d==2) (some (z_28.2.2.1==(w64 (W - 1))))).bind fun d_40=>
 if d_40=true then
 if z_28.2.2.2.2=true then
 (rep 1 (⟨0,([]:List Int)⟩:ab)).bind fun x_58=>
 (bX (⟨z_28.1,(⟨z_28.2.1,z_28.2.2.1,z_28.2.2.2.1⟩:ai),z_28.2.2.2.2⟩:aa) z_28.2.1 (w64 (W - 1)) x_58).bind fun x_59=>
 (cr x_59).bind fun x_60=>
 (some (x_60.L,x_60.At.Row,x_60.At.Col,x_60.At.Pending,x_60.Auto):Option ((List ak)×Int×Int×Bool×Bool))
 else
 (some (z_28.1,z_28.2.1,(w64 (W - 2)),z_28.2.2.2.1,z_28.2.2.2.2):Option ((List ak)×Int×Int×Bool×Bool))
 else
 (some (z_28.1,z_28.2.1,z_28.2.2.1,z_28.2.2.2.1,z_28.2.2.2.2):Option ((List ak)×Int×Int×Bool×Bool))
def cp1 (s:Sto) (p0:Option Nat):Option Sto:=
 (p0).bind fun k_3=>
 (s.place_Pen[k_3]?).bind fun o_6=>
 if o_6.At.Pending=true then
 (fI s p0).bind fun x_9=>
 (some (x_9):Option (Sto))
 else
 (some (s):Option (Sto))
theorem EU (h:Pv C s k g W q ks) (hd:Hd q.At W ks.length):∃s' q' ks',cp1 s (some k)=some s'∧rp1 q=some (fld q')∧Pv C s' k g W q' ks'∧ks'.length=ks.length∧Hd q'.At W ks.length∧q'.Auto=q.Auto∧q'.At.Pending=false:=by
 unfold cp1 rp1;simp only [bsm,h.p]
 cases hp:q.At.Pending with
 | false=>
  simp only [aj,aT];exact ⟨s,q,ks,rfl,by unfold fld; rw [hp],h,rfl,hd,rfl,hp⟩
 | true=>
  simp only [bv];obtain ⟨s',q',ks',a1,a2,a3,a4,a5,a6,a7,a8⟩:=Ay h hd.rr;rw [a1,a2];exact ⟨s',q',ks',rfl,rfl,a3,a4,a5,a8,a6⟩
theorem Ao (h:Pv C s k g W q ks) (hd:Hd q.At W ks.length) {d:Nat} (hdd:d=1∨d=2) (hdw:d≤W):
  ∃s' q' ks' z,js s (some k) d=some s'∧rp1 q=some z∧rp2 d W z=some (fld q')∧Pv C s' k g W q' ks'∧ks'.length=ks.length∧(0≤q'.At.Row∧q'.At.Row < (ks.length:Int))∧(0≤q'.At.Col∧q'.At.Col+d≤(W:Int))∧q'.Auto=q.Auto:=by
 obtain ⟨s1,q1,ks1,a1,a2,v1,n1,hd1,au1,pe1⟩:=EU h hd;have w1:=h.g.w1;have w2:=h.g.w2;have hcc:=hd1.cc;unfold js
 change ∃s' q' ks' z,((cp1 s (some k)).bind _)=some s'∧_
 rw [a1];simp only [bsm,v1.p];rw [jm v1.g];simp only [bsm,bz];have e1:w64 ((W:Int) - 1)=((W - 1:Nat):Int):=by rw [aF (by omega)]; omega
 have e2:w64 ((W:Int) - 2)=(W:Int) - 2:=aF (by omega);rw [e1];unfold rp2;by_cases hA:d=1∨q1.At.Col < (W:Int) - 1
 ·rw [ae (by simp only [aD,aL,am]; omega)];refine ⟨s1,q1,ks1,_,rfl,a2,?_,v1,n1,hd1.rr,by omega,au1⟩;simp only [fld,aY,bsm,e1];rw [af (by simp only [aq,aL]; omega)]
 ·rw [af (by simp only [aD,aL,am]; omega)];have hd2:d=2:=by omega
  have hcol:q1.At.Col=(W:Int) - 1:=by omega
  obtain ⟨i,hi⟩:∃i:Nat,q1.At.Row=(i:Int):=⟨q1.At.Row.toNat,by have:=hd1.rr; omega⟩;have hik:i < ks1.length:=by have:=hd1.rr; omega
  cases hau:q1.Auto with
  | true=>
   simp only [bv];rw [hi,eY v1.g hik];simp only [bsm];rw [show ew 1=some [bl] from tY 1];simp only [bsm];obtain ⟨s2,q2,b1,b2,v2,at2,au2,_⟩:=yn (p:=[bl]) (a:=W - 1) v1 hik (tz 1) (by decide) (by simp; omega);rw [b1];simp only [bsm];obtain ⟨s3,q3,ks3,c1,c2,v3,n3,hd3,pe3,co3,au3⟩:=Ay v2 (by rw [at2,n1]; exact hd1.rr);rw [c1];refine ⟨s3,q3,ks3,_,rfl,a2,?_,v3,n3.trans n1,by rw [←n1]; exact hd3.rr,by rw [co3]; omega,by rw [au3,au2,au1]⟩;simp only [fld,aY,bsm,e1];rw [ae (by simp only [aq,aL]; omega)];simp only [hau,bv];rw [nQ _ (by decide),hi];simp only [bsm];rw [show (List.replicate (1:Int).toNat (⟨0,[]⟩:ab))= [bl] from rfl];have b2':bX ⟨q1.L,⟨(i:Int),q1.At.Col,q1.At.Pending⟩,true⟩ i ((W - 1:Nat):Int) [bl]=some q2:=by rw [←hi,←hau]; rw [←hi] at b2; exact b2
   rw [b2'];simp only [bsm];rw [c2];rfl
  | false=>
   simp only [aj,aT];rw [iT (cK v1.p)];simp only [bsm];have e3:w64 (q1.At.Col - 1)=(W:Int) - 2:=by rw [aF (by omega)]; omega
   have v2:=v1.set ⟨q1.At.Row,(W:Int) - 2,q1.At.Pending⟩ q1.Auto;rw [hau] at v2;rw [e3];refine ⟨_,_,ks1,_,rfl,a2,?_,v2,n1,hd1.rr,by simp only; omega,by simp only; rw [←hau]; exact au1⟩;simp only [fld,aY,bsm,e1,e2];rw [ae (by simp only [aq,aL]; omega)];simp only [hau,aj,aT]
def cl2 (p1:Int) (t:List Int) (W:Nat):Nat×List Int:=if max 1 (min p1 2) > (W:Int) then (1,[65533]) else ((max 1 (min p1 2)).toNat,t)
theorem Dc (p1:Int) (t:List Int) (w1:1≤W):((cl2 p1 t W).1=1∨(cl2 p1 t W).1=2)∧(cl2 p1 t W).1≤W:=by
 unfold cl2;split
 ·exact ⟨.inl rfl,w1⟩
 ·simp only;omega
theorem Db (p1:Int) (t:List Int):(if (decide ((aE 1 (aB p1 2)) > (W:Int)))=true then (some (1,([65533]:List Int)):Option (Int×(List Int))) else (some ((aE 1 (aB p1 2)),t):Option (Int×(List Int))))=some (((cl2 p1 t W).1:Int),(cl2 p1 t W).2):=by
 rw [dx,eX];unfold cl2;by_cases h:max 1 (min p1 2) > (W:Int)
 ·rw [ae (by simpa using h),ae h];rfl
 ·rw [af (by simpa using h),af h];simp only;rw [pD (by omega)]
theorem zA (h:Pv C s k g W q ks) (p1:Int) (t:List Int) (ht:t.length≤1000000):∃(s':Sto) (q':aa) (ks':List Nat) (i a:Nat),i < ks.length∧iQ s (some k) p1 t=some (s',⟨(i:Int),(a:Int),false⟩)∧aU q p1 t=some (q',⟨(i:Int),(a:Int),false⟩)∧
  Pv C s' k g W q' ks'∧ks'.length=ks.length∧Hd q'.At W ks.length∧q'.Auto=q.Auto∧a+(cl2 p1 t W).1≤W∧
  ∃l0 w0,l0.length=W∧q'.L[i]? = some ⟨pl l0 a (dZ (cl2 p1 t W).1 (fx (cl2 p1 t W).2)),w0⟩:=by
 have hl:(cl2 p1 t W).2.length≤1000000:=by unfold cl2; split <;> simp; exact ht
 obtain ⟨hdd,hdw⟩:=Dc p1 t h.g.w1;have hce:=Db (W:=W) p1 t;have w1:=h.g.w1;have w2:=h.g.w2;have h1:=h.set (hc q.At W ks.length) q.Auto;have hd:=sU q.At h.g.w1 h.g.h1;unfold iQ aU;rw [wD h,ol h];generalize hc q.At W ks.length=c at *;simp only [bsm,dA,aj,aT,h1.p];rw [jm h1.g,sM h1];simp only [bsm];rw [hce];generalize (cl2 p1 t W).2=t2 at *;generalize (cl2 p1 t W).1=d at *;simp only [bsm];obtain ⟨s2,q2,ks2,z,a1,a2,a3,v2,n2,hr,hcl,au⟩:=Ao h1 hd hdd hdw;rw [a1];obtain ⟨i,hi⟩:∃i:Nat,q2.At.Row=(i:Int):=⟨q2.At.Row.toNat,by omega⟩;obtain ⟨a,ha⟩:∃a:Nat,q2.At.Col=(a:Int):=⟨q2.At.Col.toNat,by omega⟩;have hik:i < ks2.length:=by omega
 obtain ⟨L2,⟨row2,col2,pd2⟩,ua2⟩:=q2;simp only at hi ha hr hcl au;subst hi ha;simp only [bsm,v2.p];rw [eY v2.g hik];simp only [bsm];unfold lm;rw [AL _ _ (by omega)];simp only [bsm];have hsl:=nH d hdd (fx t2);obtain ⟨s3,q3,b1,b2,v3,at3,au3,l3⟩:=yn (p:=dZ d (fx t2)) (a:=a) v2 hik (zp _ _) (by rw [hsl]; omega) (by rw [hsl]; omega);rw [b1];simp only [bsm,v3.p];rw [jm v3.g];simp only [bsm];have hc2:0≤(⟨(i:Int),(a:Int),false⟩:ai).Col∧(⟨(i:Int),(a:Int),false⟩:ai).Col < (W:Int):=by simp only; omega
 rw [BF _ hdd w1 w2 hc2];simp only [bsm];rw [iT (cK v3.p)];simp only [bsm];have v4:=v3.set (ca ⟨(i:Int),(a:Int),false⟩ d W q3.Auto) q3.Auto
 change ∃s' q' ks' i_1 a_1,_∧_∧((rp1 ⟨q.L,c,q.Auto⟩).bind fun z_28=>(rp2 d W z_28).bind _)=_∧_
 rw [a2];simp only [bsm];rw [a3];simp only [fld,bsm];rw [Cu _ _ (by omega)];simp only [bsm];rw [b2];simp only [bsm];rw [wC _ hdd w1 w2 hc2];simp only [bsm];refine ⟨_,_,ks2,i,a,by omega,rfl,rfl,v4,n2,Hj hdd w1 hc2 (by simp only; omega) _,by simp only; rw [au3,au],by omega,(ln s2 ks2[i]).Cells,pw (ln s2 ks2[i]).Cells (ln s2 ks2[i]).Wrap a (dZ d (fx t2)).length,?_,?_⟩
 ·have:=v2.ok _ (aH (show i < L2.length by have:=v2.len; simp only at this; omega));rw [v2.at hik] at this;exact this.2
 ·simp only;rw [l3,bq (by have:=v2.len; simp only at this⊢; omega)]
end Go.Proofs.YtclmdpamofdoiaaGreatDoor
namespace Go.Proofs.YtclmdpamofdoiaaGreatDoor
open Go Go.Lt
variable {s:Sto} {k g W:Nat} {l p p':List ab} {w:Bool} {q:aa} {ks:List Nat}
theorem sy (l:List ab) (a n j:Nat):tch l a n j=true↔(a≤j∧j < a+n)∨(kd l j=2∧a≤j+1∧j+1 < a+n)∨(kd l j=3∧a+1≤j∧j < a+n+1):=by
 simp only [tch,aD,aq,am];omega
theorem xg {c j:Nat} (h:¬(c≤j∧j < c+p.length)):pc l c p j=if (kd l j=2∧j+1=c∧0 < p.length)∨(kd l j=3∧j=c+p.length∧0 < p.length) then bl else l.getD j bl:=by
 rw [Fx h];by_cases ht:tch l c p.length j=true
 ·rw [ae ht,ae];rw [sy] at ht;omega
 ·rw [af ht,af];rw [sy] at ht;omega
theorem CR {c j:Nat} (hj:j < l.length) (h:¬(c≤j∧j < c+p.length)):kd (pl l c p) j=if (kd l j=2∧j+1=c∧0 < p.length)∨(kd l j=3∧j=c+p.length∧0 < p.length) then 0 else kd l j:=by
 rw [CQ hj,xg h];split
 ·rfl
 ·exact nf l j
theorem xf {a c:Nat} (h1:a≤c) (h2:c+p.length≤a+p'.length) (h3:a+p'.length≤l.length):pl (pl l c p) a p'=pl l a p':=by
 apply cm;intro j;rcases aN j l.length with hj | hj
 ·rw [tJ (by rw [jz]; exact hj),tJ hj]
  congr 1
  by_cases hi:a≤j∧j < a+p'.length
  ·rw [CE hi,CE hi]
  ·have hc:¬(c≤j∧j < c+p.length):=by omega
   have hg:(pl l c p).getD j bl=pc l c p j:=by rw [av,tJ hj]; rfl
   rw [xg hi,xg hi,CR hj hc,hg,xg hc];by_cases hA:(kd l j=2∧j+1=c∧0 < p.length)∨(kd l j=3∧j=c+p.length∧0 < p.length)
   ·rw [ae hA,ae hA,af (by omega),ae (by omega)]
   ·rw [af hA,af hA]
 ·rw [aZ (by rw [jz,jz]; exact hj),aZ (by rw [jz]; exact hj)]
theorem Ap {a c:Nat} (h1:a≤c) (h2:c+p.length≤a+p'.length) (h3:a+p'.length≤l.length):pw (pl l c p) (pw l w c p.length) a p'.length=pw l w a p'.length:=by
 unfold pw;rw [jz];by_cases hl:0 < l.length
 ·have e:(tch l c p.length (l.length - 1) || tch (pl l c p) a p'.length (l.length - 1))=tch l a p'.length (l.length - 1):=by
   rw [ck,aD,sy,sy,sy];by_cases hc:c≤l.length - 1∧l.length - 1 < c+p.length
   ·omega
   ·rw [CR (by omega) hc];split <;> omega
  rw [show decide (0 < l.length)=true by simpa using hl,dz,dz,Bool.and_assoc,←Bool.not_or,e,dz]
 ·rw [show decide (0 < l.length)=false by simpa using hl];simp
end Go.Proofs.YtclmdpamofdoiaaGreatDoor
namespace Go.Proofs.YtclmdpamofdoiaaGreatDoor
open Go Go.Lt
variable {s C:Sto} {k g W:Nat} {l p p':List ab} {w:Bool} {q:aa} {ks:List Nat}
def rdy (q:aa) (W H d:Nat):Option ((List ak)×Int×Int×Bool×Bool):=(rp1 ⟨q.L,hc q.At W H,q.Auto⟩).bind (rp2 d W)
def Bi (L:List ak) (i a d W:Nat) (au:Bool) (t:List Int):aa:=
 ⟨L.set i ⟨pl (L.getD i dl).Cells a (dZ d (fx t)),pw (L.getD i dl).Cells (L.getD i dl).Wrap a d⟩,ca ⟨(i:Int),(a:Int),false⟩ d W au,au⟩
theorem sN {L:List ak} {c:ai} {au:Bool} {i a:Nat} (hi:i < L.length) (hL:L.length≤1024) (hw:(L.getD i dl).Cells.length≤1024) (hp:p.length≤1000000) (ha:a≤1000000):
  bX ⟨L,c,au⟩ i a p=some ⟨L.set i ⟨pl (L.getD i dl).Cells a p,pw (L.getD i dl).Cells (L.getD i dl).Wrap a p.length⟩,c,au⟩:=by
 unfold bX ce;simp only [gdl hi] at hw⊢;simp only [bp hi,bsm];rw [tI _ _ _ _ (by omega) ha hp];simp only [bsm];rw [cR (by simp; omega),ba];simp only [bsm];rw [bp hi,kR hi];rfl
theorem jZ {L2:List ak} {i a d:Nat} {pd au:Bool} (hdd:d=1∨d=2) (h:Pv C s k g W q ks) (hr:rdy q W ks.length d=some (L2,(i:Int),(a:Int),pd,au)) (hi:i < ks.length) (ha:a+d≤W) (hL:L2.length=ks.length) (hok:∀x∈L2,Okl W x) (p1:Int) (t:List Int) (ht:t.length≤1000000)
  (hcl:(cl2 p1 t W).1=d):aU q p1 t=some (Bi L2 i a d W au (cl2 p1 t W).2,⟨(i:Int),(a:Int),false⟩):=by
 have hl:(cl2 p1 t W).2.length≤1000000:=by unfold cl2; split <;> simp; exact ht
 have hce:=Db (W:=W) p1 t;have w1:=h.g.w1;have w2:=h.g.w2;have h1:=h.set (hc q.At W ks.length) q.Auto;have h2:=h.g.h2;unfold aU;rw [ol h];unfold rdy at hr;generalize hc q.At W ks.length=c at *;simp only [bsm];rw [sM h1];simp only [bsm];rw [hce,hcl];generalize (cl2 p1 t W).2=t2 at *;simp only [bsm];have hsl:=nH d hdd (fx t2);have hc2:0≤(⟨(i:Int),(a:Int),false⟩:ai).Col∧(⟨(i:Int),(a:Int),false⟩:ai).Col < (W:Int):=by simp only; omega
 obtain ⟨z,hz1,hz2⟩:=bs hr
 change ((rp1 ⟨q.L,c,q.Auto⟩).bind fun z_28=>(rp2 d W z_28).bind _)=_
 rw [hz1];simp only [bsm];rw [hz2];simp only [bsm];rw [Cu _ _ (by omega)];simp only [bsm];have hlt:i < L2.length:=by omega
 have hcells:(L2.getD i dl).Cells.length=W:=by
  rw [gdl hlt];exact (hok _ (aH hlt)).2
 rw [sN hlt (by omega) (by omega) (by omega) (by omega)];simp only [bsm];rw [wC _ hdd w1 w2 hc2];simp only [bsm,Bi,hsl]
theorem CB (h:Pv C s k g W q ks) {d:Nat} (hdd:d=1∨d=2) (hdw:d≤W):∃L2 i a pd,rdy q W ks.length d=some (L2,((i:Nat):Int),((a:Nat):Int),pd,q.Auto)∧i < ks.length∧a+d≤W∧L2.length=ks.length∧(∀x∈L2,Okl W x):=by
 have h1:=h.set (hc q.At W ks.length) q.Auto;have hd:=sU q.At h.g.w1 h.g.h1;obtain ⟨s2,q2,ks2,z,_,a2,a3,v2,n2,hr,hcl,au⟩:=Ao h1 hd hdd hdw;obtain ⟨i,hi⟩:∃i:Nat,q2.At.Row=(i:Int):=⟨q2.At.Row.toNat,by omega⟩;obtain ⟨a,ha⟩:∃a:Nat,q2.At.Col=(a:Int):=⟨q2.At.Col.toNat,by omega⟩;refine ⟨q2.L,i,a,q2.At.Pending,?_,by omega,by omega,by rw [v2.len,n2],v2.ok⟩;unfold rdy;rw [a2];simp only [bsm];rw [a3];simp only [fld,hi,ha,au]
theorem DZ (h:Pv C s k g W q ks):∃L1 i c,rp1 ⟨q.L,hc q.At W ks.length,q.Auto⟩=some (L1,((i:Nat):Int),((c:Nat):Int),false,q.Auto)∧i < ks.length∧c+1≤W∧L1.length=ks.length∧(∀x∈L1,Okl W x):=by
 have h1:=h.set (hc q.At W ks.length) q.Auto;have hd:=sU q.At h.g.w1 h.g.h1;obtain ⟨s2,q2,ks2,a1,a2,v2,n2,hd2,au,pe⟩:=EU h1 hd;have hr:=hd2.rr;have hcc:=hd2.cc;obtain ⟨i,hi⟩:∃i:Nat,q2.At.Row=(i:Int):=⟨q2.At.Row.toNat,by omega⟩;obtain ⟨a,ha⟩:∃a:Nat,q2.At.Col=(a:Int):=⟨q2.At.Col.toNat,by omega⟩;refine ⟨q2.L,i,a,?_,by omega,by omega,by rw [v2.len,n2],v2.ok⟩;rw [a2];simp only [fld,hi,ha,au,pe]
theorem An (W:Int) (z:(List ak)×Int×Int×Bool×Bool):rp2 1 W z=some z:=by
 unfold rp2;simp only [aY,bsm];rw [af (by simp)]
theorem Bj (h:Pv C s k g W q ks) {p1 p2:Int} {t1 t2:List Int} (ht1:t1.length≤1000000) (ht2:t2.length≤1000000) (hc1:(cl2 p1 t1 W).1=1) {q':aa} {at_:ai} (hp:aU q p1 t1=some (q',at_))
  {s' C':Sto} {ks':List Nat} (h':Pv C' s' k g W q' ks') (hk:ks'.length=ks.length):aU ⟨q'.L,at_,q'.Auto⟩ p2 t2=aU q p2 t2:=by
 obtain ⟨L1,i,c,e1,hi,hcw,hL1,hok1⟩:=DZ h;have w1:=h.g.w1;have w2:=h.g.w2;have hh2:=h.g.h2;have r1:rdy q W ks.length 1=some (L1,(i:Int),(c:Int),false,q.Auto):=by
  unfold rdy;rw [e1];exact An (W:Int) _
 have hq:=jZ (.inl rfl) h r1 hi hcw hL1 hok1 p1 t1 ht1 hc1;rw [hp] at hq;simp only [aQ,gU] at hq;obtain ⟨rfl,rfl⟩:=hq;simp only [Bi];have hlt:i < L1.length:=by omega
 generalize hX:(⟨pl (L1.getD i dl).Cells c (dZ (1:Nat) (fx (cl2 p1 t1 W).2)),pw (L1.getD i dl).Cells (L1.getD i dl).Wrap c 1⟩:ak)=X;have hst:=nH 1 (.inl rfl) (fx (cl2 p1 t1 W).2);have hcells:(L1.getD i dl).Cells.length=W:=by
  rw [gdl hlt];exact (hok1 _ (aH hlt)).2
 have hXc:X.Cells.length=W:=by rw [←hX]; simp only [jz]; exact hcells
 have h2:=h'.set ⟨(i:Int),(c:Int),false⟩ q.Auto;simp only [Bi] at h2;rw [hX] at h2;have hcid:hc ⟨(i:Int),(c:Int),false⟩ W ks.length=⟨(i:Int),(c:Int),false⟩:=G2 ⟨by simp only; omega,by simp only; omega,fun e=>by cases e⟩;have e2:rp1 ⟨L1.set i X,hc ⟨(i:Int),(c:Int),false⟩ W ks'.length,q.Auto⟩=some (L1.set i X,(i:Int),(c:Int),false,q.Auto):=by
  rw [hk,hcid];unfold rp1;simp only [aj,aT]
 have hg:(L1.set i X).getD i dl=X:=by
  rw [av,bq hlt];rfl
 have hokX:∀x∈L1.set i X,Okl W x:=h2.ok;obtain ⟨hdd,hdw⟩:=Dc p2 t2 w1;have over:∀(a d:Nat),d=1∨d=2→a≤c→c+1≤a+d→a+d≤W→∀p:List ab,p.length=d→(L1.set i X).set i ⟨pl ((L1.set i X).getD i dl).Cells a p,pw ((L1.set i X).getD i dl).Cells ((L1.set i X).getD i dl).Wrap a d⟩=L1.set i ⟨pl (L1.getD i dl).Cells a p,pw (L1.getD i dl).Cells (L1.getD i dl).Wrap a d⟩:=by
  intro a d _ g1 g2 g3 p hpl;rw [hg,List.set_set]
  congr 1
  rw [←hX];simp only;have o1:=xf (l:=(L1.getD i dl).Cells) (p:=dZ (1:Nat) (fx (cl2 p1 t1 W).2)) (p':=p) g1 (by omega) (by omega);have o2:=Ap (l:=(L1.getD i dl).Cells) (w:=(L1.getD i dl).Wrap) (p:=dZ (1:Nat) (fx (cl2 p1 t1 W).2)) (p':=p) g1 (by omega) (by omega);rw [hst,hpl] at o2;rw [o1,o2]
 have fin:∀(a d:Nat) (pd pd':Bool),d=1∨d=2→(cl2 p2 t2 W).1=d→a≤c→c+1≤a+d→a+d≤W→rdy q W ks.length d=some (L1,(i:Int),(a:Int),pd,q.Auto)→rdy ⟨L1.set i X,⟨(i:Int),(c:Int),false⟩,q.Auto⟩ W ks'.length d=some (L1.set i X,(i:Int),(a:Int),pd',q.Auto)→
   aU ⟨L1.set i X,⟨(i:Int),(c:Int),false⟩,q.Auto⟩ p2 t2=aU q p2 t2:=by
  intro a d pd pd' g0 g1 g2 g3 g4 b1 b2;rw [jZ g0 h b1 hi g4 hL1 hok1 p2 t2 ht2 g1,jZ g0 h2 b2 (by omega) g4 (by rw [cq]; omega) hokX p2 t2 ht2 g1];have:=over a d g0 g2 g3 g4 (dZ d (fx (cl2 p2 t2 W).2)) (nH d g0 _);unfold Bi;rw [this]
 have f1:∀(L:List ak) (d:Nat),d=2→c+1 < W→rp2 d W (L,(i:Int),(c:Int),false,q.Auto)=some (L,(i:Int),(c:Int),false,q.Auto):=by
  intro L d hd hcn;unfold rp2;simp only [aY,bsm];rw [aF (by omega),af (by simp only [aq,aL]; omega)]
 rcases hdd with hd1 | hd2
 ·refine fin c 1 false false (.inl rfl) hd1 (az _) (az _) hcw r1 ?_;unfold rdy;rw [e2];exact An (W:Int) _
 ·by_cases hcn:c+1 < W
  ·refine fin c 2 false false (.inr rfl) hd2 (az _) (by omega) (by omega) ?_ ?_
   ·unfold rdy;rw [e1];exact f1 _ 2 rfl hcn
   ·unfold rdy;rw [e2];exact f1 _ 2 rfl hcn
  ·have hcW:(c:Int)=(W:Int) - 1:=by omega
   have ew1:w64 ((W:Int) - 1)=((W - 1:Nat):Int):=by rw [aF (by omega)]; omega
   have ew2:w64 ((W:Int) - 2)=((W - 2:Nat):Int):=by rw [aF (by omega)]; omega
   cases hau:q.Auto with
   | true=>
    have hpa:∀L:List ak,L.length=ks.length→(L.getD i dl).Cells.length=W→rp2 (2:Nat) W (L,(i:Int),(c:Int),false,true)=
      (cr ⟨L.set i ⟨pl (L.getD i dl).Cells (W - 1) [bl],pw (L.getD i dl).Cells (L.getD i dl).Wrap (W - 1) 1⟩,⟨(i:Int),(c:Int),false⟩,true⟩).bind fun x_60=>(some (x_60.L,x_60.At.Row,x_60.At.Col,x_60.At.Pending,x_60.Auto):Option ((List ak)×Int×Int×Bool×Bool)):=by
     intro L hL hLw;unfold rp2;simp only [aY,bsm];rw [ae (by simp only [aq,aL]; rw [ew1]; omega)];simp only [bv];rw [nQ _ (by decide)];simp only [bsm];rw [show (List.replicate (1:Int).toNat (⟨0,[]⟩:ab))= [bl] from rfl,ew1,sN (by omega) (by omega) (by omega) (by decide) (by omega)];simp only [bsm];rfl
    obtain ⟨L2,i2,a2,pd2,g1,g2,g3,g4,g5⟩:=CB h (.inr rfl) (by omega:2≤W);have hsame:rdy ⟨L1.set i X,⟨(i:Int),(c:Int),false⟩,true⟩ W ks'.length 2=rdy q W ks.length 2:=by
     rw [hau] at e1 e2;unfold rdy;rw [hau,e1,e2];simp only [bsm];rw [hpa _ (by rw [cq]; omega) (by rw [hg]; exact hXc),hpa _ hL1 hcells];rw [over (W - 1) 1 (.inl rfl) (by omega) (by omega) (by omega) [bl] rfl]
    rw [hau] at h2;rw [jZ (.inr rfl) h g1 g2 g3 g4 g5 p2 t2 ht2 hd2,jZ (.inr rfl) h2 (hsame.trans g1) (by omega) g3 (by omega) g5 p2 t2 ht2 hd2]
   | false=>
    have hna:∀L:List ak,rp2 (2:Nat) W (L,(i:Int),(c:Int),false,q.Auto)=some (L,(i:Int),((W - 2:Nat):Int),false,q.Auto):=by
     intro L;unfold rp2;simp only [aY,bsm];rw [ae (by simp only [aq,aL]; rw [ew1]; omega)];simp only [hau,aj,aT];rw [ew2]
    have key:=fin (W - 2) 2 false false (.inr rfl) hd2 (by omega) (by omega) (by omega) (by unfold rdy; rw [e1]; exact hna _) (by unfold rdy; rw [e2]; exact hna _);rw [hau] at key;exact key
end Go.Proofs.YtclmdpamofdoiaaGreatDoor
namespace Go.Proofs.YtclmdpamofdoiaaGreatDoor
open Go Go.Lt
variable {s:Sto} {k g W:Nat} {l p p':List ab} {w:Bool} {q:aa} {ks:List Nat}
theorem Es {x:Int} (h:vld x=true):fR x=x:=by unfold fR; rw [ae h]
theorem zI (x:Int):fR (fR x)=fR x:=Es (xR x)
theorem CZ {t:List Int} (ht:t.length≤15) (x:Int):fx (t++ [fR x])=fx (t++ [x]):=by
 unfold fx;rw [aC (by simp; omega),aC (by simp; omega),bO,bO];simp [zI]
theorem B7 {d:Nat} (hd:d=1∨d=2) {t:List Int} (ht:t≠ []):dZ (d:Int) t=if d=2 then [⟨2,t⟩,⟨3,[]⟩] else [⟨1,t⟩]:=by
 unfold dZ;rw [af ht];rcases hd with rfl | rfl <;> rfl
theorem Br {l0:List ab} {a d:Nat} {t:List Int} (hdd:d=1∨d=2) (h:s.row_Row[k]? = some ⟨pl l0 a (dZ d t),w⟩) (hs:Snd (pl l0 a (dZ d t))) (hl:l0.length≤1024) (ha:a+d≤l0.length) (ht1:1≤t.length) (ht2:t.length≤15) (x:Int):
  nn s (some k) a x=some (s.sr k ⟨pl l0 a (dZ d (fx (t++ [x]))),pw (pl l0 a (dZ d t)) w a d⟩,true):=by
 have hne:t≠ []:=fun e=>by rw [e] at ht1; simp at ht1
 have hsl:=nH d hdd t;have hc:pc l0 a (dZ d t) a=⟨(d:Int),t⟩:=by
  rw [CE ⟨az _,by rw [hsl]; omega⟩,nB,B7 hdd hne];rcases hdd with rfl | rfl <;> rfl
 have hkd:kd (pl l0 a (dZ d t)) a=(d:Int):=by rw [CQ (by omega),hc]
 have hm:mat (pl l0 a (dZ d t)) (a:Int)=some a:=by
  unfold mat;rw [ae (by rw [jz]; omega),bT,hkd,af (by omega),af (by omega)]
 unfold nn;rw [Ee h hs a (by omega),hm];have hg:(pl l0 a (dZ d t)).getD a bl=⟨(d:Int),t⟩:=by rw [av,tJ (by omega),hc]; rfl
 simp only [bsm,dA,gn,hg,hkd];rw [af (by simp; omega),cR (by simp; omega)];simp only [bsm];have hsl2:=nH d hdd (fx (t++ [x]));rw [CM h hs (by rw [jz]; exact hl) _ (by simp; omega) (by rw [hsl2,jz]; exact ha),xf (az a) (by omega) (by omega),hsl2];simp only [bsm,Er.isNil]
def zb (b:Int):Bool:=b==1 || b==2 || b==3 || b==4 || b==5 || b==10 || b==11
def b2 (x:aw):Bool:= !zb x.Break && (x.East==1 || x.East==2)
theorem zU (b:Int):lQ b=some (zb b):=by
 unfold lQ zb;by_cases h1:b=1
 ·subst h1; rfl
 by_cases h2:b=2
 ·subst h2; rfl
 by_cases h3:b=3
 ·subst h3; rfl
 by_cases h4:b=4
 ·subst h4; rfl
 by_cases h5:b=5
 ·subst h5; rfl
 by_cases h6:b=10
 ·subst h6; rfl
 by_cases h7:b=11
 ·subst h7; rfl
 simp [h1,h2,h3,h4,h5,h6,h7]
theorem Do (x:aw):∃n,ns x=some n∧(n==2)=b2 x:=by
 unfold ns b2;rw [zU];simp only [bsm,bz]
 cases zb x.Break with
 | true=>exact ⟨0,rfl,rfl⟩
 | false=>
  cases h:(x.East==1 || x.East==2) with
  | true=>exact ⟨2,by simp [h],rfl⟩
  | false=>exact ⟨1,by simp [h],rfl⟩
def gz (y:bB) (r:Int) (x:aw):bB:=⟨true,x.Pict,y.wide || (b2 x || (y.some && ((r==65039 && y.pict) || x.Pict || x.Break==6)))⟩
def wz (y:bB):Int:=if y.wide=true then 2 else 1
theorem zH (y:bB) (r:Int) (x:aw):cy y r x=some (gz y r x,wz (gz y r x)):=by
 have hw:cp y r x=some (b2 x || (y.some && ((r==65039 && y.pict) || x.Pict || x.Break==6))):=by
  unfold cp;obtain ⟨n,h1,h2⟩:=Do x;rw [h1];simp only [bsm,h2,aY,bz]
  cases b2 x <;> cases y.some <;> rfl
 unfold cy;rw [hw];simp only [bsm,bz,aj,aT];unfold wz gz;split <;> simp_all
structure Cv (c:bG) (t:List Int):Prop where
 n:c.n=(t.length:Int)
 h:t.length≤16
 t:(a16 c.text).take t.length=t
theorem xt {c:bG} {t:List Int} (h:Cv c t):bR c=some (decide (t.length=16)):=by
 unfold bR cY;simp only [aj,aT,bsm,h.n]
 congr 1
 rw [ck,aL,am];omega
theorem F4 {c:bG} {t:List Int} (h:Cv c t) (h2:t.length < 16) (x:Int):∃c',cv c x=some (c',true)∧Cv c' (t++ [x]):=by
 unfold cv;rw [xt h];simp only [gn,bsm];rw [af (by simp; omega),h.n,bp (by rw [nK]; exact h2)];simp only [bsm];refine ⟨_,rfl,by simp only; rw [aF (by omega)]; simp,by simp; omega,?_⟩;simp only;rw [zg,bT,aA];simp only [aJ,aP];rw [ax (by rw [cq,nK]; exact h2),List.take_set_of_le (az _),h.t,List.getElem_set_self]
theorem AH {c:bG} {t:List Int} (h:Cv c t):bQ c=some t:=by
 unfold bQ;simp only [aj,aT,h.n];have:=nP (xs:=a16 c.text) (i:=0) (j:=t.length) (cw _) (by rw [nK]; exact h.h);rw [show ((0:Nat):Int)=0 by rfl] at this;rw [this];simp only [bsm,jx,nz,h.t];unfold gb;rw [cR (by have:=h.h; simp; omega)];rfl
end Go.Proofs.YtclmdpamofdoiaaGreatDoor
namespace Go.Proofs.YtclmdpamofdoiaaGreatDoor
open Go Go.Lt
variable {s C:Sto} {k g W j:Nat} {w:Bool} {q:aa} {ks:List Nat}
def Sto.sc (s:Sto) (j:Nat) (x:be):Sto:={ s with widen_Cluster:=s.widen_Cluster.set j x}
theorem tB {x:be} (h:j < s.widen_Cluster.length):s.set_widen_Cluster j x=some (s.sc j x):=by
 unfold Sto.set_widen_Cluster;rw [ae h];rfl
theorem qp {x:be} (h:j < s.widen_Cluster.length):(s.sc j x).widen_Cluster[j]? = some x:=by simp [Sto.sc,h]
theorem wy (s:Sto) (j:Nat) (x y:be):(s.sc j x).sc j y=s.sc j y:=by simp [Sto.sc]
theorem Gw.sc (h:Gw s g ks W) (j:Nat) (x:be):Gw (s.sc j x) g ks W:=⟨h.g,h.r,h.h1,h.h2,h.w1,h.w2⟩
theorem Gw.addc (h:Gw s g ks W) (x:be):Gw (s.add_widen_Cluster x) g ks W:=⟨h.g,h.r,h.h1,h.h2,h.w1,h.w2⟩
theorem Pv.sc (h:Pv s s k g W q ks) (j:Nat) (x:be):Pv (s.sc j x) (s.sc j x) k g W q ks:=
 ⟨h.p,h.g.sc j x,h.nd,h.l,rfl,h.f.rgp ⟨rfl,rfl,rfl⟩ ⟨rfl,rfl,rfl⟩⟩
theorem Pv.addc (h:Pv s s k g W q ks) (x:be):Pv (s.add_widen_Cluster x) (s.add_widen_Cluster x) k g W q ks:=
 ⟨h.p,h.g.addc x,h.nd,h.l,rfl,h.f.rgp ⟨rfl,rfl,rfl⟩ ⟨rfl,rfl,rfl⟩⟩
theorem tL {a b:Sto} (h:a.oth=b.oth):a.widen_Cluster=b.widen_Cluster:=by
 have:=gL Sto.widen_Cluster h;exact this
structure Wc (s:Sto) (j:Nat) (c:ai) (y:bB) (t:List Int) (n:Int):Prop where
 x:∃b,s.widen_Cluster[j]? = some ⟨c,n,b,y⟩∧Cv b t
theorem Wc.lt {c:ai} {y:bB} {t:List Int} {n:Int} (h:Wc s j c y t n):j < s.widen_Cluster.length:=by
 obtain ⟨b,h,_⟩:=h.x;exact cK h
theorem DQ (r:Int):((eZ r).bind fun x_6=>if (!x_6)=true then (some (65533):Option (Int)) else (some (r):Option (Int)))=some (fR r):=by
 rw [tC];unfold fR
 cases vld r <;> rfl
theorem Dw {c:ai} {y:bB} {t:List Int} {n:Int} (h:Wc s j c y t n) (ht:t.length < 16) (r:Int) (x:aw):
  ∃b',fj s (some j) r x=some (s.sc j ⟨c,n,b',gz y (fR r) x⟩,wz (gz y (fR r) x))∧Cv b' (t++ [fR r]):=by
 have hj:=h.lt;obtain ⟨b,hb,hv⟩:=h.x;obtain ⟨b',h1,h2⟩:=F4 hv ht (fR r);refine ⟨b',?_,h2⟩;unfold fj;rw [DQ];simp only [bsm,hb,h1];rw [tB hj];simp only [bsm,zH];rw [tB (by simp [Sto.sc]; exact hj),wy];rfl
theorem EE (t:List Int) (h:2≤W):cl2 2 t W=(2,t):=by
 unfold cl2;rw [af (by omega)];rfl
theorem AJ (t:List Int) (h:1≤W):cl2 1 t W=(1,t):=by
 unfold cl2;rw [af (by omega)];rfl
theorem AK (t:List Int):cl2 2 t 1=(1,[65533]):=by
 unfold cl2;rw [ae (by decide)]
structure On (C s:Sto) (k g W H j:Nat) (q0:aa) (y:bB) (t:List Int) (q:aa) (c:ai) (ks:List Nat):Prop where
 v:Pv s s k g W q ks
 f:Fr C s k g ks
 w:Wc s j c y t (wz y)
 n:ks.length=H
 p:aU q0 (wz y) t=some (q,c)
theorem Dn {q0:aa} (h:Pv C s k g W q0 ks) (r:Int) (x:aw):∃s' q' c ks',kU s (some k) r x=some (s',some s.widen_Cluster.length)∧
  On C s' k g W ks.length s.widen_Cluster.length q0 (gz ⟨false,false,false⟩ (fR r) x) [fR r] q' c ks'∧∃z,s'.oth=(s.add_widen_Cluster z).oth:=by
 unfold kU;simp only [bJ,gn,bsm,h.p,aj,aT];have h0:Wc (s.add_widen_Cluster ⟨⟨0,0,false⟩,0,⟨(0,0,0,0,0,0,0,0,0,0,0,0,0,0,0,0),0⟩,⟨false,false,false⟩⟩) s.widen_Cluster.length ⟨0,0,false⟩ ⟨false,false,false⟩ [] 0:=
  ⟨⟨⟨(0,0,0,0,0,0,0,0,0,0,0,0,0,0,0,0),0⟩,by simp [Sto.add_widen_Cluster],⟨rfl,by simp,rfl⟩⟩⟩
 obtain ⟨b,h1,h2⟩:=Dw h0 (by simp) r x;have hlt:=h0.lt;rw [h1];have hv:=(h.self.addc ⟨⟨0,0,false⟩,0,⟨(0,0,0,0,0,0,0,0,0,0,0,0,0,0,0,0),0⟩,⟨false,false,false⟩⟩).sc s.widen_Cluster.length ⟨⟨0,0,false⟩,0,b,gz ⟨false,false,false⟩ (fR r) x⟩;have hR:Rgp s (s.add_widen_Cluster ⟨⟨0,0,false⟩,0,⟨(0,0,0,0,0,0,0,0,0,0,0,0,0,0,0,0),0⟩,⟨false,false,false⟩⟩):=⟨rfl,rfl,rfl⟩;have hA:∀z,((s.add_widen_Cluster ⟨⟨0,0,false⟩,0,⟨(0,0,0,0,0,0,0,0,0,0,0,0,0,0,0,0),0⟩,⟨false,false,false⟩⟩).sc s.widen_Cluster.length z)=s.add_widen_Cluster z:=fun z=>by
  simp [Sto.sc,Sto.add_widen_Cluster]
 generalize hs1:s.add_widen_Cluster ⟨⟨0,0,false⟩,0,⟨(0,0,0,0,0,0,0,0,0,0,0,0,0,0,0,0),0⟩,⟨false,false,false⟩⟩=s1 at *;simp only [bsm];rw [qp hlt];simp only [bsm];rw [tB (by simp [Sto.sc]; exact hlt),wy];simp only [bsm];rw [AH h2];simp only [bsm,ba];have hv2:=hv.sc s.widen_Cluster.length ⟨⟨0,0,false⟩,wz (gz ⟨false,false,false⟩ (fR r) x),b,gz ⟨false,false,false⟩ (fR r) x⟩;simp only [wy] at hv2;obtain ⟨s3,q3,ks3,i,a,p1,p2,p3,p4,p5,p6,p7,_⟩:=zA hv2 (wz (gz ⟨false,false,false⟩ (fR r) x)) [fR r] (by simp);rw [p2];have hcl:s3.widen_Cluster=(s1.sc s.widen_Cluster.length ⟨⟨0,0,false⟩,wz (gz ⟨false,false,false⟩ (fR r) x),b,gz ⟨false,false,false⟩ (fR r) x⟩).widen_Cluster:=tL p4.o;have hg3:s3.widen_Cluster[s.widen_Cluster.length]? = some ⟨⟨0,0,false⟩,wz (gz ⟨false,false,false⟩ (fR r) x),b,gz ⟨false,false,false⟩ (fR r) x⟩:=by
  rw [hcl];exact qp hlt
 simp only [bsm];rw [hg3];simp only [bsm];rw [tB (cK hg3)];refine ⟨_,q3,_,ks3,rfl,⟨p4.self.sc _ _,?_,⟨_,qp (cK hg3),by simpa using h2⟩,p5,p3⟩,⟨⟨(i:Int),(a:Int),false⟩,wz (gz ⟨false,false,false⟩ (fR r) x),b,gz ⟨false,false,false⟩ (fR r) x⟩,?_⟩
 ·exact (h.f.trans h.oG h.oR (p4.f.rgp (C':=s) ⟨hR.symm.r,hR.symm.g,hR.symm.p⟩ (Rgp.self _))).rgp (Rgp.self _) ⟨rfl,rfl,rfl⟩
 ·rw [←hA];have:=gL (fun y:Sto=>y.sc s.widen_Cluster.length ⟨⟨(i:Int),(a:Int),false⟩,wz (gz ⟨false,false,false⟩ (fR r) x),b,gz ⟨false,false,false⟩ (fR r) x⟩) p4.o;refine this.trans ?_;show (((s1.sc _ _).sc _ _).oth)=_;rw [wy]
theorem xQ (y:bB):(y.wide=false∧wz y=1)∨(y.wide=true∧wz y=2):=by
 unfold wz;cases y.wide
 ·exact .inl ⟨rfl,rfl⟩
 ·exact .inr ⟨rfl,rfl⟩
theorem Ax {y:bB} (h:y.wide=true) (r:Int) (x:aw):(gz y r x).wide=true:=by
 unfold gz;simp [h]
theorem EF (p1:Int) (t t':List Int) (W:Nat):(cl2 p1 t W).1=(cl2 p1 t' W).1:=by
 unfold cl2;split <;> rfl
theorem Bu {q0:aa} {y:bB} {t:List Int} {c:ai} {H:Nat} (h:On C s k g W H j q0 y t q c ks) (ht:t.length=16) (r:Int) (x:aw):
  dG s (some j) (some k) r x=some (s,false):=by
 obtain ⟨b,hb,hv⟩:=h.w.x;unfold dG;simp only [bJ,gn,bsm,h.v.p,hb,xt hv,ht];rfl
theorem Eh {C0 s0:Sto} {ks0:List Nat} {q0:aa} {H:Nat} (h0:Pv C0 s0 k g W q0 ks0) (hH:ks0.length=H) {y:bB} {t:List Int} {c:ai} (h:On C s k g W H j q0 y t q c ks) (ht1:1≤t.length) (ht:t.length < 16) (hvt:∀x∈t,vld x=true) (r:Int) (x:aw):
  ∃s' q' c' ks',dG s (some j) (some k) r x=some (s',true)∧On C s' k g W H j q0 (gz y (fR r) x) (t++ [fR r]) q' c' ks'∧∃z,s'.oth=(s.sc j z).oth:=by
 have hj:=h.w.lt;obtain ⟨b',e1,e2⟩:=Dw h.w ht r x;obtain ⟨b,hb,hv⟩:=h.w.x;have w1:=h0.g.w1;have w2:=h0.g.w2;unfold dG;have hfull:decide (t.length=16)=false:=by simp; omega
 simp only [bJ,gn,bsm,h.v.p,hb,xt hv,hfull,aj,aT,e1];have htl:(t++ [fR r]).length≤1000000:=by simp; omega
 generalize hy':gz y (fR r) x=y' at *;rw [qp hj];simp only [bsm];rw [tB (by simp [Sto.sc]; exact hj),wy];simp only [bsm];have hv2:=h.v.sc j ⟨c,wz y',b',y'⟩;have hfr:Fr C (s.sc j ⟨c,wz y',b',y'⟩) k g ks:=h.f.rgp (Rgp.self _) ⟨rfl,rfl,rfl⟩;by_cases hw:wz y'=wz y
 ·rw [af (by simp [hw])];simp only [hv2.p,bsm];rw [jm hv2.g];simp only [bsm];obtain ⟨hdd,hdw⟩:=Dc (wz y) t w1;obtain ⟨L2,i,a,pd,r1,r2,r3,r4,r5⟩:=CB h0 hdd hdw;have hq:=jZ hdd h0 r1 r2 r3 r4 r5 (wz y) t (by omega) rfl;have hq':=jZ hdd h0 r1 r2 r3 r4 r5 (wz y) (t++ [fR r]) htl (EF _ _ _ _);rw [h.p] at hq;simp only [aQ,gU] at hq;obtain ⟨hq1,rfl⟩:=hq;by_cases hle:wz y'≤(W:Int)
  ·rw [ae (by simpa using hle)];have hcl:∀t2:List Int,cl2 (wz y) t2 W=((wz y).toNat,t2):=fun t2=>by
    rw [hw] at hle;rcases xQ y with ⟨_,q1⟩ | ⟨_,q1⟩
    ·rw [q1]; exact AJ t2 w1
    ·rw [q1]; exact EE t2 (by omega)
   rw [hcl] at hq1 r3 hdd hdw r1 hq';rw [hcl] at hq';simp only at hq1 r3 hdd hdw r1 hq';generalize (wz y).toNat=d at *;have hik:i < ks.length:=by rw [h.n,←hH]; exact r2
   rw [eY hv2.g hik];simp only [bsm];have hfx:fx t=t:=Ha hvt (by omega);obtain ⟨⟨rc,rw_⟩,hr0,hsn,hlw⟩:=h.v.g.at hik;simp only at hsn hlw;have hlt:i < L2.length:=by rw [r4]; exact r2
   have hat:=h.v.at hik;rw [nj hr0] at hat;have hqL:q.L=L2.set i ⟨pl (L2.getD i dl).Cells a (dZ d (fx t)),pw (L2.getD i dl).Cells (L2.getD i dl).Wrap a d⟩:=by rw [hq1]; rfl
   have hgi:q.L[i]'(by rw [h.v.len]; exact hik)=⟨pl (L2.getD i dl).Cells a (dZ d (fx t)),pw (L2.getD i dl).Cells (L2.getD i dl).Wrap a d⟩:=by
    have:q.L[i]? = some ⟨pl (L2.getD i dl).Cells a (dZ d (fx t)),pw (L2.getD i dl).Cells (L2.getD i dl).Wrap a d⟩:=by rw [hqL,bq hlt]
    rw [ah (by rw [h.v.len]; exact hik)] at this;exact bm this
   rw [hgi] at hat;simp only [ak.mk.injEq] at hat;obtain ⟨hrc,hrw⟩:=hat;subst hrc hrw;have hcells:(L2.getD i dl).Cells.length=W:=by
    rw [gdl hlt];exact (r5 _ (aH hlt)).2
   have hq1A:q.At=ca ⟨(i:Int),(a:Int),false⟩ d W q0.Auto∧q.Auto=q0.Auto:=by rw [hq1]; exact ⟨rfl,rfl⟩
   generalize hl0:(L2.getD i dl).Cells=l0 at *;generalize hw0:(L2.getD i dl).Wrap=w0 at *;rw [hfx] at hr0 hsn hqL hlw hgi;have hr0':(s.sc j ⟨⟨(i:Int),(a:Int),false⟩,wz y',b',y'⟩).row_Row[ks[i]]? = some ⟨pl l0 a (dZ d t),pw l0 w0 a d⟩:=hr0;have hst:=nH d hdd t;have hst2:=nH d hdd (fx (t++ [r]));rw [Br hdd hr0' hsn (by omega) (by omega) ht1 (by omega) r];simp only [bsm];have o1:=xf (l:=l0) (p:=dZ d t) (p':=dZ d (fx (t++ [r]))) (az a) (by omega) (by omega);have o2:=Ap (l:=l0) (w:=w0) (p:=dZ d t) (p':=dZ d (fx (t++ [r]))) (az a) (by omega) (by omega);rw [hst,hst2] at o2;have hsn2:Snd (pl l0 a (dZ d (fx (t++ [r])))):=by
    rw [←o1];exact hsn.paint (zp _ _) (by rw [jz]; omega)
   have hv4:=hv2.row hik (r:=⟨pl l0 a (dZ d (fx (t++ [r]))),pw (pl l0 a (dZ d t)) (pw l0 w0 a d) a d⟩) hsn2 (by simp only [jz]; exact hcells);refine ⟨_,_,_,ks,rfl,⟨hv4.self,hfr.sr (aH hik) _,⟨b',qp hj,e2⟩,h.n,?_⟩,_,rfl⟩;rw [hw,hq'];have hfx2:=CZ (t:=t) (by omega) r;rw [o2,hqL,hq1A.1,hq1A.2,List.set_set,←hfx2];unfold Bi;rw [hl0,hw0]
  ·rw [af (by simpa using hle)];have hW:W=1:=by
    rcases xQ y' with ⟨_,q1⟩ | ⟨_,q1⟩ <;> omega
   refine ⟨_,q,_,ks,rfl,⟨hv2,hfr,⟨b',qp hj,e2⟩,h.n,?_⟩,_,rfl⟩;rw [hw,hq'];have h2:wz y=2:=by
    rcases xQ y with ⟨_,q1⟩ | ⟨_,q1⟩
    ·rw [hw,q1] at hle; omega
    ·exact q1
   rw [hq1,h2,hW,AK,AK]
 ·rw [ae (by simpa using hw)];have hy1:wz y=1∧wz y'=2:=by
   rcases xQ y with ⟨_,q1⟩ | ⟨q1,q2⟩
   ·rcases xQ y' with ⟨_,q3⟩ | ⟨_,q3⟩
    ·rw [q1,q3] at hw; exact absurd rfl hw
    ·exact ⟨q1,q3⟩
   ·have:=Ax q1 (fR r) x;rw [hy'] at this;unfold wz at hw;rw [this,q1] at hw;exact absurd rfl hw
  simp only [hv2.p,bsm];rw [iT (cK hv2.p)];simp only [bsm];have hv3:=hv2.set c q.Auto;have hc3:((s.sc j ⟨c,wz y',b',y'⟩).sp k ⟨some g,c,q.Auto⟩).widen_Cluster[j]? = some ⟨c,wz y',b',y'⟩:=qp hj;rw [hc3];simp only [bsm];rw [AH e2];simp only [bsm];obtain ⟨s4,q4,ks4,i,a,p1,p2,p3,p4,p5,p6,p7,_⟩:=zA hv3 (wz y') (t++ [fR r]) htl;rw [p2];simp only [bsm];have hc4:s4.widen_Cluster[j]? = some ⟨c,wz y',b',y'⟩:=by
   rw [tL p4.o];exact hc3
  rw [hc4];simp only [bsm];rw [tB (cK hc4)];refine ⟨_,q4,_,ks4,rfl,⟨p4.self.sc _ _,?_,⟨b',qp (cK hc4),e2⟩,p5.trans h.n,?_⟩,⟨⟨(i:Int),(a:Int),false⟩,wz y',b',y'⟩,?_⟩
  ·have h3:=p4.f;have:=h.f.trans h.v.oG h.v.oR (h3.rgp (C':=s) ⟨rfl,rfl,rfl⟩ (Rgp.self _));exact this.rgp (Rgp.self _) ⟨rfl,rfl,rfl⟩
  ·rw [←p3];exact (Bj h0 (by omega) htl (by rw [hy1.1,AJ _ w1]) h.p h.v (h.n.trans hH.symm)).symm
  ·have:=gL (fun y:Sto=>y.sc j ⟨⟨(i:Int),(a:Int),false⟩,wz y',b',y'⟩) p4.o;refine this.trans ?_;show (((s.sc _ _).sc _ _).oth)=_;rw [wy]
def gf (t:List Int) (x:List aw):bB:=(t.zip x).foldl (fun y p=>gz y p.1 p.2) ⟨false,false,false⟩
theorem xP {α β:Type}:∀(t:List α) (x:List β) (r:α) (h:t.length < x.length),(t++ [r]).zip x=t.zip x++ [(r,x[t.length])]
 | [],[],_,h=>by simp at h
 | [],b :: x,r,_=>by simp
 | a :: t,[],_,h=>by simp at h
 | a :: t,b :: x,r,h=>by
  have:=xP t x r (by simpa using h);simp only [co,xL,this,aJ,Gp]
theorem uK {t:List Int} {x:List aw} (h:t.length < x.length) (r:Int):gf (t++ [r]) x=gz (gf t x) r x[t.length]:=by
 unfold gf;rw [xP t x r h,lE];rfl
theorem xO {α β:Type}:∀(t:List α) (x:List β) (n:Nat),t.length≤n→t.zip (x.take n)=t.zip x
 | [],_,_,_=>rfl
 | _ :: _,[],_,_=>by simp
 | _ :: _,_ :: _,0,h=>by simp at h
 | a :: t,b :: x,n+1,h=>by
  rw [mB,xL,xL,xO t x n (by simpa using h)]
theorem Eo (t:List Int) (x:List aw) {n:Nat} (h:t.length≤n):gf t (x.take n)=gf t x:=by
 unfold gf;rw [xO _ _ _ h]
theorem zx (b:Int) (zs:List Int) (hz:zs.length≤1000):∃t,cM (σ:=Int) (τ:=Int ⊕ Unit) (((zs.length:Int) - 0).toNat+1) (fun s_9=>
 if (decide (s_9 < (zs.length:Int)))=true then
 (idx zs s_9).bind fun x_19=>
 if (b==x_19)=true then
 some (.inr (.inl 0))
 else
 some (.inl ((w64 (s_9+1))))
 else
 some (.inr (.inr ()))) (0)=some t∧(match t with | .inl n=>n=0∧b∈zs | .inr _=>b∉zs):=by
 refine eK (n:=zs.length) (fun i s=>s=(i:Int)∧∀k (h:k < zs.length),k < i→zs[k]≠b) (fun t:Int ⊕ Unit=>match t with | .inl n=>n=0∧b∈zs | .inr _=>b∉zs) (fun i s hi he=>?_) (fun s he=>?_) ⟨rfl,fun k h hk=>by omega⟩ (by omega)
 ·obtain ⟨e,hI⟩:=he;subst e;rw [ae (dlt hi),bp hi,eJ hi (by omega)];simp only [bsm];by_cases hx:b=zs[i]
  ·rw [ae (by simpa using hx)];exact .inr ⟨_,rfl,rfl,hx▸ aH hi⟩
  ·rw [af (by simpa using hx)];refine .inl ⟨_,rfl,rfl,fun k h hk=>?_⟩;by_cases hki:k=i
   ·subst hki; exact fun e=>hx e.symm
   ·exact hI k h (by omega)
 ·obtain ⟨e,hI⟩:=he;subst e;refine ⟨.inr (),by rw [af (by simp)],fun hb=>?_⟩;obtain ⟨i,hi,e⟩:=List.mem_iff_getElem.1 hb;exact hI i hi hi e
theorem Cz (x:aw):∃n,hU x=some n∧(n==2)=b2 x:=by
 unfold hU;obtain ⟨t,h1,h2⟩:=zx x.Break [1,2,3,4,5,10,11] (by decide);rw [h1];have hz:zb x.Break=true↔x.Break∈([1,2,3,4,5,10,11]:List Int):=by simp [zb]; omega
 unfold b2
 cases t with
 | inl n=>
  obtain ⟨rfl,hm⟩:=h2;exact ⟨0,rfl,by rw [hz.2 hm]; rfl⟩
 | inr u=>
  have hf:zb x.Break=false:=by rw [←tw,hz]; exact h2
  simp only [bz,bsm,hf]
  cases h:(x.East==1 || x.East==2) with
  | true=>exact ⟨2,by simp,rfl⟩
  | false=>exact ⟨1,by simp,rfl⟩
theorem GH (t:List Int) (x:List aw) (h:t.length≤x.length) (ht:t.length≤1000000):gG t x=some (wz (gf t x)):=by
 unfold gG;have key:∀i,i≤t.length→(gf (t.take i) x).some=decide (0 < i)∧(∀(h1:0 < i) (h2:i - 1 < x.length),(gf (t.take i) x).pict=x[i - 1].Pict):=fun i hi=>by
  cases i with
  | zero=>exact ⟨rfl,fun h=>absurd h (by decide)⟩
  | succ i=>
   have hl:(t.take i).length=i:=by rw [ay]; omega
   rw [ax (by omega),uK (by rw [hl]; omega)];exact ⟨by simp [gz],fun _ _=>by simp [gz,hl]⟩
 have mono:∀i,i≤t.length→(gf (t.take i) x).wide=true→(gf t x).wide=true:=fun i hi hw=>by
  have:∀m,i≤m→m≤t.length→(gf (t.take m) x).wide=true:=by
   intro m
   induction m with
   | zero=>intro h1 _; rw [show i=0 by omega] at hw; exact hw
   | succ m ih=>
    intro h1 h2;by_cases e:i=m+1
    ·rw [←e]; exact hw
    ·rw [ax (by omega),uK (by rw [ay]; omega)];exact Ax (ih (by omega) (by omega)) _ _
  have:=this t.length hi (az _)
  rwa [aC (az _)] at this
 refine ly (n:=t.length) (fun i s=>s=(i:Int)∧(gf (t.take i) x).wide=false) (fun u=>match u with | .inl n=>n=2∧(gf t x).wide=true | .inr _=>(gf t x).wide=false) (fun i s hi ⟨e,hI⟩=>?_) (fun s ⟨e,hI⟩=>?_) ⟨rfl,rfl⟩ (by omega) (fun u hu=>?_)
 ·subst e;have e5:=eJ hi (by omega);have hx:i < x.length:=by omega
  obtain ⟨n,h1,h2⟩:=Cz x[i];rw [ae (dlt hi),bp hx];simp only [bsm,h1,h2,e5,bp hi];have hl:(t.take i).length=i:=by rw [ay]; omega
  have hs:(gf (t.take (i+1)) x).wide=(b2 x[i] || (decide (0 < i) && ((t[i]==65039 && (gf (t.take i) x).pict) || x[i].Pict || x[i].Break==6))):=by
   rw [ax hi,uK (by rw [hl]; omega)];simp only [gz,hI,jh,(key i (by omega)).1,hl]
  have hd:∀(A:Option Bool),(∀(h0:0 < i),A=some ((t[i]==65039 && x[i - 1].Pict) || x[i].Pict || x[i].Break==6))→
    (orE (b2 x[i]) ((bV (decide ((i:Int) > 0)) A).bind fun d_21=>some d_21))=some (gf (t.take (i+1)) x).wide:=fun A hA=>by
   rw [hs];by_cases h0:0 < i
   ·rw [hA h0,show decide ((i:Int) > 0)=true by simp; omega,iR,show decide (0 < i)=true by simpa using h0,(key i (by omega)).2 h0 (by omega)];simp only [bsm,bz,dz]
   ·rw [show decide ((i:Int) > 0)=false by simp; omega,ik,show decide (0 < i)=false by simpa using h0];simp only [bsm,bz,mb]
  rw [hd _ (fun h0=>by
   rw [show w64 ((i:Int) - 1)=((i - 1:Nat):Int) by rw [aF (by omega)]; omega,bp (show i - 1 < x.length by omega)];simp only [bsm,aY,bz])]
  simp only [bsm]
  cases hw:(gf (t.take (i+1)) x).wide with
  | true=>exact .inr ⟨.inl 2,rfl,rfl,mono (i+1) (by omega) hw⟩
  | false=>exact .inl ⟨_,rfl,rfl,rfl⟩
 ·subst e;rw [aC (az _)] at hI;exact ⟨.inr (),by rw [af (by simp)],hI⟩
 ·unfold wz
  cases u with
  | inl n=>
   obtain ⟨rfl,hw⟩:=hu;rw [hw];rfl
  | inr u=>
   simp only at hu;rw [hu];rfl
end Go.Proofs.YtclmdpamofdoiaaGreatDoor
namespace Go.Proofs.YtclmdpamofdoiaaGreatDoor
open Go Go.Lt
variable {s C:Sto} {g k W:Nat} {ks:List Nat} {q:aa}
def bls (W H:Nat):List ak:=List.replicate H ⟨List.replicate W bl,false⟩
theorem Dk {W H:Nat} (w1:1≤W) (w2:W≤1024) (h1:1≤H):∀i (h:i < (bls W H).length),1≤(bls W H)[i].Cells.length∧(bls W H)[i].Cells.length≤1024∧Snd (bls W H)[i].Cells∧(bls W H)[i].Cells.length=((bls W H)[0]'(by omega)).Cells.length:=fun i h=>by
 have e:∀j (hj:j < (bls W H).length),(bls W H)[j]=⟨List.replicate W bl,false⟩:=fun j hj=>by
  unfold bls;exact jf _
 rw [e i h,e 0 (by omega)];simp only [lv];exact ⟨w1,w2,tz W,trivial⟩
theorem yD (n m:Int):my s n m=some ((s.addr ((bls (sd n) (sd m)).map lr)).add_grid_Grid ⟨(List.range' s.row_Row.length (sd m)).map some⟩,some s.grid_Grid.length):=by
 have hsd:=sI m;have hL:∀i,((bls (sd n) (sd m)).map lr).take i=List.replicate (min i (sd m)) ⟨List.replicate (sd n) bl,false⟩:=fun i=>by
  unfold bls;rw [List.map_replicate,List.take_replicate];rfl
 have hlen:((bls (sd n) (sd m)).map lr).length=sd m:=by simp [bls]
 have hH:aE 1 (aB m 1024)=(sd m:Int):=by
  rw [dx,eX];unfold sd;omega
 unfold my;rw [hH];simp only [bsm];obtain ⟨t,h3,h4⟩:=eK (σ:=Int×Sto) (τ:=Sto) (n:=sd m) (fuel:=(((sd m:Nat):Int) - 0).toNat+1) (s:=(0,s.add_grid_Grid (⟨([]:List (Option Nat))⟩:bZ)))
  (fun i q=>q=((i:Int),(s.addr (((bls (sd n) (sd m)).map lr).take i)).add_grid_Grid ⟨(List.range' s.row_Row.length i).map some⟩))
  (fun t=>t=(s.addr ((bls (sd n) (sd m)).map lr)).add_grid_Grid ⟨(List.range' s.row_Row.length (sd m)).map some⟩)
  (step:=fun s_12=>
 if (decide (s_12.1 < ((sd m:Nat):Int)))=true then
 (s_12.2.grid_Grid[s.grid_Grid.length]?).bind fun o_19=>
 (kF s_12.2 n).bind fun x_21=>
 (app o_19.rows ([x_21.2]:List (Option Nat))).bind fun x_23=>
 (x_21.1.set_grid_Grid s.grid_Grid.length (⟨x_23⟩:bZ)).bind fun s_26001=>
 some (.inl ((w64 (s_12.1+1)),s_26001))
 else
 some (.inr (s_12.2)))
  (fun i q hi e=>by
   subst e;refine .inl ⟨_,?_,rfl⟩;have e5:w64 ((i:Int)+1)=((i+1:Nat):Int):=by rw [aF (by omega)]; simp
   have hd:decide ((i:Int) < ((sd m:Nat):Int))=true:=by simp; exact hi
   have hg:((s.addr (((bls (sd n) (sd m)).map lr).take i)).add_grid_Grid ⟨(List.range' s.row_Row.length i).map some⟩).grid_Grid[s.grid_Grid.length]? = some ⟨(List.range' s.row_Row.length i).map some⟩:=by
    simp [Sto.add_grid_Grid,Sto.addr]
   simp only [hd,bv];rw [hg,xc];simp only [bsm];rw [cR (by simp; omega)];simp only [bsm];have hlt:s.grid_Grid.length < (((s.addr (((bls (sd n) (sd m)).map lr).take i)).add_grid_Grid ⟨(List.range' s.row_Row.length i).map some⟩).add_row_Row ⟨List.replicate (sd n) bl,false⟩).grid_Grid.length:=by
    simp [Sto.add_grid_Grid,Sto.addr,Sto.add_row_Row]
   rw [xY hlt,e5];simp only [bsm]
   congr 4
   refine Fe ?_ ?_ rfl
   ·simp only [Sto.sg,Sto.add_grid_Grid,Sto.add_row_Row,Sto.addr];rw [hL,hL,cz (by omega),cz (by omega),vR,aK]
   ·simp only [Sto.sg,Sto.add_grid_Grid,Sto.add_row_Row,Sto.addr];rw [nN _ _ (az _),nB,qN,HS,bO,hL,cz (by omega)];simp)
  (fun q e=>⟨q.2,by subst e; simp,by subst e; simp only; rw [aC (by omega)]⟩)
  (by simp [zf]) (by omega)
 subst h4;rw [h3];rfl
theorem Fr.of_grid (xs:List bf) (x:bZ) {n:Nat} (hn:n=s.grid_Grid.length) {m:Nat}:Fr s ((s.addr xs).add_grid_Grid x) k n (List.range' s.row_Row.length m):=by
 subst hn;refine Fr.new (az _) ?_ ?_ (fun _ _=>rfl) (fun j hj=>?_) (fun j hj=>?_) (az _) (fun r hr=>(List.mem_range'_1.1 hr).1)
 ·simp [Sto.add_grid_Grid,Sto.addr]
 ·simp [Sto.add_grid_Grid,Sto.addr]
 ·simp only [Sto.add_grid_Grid,Sto.addr]; exact aI hj
 ·simp only [Sto.add_grid_Grid,Sto.addr]; exact aI hj
theorem Gw.addp (h:Gw s g ks W) (x:bi):Gw (s.add_place_Pen x) g ks W:=⟨h.g,h.r,h.h1,h.h2,h.w1,h.w2⟩
theorem Bl (n m:Int):∃s' ks,mJ s n m=some (s',some s.place_Pen.length)∧Pv s s' s.place_Pen.length s.grid_Grid.length (sd n) ⟨bls (sd n) (sd m),⟨0,0,false⟩,true⟩ ks:=by
 have h1:=sI n;have h2:=sI m;have hb:(bls (sd n) (sd m)).length=sd m:=by simp [bls]
 have h0:((bls (sd n) (sd m))[0]'(by omega)).Cells.length=sd n:=by simp [bls]
 obtain ⟨g1,g2⟩:=E0 (s:=s) (L:=bls (sd n) (sd m)) (by omega) (by omega) (Dk h1.1 h1.2 h2.1);rw [h0] at g1;rw [hb] at g1 g2;unfold mJ;rw [yD];refine ⟨_,_,rfl,⟨?_,g1.addp _,?_,?_,rfl,(Fr.of_grid _ _ rfl).addp _⟩⟩
 ·simp [Sto.add_place_Pen,Sto.add_grid_Grid,Sto.addr]
 ·exact HZ
 ·exact g2
theorem Bf {W H:Nat} (w2:W≤1024) (h2:H≤1024):gE W H=some (bls W H):=by
 unfold gE;obtain ⟨t,h3,h4⟩:=eK (σ:=(List ak)×Int) (τ:=(List ak)) (n:=H) (fuel:=((H:Int) - 0).toNat+1) (s:=(([]:List ak),0))
  (fun i q=>q=(bls W i,(i:Int))) (fun t=>t=bls W H)
  (step:=fun s_7=>
 if (decide (s_7.2 < (H:Int)))=true then
 (rep (W:Int) (⟨0,([]:List Int)⟩:ab)).bind fun x_14=>
 (app s_7.1 ([(⟨x_14,false⟩:ak)]:List ak)).bind fun x_17=>
 some (.inl (x_17,(w64 (s_7.2+1))))
 else
 some (.inr (s_7.1)))
  (fun i q hi e=>by
   subst e;refine .inl ⟨_,?_,rfl⟩;have e5:w64 ((i:Int)+1)=((i+1:Nat):Int):=by rw [aF (by omega)]; simp
   have hd:decide ((i:Int) < (H:Int))=true:=by simp; exact hi
   simp only [hd,bv,e5];rw [nQ _ (by omega)];simp only [bsm];rw [cR (by simp [bls]; omega)];simp only [bsm];unfold bls;rw [vR];rfl)
  (fun q e=>⟨_,by subst e; simp,rfl⟩)
  rfl (by omega)
 subst h4;rw [h3];rfl
def sil (r:Int):Bool:=(decide (0≤r) && decide (r < 32)) || (decide (127≤r) && decide (r≤159))
theorem B9 (r:Int):jv r=some (sil r):=by
 simp only [jv,aY,bz,bsm,sil,zG]
theorem mt (r:Int):dr r=some (sil r):=by
 simp only [dr,aY,bz,bsm,sil,zG,aQ];rw [ck];simp;omega
theorem wB (r:Int) (h:r≠13∧r≠10∧r≠8):cB q r=some (q,sil r):=by
 unfold cB;rw [af (by simpa using h.1)];simp only [bsm];rw [af (by simpa using h.2.1)];simp only [bsm];rw [af (by simpa using h.2.2)];simp only [bsm];rw [mt];rfl
theorem EC (h:Pv C s k g W q ks) (r:Int):∃s' q' ks',oz s (some k) r=some (s',sil r)∧cB q r=some (q',sil r)∧Pv C s' k g W q' ks'∧ks'.length=ks.length∧(Hd q.At W ks.length→Hd q'.At W ks.length):=by
 have w1:=h.g.w1;have w2:=h.g.w2;unfold oz;rw [B9];simp only [bsm,bJ,gn,h.p];by_cases hs:sil r=true
 ·rw [hs];simp only [dA,aj,aT];rw [jm h.g,eL h.g];simp only [bsm];rw [oD _ h.g.w1 h.g.w2 h.g.h1 h.g.h2];have hd:=sU q.At h.g.w1 h.g.h1;have hh:=ol h;by_cases h13:r=13
  ·subst h13;simp only [bsm,zT,bv,dw];rw [iT (cK h.p)];refine ⟨_,_,ks,rfl,?_,h.set ⟨(hc q.At W ks.length).Row,0,false⟩ q.Auto,rfl,fun _=>⟨hd.rr,by simp only; omega,fun e=>by cases e⟩⟩;unfold cB;rw [hh,mt,hs];rfl
  by_cases h10:r=10
  ·subst h10;obtain ⟨s',q',ks',a1,a2,v,hn,hnd,_⟩:=vh h;simp only [bsm];rw [af (by decide),ae (by decide),a1];refine ⟨s',q',ks',rfl,?_,v,hn,fun _=>hnd⟩;unfold cB;rw [af (by decide)];simp only [bsm];rw [ae (by decide),show (⟨q.L,⟨q.At.Row,q.At.Col,q.At.Pending⟩,q.Auto⟩:aa)=q from rfl,a2];simp only [bsm];rw [af (by decide),mt,hs];rfl
  by_cases h8:r=8
  ·subst h8;have hcc:=hd.cc;have hb:kY (hc q.At W ks.length)=some ⟨(hc q.At W ks.length).Row,max 0 ((hc q.At W ks.length).Col - 1),false⟩:=by
    unfold kY;by_cases h0:(hc q.At W ks.length).Col > 0
    ·rw [ae (by simpa using h0),aF (by omega)];simp only [bsm,aQ,ai.mk.injEq,uO,vP];omega
    ·rw [af (by simpa using h0)];simp only [bsm,aQ,ai.mk.injEq,uO,vP];omega
   simp only [bsm];rw [af (by decide),af (by decide),ae (by decide),hb];simp only [bsm];rw [iT (cK h.p)];refine ⟨_,_,ks,rfl,?_,h.set ⟨(hc q.At W ks.length).Row,max 0 ((hc q.At W ks.length).Col - 1),false⟩ q.Auto,rfl,fun _=>⟨hd.rr,by simp only; omega,fun e=>by cases e⟩⟩;unfold cB;rw [af (by decide)];simp only [bsm];rw [af (by decide)];simp only [bsm];rw [ae (by decide),show (⟨q.L,⟨q.At.Row,q.At.Col,q.At.Pending⟩,q.Auto⟩:aa)=q from rfl,hh];simp only [bsm];rw [mt,hs,aF (by omega),eX];rfl
  ·simp only [bsm];rw [af (by simpa using h13),af (by simpa using h10),af (by simpa using h8)];exact ⟨s,q,ks,rfl,by rw [wB r ⟨h13,h10,h8⟩,hs],h,rfl,id⟩
 ·have hf:sil r=false:=by simpa using hs
  rw [hf];simp only [eA,bv];have hn:r≠13∧r≠10∧r≠8:=by
   refine ⟨?_,?_,?_⟩ <;> (rintro rfl; revert hf; decide)
  exact ⟨s,q,ks,rfl,by rw [wB r hn,hf],h,rfl,id⟩
end Go.Proofs.YtclmdpamofdoiaaGreatDoor
namespace Go.Proofs.YtclmdpamofdoiaaGreatDoor
open Go Go.Lt
def pj (a b:Int):Int:=(fW a b).getD 0
def clz (a:Int):Int:=if a < 0∨13 < a then 0 else a
def pjT (i j:Nat):Bool:=match fW i j,cX i j with
  | some x,some y=>x==y && (x != 2 || ((i==6)==(j==6))) && (x==0 || !(i==1 || i==2 || i==3 || j==1 || j==2 || j==3) || (i==1 && j==2))
  | _,_=>false
theorem Fw:((List.range 14).all fun i=>(List.range 14).all fun j=>pjT i j)=true:=by kernel_rfl
theorem AF (a:Int):∃i:Nat,clz a=(i:Int)∧i < 14∧(0 < i→a=(i:Int)):=by
  unfold clz;split
  · exact ⟨0,rfl,by omega,fun h=>by omega⟩
  · exact ⟨a.toNat,by omega,by omega,fun _=>by omega⟩
theorem mH (a:Int):iZ a=some (clz a):=by
  unfold iZ clz;simp only [bz,bsm];by_cases h:a < 0∨13 < a
  · rw [ae (by simp only [aD,am]; omega),ae h]
  · rw [af (by simp only [aD,am]; omega),af h]
theorem uL (a:Int):clz (clz a)=clz a:=by
  unfold clz
  repeat' split
  all_goals omega
theorem Bp (a b:Int):fW a b=fW (clz a) (clz b):=by
  unfold fW;rw [mH,mH,mH,mH,uL,uL]
theorem Bg (a b:Int):cX a b=cX (clz a) (clz b):=by
  have h:∀(a:Int),((orE (decide (a < 0)) (some (decide (a > 13)))).bind fun d_6=>if d_6=true then (some (0):Option (Int)) else (some (a):Option (Int)))=some (clz a):=fun a=>by
    have:=mH a;unfold iZ at this;exact this
  unfold cX;rw [h,h,h,h,uL,uL]
theorem ve (a b:Int):∃x,fW a b=some x∧cX a b=some x∧pj a b=x∧(x=2→(a=6↔b=6))∧(x≠0→(a=1∨a=2∨a=3∨b=1∨b=2∨b=3)→a=1∧b=2):=by
  obtain ⟨i,hi,i14,i0⟩:=AF a;obtain ⟨j,hj,j14,j0⟩:=AF b;have h:=List.all_eq_true.1 (List.all_eq_true.1 Fw i (List.mem_range.2 i14)) j (List.mem_range.2 j14);have ia:∀n:Nat,0 < n→n < 14→(a=(n:Int)↔i=n):=fun n h0 h1=>by
    constructor
    · intro e
      unfold clz at hi;split at hi <;> omega
    · intro e; subst e; exact i0 h0
  have jb:∀n:Nat,0 < n→n < 14→(b=(n:Int)↔j=n):=fun n h0 h1=>by
    constructor
    · intro e
      unfold clz at hj;split at hj <;> omega
    · intro e; subst e; exact j0 h0
  have a1:=ia 1 (by omega) (by omega);have a2:=ia 2 (by omega) (by omega);have a3:=ia 3 (by omega) (by omega);have a6:=ia 6 (by omega) (by omega);have b1:=jb 1 (by omega) (by omega);have b2:=jb 2 (by omega) (by omega);have b3:=jb 3 (by omega) (by omega);have b6:=jb 6 (by omega) (by omega);unfold pj;rw [Bp,Bg,hi,hj];unfold pjT at h;split at h
  · rename_i x y e1 e2
    simp only [aq,aD,aL,mV,wG,dB,vT,eR] at h;obtain ⟨⟨hxy,h2⟩,h3⟩:=h;subst hxy;refine ⟨x,e1,e2,by rw [e1]; rfl,fun hx=>?_,fun hx hc=>?_⟩
    · rcases h2 with q | q
      · exact absurd hx q
      · have q1:(i==6)=(j==6):=q
        rw [ck,aL,aL] at q1;omega
    · rcases h3 with (q | q) | q
      · exact absurd q hx
      · exfalso
        omega
      · omega
  · cases h
theorem D1 (a b:Int):fW a b=some (pj a b):=by
  obtain ⟨x,h1,_,h3,_⟩:=ve a b;rw [h1,h3]
theorem Fv (a b:Int):cX a b=some (pj a b):=by
  obtain ⟨x,_,h2,h3,_⟩:=ve a b;rw [h2,h3]
theorem Fu (a b:Int) (h:pj a b=2):a=6↔b=6:=by
  obtain ⟨x,_,_,h3,h4,_⟩:=ve a b;exact h4 (by omega)
def sgB (s:Sg):cJ:=⟨s.some,s.last,s.pict,s.conj,s.odd⟩
theorem Cg (s:Sg) (p:aw):de (sgB s) p=some (sgB (sgN s p),sgJ pj s p):=by
  have hj:cW (sgB s) p=some (sgJ pj s p):=by
    unfold cW sgB sgJ;simp only [aY,bsm,D1]
    cases s.some with
    | false=>rfl
    | true=>
      simp only [dA,aj,aT,dz]
      cases h1:(p.Conj==1 && s.conj==2) with
      | true=>rfl
      | false=>
        simp only [aj,aT,bsm,jh]
        cases h2:(p.Pict && s.pict==2) with
        | true=>rfl
        | false=>
          simp only [aj,aT,jh];by_cases h3:pj s.last p.Break=1
          · rw [ae (by simpa using h3),h3]
            rfl
          · rw [af (by simpa using h3),show (pj s.last p.Break==1)=false by simpa using h3,jh]
            by_cases h4:pj s.last p.Break=2
            · rw [ae (by simpa using h4),h4]
              rfl
            · rw [af (by simpa using h4),show (pj s.last p.Break==2)=false by simpa using h4]
              rfl
  have hp:cN (sgB s) p=some (nxP s.pict p):=by
    unfold cN sgB nxP;simp only [aY,bsm];by_cases h1:p.Pict=true
    · rw [ae h1,ae h1]
    · rw [af h1,af h1]
      by_cases h2:s.pict=1∧p.Break=4
      · rw [ae (by simpa using h2),ae h2]
      · rw [af (by simpa using h2),af h2]
        by_cases h3:s.pict=1∧p.Break=5
        · rw [ae (by simpa using h3),ae h3]
        · rw [af (by simpa using h3),af h3]
  have hc:cI (sgB s) p=some (nxC s.conj p):=by
    unfold cI sgB nxC;simp only [aL]
    repeat' split
    all_goals rfl
  unfold de;simp only [aj,aT];rw [hj,hp,hc];simp only [bsm,aY];rfl
theorem wv (d:cJ):dE d=some (sgB sg0):=rfl
theorem ql {α:Type} {l:List α} {k:Nat} (h:k < l.length):(l.take (k+1)).reverse=l[k] :: (l.take k).reverse:=by
  rw [ax h,List.reverse_append];rfl
theorem EG (x:aw) (l:List aw) (n:Nat):cj (x :: l) n=if x.Conj=1 then decide (0 < n) else if x.Conj=2 then cj l (n+1) else if x.Conj=3 then cj l n else false:=rfl
theorem D0 (x:aw) (l:List aw):pk (x :: l)=if x.Pict=true then true else if x.Break=4 then pk l else false:=rfl
theorem DU (x:aw) (l:List aw):ri (x :: l)=if x.Break=6 then ri l+1 else 0:=rfl
theorem zz {P:List aw} (hP:P.length≤1000000) {i:Nat} (hi:i < P.length):eu P i=some (P[i].Conj==1 && cj (P.take i).reverse 0):=by
  unfold eu;rw [bp hi];simp only [bsm];by_cases h1:P[i].Conj=1
  · rw [af (by simpa using h1),show (P[i].Conj==1)=true by simpa using h1,dz]
    have e1:w64 ((i:Int) - 1)=(i:Int) - 1:=aF (by omega);rw [e1];refine wL (fun s=>∃k n:Nat,s=((n:Int),(k:Int) - 1)∧k≤i∧n+k≤i∧cj (P.take k).reverse n=cj (P.take i).reverse 0) (fun s=>(s.2+1).toNat) (fun u=>(match u with | .inl b=>b | .inr _=>false)=cj (P.take i).reverse 0) (fun s hs=>?_) ⟨i,0,rfl,az _,by omega,rfl⟩ (by simp only; omega) (fun u hu=>?_)
    · obtain ⟨k,n,rfl,hk,hn,hI⟩:=hs
      simp only
      cases k with
      | zero=>
        rw [af (by simp)];exact .inr ⟨_,rfl,by rw [←hI]; rfl⟩
      | succ k=>
        have e2:((k+1:Nat):Int) - 1=(k:Int):=by omega
        have hkl:k < P.length:=by omega
        rw [ql hkl] at hI;rw [EG] at hI;rw [e2,ae (by simp),bp hkl];simp only [bsm];by_cases c1:P[k].Conj=1
        · rw [ae (by simpa using c1)]
          rw [ae c1] at hI;exact .inr ⟨_,rfl,by rw [←hI]; simp⟩
        · rw [af (by simpa using c1)]
          rw [af c1] at hI;have e3:w64 ((k:Int) - 1)=(k:Int) - 1:=aF (by omega);have e4:w64 ((n:Int)+1)=((n+1:Nat):Int):=by rw [aF (by omega)]; simp
          simp only [aY,bsm,e3,e4];by_cases c2:P[k].Conj=2
          · rw [ae (by simpa using c2)]
            simp only [bsm];rw [af (by simp [c2])];rw [ae c2] at hI;exact .inl ⟨_,rfl,⟨k,n+1,rfl,by omega,by omega,hI⟩,by simp only; omega⟩
          · rw [af (by simpa using c2)]
            rw [af c2] at hI;simp only [bsm];by_cases c3:P[k].Conj=3
            · rw [af (by simp [c3])]
              rw [ae c3] at hI;exact .inl ⟨_,rfl,⟨k,n,rfl,by omega,by omega,hI⟩,by simp only; omega⟩
            · rw [ae (by simp [c2,c3])]
              rw [af c3] at hI;exact .inr ⟨_,rfl,by rw [←hI]⟩
    · cases u with
      | inl b=>simp only at hu⊢; rw [hu]
      | inr u=>simp only at hu⊢; rw [hu]
  · rw [ae (by simpa using h1),show (P[i].Conj==1)=false by simpa using h1]
    rfl
theorem zy {P:List aw} (hP:P.length≤1000000) {i:Nat} (hi:i < P.length) (h0:1≤i):eP P i=some (P[i].Pict && (!(P[i - 1]'(by omega)).Pict && (P[i - 1]'(by omega)).Break==5 && pk (P.take (i - 1)).reverse)):=by
  have e1:w64 ((i:Int) - 1)=((i - 1:Nat):Int):=by rw [aF (by omega)]; omega
  unfold eP;rw [bp hi,e1,bp (show i - 1 < P.length by omega)];simp only [bsm,bz];by_cases hc:P[i].Pict=true∧2≤i∧(P[i - 1]'(by omega)).Break=5∧(P[i - 1]'(by omega)).Pict=false
  · obtain ⟨c1,c2,c3,c4⟩:=hc
    rw [af (by rw [c1,c3,c4]; simp; omega),c1,c3,c4];simp only [eA,zT,dz];have e2:w64 ((i:Int) - 2)=((i - 1:Nat):Int) - 1:=by rw [aF (by omega)]; omega
    rw [e2];refine wL (fun s=>∃k:Nat,s=(k:Int) - 1∧k≤i - 1∧pk (P.take k).reverse=pk (P.take (i - 1)).reverse) (fun s=>(s+1).toNat) (fun u=>(match u with | .inl b=>b | .inr _=>false)=pk (P.take (i - 1)).reverse) (fun s hs=>?_) ⟨i - 1,rfl,az _,rfl⟩ (by omega) (fun u hu=>?_)
    · obtain ⟨k,rfl,hk,hI⟩:=hs
      cases k with
      | zero=>
        rw [af (by simp)];exact .inr ⟨_,rfl,by rw [←hI]; rfl⟩
      | succ k=>
        have e2:((k+1:Nat):Int) - 1=(k:Int):=by omega
        have hkl:k < P.length:=by omega
        rw [ql hkl] at hI;rw [D0] at hI;rw [e2,ae (by simp),bp hkl];simp only [bsm];by_cases d1:P[k].Pict=true
        · rw [ae d1]
          rw [ae d1] at hI;exact .inr ⟨_,rfl,by rw [←hI]⟩
        · rw [af d1]
          rw [af d1] at hI;by_cases d2:P[k].Break=4
          · rw [af (by simpa using d2),aF (by omega)]
            rw [ae d2] at hI;exact .inl ⟨_,rfl,⟨k,rfl,by omega,hI⟩,by omega⟩
          · rw [ae (by simpa using d2)]
            rw [af d2] at hI;exact .inr ⟨_,rfl,by rw [←hI]⟩
    · cases u with
      | inl b=>simp only at hu⊢; rw [hu]
      | inr u=>simp only at hu⊢; rw [hu]
  · rw [ae ?_]
    · congr 1
      rw [eq_comm,zj];intro hh;simp only [aq,dB,aL] at hh;obtain ⟨g1,⟨g2,g3⟩,g4⟩:=hh;by_cases h2:2≤i
      · exact hc ⟨g1,h2,g3,g2⟩
      · rw [show i - 1=0 by omega] at g4
        simp [pk] at g4
    · simp only [aD,dB,am,mV,wG]
      by_cases g1:P[i].Pict=true
      · by_cases g2:2≤i
        · by_cases g3:(P[i - 1]'(by omega)).Break=5
          · right
            cases g4:(P[i - 1]'(by omega)).Pict with
            | true=>rfl
            | false=>exact absurd ⟨g1,g2,g3,g4⟩ hc
          · exact .inl (.inr g3)
        · exact .inl (.inl (.inr (by omega)))
      · exact .inl (.inl (.inl (by simpa using g1)))
theorem CA {P:List aw} (hP:P.length≤1000000) {i:Nat} (hi:i < P.length):(cM (σ:=Int×Int) (τ:=Int) (((w64 ((i:Int) - 1)) - 0).toNat+2) (fun s_62=>
 (bV (decide (s_62.2≥0)) ((idx P s_62.2).bind fun x_69=>
 some (x_69.Break==6))).bind fun d_65=>
 if d_65=true then
 some (.inl ((w64 (s_62.1+1)),(w64 (s_62.2 - 1))))
 else
 some (.inr (s_62.1))) (0,(w64 ((i:Int) - 1))))=some (ri (P.take i).reverse:Int):=by
  have e1:w64 ((i:Int) - 1)=(i:Int) - 1:=aF (by omega);rw [e1];obtain ⟨t,h1,h2⟩:=kS (σ:=Int×Int) (τ:=Int) (step:=fun s_62=>
 (bV (decide (s_62.2≥0)) ((idx P s_62.2).bind fun x_69=>
 some (x_69.Break==6))).bind fun d_65=>
 if d_65=true then
 some (.inl ((w64 (s_62.1+1)),(w64 (s_62.2 - 1))))
 else
 some (.inr (s_62.1))) (fun s=>∃k n:Nat,s=((n:Int),(k:Int) - 1)∧k≤i∧n+k≤i∧n+ri (P.take k).reverse=ri (P.take i).reverse) (fun s=>(s.2+1).toNat) (fun t=>t=(ri (P.take i).reverse:Int)) (fun s hs=>by
      obtain ⟨k,n,rfl,hk,hn,hI⟩:=hs;simp only
      cases k with
      | zero=>
        rw [show decide (((0:Nat):Int) - 1≥0)=false by simp,ik];exact .inr ⟨_,rfl,by rw [←hI]; simp [ri]⟩
      | succ k=>
        have e2:((k+1:Nat):Int) - 1=(k:Int):=by omega
        have hkl:k < P.length:=by omega
        rw [ql hkl] at hI;rw [DU] at hI;rw [e2,show decide ((k:Int)≥0)=true by simp,iR,bp hkl];simp only [bsm];by_cases c1:P[k].Break=6
        · rw [ae (by simpa using c1),aF (by omega),aF (by omega)]
          rw [ae c1] at hI;exact .inl ⟨_,rfl,⟨k,n+1,by simp,by omega,by omega,by omega⟩,by simp only; omega⟩
        · rw [af (by simpa using c1)]
          rw [af c1] at hI;exact .inr ⟨_,rfl,by rw [←hI]; simp⟩) ((((i:Int) - 1) - 0).toNat+2) (0,(i:Int) - 1) ⟨i,0,rfl,az _,by omega,by omega⟩ (by simp only; omega)
  rw [h1,h2]
theorem yh {P:List aw} (hP:P.length≤1000000) {i:Nat} (hi:i < P.length):eo P i=some (rj pj (P.take i).reverse P[i]):=by
  unfold eo;simp only [bz,bsm];by_cases h0:i=0
  · subst h0
    rw [ae (by simp)];rfl
  · obtain ⟨j,rfl⟩:∃j,i=j+1:=⟨i - 1,by omega⟩
    rw [af (by simp; omega)];have e1:w64 (((j+1:Nat):Int) - 1)=(j:Int):=by rw [aF (by omega)]; omega
    have hj:j < P.length:=by omega
    have hp:=zy hP hi (by omega);simp only [xK] at hp;have hr:=CA hP hi;rw [e1] at hr⊢;rw [bp hj,bp hi];simp only [bsm,Fv,zz hP hi,hp];simp only [bz,bsm];rw [ql hj];unfold rj;simp only;rw [ql hj] at hr;generalize hA:(pj P[j].Break P[j+1].Break==1 || (P[j+1].Conj==1 && cj (P[j] :: (P.take j).reverse) 0) || (P[j+1].Pict && (!P[j].Pict && P[j].Break==5 && pk (P.take j).reverse)))=A
    cases A with
    | true=>simp
    | false=>
      simp only [aj,aT,jh];by_cases hc:pj P[j].Break P[j+1].Break=2∧P[j+1].Break=6
      · have b1:(pj P[j].Break P[j+1].Break==2)=true:=by rw [aL]; exact hc.1
        have b2:(P[j+1].Break==6)=true:=by rw [aL]; exact hc.2
        have b3:(pj P[j].Break P[j+1].Break != 2)=false:=by rw [bne,b1]; rfl
        have b4:(P[j+1].Break != 6)=false:=by rw [bne,b2]; rfl
        rw [af (by rw [b3,b4]; simp),hr];simp only [bsm,b1,b2,dz,aQ];rw [ck,aL,aL,DC (by omega)];omega
      · rw [ae (by simp only [aD,mV,wG]; omega)]
        congr 1
        rw [eq_comm,zj];simp only [wG,aq,aL];exact fun h=>hc ⟨h.1.1,h.1.2⟩
def R32 (l:List Int):Prop:=∀x∈l,r32 x
theorem uZ (l:List Int) (h:R32 l) (hl:l.length≤1000000):(cM (σ:=(List aw)×Int) (τ:=(List aw)) (((l.length:Int) - 0).toNat+1) (fun s_7=>
 if (decide (s_7.2 < (l.length:Int)))=true then
 (idx l s_7.2).bind fun x_16=>
 (dM x_16).bind fun x_18=>
 (app s_7.1 ([x_18]:List aw)).bind fun x_20=>
 some (.inl (x_20,(w64 (s_7.2+1))))
 else
 some (.inr (s_7.1))) (([]:List aw),0))=some (l.map pr):=by
  obtain ⟨t,h1,h2⟩:=eK (σ:=(List aw)×Int) (τ:=(List aw)) (n:=l.length) (fuel:=((l.length:Int) - 0).toNat+1) (s:=(([]:List aw),0))
    (fun i s=>s=((l.take i).map pr,(i:Int))) (fun t=>t=l.map pr) (step:=fun s_7=>
 if (decide (s_7.2 < (l.length:Int)))=true then
 (idx l s_7.2).bind fun x_16=>
 (dM x_16).bind fun x_18=>
 (app s_7.1 ([x_18]:List aw)).bind fun x_20=>
 some (.inl (x_20,(w64 (s_7.2+1))))
 else
 some (.inr (s_7.1)))
    (fun i s hi e=>by
      subst e;simp only;rw [ae (dlt hi),bp hi,eJ hi (by omega)];simp only [bsm];rw [GM _ (h _ (aH hi))];simp only [bsm];rw [cR (by simp; omega)];refine .inl ⟨_,rfl,?_⟩;rw [ax hi,bO];rfl)
    (fun s e=>by subst e; exact ⟨_,by simp only; rw [af (by simp)],by rw [aC (az _)]⟩)
    rfl (by omega)
  rw [h1,h2]
theorem CD (l:List Int) (h:R32 l) (hl:l.length≤1000000):fB l=some (l.map pr):=by
  unfold fB;rw [uZ l h hl];rfl
theorem CS {l:List Int} (hl:l.length≤1000000) {i:Nat} (hi:i < l.length):eo (l.map pr) i=some (jn pj pr (l.take i) l[i]):=by
  rw [yh (by simpa using hl) (by simpa using hi)];unfold jn;rw [Fk pj Fu,dU,List.map_take]
theorem AW (l:List Int) (h:R32 l) (hl:l.length≤1000000):fg l=some ((sts pj pr l).map fun n:Nat=>(n:Int)):=by
  unfold fg;rw [CD l h hl];simp only [bsm,dh];have hsl:∀l:List Int,(sts pj pr l).length≤l.length:=fun l=>by
    unfold sts;exact dj (uD _ _) (by simp)
  refine ly (n:=l.length) (fun i s=>s=((sts pj pr (l.take i)).map fun n:Nat=>(n:Int),(i:Int))) (fun u=>u=(sts pj pr l).map fun n:Nat=>(n:Int)) (fun i s hi e=>?_) (fun s e=>?_) rfl (by omega) (fun u hu=>by rw [hu])
  · subst e
    simp only;rw [ae (dlt hi),CS hl hi,eJ hi (by omega)];simp only [bsm];rw [ax hi,uP];have hle:=hsl (l.take i);rw [ay] at hle
    cases jn pj pr (l.take i) l[i] with
    | true=>
      simp only [dA,aj,aT,bsm,bv,eB];exact .inl ⟨_,rfl,rfl⟩
    | false=>
      simp only [eA,bv,aj,aT];rw [cR (by simp; omega)];refine .inl ⟨_,rfl,?_⟩;rw [bO,ay,cz (uc hi)];rfl
  · subst e
    exact ⟨_,by simp only; rw [af (by simp)],by rw [aC (az _)]⟩
theorem DI (l:List Int):(sts pj pr l++ [l.length]).Pairwise (· < ·):=by
  rw [List.pairwise_append];refine ⟨?_,by simp,fun a ha b hb=>?_⟩
  · unfold sts
    exact List.Pairwise.filter _ List.pairwise_lt_range
  · rw [List.mem_singleton.1 hb]
    exact zo ha
theorem yN (l:List Int) (h:R32 l) (hl:l.length≤1000000):er l=some (cls pj pr l):=by
  have hsl:(sts pj pr l).length≤l.length:=by
    unfold sts;exact dj (uD _ _) (by simp)
  unfold er;rw [AW l h hl];simp only [bsm];rw [cR (by simp; omega)];simp only [bsm];have e0:((sts pj pr l).map fun n:Nat=>(n:Int))++ [(l.length:Int)]=(sts pj pr l++ [l.length]).map fun n:Nat=>(n:Int):=by rw [bO]; rfl
  rw [e0,←D3 (pj:=pj) (pr:=pr) l];have hinc:=DI l;have hAl:(sts pj pr l++ [l.length]).length=(sts pj pr l).length+1:=by simp
  have hle:∀a∈sts pj pr l++ [l.length],a≤l.length:=fun a ha=>by
    rcases List.mem_append.1 ha with ha | ha
    · exact uc (zo ha)
    · rw [List.mem_singleton.1 ha]; exact az _
  generalize sts pj pr l++ [l.length]=A at *;simp only [dh];have e1:w64 (0+1)=1:=rfl;rw [e1];refine ly (n:=A.length - 1) (fun i s=>s=((List.range i).map (fun i=>slx l (A.getD i 0) (A.getD (i+1) 0)),(i:Int))) (fun u=>u=pcs l A) (fun i s hi e=>?_) (fun s e=>?_) rfl (by omega) (fun u hu=>by rw [hu])
  · subst e
    have hi1:i+1 < A.length:=by omega
    simp only;rw [eJ (show i < A.length by omega) (by omega),ae (by simp; omega)];rw [bp (show i < (A.map fun n:Nat=>(n:Int)).length by simp; omega),bp (show i+1 < (A.map fun n:Nat=>(n:Int)).length by simp; omega)];simp only [bsm,dU];have hlt:=List.pairwise_iff_getElem.1 hinc i (i+1) (by omega) hi1 (by omega);have hb:=hle _ (aH hi1);rw [nP (by omega) hb];simp only [bsm];rw [cR (by simp; omega),ba];simp only [bsm];rw [cR (by simp; omega)];refine .inl ⟨_,rfl,?_⟩;rw [pv,bO];simp only [ss,Gj,gU,vP]
    congr 2
    unfold slx;have g:∀j (h:j < A.length),A.getD j 0=A[j]:=fun j h=>by rw [av,ah h]; rfl
    rw [g i (by omega),g (i+1) hi1]
  · subst e
    refine ⟨_,?_,rfl⟩;simp only;rw [aF (by omega),af (by simp; omega)];rfl
def GD (n:Nat):Bool:= !sil n || (((pr n).Break==1 || (pr n).Break==2 || (pr n).Break==3) && !(pr n).Pict && (pr n).Conj==0)
theorem DO:(List.range 160).all GD=true:=by kernel_rfl
theorem FR:gT.all (fun x=> !(x.2.2==1 || x.2.2==2) || (decide (0≤x.1) && decide (x.2.1≤31)))=true:=by kernel_rfl
theorem Fh {r:Int} (h:sil r=true):0≤r∧r < 160:=by
  unfold sil at h;simp only [aD,aq,am] at h;omega
theorem Ca:Sil pj pr sil:=by
  refine ⟨fun r hr=>?_,fun a b ha hne=>?_,fun a b hb hne=>?_,fun r hr=>?_⟩
  · obtain ⟨h1,h2⟩:=Fh hr
    have:=List.all_eq_true.1 DO r.toNat (List.mem_range.2 (by omega));unfold GD at this;rw [pD h1,hr] at this;simp only [dA,jh,aq,aD,aL,dB] at this;obtain ⟨⟨q1,q2⟩,q3⟩:=this;exact ⟨by rcases q1 with (q | q) | q <;> simp [q],q2,q3⟩
  · obtain ⟨x,_,_,h3,_,h5⟩:=ve a b
    exact h5 (by omega) (by omega)
  · obtain ⟨x,_,_,h3,_,h5⟩:=ve a b
    exact h5 (by omega) (by omega)
  · have e:(pr r).Break=(lk gT r).getD (hcl r):=rfl
    rw [e] at hr;have hh:hcl r=9∨hcl r=10∨hcl r=11∨hcl r=0∨hcl r=12∨hcl r=13:=by
      unfold hcl
      repeat' split
      all_goals simp
    cases hx:fnd (fun x:Int×Int×Int=>x.1) (fun x=>x.2.1) gT r with
    | none=>
      unfold lk at hr;rw [hx] at hr;simp only [Il,Option.getD_none] at hr;omega
    | some x=>
      unfold lk at hr;rw [hx] at hr;simp only [fp,Option.getD_some] at hr;obtain ⟨m1,m2⟩:=xq hx;have:=List.all_eq_true.1 FR x m1;rw [sP] at m2;simp only [aD,dB,vT,eR,aq,am] at this;unfold sil;simp only [aD,aq,am];omega
def fo {α β:Type} (f:β→α→Option β):β→List α→Option β
  | b,[]=>some b
  | b,a :: l=>(f b a).bind fun b'=>fo f b' l
theorem C1 {α β:Type} (f:β→α→Option β) (b:β) (l m:List α):fo f b (l++m)=(fo f b l).bind fun b'=>fo f b' m:=by
  induction l generalizing b with
  | nil=>rfl
  | cons a l ih=>
    show (f b a).bind (fun b'=>fo f b' (l++m))=((f b a).bind fun b'=>fo f b' l).bind fun b'=>fo f b' m;rw [zh]
    congr 1
    funext b'
    exact ih b'
theorem oW {α β:Type} (f:β→α→Option β) (b:β) (l:List α) (a:α):fo f b (l++ [a])=(fo f b l).bind fun b'=>f b' a:=by
  rw [C1]
  congr 1
  funext b'
  show (f b' a).bind (fun b'=>some b')=f b' a
  cases f b' a <;> rfl
theorem Ep {α β:Type} {f:β→α→Option β} {b:β} {l:List α} {r:β} (h:fo f b l=some r) (i:Nat):∃q,fo f b (l.take i)=some q:=by
  rw [←gM i l,C1] at h
  cases hq:fo f b (l.take i) with
  | none=>rw [hq] at h; cases h
  | some q=>exact ⟨q,rfl⟩
theorem AA {α β:Type} {f:β→α→Option β} {b:β} {l:List α} {r q:β} (h:fo f b l=some r) {i:Nat} (hi:i < l.length) (hq:fo f b (l.take i)=some q):∃q',f q l[i]=some q'∧fo f b (l.take (i+1))=some q':=by
  obtain ⟨q',e⟩:=Ep h (i+1);refine ⟨q',?_,e⟩;rw [ax hi,oW,hq] at e;exact e
def zL (q:aa) (r:Int):Option aa:=(cB q r).map (·.1)
def w16 (c:List Int):Int:=wz (gf (c.take 16) ((c.take 16).map pr))
def rS (q:aa) (c:List Int):Option aa:=
  if sil (c.headD 0)=true then fo zL q c else (aU q (w16 c) (c.take 16)).map (·.1)
theorem sR {q:aa} {a:Int} {t:List Int} (h:sil a=true):rS q (a :: t)=fo zL q (a :: t):=by
  unfold rS;rw [ae (show sil ((a :: t).headD 0)=true from h)]
theorem vj {q:aa} {a:Int} {t:List Int} (h:sil a=false):rS q (a :: t)=(aU q (w16 (a :: t)) ((a :: t).take 16)).map (·.1):=by
  unfold rS;rw [af (show ¬sil ((a :: t).headD 0)=true by rw [Iq,h]; simp)]
theorem yG (c:List Int) (hl:c.length≤1000000):em c=some (c.take 16):=by
  unfold em;have hmin:aB (c.length:Int) 16=((min c.length 16:Nat):Int):=by rw [dx]; omega
  have:=nP (xs:=c) (i:=0) (j:=min c.length 16) (cw _) (by omega);rw [show ((0:Nat):Int)=0 from rfl] at this;rw [hmin,this];simp only [bsm,jx,nz];rw [cR (by simp; omega),ba];simp only [bsm];rw [show c.take (min c.length 16)=c.take 16 by rw [List.take_eq_take_iff]; omega]
theorem DF (c:List Int) (h:R32 c) (hl:c.length≤1000000) (hne:c≠ []):gg c=some (if sil (c.headD 0)=true then 0 else w16 c):=by
  cases c with
  | nil=>exact absurd rfl hne
  | cons a t=>
    unfold gg;rw [show idx (a :: t) 0=some a from rfl];simp only [bsm,mt];by_cases hs:sil a=true
    · rw [ae hs,ae (show sil ((a :: t).headD 0)=true from hs)]
    · rw [af hs,af (show ¬sil ((a :: t).headD 0)=true from hs),yG _ hl]
      simp only [bsm];have ht:((a :: t).take 16).length≤16:=by rw [ay]; omega
      have hr:R32 ((a :: t).take 16):=fun x hx=>h x (dk hx);unfold jD;rw [uZ _ hr (by omega)];simp only [bsm];rw [GH _ _ (by simp) (by omega)];rfl
theorem FJ {p q:aa} {l:List Int} (h:R32 l) (hl:l.length≤1000000) (hq:fo rS p (cls pj pr l)=some q):gy p l=some q:=by
  obtain ⟨hf,hne,_⟩:=qx (pj:=pj) (pr:=pr) l;have hmem:∀c∈(cls pj pr l),∀x∈c,x∈l:=fun c hc x hx=>by rw [←hf]; exact List.mem_flatten.2 ⟨c,hc,hx⟩
  have hcl:∀c∈(cls pj pr l),c.length≤l.length:=fun c hc=>by
    obtain ⟨i,hi,rfl⟩:=List.mem_iff_getElem.1 hc;have e:(cls pj pr l).flatten=((cls pj pr l).take i).flatten++((cls pj pr l)[i]++((cls pj pr l).drop (i+1)).flatten):=by
      rw [←lF,←wk,←gw hi,gM]
    have:=gL List.length e;rw [hf] at this;simp only [aA] at this;omega
  have hcn:(cls pj pr l).length≤l.length:=by
    have key:∀cs:List (List Int),(∀c∈cs,c≠ [])→cs.length≤cs.flatten.length:=by
      intro cs
      induction cs with
      | nil=>intro _; simp
      | cons c cs ih=>
        intro h;have h1:=ih fun d hd=>h d (vS _ hd);have h2:1≤c.length:=by
          cases c with
          | nil=>exact absurd rfl (h [] (by simp))
          | cons _ _=>simp
        simp only [lF,aJ,aA];omega
    have:=key (cls pj pr l) hne;rw [hf] at this;exact this
  unfold gy;rw [yN l h hl];simp only [bsm];generalize (cls pj pr l)=cs at *;refine ly (n:=cs.length) (fun i st=>∃qi,fo rS p (cs.take i)=some qi∧st=((i:Int),qi.L,qi.At.Row,qi.At.Col,qi.At.Pending,qi.Auto)) (fun u=>u=(q.L,q.At.Row,q.At.Col,q.At.Pending,q.Auto)) (fun i st hi hI=>?_) (fun st hI=>?_) ⟨p,rfl,rfl⟩ (by omega) (fun u hu=>by rw [hu])
  · obtain ⟨qi,hqi,rfl⟩:=hI
    obtain ⟨q',h1,h2⟩:=AA hq hi hqi;have hci:=aH hi;have hcne:=hne _ hci;have hcL:=hcl _ hci;simp only;rw [ae (dlt hi),bp hi,eJ hi (by omega)];simp only [bsm];refine .inl ⟨((i+1:Nat),q'.L,q'.At.Row,q'.At.Col,q'.At.Pending,q'.Auto),?_,q',h2,rfl⟩;generalize cs[i]=c at *
    cases c with
    | nil=>exact absurd rfl hcne
    | cons a t=>
      rw [show idx (a :: t) 0=some a from rfl];simp only [bsm,mt];have hR:R32 (a :: t):=fun x hx=>h x (hmem _ hci x hx)
      cases hs:sil a with
      | false=>
        rw [vj hs] at h1;simp only [eA,bv];rw [DF _ hR (by omega) (by simp),yG _ (by omega)];simp only [bsm];rw [af (show ¬sil ((a :: t).headD 0)=true by rw [Iq,hs]; simp)];rw [kP] at h1;obtain ⟨z,hz,rfl⟩:=h1;rw [show (⟨qi.L,⟨qi.At.Row,qi.At.Col,qi.At.Pending⟩,qi.Auto⟩:aa)=qi from rfl,hz];rfl
      | true=>
        rw [sR hs] at h1;simp only [dA,aj,aT];generalize hcc:a :: t=c at *;obtain ⟨u,e1,e2⟩:=eK (σ:=Int×(List ak)×Int×Int×Bool×Bool) (τ:=((List ak)×Int×Int×Bool×Bool)) (n:=c.length) (fuel:=((c.length:Int) - 0).toNat+1) (s:=(0,qi.L,qi.At.Row,qi.At.Col,qi.At.Pending,qi.Auto))
          (fun k st=>∃qk,fo zL qi (c.take k)=some qk∧st=((k:Int),qk.L,qk.At.Row,qk.At.Col,qk.At.Pending,qk.Auto)) (fun u=>u=(q'.L,q'.At.Row,q'.At.Col,q'.At.Pending,q'.Auto))
          (step:=fun s_45=>
 (some c).bind fun x_49=>
 if (decide (s_45.1 < (x_49.length:Int)))=true then
 (some c).bind fun x_57=>
 (idx x_57 s_45.1).bind fun x_60=>
 (cB (⟨s_45.2.1,(⟨s_45.2.2.1,s_45.2.2.2.1,s_45.2.2.2.2.1⟩:ai),s_45.2.2.2.2.2⟩:aa) x_60).bind fun x_62=>
 some (.inl ((w64 (s_45.1+1)),x_62.1.L,x_62.1.At.Row,x_62.1.At.Col,x_62.1.At.Pending,x_62.1.Auto))
 else
 some (.inr (s_45.2.1,s_45.2.2.1,s_45.2.2.2.1,s_45.2.2.2.2.1,s_45.2.2.2.2.2)))
          (fun k st hk hI=>by
            obtain ⟨qk,g1,rfl⟩:=hI;obtain ⟨qn,g2,g3⟩:=AA h1 hk g1;unfold zL at g2;rw [kP] at g2;obtain ⟨z,hz,rfl⟩:=g2;simp only [bsm];rw [ae (dlt hk),bp hk,eJ hk (by omega)];simp only [bsm];rw [show (⟨qk.L,⟨qk.At.Row,qk.At.Col,qk.At.Pending⟩,qk.Auto⟩:aa)=qk from rfl,hz];exact .inl ⟨_,rfl,_,g3,rfl⟩)
          (fun st hI=>by
            obtain ⟨qk,g1,rfl⟩:=hI;rw [aC (az _),h1] at g1;cases g1;simp only [bsm];exact ⟨_,by rw [af (by simp)],rfl⟩)
          ⟨qi,rfl,rfl⟩ (by omega)
        subst e2;simp only [bsm] at e1⊢;rw [e1];rfl
  · obtain ⟨qi,hqi,rfl⟩:=hI
    rw [aC (az _),hq] at hqi;cases hqi;exact ⟨_,by simp only; rw [af (by simp)],rfl⟩
end Go.Proofs.YtclmdpamofdoiaaGreatDoor
namespace Go.Proofs.YtclmdpamofdoiaaGreatDoor
def ld (b:Int):Int:=if b < 128 then 1 else if 194≤b∧b≤223 then 2 else if 224≤b∧b≤239 then 3 else if 240≤b∧b≤244 then 4 else 0
def slo (b:Int):Int:=if b=224 then 160 else if b=240 then 144 else 128
def shi (b:Int):Int:=if b=237 then 159 else if b=244 then 143 else 191
theorem sQ (b:Int):0≤ld b∧ld b≤4:=by
 unfold ld
 repeat' split
 all_goals omega
def bg:List Int→Int
 | [a]=>ld a
 | [a,b]=>if 2≤ld a∧slo a≤b∧b≤shi a then ld a else 0
 | [a,b,c]=>if 3≤ld a∧slo a≤b∧b≤shi a∧128≤c∧c≤191 then ld a else 0
 | [a,b,c,d]=>if ld a=4∧slo a≤b∧b≤shi a∧128≤c∧c≤191∧128≤d∧d≤191 then 4 else 0
 | _=>0
def b0 (a:Int):Int:=if ld a=2 then a - 192 else if ld a=3 then a - 224 else if ld a=4 then a - 240 else a
def vl:List Int→Int
 | []=>0
 | a :: l=>l.foldl (fun v x=>v * 64+(x - 128)) (b0 a)
def rs0 (b:Int):List Int×List Int:=if 1 < ld b then ([],[b]) else if ld b=1 then ([b],[]) else ([65533],[])
def jg (h:List Int) (b:Int):List Int×List Int:=
 if h= [] then rs0 b else if (h.length:Int)+1 < bg (h++ [b]) then ([],h++ [b]) else if 0 < bg (h++ [b]) then ([vl (h++ [b])],[]) else (65533 :: (rs0 b).1,(rs0 b).2)
def bu:List Int→List Int→List Int×List Int
 | h,[]=>([],h)
 | h,b :: p=>((jg h b).1++(bu (jg h b).2 p).1,(bu (jg h b).2 p).2)
theorem og (h a b:List Int):bu h (a++b)=((bu h a).1++(bu (bu h a).2 b).1,(bu (bu h a).2 b).2):=by
 induction a generalizing h with
 | nil=>simp [bu]
 | cons x a ih=>simp [bu,ih]
theorem oT (h a:List Int) (x:Int):bu h (a++ [x])=((bu h a).1++(jg (bu h a).2 x).1,(jg (bu h a).2 x).2):=by
 rw [og];simp [bu]
def Hh (h:List Int):Prop:=h= []∨(h.length:Int) < bg h
theorem Hh.step {h:List Int} (hh:Hh h) (b:Int):Hh (jg h b).2:=by
 unfold jg;have h0:Hh (rs0 b).2:=by
  unfold rs0;split
  ·rename_i q; exact .inr q
  ·split <;> exact .inl rfl
 split
 ·exact h0
 ·split
  ·rename_i q; exact .inr (by simp only [aA,aJ,aP]; omega)
  ·split
   ·exact .inl rfl
   ·exact h0
theorem Hh.feed {h:List Int} (hh:Hh h) (p:List Int):Hh (bu h p).2:=by
 induction p generalizing h with
 | nil=>exact hh
 | cons b p ih=>exact ih (hh.step b)
theorem Hh.len {h:List Int} (hh:Hh h):h.length≤3:=by
 rcases hh with rfl | hh
 ·simp
 ·match h,hh with
  | [],_=>simp
  | [_],_=>simp
  | [_,_],_=>simp
  | [_,_,_],_=>simp
  | [a,b,c,d],q=>simp only [bg,aJ,aP] at q; split at q <;> omega
  | _ :: _ :: _ :: _ :: _ :: _,q=>simp only [bg,aJ] at q; omega
theorem EI {l:List Int} (h:5≤l.length):bg l=0:=by
 match l,h with
 | [],h=>simp at h
 | [_],h=>simp at h
 | [_,_],h=>simp at h
 | [_,_,_],h=>simp at h
 | [_,_,_,_],h=>simp at h
 | _ :: _ :: _ :: _ :: _ :: _,_=>rfl
theorem F9 {h:List Int} {b:Int} (hne:h≠ []) (hb:0 < bg (h++ [b])):bg h=bg (h++ [b]):=by
 match h,hne,hb with
 | [a],_,q=>simp only [co,ba,bg] at q⊢; split at q <;> rename_i g; rw [ae g]; omega
 | [a,c],_,q=>
  simp only [co,ba,bg] at q⊢;split at q
  ·rename_i g; rw [ae g,ae ⟨by omega,g.2.1,g.2.2.1⟩]
  ·omega
 | [a,c,d],_,q=>
  simp only [co,ba,bg] at q⊢;split at q
  ·rename_i g; rw [ae g,ae ⟨by omega,g.2.1,g.2.2.1,g.2.2.2.1,g.2.2.2.2.1⟩]; exact g.1
  ·omega
 | a :: c :: d :: e :: t,_,q=>rw [EI (by simp)] at q; omega
theorem tQ {c:List Int} (hc:c≠ []) (h:∀k,0 < k→k≤c.length→(k:Int) < bg (c.take k)):bu [] c=([],c):=by
 have key:∀n,n≤c.length→bu [] (c.take n)=([],c.take n):=by
  intro n
  induction n with
  | zero=>intro _; rfl
  | succ n ih=>
   intro hn;have h1:=h (n+1) (by omega) hn;rw [ax (by omega)] at h1⊢;rw [oT,ih (by omega)];have h2:jg (c.take n) c[n]=([],c.take n++ [c[n]]):=by
    unfold jg;by_cases hz:c.take n= []
    ·rw [ae hz,hz];rw [hz] at h1;simp only [ba,bg] at h1;have hn0:n=0:=by
      have:=gL List.length hz;rw [ay,aP] at this;omega
     subst hn0;unfold rs0;rw [ae (by simpa using h1)];rfl
    ·have hl:(c.take n).length=n:=by rw [ay]; omega
     rw [af hz,ae (by rw [hl]; omega)]
   rw [h2];rfl
 have:=key c.length (az _)
 rwa [aC (az _)] at this
structure GK (c:List Int) (k:Nat):Prop where
 le:k≤c.length
 lt:∀m,0 < m→m < k→(m:Int) < bg (c.take m)
 z:k=0→bg (c.take 1)=0
 p:0 < k→0 < bg (c.take k)
 e:0 < k→(k:Int) < bg (c.take k)→k=c.length∨bg (c.take (k+1))=0
theorem tE (b:Int):jg [] b=rs0 b:=by
 unfold jg;rw [ae rfl]
theorem uW (b:Int) (p:List Int):bu [] (b :: p)=((rs0 b).1++(bu (rs0 b).2 p).1,(bu (rs0 b).2 p).2):=by
 rw [bu,tE]
theorem vg {c:List Int} {k:Nat} (h:GK c k) (hk:0 < k) (hw:bg (c.take k)=k):bu [] c=(vl (c.take k) :: (bu [] (c.drop k)).1,(bu [] (c.drop k)).2):=by
 have hle:=h.le
 conv=>lhs; rw [←gM k c]
 rw [og]
 suffices e:bu [] (c.take k)=([vl (c.take k)],[]) by
  rw [e];rfl
 obtain ⟨m,rfl⟩:∃m,k=m+1:=⟨k - 1,by omega⟩;have ht:c.take (m+1)=c.take m++ [c[m]]:=ax (by omega);rw [ht] at hw⊢;rw [oT];have hl:(c.take m).length=m:=by rw [ay]; omega
 by_cases hm:m=0
 ·subst hm;simp only [ez,ba] at hw⊢;simp only [bu,tE];unfold rs0;simp only [bg] at hw;rw [af (by omega),ae (by omega)];simp only [vl,List.foldl,b0];rw [af (by omega),af (by omega),af (by omega)];rfl
 ·have hne:c.take m≠ []:=fun e=>by rw [e] at hl; simp at hl; omega
  rw [tQ hne (fun n h0 hn=>by
   rw [fh,show min n m=n by rw [hl] at hn; omega];exact h.lt n h0 (by omega))]
  simp only;have h2:jg (c.take m) c[m]=([vl (c.take m++ [c[m]])],[]):=by
   unfold jg;rw [af hne,af (by rw [hl,hw]; simp),ae (by rw [hw]; omega)]
  rw [h2];rfl
theorem Bn {c:List Int} (hc:c≠ []) (h:bg (c.take 1)=0):bu [] c=(65533 :: (bu [] (c.drop 1)).1,(bu [] (c.drop 1)).2):=by
 cases c with
 | nil=>exact absurd rfl hc
 | cons a c=>
  simp only [mB,ez,bg] at h;rw [uW];unfold rs0;rw [af (by omega),af (by omega)];rfl
theorem yk {c:List Int} (h:GK c c.length) (hk:0 < c.length) (hw:(c.length:Int) < bg c):bu [] c=([],c):=by
 refine tQ (fun e=>by rw [e] at hk; simp at hk) fun k h0 hn=>?_;by_cases hkk:k=c.length
 ·subst hkk;rw [aC (az _)];exact hw
 ·exact h.lt k h0 (by omega)
theorem Bm {c:List Int} {k:Nat} (h:GK c k) (hk:0 < k) (hw:(k:Int) < bg (c.take k)) (hlt:k < c.length):bu [] c=(65533 :: (bu [] (c.drop k)).1,(bu [] (c.drop k)).2):=by
 have hl:(c.take k).length=k:=by rw [ay]; omega
 have hne:c.take k≠ []:=fun e=>by rw [e] at hl; simp at hl; omega
 have hz:bg (c.take (k+1))=0:=by
  rcases h.e hk hw with q | q
  ·omega
  ·exact q
 conv=>lhs; rw [←gM k c]
 rw [og,tQ hne (fun n h0 hn=>by
  rw [fh,show min n k=n by rw [hl] at hn; omega];by_cases hkk:n=k
  ·subst hkk; exact hw
  ·exact h.lt n h0 (by rw [hl] at hn; omega))]
 rw [gw hlt];simp only [ba];rw [ax hlt] at hz;have h2:jg (c.take k) c[k]=(65533 :: (rs0 c[k]).1,(rs0 c[k]).2):=by
  unfold jg;rw [af hne,af (by rw [hz]; omega),af (by rw [hz]; omega)]
 rw [uW,bu,h2];rfl
end Go.Proofs.YtclmdpamofdoiaaGreatDoor
