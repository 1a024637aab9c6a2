/- Parts of the proofs of ScreenPlays: the walk through the code, and plain Lean. No condition. -/
import Derived.Test.YthokmpbbkpjhbaaGreatDoorSpE
import Derived.Test.YthokmpbbkpjhbaaGreatDoorSpA
import Derived.Test.YthokmpbbkpjhbaaGreatDoorSpB
import Derived.Test.YthokmpbbkpjhbaaGreatDoorSpD
import Derived.KernelRfl
set_option linter.unusedVariables false
set_option linter.unusedSimpArgs false
namespace Go.Proofs.YthokmpbbkpjhbaaGreatDoor
open Go Go.Lt
variable {s C:Sto} {f k g W H:Nat} {q P:aa} {ks:List Nat}
def Sto.sf (s:Sto) (f:Nat) (x:bB):Sto:={ s with feed_Feeder:=s.feed_Feeder.set f x}
theorem qa {x:bB} (h:f < s.feed_Feeder.length):s.set_feed_Feeder f x=some (s.sf f x):=by
 unfold Sto.set_feed_Feeder;rw [ae h];rfl
theorem tg {x:bB} (h:f < s.feed_Feeder.length):(s.sf f x).feed_Feeder[f]? = some x:=by simp [Sto.sf,h]
theorem EA (s:Sto) (f:Nat) (x y:bB):(s.sf f x).sf f y=s.sf f y:=by simp [Sto.sf]
theorem wQ (s:Sto) (f:Nat) (x:bB):(s.sf f x).feed_Feeder.length=s.feed_Feeder.length:=by simp [Sto.sf]
theorem Pv.sf (h:Pv s s k g W q ks) (x:bB):Pv (s.sf f x) (s.sf f x) k g W q ks:=
 ⟨h.p,⟨h.g.g,h.g.r,h.g.h1,h.g.h2,h.g.w1,h.g.w2⟩,h.nd,h.l,rfl,h.f.rgp ⟨rfl,rfl,rfl⟩ ⟨rfl,rfl,rfl⟩⟩
theorem Wc.sf {j:Nat} {c:ai} {y:bw} {t:List Int} {n:Int} (h:Wc s j c y t n) (x:bB):Wc (s.sf f x) j c y t n:=⟨h.x⟩
def Fa (C:Sto) (f j:Nat):Prop:=∃x,C.feed_Feeder[f]? = some x∧x.open_=some j
structure Fz (C s:Sto) (f:Nat) (op:Option Nat):Prop where
 fl:C.feed_Feeder.length≤s.feed_Feeder.length
 ff:∀j,j < C.feed_Feeder.length→j≠f→s.feed_Feeder[j]? = C.feed_Feeder[j]?
 wl:C.widen_Cluster.length≤s.widen_Cluster.length
 wc:∀j,j < C.widen_Cluster.length→¬Fa C f j→s.widen_Cluster[j]? = C.widen_Cluster[j]?
 oc:∀j,op=some j→Fa C f j∨C.widen_Cluster.length≤j
 sc:s.screen_Screen=C.screen_Screen
theorem oQ {a b:Sto} (h:a.oth=b.oth):a.feed_Feeder=b.feed_Feeder:=by
 have:=gI Sto.feed_Feeder h;exact this
theorem xa {a b:Sto} (h:a.oth=b.oth):a.screen_Screen=b.screen_Screen:=by
 have:=gI Sto.screen_Screen h;exact this
theorem Fz.oth {s':Sto} {op:Option Nat} (h:Fz C s f op) (e:s'.oth=s.oth):Fz C s' f op:=by
 refine ⟨by rw [oQ e]; exact h.fl,by rw [oQ e]; exact h.ff,by rw [tC e]; exact h.wl,by rw [tC e]; exact h.wc,h.oc,by rw [xa e]; exact h.sc⟩
theorem Fz.sf {op:Option Nat} (h:Fz C s f op) (x:bB) (op':Option Nat) (ho:∀j,op'=some j→Fa C f j∨C.widen_Cluster.length≤j):Fz C (s.sf f x) f op':=
 ⟨by rw [wQ]; exact h.fl,fun j a b=>by simp only [Sto.sf]; rw [aX (rC b)]; exact h.ff j a b,h.wl,h.wc,ho,h.sc⟩
theorem Fz.more {op:Option Nat} (h:Fz C s f op) {s':Sto} {z:bb} (e:s'.oth=(s.add_widen_Cluster z).oth):Fz C s' f op:=by
 have e1:s'.feed_Feeder=s.feed_Feeder:=(oQ e).trans rfl;have e2:s'.widen_Cluster=s.widen_Cluster++ [z]:=(tC e).trans rfl;have e3:s'.screen_Screen=s.screen_Screen:=(xa e).trans rfl;have hl:=h.wl;exact ⟨by rw [e1]; exact h.fl,by rw [e1]; exact h.ff,by rw [e2,az]; omega,fun j a b=>by rw [e2,aI (by omega)]; exact h.wc j a b,h.oc,by rw [e3]; exact h.sc⟩
theorem Fz.grow {j:Nat} (h:Fz C s f (some j)) {s':Sto} {z:bb} (e:s'.oth=(s.sc j z).oth):Fz C s' f (some j):=by
 have e1:s'.feed_Feeder=s.feed_Feeder:=(oQ e).trans rfl;have e2:s'.widen_Cluster=s.widen_Cluster.set j z:=(tC e).trans rfl;have e3:s'.screen_Screen=s.screen_Screen:=(xa e).trans rfl;refine ⟨by rw [e1]; exact h.fl,by rw [e1]; exact h.ff,by rw [e2,cq]; exact h.wl,fun i a b=>?_,h.oc,by rw [e3]; exact h.sc⟩;rw [e2,aX ?_]
 ·exact h.wc i a b
 ·rintro rfl;rcases h.oc j rfl with q | q
  ·exact b q
  ·omega
def vM (G:List Int):Bool:=match G.getLast? with | none=>true | some x=>sil x
theorem kC (G:List Int) (r:Int):vM (G++ [r])=sil r:=by simp [vM]
def oM (G:List Int):Sg:=if vM G=true then sg0 else sgF (G.map pr)
structure Op (s:Sto) (k g W H:Nat) (P:aa) (G:List Int) (q:aa) (j:Nat):Prop where
 x:∃q0 c C0 s0 ks0 cs0 cl,cls pj pr G=cs0++ [cl]∧cl≠ []∧sil (cl.headD 0)=false∧fo rI P cs0=some q0∧Pv C0 s0 k g W q0 ks0∧ks0.length=H∧
  Wc s j c (gf (cl.take 16) ((cl.take 16).map pr)) (cl.take 16) (w16 cl)∧aV q0 (w16 cl) (cl.take 16)=some (q,c)
structure Fd (C s:Sto) (f k g W H:Nat) (P:aa) (G h:List Int) (q:aa) (ks:List Nat) (op:Option Nat):Prop where
 v:Pv s s k g W q ks
 fr:Fr C s k g ks
 fz:Fz C s f op
 n:ks.length=H
 hd:Hd q.At W H
 l:fo rI P (cls pj pr G)=some q
 gv:∀x∈G,vld x=true
 d:∃d,s.feed_Feeder[f]? = some ⟨some k,d,sgB (oM G),op⟩∧Dv d h
 o1:vM G=true→op=none
 o2:vM G=false→∃j,op=some j∧Op s k g W H P G q j
theorem BJ {x:Int} (h:vld x=true):r32 x:=by
 unfold vld at h;unfold r32;simp only [aq,an] at h;omega
theorem Eg {q q':aa} {r:Int} {b:Bool} (h:cw q r=some (q',b)):zB q r=some q':=by
 unfold zB;rw [h];rfl
theorem Do (c:List Int):(c.take 16).length≤16:=by rw [aw]; omega
theorem tZ (t:List Int) (r:Int):gf (t++ [r]) ((t++ [r]).map pr)=gz (gf t (t.map pr)) r (pr r):=by
 rw [ux (by simp) r];have e:((t++ [r]).map pr).take t.length=t.map pr:=by simp
 rw [←D6 t ((t++ [r]).map pr) (aA _),e];simp
theorem CM {r:Int} (h:vld r=true):fH r=r:=by unfold fH; rw [ae h]
theorem Cj {C s:Sto} {k g W H:Nat} {q0 q:aa} {ks:List Nat} (h:Pv C s k g W q0 ks) (hn:ks.length=H) {n:Int} {t:List Int} (ht:t.length≤1000000) {c:ai} (hp:aV q0 n t=some (q,c)):Hd q.At W H:=by
 obtain ⟨s',q',ks',i,a,_,_,a2,_,_,a5,_⟩:=zo h n t ht;rw [hp] at a2;cases a2;rw [←hn];exact a5
theorem CS {G h:List Int} {op:Option Nat} (F:Fd C s f k g W H P G h q ks op) {r:Int} (hr:vld r=true):∃s' q' ks' op',gF s (some f) r=some s'∧Fd C s' f k g W H P (G++ [r]) h q' ks' op':=by
 obtain ⟨d,hd,hdv⟩:=F.d;have hf:=cz hd;have hgv:∀x∈G++ [r],vld x=true:=fun x hx=>by
  rcases List.mem_append.1 hx with hx | hx
  ·exact F.gv x hx
  ·rw [List.mem_singleton.1 hx]; exact hr
 have hcs:=sO pj pr G r;unfold gF;rw [BT];simp only [bsm]
 cases hs:sil r with
 | true=>
  simp only [bm];unfold da;simp only [bf,ez,bm,bsm,hd];rw [qa hf];simp only [bsm,wh];rw [qa (by rw [wQ]; exact hf),EA];simp only [bsm];rw [tg hf];simp only [bsm];obtain ⟨s',q',ks',a1,a2,a3,hks,hcd⟩:=Ei (F.v.sf (f:=f) ⟨some k,d,sgB sg0,none⟩) r;rw [a1];have hdo:=Eg a2;have hf1:Fr C (s.sf f ⟨some k,d,sgB sg0,none⟩) k g ks:=F.fr.rgp (Rgp.self _) ⟨rfl,rfl,rfl⟩;have hv1:=F.v.sf (f:=f) ⟨some k,d,sgB sg0,none⟩;refine ⟨s',q',ks',none,rfl,⟨a3.self,hf1.trans hv1.oG hv1.oR a3.f,(F.fz.sf ⟨some k,d,sgB sg0,none⟩ none (fun j e=>by cases e)).oth a3.o,by rw [hks]; exact F.n,by rw [←F.n]; exact hcd (by rw [F.n]; exact F.hd),?_,hgv,⟨d,?_,hdv⟩,fun _=>rfl,fun e=>?_⟩⟩
  ·
   rw [hcs];split
   ·rename_i hj
    obtain ⟨l0,x,rfl,hx⟩:=AG.yes hs hj;obtain ⟨cs0,c,ec⟩:=gX ((oy (pj:=pj) (pr:=pr) (l0++ [x])).2.2 (by simp));obtain ⟨c',rfl⟩:=vm ec;rw [ec,oF];have hall:=AG.all (l0++ [x]) (c'++ [x]) (by rw [ec]; simp);have hal:∀y∈c'++ [x],sil y=true:=by
     rcases hall with q | q
     ·exact q
     ·have:=q x (by simp); rw [hx] at this; cases this
    have hl:=F.l;rw [ec,oT] at hl;rw [oT]
    cases hq0:fo rI P cs0 with
    | none=>rw [hq0] at hl; cases hl
    | some q0=>
     rw [hq0] at hl;simp only [bsm] at hl⊢;obtain ⟨a,t,ea⟩:∃a t,c'++ [x]=a :: t:=by
      cases h:c'++ [x] with
      | nil=>simp at h
      | cons a t=>exact ⟨a,t,rfl⟩
     have ha:sil a=true:=hal a (by rw [ea]; simp);rw [ea,sE ha] at hl;rw [ea,cm,sE ha,←cm,oT,hl];exact hdo
   ·rw [oT,F.l];simp only [bsm];rw [sE hs];show (zB q r).bind (fun b=>some b)=_;rw [hdo];rfl
  ·have:oM (G++ [r])=sg0:=by unfold oM; rw [kC,ae hs]
   rw [this,oQ a3.o];exact tg hf
  ·rw [kC,hs] at e;cases e
 | false=>
  simp only [aj,aM];rw [ER r (BJ hr)];simp only [bsm,hd];rw [BZ];simp only [bsm];rw [qa hf];simp only [bsm];have hsj:sgJ pj (oM G) (pr r)=jn pj pr G r∧sgN (oM G) (pr r)=sgF ((G++ [r]).map pr):=by
   unfold oM;rw [bG,xC,uF]
   cases hL:vM G with
   | false=>simp only [aj,aM]; exact ⟨rfl,trivial⟩
   | true=>
    simp only [bm];by_cases hG:G= []
    ·subst hG; exact ⟨rfl,rfl⟩
    ·obtain ⟨G0,x,rfl⟩:=gX hG;rw [kC] at hL;rw [AG.no G0 hL hs,AG.new G0 hL];exact ⟨rfl,rfl⟩
  rw [hsj.1,hsj.2];have hsg:oM (G++ [r])=sgF ((G++ [r]).map pr):=by unfold oM; rw [kC,hs]; rfl
  rw [←hsg];have hv1:=F.v.sf (f:=f) ⟨some k,d,sgB (oM (G++ [r])),op⟩;have hf1:Fr C (s.sf f ⟨some k,d,sgB (oM (G++ [r])),op⟩) k g ks:=F.fr.rgp (Rgp.self _) ⟨rfl,rfl,rfl⟩;have hz1:=F.fz.sf ⟨some k,d,sgB (oM (G++ [r])),op⟩ op F.fz.oc;have hg1:(s.sf f ⟨some k,d,sgB (oM (G++ [r])),op⟩).feed_Feeder[f]? = some ⟨some k,d,sgB (oM (G++ [r])),op⟩:=tg hf;simp only [aZ,bsm];rw [hg1];simp only [bsm];have hfix:=CM hr
  cases hj:jn pj pr G r with
  | true=>
   have hL:vM G=false:=by
    cases hL:vM G with
    | false=>rfl
    | true=>
     obtain ⟨G0,x,rfl⟩:=gX (wA pj pr hj);rw [kC] at hL;rw [AG.no G0 hL hs] at hj;cases hj
   obtain ⟨j,rfl,⟨q0,c,C0,s0,ks0,cs0,cl,ec,hcne,hcs0,hq0,hp0,hn0,hw,hput⟩⟩:=F.o2 hL;simp only [bf,ez,Bool.and_self,bm];have hcs2:cls pj pr (G++ [r])=cs0++ [cl++ [r]]:=by rw [hcs,ae hj,ec,oF]
   have hclv:∀x∈cl.take 16,vld x=true:=fun x hx=>F.gv x (by
    rw [←(oy (pj:=pj) (pr:=pr) G).1,ec];exact List.mem_flatten.2 ⟨cl,by simp,de hx⟩)
   have hhd:sil ((cl++ [r]).headD 0)=false:=by
    cases cl with
    | nil=>exact absurd rfl hcne
    | cons a t=>exact hcs0
   have hw16:w16 cl=wz (gf (cl.take 16) ((cl.take 16).map pr)):=rfl;rw [hw16] at hw hput;have on:On C (s.sf f ⟨some k,d,sgB (oM (G++ [r])),some j⟩) k g W H j q0 (gf (cl.take 16) ((cl.take 16).map pr)) (cl.take 16) q c ks:=⟨hv1,hf1,hw.sf _,F.n,hput⟩;have hlayc:∀q2 c2,aV q0 (w16 (cl++ [r])) ((cl++ [r]).take 16)=some (q2,c2)→fo rI P (cls pj pr (G++ [r]))=some q2:=fun q2 c2 e=>by
    rw [hcs2,oT,hq0];simp only [bsm]
    cases hcc:cl++ [r] with
    | nil=>simp at hcc
    | cons a t=>
     rw [hcc] at e hhd;rw [uV (by simpa using hhd),e];rfl
   have hlen:cl.length < 16∨16≤cl.length:=by omega
   have hcl1:1≤cl.length:=by
    cases cl with
    | nil=>exact absurd rfl hcne
    | cons _ _=>simp
   rcases hlen with hlt | hge
   ·have et:cl.take 16=cl:=aC (by omega);have et2:(cl++ [r]).take 16=cl++ [r]:=aC (by simp; omega);rw [et] at on hclv;obtain ⟨s',q',c',ks',b1,b2,z,b3⟩:=DY hp0 hn0 on hcl1 hlt hclv r (pr r);rw [b1];simp only [bsm];rw [hfix,←tZ] at b2;have hw2:w16 (cl++ [r])=wz (gf (cl++ [r]) ((cl++ [r]).map pr)):=by unfold w16; rw [et2]
    refine ⟨s',q',ks',some j,rfl,⟨b2.v,b2.f,hz1.grow b3,b2.n,Cj hp0 hn0 (Do cl |> fun _=>by simp; omega) b2.p,hlayc q' c' (by rw [hw2,et2]; exact b2.p),hgv,⟨d,?_,hdv⟩,fun e=>?_,fun _=>⟨j,rfl,⟨q0,c',C0,s0,ks0,cs0,cl++ [r],hcs2,by simp,hhd,hq0,hp0,hn0,?_,by rw [hw2,et2]; exact b2.p⟩⟩⟩⟩
    ·rw [show s'.feed_Feeder=(s.sf f ⟨some k,d,sgB (oM (G++ [r])),some j⟩).feed_Feeder from (oQ b3).trans rfl];exact hg1
    ·rw [kC,hs] at e; cases e
    ·rw [hw2,et2];exact b2.w
   ·have hfl:(cl.take 16).length=16:=by rw [aw]; omega
    have et2:(cl++ [r]).take 16=cl.take 16:=cX hge;have hw2:w16 (cl++ [r])=w16 cl:=by unfold w16; rw [et2]
    rw [Bh on hfl r (pr r)];simp only [bsm];refine ⟨_,q,ks,some j,rfl,⟨hv1,hf1,hz1,F.n,F.hd,hlayc q c (by rw [hw2,et2]; exact hput),hgv,⟨d,hg1,hdv⟩,fun e=>?_,fun _=>⟨j,rfl,⟨q0,c,C0,s0,ks0,cs0,cl++ [r],hcs2,by simp,hhd,hq0,hp0,hn0,?_,by rw [hw2,et2]; exact hput⟩⟩⟩⟩
    ·rw [kC,hs] at e; cases e
    ·rw [hw2,et2];exact hw.sf _
  | false=>
   simp only [ky,aj,aM];obtain ⟨s2,q2,c2,ks2,b1,b2,z,b3⟩:=C9 hv1 r (pr r);rw [b1];simp only [bsm];have e1:s2.feed_Feeder=(s.sf f ⟨some k,d,sgB (oM (G++ [r])),op⟩).feed_Feeder:=(oQ b3).trans rfl;rw [e1,hg1];simp only [bsm];have hf2:f < s2.feed_Feeder.length:=by rw [e1,wQ]; exact hf
   rw [qa hf2];rw [hfix] at b2;have hgf:gz ⟨false,false,false⟩ r (pr r)=gf [r] ([r].map pr):=by
    have:=tZ [] r;simp only [aY] at this;rw [this];rfl
   rw [hgf] at b2;have hcs2:cls pj pr (G++ [r])=cls pj pr G++ [[r]]:=by rw [hcs,hj]; rfl
   have hlay:fo rI P (cls pj pr (G++ [r]))=some q2:=by
    rw [hcs2,oT,F.l];simp only [bsm];rw [uV hs];show (aV q (wz (gf [r] ([r].map pr))) [r]).map (·.1)=some q2;rw [b2.p];rfl
   refine ⟨_,q2,ks2,some (s.sf f ⟨some k,d,sgB (oM (G++ [r])),op⟩).widen_Cluster.length,rfl,⟨b2.v.sf _,?_,(hz1.more b3).sf _ _ (fun j e=>?_),b2.n.trans F.n,Cj F.v F.n (by simp) b2.p,hlay,hgv,⟨d,tg hf2,hdv⟩,fun e=>?_,fun _=>⟨_,rfl,⟨q,c2,_,_,ks,cls pj pr G,[r],hcs2,by simp,hs,F.l,F.v,F.n,b2.w.sf _,b2.p⟩⟩⟩⟩
   ·exact (hf1.trans hv1.oG hv1.oR b2.f).rgp (Rgp.self _) ⟨rfl,rfl,rfl⟩
   ·cases e;exact .inr hz1.wl
   ·rw [kC,hs] at e; cases e
end Go.Proofs.YthokmpbbkpjhbaaGreatDoor
namespace Go.Proofs.YthokmpbbkpjhbaaGreatDoor
open Go Go.Lt
variable {s C:Sto} {f k g W H:Nat} {q P:aa} {ks:List Nat} {op:Option Nat}
theorem EP {p:List Int} (hp:Bts p) (hb:bg p=(p.length:Int)) (hne:p≠ []):vld (vl p)=true:=by
 have h4:=Au p;unfold vld;simp only [aq,an]
 match p,hne with
 | [a],_=>
  obtain ⟨a1,a2⟩:=hp a (by simp);have hl:=nZ a;simp only [bg,aJ,aQ] at hb;simp only [vl,List.foldl,b0]
  repeat' split
  all_goals simp only [aD,an]
  all_goals omega
 | [a,b],_=>
  obtain ⟨a1,a2⟩:=hp a (by simp);have hl:=nZ a;simp only [bg,aJ,aQ] at hb;split at hb
  ·rename_i g
   have hs:128≤b∧b≤191:=by
    have:=g.2;unfold slo shi at this
    repeat' split at this
    all_goals omega
   simp only [vl,List.foldl,b0]
   repeat' split
   all_goals simp only [aD,an]
   all_goals omega
  ·omega
 | [a,b,c],_=>
  obtain ⟨a1,a2⟩:=hp a (by simp);have hl:=nZ a;simp only [bg,aJ,aQ] at hb;split at hb
  ·rename_i g
   have hs:128≤b∧b≤191∧(a=237→b≤159):=by
    have:=g.2;unfold slo shi at this
    repeat' split at this
    all_goals omega
   simp only [vl,List.foldl,b0]
   repeat' split
   all_goals simp only [aD,an]
   all_goals omega
  ·omega
 | [a,b,c,d],_=>
  obtain ⟨a1,a2⟩:=hp a (by simp);have hl:=nZ a;simp only [bg,aJ,aQ] at hb;split at hb
  ·rename_i g
   have hs:128≤b∧b≤191∧(a=240→144≤b)∧(a=244→b≤143):=by
    have:=g.2;unfold slo shi at this
    repeat' split at this
    all_goals omega
   simp only [vl,List.foldl,b0]
   repeat' split
   all_goals simp only [aD,an]
   all_goals omega
  ·omega
 | _ :: _ :: _ :: _ :: _ :: _,_=>simp only [bg,aJ] at hb; omega
theorem zX {b:Int} (h:Byt b):∀x∈(rs0 b).1,vld x=true:=fun x hx=>by
 obtain ⟨h1,h2⟩:=h;have hl:=nZ b;unfold rs0 at hx;split at hx
 ·simp at hx
 ·split at hx
  ·rw [List.mem_singleton.1 hx];unfold vld;simp only [aq,aD,an];omega
  ·rw [List.mem_singleton.1 hx]; rfl
theorem AU {h:List Int} (hb:Bts h) {b:Int} (h1:Byt b):∀x∈(jh h b).1,vld x=true:=fun x hx=>by
 unfold jh at hx;split at hx
 ·exact zX h1 x hx
 ·split at hx
  ·simp at hx
  ·split at hx
   ·rename_i g1 g2
    rw [List.mem_singleton.1 hx];refine EP (hb.snoc h1) ?_ (by simp);have:=yQ g2;simp only [az,aJ,aQ] at this⊢;omega
   ·rcases List.mem_cons.1 hx with hx | hx
    ·rw [hx]; rfl
    ·exact zX h1 x hx
theorem ex4 {α β γ δ:Type} {X:Option α} {Q:α→β→γ→δ→Prop} (h:∃a,X=some a∧∃b c d,Q a b c d):∃a b c d,X=some a∧Q a b c d:=by
 obtain ⟨a,h1,b,c,d,h2⟩:=h;exact ⟨a,b,c,d,h1,h2⟩
theorem An {G h:List Int} (F:Fd C s f k g W H P G h q ks op) {l:List Int} (hl:l.length≤1000000) (hv:∀x∈l,vld x=true):∃s' q' ks' op',gn s (some f) l=some s'∧Fd C s' f k g W H P (G++l) h q' ks' op':=by
 unfold gn;refine ex4 (tE (n:=l.length) (fun i (st:Int×Sto)=>st.1=(i:Int)∧∃q' ks' op',Fd C st.2 f k g W H P (G++l.take i) h q' ks' op') (fun u:Sto=>∃q' ks' op',Fd C u f k g W H P (G++l) h q' ks' op') (p:=fun s':Sto=>∃q' ks' op',Fd C s' f k g W H P (G++l) h q' ks' op') (fun i st hi hI=>?_) (fun st hI=>?_) ⟨rfl,q,ks,op,by simpa using F⟩ (by omega) (fun u hu=>⟨u,rfl,hu⟩))
 ·obtain ⟨i',st⟩:=st;obtain ⟨e,q1,ks1,op1,F1⟩:=hI;simp only at e F1;subst e;simp only;rw [ae (dlt hi),be hi,eH hi (by omega)];simp only [bsm];obtain ⟨s2,q2,ks2,op2,b1,b2⟩:=CS F1 (hv _ (aG hi));rw [b1];refine .inl ⟨_,rfl,rfl,q2,ks2,op2,?_⟩;rw [ay hi,←aL];exact b2
 ·obtain ⟨i',st⟩:=st;obtain ⟨e,q1,ks1,op1,F1⟩:=hI;simp only at e F1;subst e;refine ⟨st,by simp only; rw [af (by simp)],q1,ks1,op1,?_⟩;rw [aC (aA _)] at F1;exact F1
theorem Fd.dec {G h h':List Int} (F:Fd C s f k g W H P G h q ks op) {d d':bA} (hd:s.feed_Feeder[f]? = some ⟨some k,d,sgB (oM G),op⟩) (hv:Dv d' h'):Fd C (s.sf f ⟨some k,d',sgB (oM G),op⟩) f k g W H P G h' q ks op:=by
 have hf:=cz hd;refine ⟨F.v.sf _,F.fr.rgp (Rgp.self _) ⟨rfl,rfl,rfl⟩,F.fz.sf _ _ F.fz.oc,F.n,F.hd,F.l,F.gv,⟨d',tg hf,hv⟩,F.o1,fun e=>?_⟩;obtain ⟨j,e1,⟨q0,c,C0,s0,ks0,cs0,cl,a1,a2,a3,a4,a5,a6,a7,a8⟩⟩:=F.o2 e;exact ⟨j,e1,⟨q0,c,C0,s0,ks0,cs0,cl,a1,a2,a3,a4,a5,a6,a7.sf _,a8⟩⟩
theorem Bo {G h:List Int} (F:Fd C s f k g W H P G h q ks op) (hb:Bts h) {b:List Int} (hl:b.length≤9223372036854775807) (hbt:Bts b):∃s' q' ks' op',gH s (some f) b=some s'∧Fd C s' f k g W H P (G++(bu h b).1) (bu h b).2 q' ks' op':=by
 unfold gH;simp only [bf,aj,aM,bsm];refine ex4 (tE (n:=b.length) (fun i (st:Int×Sto)=>st.1=(i:Int)∧∃q' ks' op',Fd C st.2 f k g W H P (G++(bu h (b.take i)).1) (bu h (b.take i)).2 q' ks' op') (fun u:Sto=>∃q' ks' op',Fd C u f k g W H P (G++(bu h b).1) (bu h b).2 q' ks' op') (p:=fun s':Sto=>∃q' ks' op',Fd C s' f k g W H P (G++(bu h b).1) (bu h b).2 q' ks' op') (fun i st hi hI=>?_) (fun st hI=>?_) ⟨rfl,q,ks,op,by simpa [bu] using F⟩ (by omega) (fun u hu=>⟨u,rfl,hu⟩))
 ·obtain ⟨i',st⟩:=st;obtain ⟨e,q1,ks1,op1,F1⟩:=hI;simp only at e F1;subst e;simp only;rw [ae (dlt hi),be hi,eH hi (by omega)];obtain ⟨d,hd,hdv⟩:=F1.d;simp only [bsm,hd];have hx:=hbt _ (aG hi);obtain ⟨d',c1,c2⟩:=CQ hdv hx;rw [c1];simp only [bsm];rw [qa (cz hd)];simp only [bsm];have hbt':Bts (b.take i):=fun x hx=>hbt x (de hx);obtain ⟨s2,q2,ks2,op2,b1,b2⟩:=An (F1.dec hd c2) (l:=(jh (bu h (b.take i)).2 b[i]).1) (by have:=tu (bu h (b.take i)).2 b[i]; omega) (AU (tv hb hbt') hx);rw [b1];refine .inl ⟨_,rfl,rfl,q2,ks2,op2,?_⟩;rw [ay hi,oP];simp only;rw [←aL];exact b2
 ·obtain ⟨i',st⟩:=st;obtain ⟨e,q1,ks1,op1,F1⟩:=hI;simp only at e F1;subst e;refine ⟨st,by simp only; rw [af (by simp)],q1,ks1,op1,?_⟩;rw [aC (aA _)] at F1;exact F1
theorem tI {G h:List Int} (F:Fd C s f k g W H P G h q ks op):∃s',da s (some f)=some s'∧Fd C s' f k g W H q [] h q ks none:=by
 obtain ⟨d,hd,hdv⟩:=F.d;have hf:=cz hd;unfold da;simp only [bf,ez,bm,bsm,hd];rw [qa hf];simp only [bsm,wh];rw [qa (by rw [wQ]; exact hf),EA];refine ⟨_,rfl,⟨F.v.sf _,F.fr.rgp (Rgp.self _) ⟨rfl,rfl,rfl⟩,F.fz.sf _ none (fun j e=>by cases e),F.n,F.hd,rfl,fun x hx=>by simp at hx,⟨d,tg hf,hdv⟩,fun _=>rfl,fun e=>by cases e⟩⟩
theorem Bn {G h:List Int} (F:Fd C s f k g W H P G h q ks op):∃s' q' ks',gG s (some f)=some s'∧Fd C s' f k g W H q' [] [] q' ks' none∧fo rI P (cls pj pr (G++(if h= [] then [] else [65533])))=some q':=by
 obtain ⟨d,hd,hdv⟩:=F.d;have hf:=cz hd;unfold gG;simp only [bf,aj,aM,bsm,hd];rw [Br hdv];simp only [bsm];rw [qa hf];simp only [bsm];obtain ⟨s2,q2,ks2,op2,b1,b2⟩:=An (F.dec hd Dv.zero) (l:=if h= [] then [] else [65533]) (by split <;> simp) (fun x hx=>by
  split at hx
  ·simp at hx
  ·rw [List.mem_singleton.1 hx]; rfl)
 rw [b1];simp only [bsm];obtain ⟨s3,c1,c2⟩:=tI b2;rw [c1];exact ⟨s3,q2,ks2,rfl,c2,b2.l⟩
theorem CN {G h:List Int} (F:Fd C s f k g W H P G h q ks op):il s (some f)=some (h.length:Int):=by
 obtain ⟨d,hd,hdv⟩:=F.d;unfold il;simp only [bf,aj,aM,bsm,hd];rw [yF hdv];rfl
def opn (G:List Int):List Int:=if vM G=true then [] else (((cls pj pr G).getLast?).getD []).take 16
theorem CJ {G h:List Int} (F:Fd C s f k g W H P G h q ks op):ik s (some f)=some (opn G):=by
 obtain ⟨d,hd,hdv⟩:=F.d;unfold ik opn;simp only [bf,aj,aM,bsm,hd]
 cases hL:vM G with
 | true=>
  rw [F.o1 hL];rfl
 | false=>
  obtain ⟨j,rfl,⟨q0,c,C0,s0,ks0,cs0,cl,a1,a2,a3,a4,a5,a6,a7,a8⟩⟩:=F.o2 hL;obtain ⟨b,hb,hv⟩:=a7.x;simp only [iV,bf,aj,aM,bsm,hb,xk hv,a1];simp
theorem EH {G:List Int} (h:∀x∈G,vld x=true):R32 G:=fun x hx=>BJ (h x hx)
theorem uL {F:av} (hb:Bts F.Raw) (hl:F.Raw.length≤1000000):cO F=some ((bu [] F.Raw).2.length:Int):=by
 unfold cO;rw [Am Hh.nil Bts.nil hb hl];rfl
theorem zY {F:av} (hg:∀x∈F.Group,vld x=true) (hl:F.Group.length≤1000000) (h:fo rI F.P (cls pj pr F.Group)=some q):dp F=some q:=by
 unfold dp;rw [Fi (EH hg) hl h];rfl
theorem qN {F:av} (hg:∀x∈F.Group,vld x=true) (hl:F.Group.length≤1000000) (h:fo rI F.P (cls pj pr F.Group)=some q):cJ F=some ⟨q,[],F.Raw,F.Parts⟩:=by
 unfold cJ;rw [zY hg hl h];rfl
theorem B6 {F:av} (hl:F.Group.length≤1000000) (r:Int):dW F r=some ⟨F.P,F.Group++ [fH r],F.Raw,F.Parts⟩:=by
 have hfix:((cM r).bind fun x_6=>if (!x_6)=true then (some (65533):Option (Int)) else (some (r):Option (Int)))=some (fH r):=by
  rw [tw];unfold fH
  cases vld r <;> rfl
 unfold dW;rw [hfix];simp only [bsm];rw [cK (by simp; omega),aY];simp only [bsm];rw [cK (by simp; omega)];rfl
theorem A4 {F:av} (hp:F.Parts=((bu [] F.Raw).1.length:Int)) (hb:Bts F.Raw) {b:List Int} (hbt:Bts b) (hl:F.Raw.length+b.length≤1000000) (hg:F.Group.length≤1000000):
  dG F b=some ⟨F.P,F.Group++(bu (bu [] F.Raw).2 b).1,F.Raw++b,((bu [] (F.Raw++b)).1.length:Int)⟩:=by
 have hbb:Bts (F.Raw++b):=fun x hx=>by
  rcases List.mem_append.1 hx with hx | hx
  ·exact hb x hx
  ·exact hbt x hx
 have hll:(F.Raw++b).length≤1000000:=by simp; omega
 obtain ⟨l,h1,h2,h3⟩:=FH hbb hll;have hap:=nV [] F.Raw b;unfold dG;rw [cK (by simp; omega),aY];simp only [bsm];rw [cK (by omega)];simp only [bsm];rw [h1];simp only [bsm];rw [uL hbb hll];simp only [bsm];have hz:∃z:List bV,(if decide (((bu [] (F.Raw++b)).2.length:Int) > 0)=true then (slc l 0 (w64 ((l.length:Int) - 1))).bind fun x_27=>(some (x_27):Option ((List bV))) else (some (l):Option ((List bV))))=some z∧z.map (·.R)=(bu [] (F.Raw++b)).1∧z.length≤l.length:=by
  unfold uh at h2;have hlen:=gI List.length h2;simp only [db,az] at hlen;by_cases hh:(bu [] (F.Raw++b)).2= []
  ·rw [af (by rw [hh]; simp)];rw [ae hh,dO] at h2;exact ⟨l,rfl,h2,aA _⟩
  ·rw [af hh] at h2 hlen;have hpos:0 < (bu [] (F.Raw++b)).2.length:=by
    cases hc:(bu [] (F.Raw++b)).2 with
    | nil=>exact absurd hc hh
    | cons _ _=>simp
   rw [ae (by simpa using hpos)];simp only [aJ,aQ] at hlen;have hs:=nJ (xs:=l) (i:=0) (j:=l.length - 1) (cH _) (by omega);rw [show ((0:Nat):Int)=0 from rfl,jx,ns] at hs;rw [aF (by omega),show (l.length:Int) - 1=((l.length - 1:Nat):Int) by omega,hs];refine ⟨_,rfl,?_,by rw [aw]; omega⟩;rw [List.map_take,h2,cX (by omega),aC (by omega)]
 obtain ⟨z,hz1,hz2,hz3⟩:=hz;rw [hz1];simp only [bsm];have hzl:=gI List.length hz2;rw [db] at hzl;have hem:(bu [] (F.Raw++b)).1=(bu [] F.Raw).1++(bu (bu [] F.Raw).2 b).1:=by rw [hap]
 have heml:=gI List.length hem;rw [az] at heml;rw [hp];refine lv (n:=z.length - (bu [] F.Raw).1.length) (fun i st=>st=((((bu [] F.Raw).1.length+i:Nat):Int),F.Group++(bu (bu [] F.Raw).2 b).1.take i)) (fun u=>u=F.Group++(bu (bu [] F.Raw).2 b).1) (fun i st hi e=>?_) (fun st e=>?_) (by simp) (by omega) (fun u hu=>?_)
 ·subst e;simp only;have hlt:(bu [] F.Raw).1.length+i < z.length:=by omega
  rw [ae (by simp; omega),be hlt];simp only [bsm];have hgr:(F.Group++(bu (bu [] F.Raw).2 b).1.take i).length≤3000000:=by simp; omega
  rw [cK (by simp only [aQ]; omega),aY];simp only [bsm];rw [cK (by simp only [aJ,aQ]; omega),aF (by omega)];refine .inl ⟨_,rfl,?_⟩;have hR:z[(bu [] F.Raw).1.length+i].R=(bu (bu [] F.Raw).2 b).1[i]'(by omega):=by
   have e1:(z.map (·.R))[(bu [] F.Raw).1.length+i]? = ((bu [] F.Raw).1++(bu (bu [] F.Raw).2 b).1)[(bu [] F.Raw).1.length+i]? :=by rw [hz2,hem]
   rw [bE,ag hlt,ba (by omega),Nat.add_sub_cancel_left,ag (show i < (bu (bu [] F.Raw).2 b).1.length by omega)] at e1;exact bz e1
  rw [hR,ay (show i < (bu (bu [] F.Raw).2 b).1.length by omega),aL]
  congr 1
 ·subst e;refine ⟨_,by simp only; rw [af (by simp; omega)],?_⟩;rw [aC (by omega)]
 ·subst hu;rw [hzl]
theorem B9 {F:av} (hg:∀x∈F.Group,vld x=true) (hl:F.Group.length≤1000000):dX F=some (opn F.Group):=by
 obtain ⟨hf,hne,hn2⟩:=oy (pj:=pj) (pr:=pr) F.Group;unfold dX opn;rw [uc _ (EH hg) hl];simp only [bsm];by_cases hG:F.Group= []
 ·rw [hG];rfl
 ·obtain ⟨G0,x,eG⟩:=gX hG;rw [eG] at hn2⊢;obtain ⟨cs0,c,ec⟩:=gX (hn2 (by simp));obtain ⟨c',rfl⟩:=vm ec;rw [kC,ec];have hcl:(cs0++ [c'++ [x]]).length=cs0.length+1:=by simp
  have hlc:cs0.length+(c'++ [x]).length≤F.Group.length:=by
   have key:∀cs:List (List Int),(∀c∈cs,c≠ [])→cs.length≤cs.flatten.length:=by
    intro cs
    induction cs with
    | nil=>intro _; simp
    | cons c cs ih=>
     intro h;have h1:=ih fun d hd=>h d (oJ _ hd);have h2:1≤c.length:=by
      cases c with
      | nil=>exact absurd rfl (h [] (by simp))
      | cons _ _=>simp
     simp only [iP,aJ,az];omega
   rw [eG,ec] at hf hne;have:=key cs0 fun d hd=>hne d (fv _ hd);have h2:=gI List.length hf;rw [pv] at h2;simp only [iP,Hw,dO,az] at h2;rw [eG];simp only [az];omega
  have hidx:idx (cs0++ [c'++ [x]]) (w64 (((cs0++ [c'++ [x]]).length:Int) - 1))=some (c'++ [x]):=by
   rw [aF (by omega),hcl,show ((cs0.length+1:Nat):Int) - 1=(cs0.length:Int) by omega,sG,ba (aA _),kO];rfl
  rw [hidx,hcl];obtain ⟨a,t,ea⟩:∃a t,c'++ [x]=a :: t:=by
   cases h:c'++ [x] with
   | nil=>simp at h
   | cons a t=>exact ⟨a,t,rfl⟩
  have hsil:sil a=sil x:=by
   rcases AG.all (G0++ [x]) (c'++ [x]) (by rw [ec]; simp) with q | q
   ·rw [q x (by simp),q a (by rw [ea]; simp)]
   ·rw [q x (by simp),q a (by rw [ea]; simp)]
  rw [show (((cs0.length+1:Nat):Int)==0)=false by rw [dS]; omega,ek];simp only [bsm];have h0:idx (c'++ [x]) 0=some a:=by rw [ea]; rfl
  rw [h0];simp only [bsm,lh,hsil]
  cases sil x with
  | true=>rfl
  | false=>
   simp only [aj,aM];rw [vh _ (by omega)];simp
end Go.Proofs.YthokmpbbkpjhbaaGreatDoor
namespace Go.Proofs.YthokmpbbkpjhbaaGreatDoor
open Go Go.Lt
variable {s C:Sto} {f k g W H:Nat} {q P:aa} {ks:List Nat} {op:Option Nat}
theorem Fz.self (s:Sto) (f:Nat) (op:Option Nat) (h:∀x,s.feed_Feeder[f]? = some x→x.open_=op) (hf:f < s.feed_Feeder.length):Fz s s f op:=
 ⟨aA _,fun _ _ _=>rfl,aA _,fun _ _ _=>rfl,fun j e=> .inl ⟨s.feed_Feeder[f],ag hf,by rw [h _ (ag hf)]; exact e⟩,rfl⟩
theorem Pv.addf (h:Pv s s k g W q ks) (x:bB):Pv (s.add_feed_Feeder x) (s.add_feed_Feeder x) k g W q ks:=
 ⟨h.p,⟨h.g.g,h.g.r,h.g.h1,h.g.h2,h.g.w1,h.g.w2⟩,h.nd,h.l,rfl,h.f.rgp ⟨rfl,rfl,rfl⟩ ⟨rfl,rfl,rfl⟩⟩
theorem CO (h:Pv s s k g W q ks) (hh:Hd q.At W ks.length):∃s',nb s (some k)=some (s',some s.feed_Feeder.length)∧Fd s' s' s.feed_Feeder.length k g W ks.length q [] [] q ks none∧s'=s.add_feed_Feeder ⟨some k,⟨0,0,0,0,0⟩,⟨false,0,0,0,false⟩,none⟩:=by
 unfold nb;simp only [bf,ek,bsm,h.p,aj,aM];have hg:(s.add_feed_Feeder ⟨some k,⟨0,0,0,0,0⟩,⟨false,0,0,0,false⟩,none⟩).feed_Feeder[s.feed_Feeder.length]? = some ⟨some k,⟨0,0,0,0,0⟩,⟨false,0,0,0,false⟩,none⟩:=by simp [Sto.add_feed_Feeder]
 refine ⟨_,rfl,⟨h.addf _,(h.addf _).f,Fz.self _ _ _ (fun x hx=>?_) (cz hg),rfl,hh,rfl,fun x hx=>by simp at hx,⟨_,hg,Dv.zero⟩,fun _=>rfl,fun e=>by cases e⟩,rfl⟩;rw [hg] at hx;cases hx;rfl
theorem A1 {W H:Nat} (w2:W≤1024) (h2:H≤1024):gw W H=some ⟨bls W H,⟨0,0,false⟩,true⟩:=by
 unfold gw;rw [A2 w2 h2];rfl
variable {F:av}
end Go.Proofs.YthokmpbbkpjhbaaGreatDoor
namespace Go.Proofs.YthokmpbbkpjhbaaGreatDoor
open Go Go.Lt
variable {s:Sto} {k:Nat} {l p:List ab} {w:Bool}
theorem GF {c m:Nat} (h:c≤m):cl (c:Int) m=c:=by unfold cl; omega
theorem Ah (n:Int) (m:Nat):fN n 0 m=some ((cl n m:Nat):Int):=by
 simp only [fN,eU,dm,cl,aR];omega
def rg (l:List ab) (w:Bool) (a b:Nat):bh:=if a < b then ⟨pl l a (List.replicate (b - a) bl),pw l w a (b - a)⟩ else ⟨l,w⟩
theorem Cb {a b:Nat} (h:Snd l) (hb:b≤l.length):Snd (rg l w a b).cells:=by
 unfold rg;split
 ·exact h.paint (tf _) (by simp; omega)
 ·exact h
theorem E2 (a b:Nat):(rg l w a b).cells.length=l.length:=by
 unfold rg;split
 ·exact jB _ _ _
 ·rfl
theorem sw (h:s.row_Row[k]? = some ⟨l,w⟩) (hs:Snd l) (hl:l.length≤1024) (a b:Int):
  gO s (some k) a b=some (s.sr k (rg l w (cl a l.length) (cl b l.length))):=by
 unfold gO;simp only [iU h,bsm,Ah];have ha:=mL a l.length;have hb:=mL b l.length;generalize cl a l.length=a' at *;generalize cl b l.length=b' at *;unfold rg;by_cases hab:a' < b'
 ·have e:w64 ((b':Int) - (a':Int))=((b' - a':Nat):Int):=by rw [aF (by omega)]; omega
  rw [ae (by simp; omega),ae hab,e,tQ,show (max 0 (min (((b' - a':Nat)):Int) 1024)).toNat=b' - a' by omega];simp only [bsm];rw [nU h hs hl (tf _) (by simp; omega) (by simp; omega)];simp
 ·rw [af (by simp; omega),af hab,xO h]
theorem nX (l:List ab) (w:Bool) (hl:l.length≤1024) (a b:Int):cL l w a b=some ((rg l w (cl a l.length) (cl b l.length)).cells,(rg l w (cl a l.length) (cl b l.length)).wrap):=by
 unfold cL;have ha:=mL a l.length;have hb:=mL b l.length;have ea:aE 0 (aB a (l.length:Int))=((cl a l.length:Nat):Int):=by simp only [eU,dm,cl]; omega
 have eb:aE 0 (aB b (l.length:Int))=((cl b l.length:Nat):Int):=by simp only [eU,dm,cl]; omega
 rw [ea,eb];generalize cl a l.length=a' at *;generalize cl b l.length=b' at *;unfold rg;by_cases hab:a' < b'
 ·have e:w64 ((b':Int) - (a':Int))=((b' - a':Nat):Int):=by rw [aF (by omega)]; omega
  rw [af (by simp; omega),ae hab,e,nK _ (by omega)];simp only [bsm];have:=tz l w a' (List.replicate (b' - a') bl) (by omega) (by omega) (by simp; omega);rw [lu] at this;rw [show (List.replicate (((b' - a':Nat):Int).toNat) (⟨0,([]:List Int)⟩:ab))=List.replicate (b' - a') bl by rfl,this];rfl
 ·rw [ae (by simp; omega),af hab]
theorem CY (h:s.row_Row[k]? = some ⟨l,w⟩) (hs:Snd l) (hl:l.length≤1024) (col n:Int):
  jR s (some k) col n=some (if 0≤col∧0 < n then s.sr k (rg l w (cl col l.length) (cl (((cl col l.length:Nat):Int)+((cl n l.length:Nat):Int)) l.length)) else s):=by
 unfold jR;simp only [aZ,bsm];by_cases hc:0≤col∧0 < n
 ·rw [ae (by simp; omega),ae hc];simp only [iU h,bsm,Ah];have h1:=mL col l.length;have h2:=mL n l.length;rw [aF (by omega),sw h hs hl];simp only [bsm,GF h1]
 ·rw [af (by simp; omega),af hc]
def ac (l:List ab) (w:Bool) (x A B:Int):bh:=
 if x=0 then rg l w (cl A l.length) (cl B l.length)
 else if x=1 then rg l w 0 (cl (max (-1) (min A l.length)+1) l.length)
 else if x=2 then rg l w (cl A l.length) l.length
 else if x=3 then ⟨(rg l w 0 l.length).cells,false⟩
 else if 0≤A∧0 < B then rg l w (cl A l.length) (cl (((cl A l.length:Nat):Int)+((cl B l.length:Nat):Int)) l.length) else ⟨l,w⟩
theorem EC {a b:Nat} (h:b≤a):rg l w a b=⟨l,w⟩:=by
 unfold rg;rw [af (by omega)]
theorem CV (m:Nat):cl 0 m=0:=by unfold cl; omega
theorem uz (m:Nat):cl (m:Int) m=m:=by unfold cl; omega
theorem zA (h:s.row_Row[k]? = some ⟨l,w⟩) (hs:Snd l) (hl:l.length≤1024) (a b:Int):lI s (some k) a=some (s.sr k (ac l w 1 a b)):=by
 unfold lI fN;simp only [iU h,bsm,eU,dm];rw [aF (by omega),sw h hs hl,CV];rfl
theorem yz (h:s.row_Row[k]? = some ⟨l,w⟩) (hs:Snd l) (hl:l.length≤1024) (a b:Int):kS s (some k) a=some (s.sr k (ac l w 2 a b)):=by
 unfold kS;simp only [iU h,bsm];rw [sw h hs hl,uz];rfl
theorem wG (h:s.row_Row[k]? = some ⟨l,w⟩) (hs:Snd l) (hl:l.length≤1024) (a b:Int):kj s (some k)=some (s.sr k (ac l w 3 a b)):=by
 have hk:=cz h;unfold kj;simp only [iU h,bsm];rw [sw h hs hl,uz,CV];simp only [bsm];rw [sq (l:=(rg l w 0 l.length).cells) (w:=(rg l w 0 l.length).wrap) (rG hk),zU];rfl
theorem yA (h:s.row_Row[k]? = some ⟨l,w⟩) (hs:Snd l) (hl:l.length≤1024) (a b:Int):jR s (some k) a b=some (s.sr k (ac l w 4 a b)):=by
 rw [CY h hs hl,show ac l w 4 a b=if 0≤a∧0 < b then rg l w (cl a l.length) (cl (((cl a l.length:Nat):Int)+((cl b l.length:Nat):Int)) l.length) else ⟨l,w⟩ by rfl];split
 ·rfl
 ·rw [xO h]
theorem DG (l:List ab) (w:Bool) (hl:l.length≤1024) (x A B:Int):gy l w x A B=some ((ac l w x A B).cells,(ac l w x A B).wrap):=by
 unfold gy ac;by_cases h0:x=0
 ·rw [ae (by simpa using h0),ae h0,nX l w hl];rfl
 rw [af (by simpa using h0),af h0];by_cases h1:x=1
 ·rw [ae (by simpa using h1),ae h1];by_cases hA:A < 0
  ·rw [ae (by simpa using hA),show max (-1) (min A (l.length:Int))+1=0 by omega,CV,EC (aA _)]
  ·rw [af (by simpa using hA),dm,aF (by omega),nX l w hl,CV,show max (-1) (min A (l.length:Int))=min A (l.length:Int) by omega];rfl
 rw [af (by simpa using h1),af h1];by_cases h2:x=2
 ·rw [ae (by simpa using h2),ae h2,nX l w hl,uz];rfl
 rw [af (by simpa using h2),af h2];by_cases h3:x=3
 ·rw [ae (by simpa using h3),ae h3,nX l w hl,uz,CV];rfl
 rw [af (by simpa using h3),af h3];simp only [bq,bsm];by_cases hA:0≤A∧0 < B
 ·rw [ae hA];by_cases hg:(l.length:Int)≤A
  ·rw [ae (by simp; omega),show cl A l.length=l.length by unfold cl; omega,EC (mL _ _)]
  ·rw [af (by simp; omega),dm,aF (by omega),nX l w hl];rw [show cl (A+min B (l.length:Int)) l.length=cl (((cl A l.length:Nat):Int)+((cl B l.length:Nat):Int)) l.length by unfold cl; omega];rfl
 ·rw [af hA,ae (by simp; omega)]
theorem FJ (hs:Snd l) (x A B:Int):Snd (ac l w x A B).cells:=by
 unfold ac
 repeat' split
 all_goals first | exact hs | exact Cb hs (mL _ _) | exact Cb hs (aA _)
theorem FK (x A B:Int):(ac l w x A B).cells.length=l.length:=by
 unfold ac
 repeat' split
 all_goals first | rfl | exact E2 _ _
theorem jc {α:Type} {l:List α} {n:Nat} {f:Nat→α} (hl:l.length=n) (h:∀i,i < n→l[i]? = some (f i)):l=(List.range n).map f:=by
 apply bT;intro i;rcases aT i n with hi | hi
 ·rw [h i hi]; simp [hi]
 ·rw [aO (by omega),aO (by simp; exact hi)]
def trc (l:List ab) (c j:Nat):ab:=if kd l c=3∧(j=c∨j+1=c) then bl else l.getD j bl
def tr (l:List ab) (c:Nat):List ab:=(List.range l.length).map (trc l c)
theorem pY (l:List ab) (c:Nat):(tr l c).length=l.length:=by simp [tr]
theorem BL {c j:Nat} (h:j < l.length):(tr l c)[j]? = some (trc l c j):=by simp [tr,h]
theorem BK (l:List ab) (c j:Nat):(trc l c j).Kind=if kd l c=3∧(j=c∨j+1=c) then 0 else kd l j:=by
 unfold trc;split
 ·rfl
 ·exact mS l j
theorem Af (c j:Nat):kd (tr l c) j=if kd l c=3∧(j=c∨j+1=c) then 0 else kd l j:=by
 rcases aT j l.length with h | h
 ·rw [←BK]; simp [kd,BL h]
 ·rw [mj (by rw [pY]; exact h),mj (l:=l) h]; simp
theorem Ez {c:Nat} (h:kd l c≠3):tr l c=l:=by
 symm
 refine jc rfl fun i hi=>?_;unfold trc;rw [af (by intro e; exact h e.1),ao,ag hi];rfl
theorem wL (hs:Snd l) (c:Nat):Snd (tr l c):=fun j hj=>by
 have hj':j < l.length:=by rw [pY] at hj; exact hj
 have he:(tr l c)[j]=trc l c j:=by
  have:=BL (c:=c) hj';rw [ag hj] at this;exact bz this
 have h2:=fun (h:kd l j=2)=>hs.two h;have h3:=fun (h:kd l j=3)=>hs.three h;have hc:=fun (h:kd l c=3)=>hs.three h;rw [he,BK,Af,Af];refine ⟨?_,?_,?_⟩
 ·unfold trc;split
  ·rfl
  ·exact hs.rg hj'
 ·intro e;split at e
  ·cases e
  ·rename_i hn
   have:=h2 e;rw [af]
   ·exact this
   ·rintro ⟨q1,q2⟩;have:=hc q1;rcases q2 with rfl | q2
    ·exact hn ⟨q1,.inr rfl⟩
    ·obtain rfl:c=j+2:=by omega
     rw [show j+2 - 1=j+1 by omega] at this;omega
 ·intro e;split at e
  ·cases e
  ·rename_i hn
   have:=h3 e;refine ⟨this.1,?_⟩;rw [af]
   ·exact this.2
   ·rintro ⟨q1,q2⟩;have:=hc q1;rcases q2 with q2 | q2
    ·rw [←q2] at q1;omega
    ·exact hn ⟨q1,.inl (by omega)⟩
theorem uX (l:List ab) (c:Nat):kd (tr l c) c≠3:=by
 rw [Af];split
 ·decide
 ·rename_i h
  intro e;exact h ⟨e,.inl rfl⟩
theorem wN (hs:Snd l) (hl:l.length≤1024) (c:Nat):jC l c=some (tr l c):=by
 unfold jC;rcases aT c l.length with h | h
 ·have hd:decide ((c:Int) < (l.length:Int))=true:=by simp; exact h
  simp only [hd,gS,be h,bsm];by_cases h3:kd l c=3
  ·have hb:(l[c].Kind==3)=true:=by rw [←kJ h,h3]; rfl
   obtain ⟨h0,_⟩:=hs.three h3;have e1:w64 ((c:Int) - 1)=((c - 1:Nat):Int):=by rw [aF (by omega)]; omega
   rw [hb,ae rfl,e1,be (by omega:c - 1 < l.length)];simp only [bsm];rw [kP (by omega)];simp only [bsm];rw [be (by rw [cq]; exact h)];simp only [bsm];rw [kP (by rw [cq]; exact h)];simp only [bsm]
   congr 1
   refine jc (by simp) fun i hi=>?_;unfold trc;by_cases q1:c=i
   ·subst q1;rw [bp (by rw [cq]; exact h),ae ⟨h3,.inl rfl⟩];rfl
   ·rw [aX q1];by_cases q2:c - 1=i
    ·subst q2;rw [bp (by omega),ae ⟨h3,.inr (by omega)⟩];rfl
    ·rw [aX q2,af (by rintro ⟨_,q⟩; omega),ao,ag hi];rfl
  ·have hb:(l[c].Kind==3)=false:=by rw [←kJ h]; simp [h3]
   rw [hb,af (by decide),Ez h3]
 ·have hd:decide ((c:Int) < (l.length:Int))=false:=by simp; exact h
  simp only [hd,ip,bsm];rw [af (by decide),Ez (by rw [mj h]; decide)]
theorem wM (hl:l.length≤1024) (c:Nat):dI l c=some (tr l c):=by
 unfold dI;refine xx (uY (n:=l.length) (trc l c) (t:=tr l c) (fun i hi=>?_) ?_ (by omega)) rfl
 ·simp only [dlt hi,bm,be hi,bsm,eH hi (by omega),bq];have hz:bO (decide ((c:Int) < (l.length:Int))) ((idx l c).bind fun x_29=>some (x_29.Kind==3))=some (kd l c==3):=by
   rcases aT c l.length with h | h
   ·have hd:decide ((c:Int) < (l.length:Int))=true:=by simp; exact h
    simp only [hd,gS,be h,bsm,←kJ h]
   ·have hd:decide ((c:Int) < (l.length:Int))=false:=by simp; exact h
    simp only [hd,ip];rw [mj h];rfl
  simp only [hz,bsm,aZ];rw [show (kd l c==3 && ((i:Int)==(c:Int) || ((i+1:Nat):Int)==(c:Int)))=decide (kd l c=3∧(i=c∨i+1=c)) by
   rw [ci];simp only [aq,aD,aU,an];omega]
  have hx:(if decide (kd l c=3∧(i=c∨i+1=c))=true then (some (0,([]:List Int)):Option (Int×(List Int))) else (some (l[i].Kind,l[i].Text):Option (Int×(List Int))))=some ((trc l c i).Kind,(trc l c i).Text):=by
   unfold trc;split
   ·rename_i h
    rw [ae (ro h)];rfl
   ·rename_i h
    rw [af (by simpa using h),ao,ag hi];rfl
  rw [hx];simp only [bsm];rw [cK (by simp; omega)];rfl
 ·simp only [dnl];rfl
def inx (l:List ab) (c n j:Nat):ab:=if j < c then (tr l c).getD j bl else if j < c+n then bl else (tr l c).getD (j - n) bl
def uj (l:List ab) (c n j:Nat):ab:=if j+1=l.length∧(inx l c n j).Kind=2 then bl else inx l c n j
def vf (l:List ab) (c n:Nat):List ab:=(List.range l.length).map (uj l c n)
theorem oa (l:List ab) (c n:Nat):(vf l c n).length=l.length:=by simp [vf]
theorem yr {c n j:Nat} (h:j < l.length):(vf l c n)[j]? = some (uj l c n j):=by simp [vf,h]
theorem ve (l:List ab) (c n j:Nat):(inx l c n j).Kind=if j < c then kd (tr l c) j else if j < c+n then 0 else kd (tr l c) (j - n):=by
 unfold inx;split
 ·exact mS _ _
 ·split
  ·rfl
  ·exact mS _ _
theorem sF (l:List ab) (c n j:Nat) (h:j < l.length):kd (vf l c n) j=if j+1=l.length∧(inx l c n j).Kind=2 then 0 else (inx l c n j).Kind:=by
 rw [show kd (vf l c n) j=(uj l c n j).Kind by simp [kd,yr h]];unfold uj;split <;> rfl
theorem ss (hs:Snd l) (j:Nat):rgt (l.getD j bl)=true:=by
 rcases aT j l.length with h | h
 ·exact hs.rg h
 ·rw [ao,aO h];rfl
theorem DZ {A:Prop} [Decidable A] {X:Int} (h:(if A∧X=2 then (0:Int) else X)=2):X=2∧¬A:=by
 by_cases q:A∧X=2
 ·rw [ae q] at h; omega
 ·rw [af q] at h; exact ⟨h,fun a=>q ⟨a,h⟩⟩
theorem Bj {A:Prop} [Decidable A] {X:Int} (h:(if A∧X=2 then (0:Int) else X)=3):X=3:=by
 by_cases q:A∧X=2
 ·rw [ae q] at h; omega
 ·rwa [af q] at h
theorem CC {A:Prop} [Decidable A] {X:Int} (h:X≠2):(if A∧X=2 then (0:Int) else X)=X:=af fun q=>h q.2
theorem yq (hs:Snd l) (c n:Nat):Snd (vf l c n):=fun j hj=>by
 have hj':j < l.length:=by rw [oa] at hj; exact hj
 have he:(vf l c n)[j]=uj l c n j:=by
  have:=yr (c:=c) (n:=n) hj';rw [ag hj] at this;exact bz this
 have ht:=wL hs c;have hlen:=pY l c;have hat:=uX l c;rw [←kJ hj,he];refine ⟨?_,?_,?_⟩
 ·unfold uj;split
  ·rfl
  ·unfold inx;split
   ·exact ss ht j
   ·split
    ·rfl
    ·exact ss ht (j - n)
 ·intro e;rw [sF l c n j hj',ve] at e;obtain ⟨e,hl⟩:=DZ e
  ·rw [sF l c n (j+1) (by omega),ve];have key:(if j+1 < c then kd (tr l c) (j+1) else if j+1 < c+n then 0 else kd (tr l c) (j+1 - n))=3:=by
    split at e
    ·have h3:=ht.two e;rw [ae]
     ·exact h3
     ·rcases aT (j+1) c with q | q
      ·exact q
      ·obtain rfl:c=j+1:=by omega
       exact absurd h3 hat
    ·split at e
     ·cases e
     ·have h3:=ht.two e;rw [af (by omega),af (by omega),show j+1 - n=j - n+1 by omega];exact h3
   rw [key];exact CC (by decide)
 ·intro e;rw [sF l c n j hj',ve] at e;have e':=Bj e;split at e'
  ·obtain ⟨h0,h2⟩:=ht.three e';refine ⟨h0,?_⟩;rw [sF l c n (j - 1) (by omega),ve,af (by rintro ⟨q,_⟩; omega),ae (by omega)];exact h2
  ·split at e'
   ·cases e'
   ·obtain ⟨h0,h2⟩:=ht.three e';have hne:j - n≠c:=by
     intro q;rw [q] at e';exact hat e'
    refine ⟨by omega,?_⟩;rw [sF l c n (j - 1) (by omega),ve,af (by rintro ⟨q,_⟩; omega),af (by omega),af (by omega),show j - 1 - n=j - n - 1 by omega];exact h2
theorem Fo (hl:l.length≤1024) {c n:Nat} (hc:c < l.length) (h1:1≤n) (hn:c+n≤l.length):jo (tr l c) n c=some (vf l c n):=by
 unfold jo;have htl:=pY l c;rw [tQ,show (max 0 (min (n:Int) 1024)).toNat=n by omega];simp only [bsm];have hi:jK (tr l c) c (List.replicate n bl)=some ((tr l c).take c++List.replicate n bl++(tr l c).drop c):=by
  unfold jK;rw [ae (by rw [htl,lu]; unfold far; omega),bU]
 rw [hi];simp only [bsm];have hO:slc ((tr l c).take c++List.replicate n bl++(tr l c).drop c) 0 ((tr l c).length:Int)=some ((List.range l.length).map (inx l c n)):=by
  have:=nJ (xs:=(tr l c).take c++List.replicate n bl++(tr l c).drop c) (i:=0) (j:=(tr l c).length) (by omega) (by simp [htl]; omega);rw [show ((0:Nat):Int)=0 by rfl] at this;rw [this]
  congr 1
  refine jc (by simp [htl]; omega) fun i hi=>?_;rw [jx,aS,ae (by omega),aL];unfold inx;have htk:((tr l c).take c).length=c:=by simp [htl]; omega
  split
  ·rename_i q
   rw [aI (by omega),aS,ae q,ao,ag (by omega:i < (tr l c).length)];rfl
  ·rename_i q
   rw [ba (by omega),htk];split
   ·rw [aI (by simp; omega),mP,ae (by omega)]
   ·rw [ba (by simp; omega),lu,bK,show c+(i - c - n)=i - n by omega,ao,ag (by omega:i - n < (tr l c).length)];rfl
 rw [hO];simp only [bsm];have e1:w64 (((tr l c).length:Int) - 1)=((l.length - 1:Nat):Int):=by rw [aF (by omega),htl]; omega
 rw [e1,be (by simp; omega)];simp only [bsm,dR,xD];by_cases hk:(inx l c n (l.length - 1)).Kind=2
 ·rw [ae (by rw [hk]; rfl),kP (by simp; omega)];simp only [bsm]
  congr 1
  refine jc (by simp) fun i hi=>?_;unfold uj;by_cases q:l.length - 1=i
  ·subst q;rw [bp (by simp; omega),ae ⟨by omega,hk⟩];rfl
  ·rw [aX q,af (by rintro ⟨q,_⟩; omega)];simp [hi]
 ·rw [af (by simp; exact hk)];simp only [bsm]
  congr 1
  refine jc (by simp) fun i hi=>?_;unfold uj;by_cases q:l.length - 1=i
  ·subst q;rw [af (by rintro ⟨_,q⟩; exact hk q)];simp [hi]
  ·rw [af (by rintro ⟨q,_⟩; omega)];simp [hi]
def tt (l:List ab) (c n:Nat):List ab:=tr (tr l c) (c+n)
theorem yX (l:List ab) (c n:Nat):(tt l c n).length=l.length:=by simp [tt,pY]
def dlx (l:List ab) (c n j:Nat):ab:=if j < c then (tt l c n).getD j bl else if j+n < l.length then (tt l c n).getD (j+n) bl else bl
def vj (l:List ab) (c n:Nat):List ab:=(List.range l.length).map (dlx l c n)
theorem ow (l:List ab) (c n:Nat):(vj l c n).length=l.length:=by simp [vj]
theorem yE {c n j:Nat} (h:j < l.length):(vj l c n)[j]? = some (dlx l c n j):=by simp [vj,h]
theorem qO (l:List ab) (c n j:Nat) (h:j < l.length):kd (vj l c n) j=if j < c then kd (tt l c n) j else if j+n < l.length then kd (tt l c n) (j+n) else 0:=by
 rw [show kd (vj l c n) j=(dlx l c n j).Kind by simp [kd,yE h]];unfold dlx;split
 ·exact mS _ _
 ·split
  ·exact mS _ _
  ·rfl
theorem yD (hs:Snd l) (c n:Nat):Snd (vj l c n):=fun j hj=>by
 have hj':j < l.length:=by rw [ow] at hj; exact hj
 have he:(vj l c n)[j]=dlx l c n j:=by
  have:=yE (c:=c) (n:=n) hj';rw [ag hj] at this;exact bz this
 have ht:Snd (tt l c n):=wL (wL hs c) (c+n);have hlen:=yX l c n;have hat1:kd (tt l c n) c≠3:=by
  unfold tt;rw [Af];split
  ·decide
  ·exact uX l c
 have hat2:kd (tt l c n) (c+n)≠3:=uX _ _;rw [←kJ hj,he];refine ⟨?_,?_,?_⟩
 ·unfold dlx;split
  ·exact ss ht j
  ·split
   ·exact ss ht _
   ·rfl
 ·intro e;rw [qO l c n j hj'] at e;split at e
  ·have h3:=ht.two e;have hlt:=tX (l:=tt l c n) (j:=j+1) (by omega);rw [qO l c n (j+1) (by omega),ae]
   ·exact h3
   ·rcases aT (j+1) c with q | q
    ·exact q
    ·obtain rfl:c=j+1:=by omega
     exact absurd h3 hat1
  ·split at e
   ·have h3:=ht.two e;have hlt:=tX (l:=tt l c n) (j:=j+n+1) (by omega);rw [qO l c n (j+1) (by omega),af (by omega),ae (by omega),show j+1+n=j+n+1 by omega];exact h3
   ·omega
 ·intro e;rw [qO l c n j hj'] at e;split at e
  ·obtain ⟨h0,h2⟩:=ht.three e;refine ⟨h0,?_⟩;rw [qO l c n (j - 1) (by omega),ae (by omega)];exact h2
  ·split at e
   ·obtain ⟨h0,h2⟩:=ht.three e;have hne:j≠c:=by
     intro q;rw [q] at e;exact hat2 e
    refine ⟨by omega,?_⟩;rw [qO l c n (j - 1) (by omega),af (by omega),ae (by omega),show j - 1+n=j+n - 1 by omega];exact h2
   ·omega
theorem FA (hs:Snd l) (hl:l.length≤1024) {c n:Nat} (hc:c < l.length) (h1:1≤n) (hn:c+n≤l.length):jp (tr l c) n c=some (vj l c n):=by
 unfold jp;have htl:=yX l c n;have e1:w64 ((c:Int)+(n:Int))=((c+n:Nat):Int):=by rw [aF (by omega)]; simp
 rw [e1,wN (wL hs c) (by rw [pY]; exact hl)];simp only [bsm];rw [show tr (tr l c) (c+n)=tt l c n by rfl];have hd:jL (tt l c n) c ((c+n:Nat):Int)=some ((tt l c n).take c++(tt l c n).drop (c+n)):=by
  unfold jL;rw [ae (by rw [htl]; omega),bU,bU]
 rw [hd,tQ,show (max 0 (min (n:Int) 1024)).toNat=n by omega];simp only [bsm];rw [cK (by simp [htl]; omega)];simp only [bsm]
 congr 1
 refine jc (by simp [htl]; omega) fun i hi=>?_;unfold dlx;have htk:((tt l c n).take c).length=c:=by simp [htl]; omega
 rw [aL];split
 ·rename_i q
  rw [aI (by omega),aS,ae q,ao,ag (by omega:i < (tt l c n).length)];rfl
 ·rename_i q
  rw [ba (by omega),htk];split
  ·rw [aI (by simp [htl]; omega),bK,show c+n+(i - c)=i+n by omega,ao,ag (by omega:i+n < (tt l c n).length)];rfl
  ·rw [ba (by simp [htl]; omega),mP,ae (by simp [htl]; omega)]
theorem ye (h:p.length=l.length):pl l 0 p=p:=by
 symm
 refine jc h fun i hi=>?_;unfold pc;rw [ae ⟨cH _,by omega⟩,ns,ao,ag (by omega)];rfl
theorem yd (h1:1≤l.length):pw l w 0 l.length=false:=by
 unfold pw tch;rw [show decide (0 < l.length)=true by simp; omega,show decide (0≤l.length - 1)=true by simp,show decide (l.length - 1 < 0+l.length)=true by simp; omega];simp
def mvs (col n:Int) (m:Nat):Bool:=decide (0≤col) && decide (col < (m:Int)) && decide (1≤n)
def ish (l:List ab) (w:Bool) (col n:Int):bh:=if mvs col n l.length=true then ⟨vf l col.toNat (min n ((l.length:Int) - col)).toNat,false⟩ else ⟨l,w⟩
def dsh (l:List ab) (w:Bool) (col n:Int):bh:=if mvs col n l.length=true then ⟨vj l col.toNat (min n ((l.length:Int) - col)).toNat,false⟩ else ⟨l,w⟩
theorem D0 (hs:Snd l) (col n:Int):Snd (ish l w col n).cells:=by
 unfold ish;split
 ·exact yq hs _ _
 ·exact hs
theorem Ee (hs:Snd l) (col n:Int):Snd (dsh l w col n).cells:=by
 unfold dsh;split
 ·exact yD hs _ _
 ·exact hs
theorem D1 (col n:Int):(ish l w col n).cells.length=l.length:=by
 unfold ish;split
 ·exact oa _ _ _
 ·rfl
theorem Ef (col n:Int):(dsh l w col n).cells.length=l.length:=by
 unfold dsh;split
 ·exact ow _ _ _
 ·rfl
theorem uw {col n:Int} {m:Nat}:(decide (col < 0) || decide (col≥(m:Int)) || decide (n < 1))= !mvs col n m:=by
 rw [ci];simp only [mvs,aD,du,FW,an,ko];omega
theorem xc {col n:Int} {m:Nat} (h:mvs col n m=true):∃c e:Nat,col=(c:Int)∧min n ((m:Int) - col)=(e:Int)∧c < m∧1≤e∧c+e≤m:=by
 simp only [mvs,aq,an] at h;exact ⟨col.toNat,(min n ((m:Int) - col)).toNat,by omega,by omega,by omega,by omega,by omega⟩
theorem AH (h:s.row_Row[k]? = some ⟨l,w⟩) (hs:Snd l) (hl:l.length≤1024) (col n:Int):kb s (some k) col n=some (s.sr k (ish l w col n)):=by
 unfold kb ei;simp only [iU h,bsm,bq,uw];unfold ish;by_cases hm:mvs col n l.length=true
 ·obtain ⟨c,e,rfl,he,h1,h2,h3⟩:=xc hm;rw [af (by rw [hm]; decide),ae hm,qM h (by omega) hs.sht];simp only [bsm,wN hs hl];have e1:aB n (w64 ((l.length:Int) - (c:Int)))=(e:Int):=by rw [aF (by omega),dm]; exact he
  rw [e1,Fo hl h1 h2 h3,he];simp only [bsm,bU];have:=nU h hs hl (yq hs c e) (a:=0) (by rw [oa]; omega) (by rw [oa]; omega);rw [show ((0:Nat):Int)=0 by rfl] at this;rw [this,ye (oa l c e),oa,yd (by omega)];rfl
 ·rw [ae (by simpa using hm),af hm,xO h];rfl
theorem AJ (h:s.row_Row[k]? = some ⟨l,w⟩) (hs:Snd l) (hl:l.length≤1024) (col n:Int):ke s (some k) col n=some (s.sr k (dsh l w col n)):=by
 unfold ke ej;simp only [iU h,bsm,bq,uw];unfold dsh;by_cases hm:mvs col n l.length=true
 ·obtain ⟨c,e,rfl,he,h1,h2,h3⟩:=xc hm;rw [af (by rw [hm]; decide),ae hm,qM h (by omega) hs.sht];simp only [bsm,wN hs hl];have e1:aB n (w64 ((l.length:Int) - (c:Int)))=(e:Int):=by rw [aF (by omega),dm]; exact he
  rw [e1,FA hs hl h1 h2 h3,he];simp only [bsm,bU];have:=nU h hs hl (yD hs c e) (a:=0) (by rw [ow]; omega) (by rw [ow]; omega);rw [show ((0:Nat):Int)=0 by rfl] at this;rw [this,ye (ow l c e),ow,yd (by omega)];rfl
 ·rw [ae (by simpa using hm),af hm,xO h];rfl
theorem DE (hl:l.length≤1024) (col n:Int) (w:Bool):eX l col n=some ((ish l w col n).cells,mvs col n l.length):=by
 unfold eX;simp only [bsm,bq,uw];unfold ish;by_cases hm:mvs col n l.length=true
 ·rw [hm];obtain ⟨c,e,rfl,he,h1,h2,h3⟩:=xc hm;have e1:aB n (w64 ((l.length:Int) - (c:Int)))=(e:Int):=by rw [aF (by omega),dm]; exact he
  rw [af (by decide),ae rfl,wM hl,e1,he];simp only [bsm,bU];refine xx (uY (n:=l.length) (uj l c e) (t:=vf l c e) (fun i hi=>?_) ?_ (by omega)) rfl
  ·have e2:w64 ((c:Int)+(e:Int))=((c+e:Nat):Int):=by rw [aF (by omega)]; simp
   simp only [dlt hi,bm,eH hi (by omega),e2,aZ,bsm];have htl:=pY l c;have hx:((if decide ((i:Int) < (c:Int))=true then (idx (tr l c) (i:Int)).bind fun x=>(some (x.Kind,x.Text):Option (Int×(List Int))) else (some (0,([]:List Int)):Option (Int×(List Int)))).bind fun z=>
     if decide ((i:Int)≥((c+e:Nat):Int))=true then (idx (tr l c) (w64 ((i:Int) - (e:Int)))).bind fun x=>(some (x.Kind,x.Text):Option (Int×(List Int))) else (some (z.1,z.2):Option (Int×(List Int))))=some ((inx l c e i).Kind,(inx l c e i).Text):=by
    unfold inx;by_cases q1:i < c
    ·rw [ae (by simp; omega),be (by omega:i < (tr l c).length)];simp only [bsm];rw [af (by simp; omega),ae q1,ao,ag (by omega:i < (tr l c).length)];rfl
    ·rw [af (by simp; omega),af q1];simp only [bsm];by_cases q2:i < c+e
     ·rw [af (by simp; omega),ae q2];rfl
     ·have e3:w64 ((i:Int) - (e:Int))=((i - e:Nat):Int):=by rw [aF (by omega)]; omega
      rw [ae (by simp; omega),af q2,e3,be (by omega:i - e < (tr l c).length),ao,ag (by omega:i - e < (tr l c).length)];rfl
   refine (Hn _ _ _).symm.trans ?_;rw [hx];simp only [bsm];have hy:(if (((i+1:Nat):Int)==(l.length:Int) && (inx l c e i).Kind==2)=true then (some (0,([]:List Int)):Option (Int×(List Int))) else (some ((inx l c e i).Kind,(inx l c e i).Text):Option (Int×(List Int))))=some ((uj l c e i).Kind,(uj l c e i).Text):=by
    unfold uj;by_cases q:i+1=l.length∧(inx l c e i).Kind=2
    ·rw [ae (by simp only [aq,aU]; omega),ae q];rfl
    ·rw [af (by simp only [aq,aU]; omega),af q]
   rw [hy];simp only [bsm];rw [cK (by simp; omega)];rfl
  ·simp only [dnl];rfl
 ·rw [ae (by simpa using hm),af hm];simp only [td] at hm;rw [hm]
theorem DF (hl:l.length≤1024) (col n:Int) (w:Bool):eY l col n=some ((dsh l w col n).cells,mvs col n l.length):=by
 unfold eY;simp only [bsm,bq,uw];unfold dsh;by_cases hm:mvs col n l.length=true
 ·rw [hm];obtain ⟨c,e,rfl,he,h1,h2,h3⟩:=xc hm;have e1:aB n (w64 ((l.length:Int) - (c:Int)))=(e:Int):=by rw [aF (by omega),dm]; exact he
  have e2:w64 ((c:Int)+(e:Int))=((c+e:Nat):Int):=by rw [aF (by omega)]; simp
  rw [af (by decide),ae rfl,wM hl,e1,he];simp only [bsm,bU,e2];rw [wM (by rw [pY]; exact hl)];simp only [bsm];rw [show tr (tr l c) (c+e)=tt l c e by rfl];refine xx (uY (n:=l.length) (dlx l c e) (t:=vj l c e) (fun i hi=>?_) ?_ (by omega)) rfl
  ·have htl:=yX l c e;have e3:w64 ((i:Int)+(e:Int))=((i+e:Nat):Int):=by rw [aF (by omega)]; simp
   simp only [dlt hi,bm,eH hi (by omega),e3];have hx:(if decide ((i:Int) < (c:Int))=true then (idx (tt l c e) (i:Int)).bind fun x=>(some (x.Kind,x.Text):Option (Int×(List Int))) else if decide (((i+e:Nat):Int) < (l.length:Int))=true then (idx (tt l c e) ((i+e:Nat):Int)).bind fun x=>(some (x.Kind,x.Text):Option (Int×(List Int))) else (some (0,([]:List Int)):Option (Int×(List Int))))=some ((dlx l c e i).Kind,(dlx l c e i).Text):=by
    unfold dlx;by_cases q1:i < c
    ·rw [ae (by simp; omega),be (by omega:i < (tt l c e).length),ae q1,ao,ag (by omega:i < (tt l c e).length)];rfl
    ·rw [af (by simp; omega),af q1];by_cases q2:i+e < l.length
     ·rw [ae (by simp only [an]; omega),ae q2,be (by omega:i+e < (tt l c e).length),ao,ag (by omega:i+e < (tt l c e).length)];rfl
     ·rw [af (by simp only [an]; omega),af q2];rfl
   rw [hx];simp only [bsm];rw [cK (by simp; omega)];rfl
  ·simp only [dnl];rfl
 ·rw [ae (by simpa using hm),af hm];simp only [td] at hm;rw [hm]
end Go.Proofs.YthokmpbbkpjhbaaGreatDoor
namespace Go.Proofs.YthokmpbbkpjhbaaGreatDoor
open Go Go.Lt
variable {s C:Sto} {g k W:Nat} {ks:List Nat} {q:aa}
def w38 (o:bc):Int:=if o.Kind < 2∨12 < o.Kind then 5 else if (o.Kind=3∨o.Kind=4)∧(o.A < 0∨2 < o.A) then 3 else 0
def e38 (o:bc):Er:=if w38 o=5 then .sent 4 else if w38 o=3 then .sent 0 else .nil
theorem BH (o:bc):w38 o=5∨w38 o=3∨w38 o=0:=by
  unfold w38
  repeat' split
  all_goals simp
theorem yb (o:bc):fk o=some (w38 o):=by
  unfold fk w38;simp only [bq,bsm,aZ];by_cases h:o.Kind < 2∨12 < o.Kind
  · rw [ae h,ae (by simp only [aD,an]; omega)]
  · rw [af h,af (by simp only [aD,an]; omega)]
    by_cases h2:(o.Kind=3∨o.Kind=4)∧(o.A < 0∨2 < o.A)
    · rw [ae h2,ae (by simp only [aq,aD,an,aU]; omega)]
    · rw [af h2,af (by simp only [aq,aD,an,aU]; omega)]
def Bq (n:Int):Bool:=decide (2≤n) && decide (n≤12)
theorem Bp (n:Int):mz n=some (Bq n):=by
  unfold mz Bq;simp only [aZ,bsm,zw]
theorem GE (o:bc):Bq o.Kind=(w38 o != 5):=by
  rw [ci];unfold Bq w38;simp only [aq,an,mI,ww]
  repeat' split
  all_goals omega
theorem vi (o:bc):kF o=some (e38 o):=by
  unfold kF;rw [Bp];have hd:Bq o.Kind= !decide (o.Kind < 2∨12 < o.Kind):=by
    rw [ci];simp only [Bq,aq,an,du,ko];omega
  simp only [bsm,hd,aZ,bq,Bool.not_not];unfold e38;by_cases h:o.Kind < 2∨12 < o.Kind
  · have e:w38 o=5:=by unfold w38; rw [ae h]
    rw [ae (by simpa using h),ae e]
  · rw [af (by simpa using h)]
    by_cases h2:(o.Kind=3∨o.Kind=4)∧(o.A < 0∨2 < o.A)
    · have e:w38 o=3:=by unfold w38; rw [af h,ae h2]
      rw [ae (by simp only [aq,aD,an,mI,ww]; omega),e];rfl
    · have e:w38 o=0:=by unfold w38; rw [af h,af h2]
      rw [af (by simp only [aq,aD,an,mI,ww]; omega),e];rfl
theorem CU (o:bc):nf (e38 o)=some (w38 o):=by
  unfold e38;rcases BH o with h | h | h <;> rw [h] <;> rfl
theorem Ed (o:bc):(e38 o).isNil=(w38 o==0):=by
  unfold e38;rcases BH o with h | h | h <;> rw [h] <;> rfl
def lt (r:bh):ak:=⟨r.cells,r.wrap⟩
theorem Dh (h:Pv C s k g W q ks) {i:Nat} (hi:i < ks.length) (x a b:Int):cN q i x a b=some ⟨q.L.set i (lt (ac (q.L.getD i dl).Cells (q.L.getD i dl).Wrap x a b)),q.At,q.Auto⟩:=by
  have hl:=h.len;have hlt:i < q.L.length:=by omega
  have hok:=h.ok _ (aG hlt);have w2:=h.g.w2;unfold cN;rw [be hlt];simp only [bsm];rw [DG _ _ (by rw [hok.2]; exact w2)];simp only [bsm];rw [su h hi,gdl hlt];rfl
theorem Pv.ac (h:Pv C s k g W q ks) {i:Nat} (hi:i < ks.length) (x a b:Int):Pv C (s.sr ks[i] (ac (q.L.getD i dl).Cells (q.L.getD i dl).Wrap x a b)) k g W ⟨q.L.set i (lt (Go.Proofs.YthokmpbbkpjhbaaGreatDoor.ac (q.L.getD i dl).Cells (q.L.getD i dl).Wrap x a b)),q.At,q.Auto⟩ ks:=by
  have hl:=h.len;have hlt:i < q.L.length:=by omega
  have hok:=h.ok _ (aG hlt);have e:q.L.getD i dl=q.L[i]:=gdl hlt;rw [e];exact h.row hi (FJ hok.1 x a b) (by rw [FK]; exact hok.2)
theorem Pv.rw_ (h:Pv C s k g W q ks) {i:Nat} (hi:i < ks.length):s.row_Row[ks[i]]? = some ⟨(q.L.getD i dl).Cells,(q.L.getD i dl).Wrap⟩∧Snd (q.L.getD i dl).Cells∧(q.L.getD i dl).Cells.length=W:=by
  have hl:=h.len;have hlt:i < q.L.length:=by omega
  have hok:=h.ok _ (aG hlt);obtain ⟨r,h1,h2,h3⟩:=h.g.at hi;have e:q.L[i]=⟨r.cells,r.wrap⟩:=by rw [h.at hi,mW h1]
  rw [gdl hlt,e];exact ⟨h1,h2,h3⟩
def md (mode:Int):Int:=if mode=0 then 2 else if mode=1 then 1 else 3
theorem wH (h:Pv C s k g W q ks) {i:Nat} (hi:i < ks.length) (hr:q.At.Row=(i:Int)) (mode:Int):lA s (some k) mode=some (s.sr ks[i] (ac (q.L.getD i dl).Cells (q.L.getD i dl).Wrap (md mode) q.At.Col 0)):=by
  obtain ⟨r1,r2,r3⟩:=h.rw_ hi;have w2:=h.g.w2;unfold lA md;simp only [bsm,h.p,hr];rw [eV h.g hi];simp only [bsm];by_cases h0:mode=0
  · rw [ae (by simpa using h0),ae h0,yz r1 r2 (by omega) _ 0]
    rfl
  · rw [af (by simpa using h0),af h0]
    by_cases h1:mode=1
    · rw [ae (by simpa using h1),ae h1,zA r1 r2 (by omega) _ 0]
      rfl
    · rw [af (by simpa using h1),af h1,wG r1 r2 (by omega) q.At.Col 0]
      rfl
def eS (cond:Nat→Bool) (L:List ak):Nat→List ak
  | 0=>L
  | i+1=>if cond i=true then (eS cond L i).set i (lt (ac ((eS cond L i).getD i dl).Cells ((eS cond L i).getD i dl).Wrap 3 0 0)) else eS cond L i
def cnd (mode:Int) (row:Int) (i:Nat):Bool:=mode==2 || (mode==0 && decide ((i:Int) > row)) || (mode==1 && decide ((i:Int) < row))
theorem xS (h:Pv C s k g W q ks) (mode:Int) {H:Int} (hH:H=(ks.length:Int)):∃s',(cB (σ:=Int×Sto) (τ:=Sto) ((H - 0).toNat+1) (fun s_12=>
 if (decide (s_12.1 < H))=true then
 ((orE (mode==2) ((bO (mode==0) ((s_12.2.place_Pen[k]?).bind fun o_32=>
 some (decide (s_12.1 > o_32.At.Row)))).bind fun d_25=>
 some d_25)).bind fun d_21=>
 (orE d_21 ((bO (mode==1) ((s_12.2.place_Pen[k]?).bind fun o_45=>
 some (decide (s_12.1 < o_45.At.Row)))).bind fun d_38=>
 some d_38)).bind fun d_34=>
 if d_34=true then
 (s_12.2.place_Pen[k]?).bind fun o_51=>
 (bv s_12.2 o_51.G s_12.1).bind fun x_53=>
 (kj s_12.2 x_53).bind fun x_54=>
 (some (x_54):Option (Sto))
 else
 (some (s_12.2):Option (Sto))).bind fun z_15=>
 some (.inl ((w64 (s_12.1+1)),z_15))
 else
 some (.inr (s_12.2))) (0,s))=some s'∧Pv C s' k g W ⟨eS (cnd mode q.At.Row) q.L ks.length,q.At,q.Auto⟩ ks:=by
  subst hH;have hh:=h.g.h2;refine dC (n:=ks.length) (fun i st=>st.1=(i:Int)∧Pv C st.2 k g W ⟨eS (cnd mode q.At.Row) q.L i,q.At,q.Auto⟩ ks) (fun st=>Pv C st k g W ⟨eS (cnd mode q.At.Row) q.L ks.length,q.At,q.Auto⟩ ks) (fun i st hi hI=>?_) (fun st hI=>?_) ⟨rfl,h⟩ (by omega)
  · obtain ⟨i',st⟩:=st
    obtain ⟨e,v⟩:=hI;simp only at e v;subst e;simp only;rw [ae (dlt hi)];have hp:=v.p;simp only at hp;simp only [hp,bsm,aZ,bq];rw [eH hi (by omega)];by_cases hc:cnd mode q.At.Row i=true
    · rw [ae (show (mode==2 || mode==0 && decide ((i:Int) > q.At.Row) || mode==1 && decide ((i:Int) < q.At.Row))=true from hc),eV v.g hi]
      obtain ⟨r1,r2,r3⟩:=v.rw_ hi;simp only [bsm];have w2:=h.g.w2;rw [wG r1 r2 (by omega) 0 0];refine .inl ⟨_,rfl,rfl,?_⟩;simp only [eS];rw [ae hc];exact v.ac hi 3 0 0
    · rw [af (show ¬(mode==2 || mode==0 && decide ((i:Int) > q.At.Row) || mode==1 && decide ((i:Int) < q.At.Row))=true from hc)]
      refine .inl ⟨_,rfl,rfl,?_⟩;simp only [eS];rw [af hc];exact v
  · obtain ⟨i',st⟩:=st
    obtain ⟨e,v⟩:=hI;simp only at e v;subst e;exact ⟨st,by simp,v⟩
theorem zt (h:Pv C s k g W q ks) (kind mode:Int):(cB (σ:=Int×(List ak)×Int×Int×Bool×Bool) (τ:=((List ak)×Int×Int×Bool×Bool)) (((q.L.length:Int) - 0).toNat+1) (fun s_23=>
 (bO (decide (s_23.1 < (s_23.2.1.length:Int))) (some (kind==4))).bind fun d_29=>
 if d_29=true then
 ((orE (mode==2) ((bO (mode==0) (some (decide (s_23.1 > s_23.2.2.1)))).bind fun d_41=>
 some d_41)).bind fun d_37=>
 (orE d_37 ((bO (mode==1) (some (decide (s_23.1 < s_23.2.2.1)))).bind fun d_52=>
 some d_52)).bind fun d_48=>
 if d_48=true then
 (cN (⟨s_23.2.1,(⟨s_23.2.2.1,s_23.2.2.2.1,s_23.2.2.2.2.1⟩:ai),s_23.2.2.2.2.2⟩:aa) s_23.1 3 0 0).bind fun x_62=>
 (some (x_62.L,x_62.At.Row,x_62.At.Col,x_62.At.Pending,x_62.Auto):Option ((List ak)×Int×Int×Bool×Bool))
 else
 (some (s_23.2.1,s_23.2.2.1,s_23.2.2.2.1,s_23.2.2.2.2.1,s_23.2.2.2.2.2):Option ((List ak)×Int×Int×Bool×Bool))).bind fun z_34=>
 some (.inl ((w64 (s_23.1+1)),z_34.1,z_34.2.1,z_34.2.2.1,z_34.2.2.2.1,z_34.2.2.2.2))
 else
 some (.inr (s_23.2.1,s_23.2.2.1,s_23.2.2.2.1,s_23.2.2.2.2.1,s_23.2.2.2.2.2))) (0,q.L,q.At.Row,q.At.Col,q.At.Pending,q.Auto))=
    some (if kind=4 then eS (cnd mode q.At.Row) q.L ks.length else q.L,q.At.Row,q.At.Col,q.At.Pending,q.Auto):=by
  have hh:=h.g.h2;have hl:=h.len;by_cases hk:kind=4
  · subst hk
    rw [ae rfl];obtain ⟨t,h1,h2⟩:=dC (σ:=Int×(List ak)×Int×Int×Bool×Bool) (τ:=((List ak)×Int×Int×Bool×Bool)) (n:=ks.length) (fuel:=((q.L.length:Int) - 0).toNat+1) (s:=(0,q.L,q.At.Row,q.At.Col,q.At.Pending,q.Auto))
      (fun i st=>st=((i:Int),eS (cnd mode q.At.Row) q.L i,q.At.Row,q.At.Col,q.At.Pending,q.Auto)∧∃s',Pv C s' k g W ⟨eS (cnd mode q.At.Row) q.L i,q.At,q.Auto⟩ ks) (fun t=>t=(eS (cnd mode q.At.Row) q.L ks.length,q.At.Row,q.At.Col,q.At.Pending,q.Auto))
      (step:=fun s_23=>
 (bO (decide (s_23.1 < (s_23.2.1.length:Int))) (some ((4:Int)==4))).bind fun d_29=>
 if d_29=true then
 ((orE (mode==2) ((bO (mode==0) (some (decide (s_23.1 > s_23.2.2.1)))).bind fun d_41=>
 some d_41)).bind fun d_37=>
 (orE d_37 ((bO (mode==1) (some (decide (s_23.1 < s_23.2.2.1)))).bind fun d_52=>
 some d_52)).bind fun d_48=>
 if d_48=true then
 (cN (⟨s_23.2.1,(⟨s_23.2.2.1,s_23.2.2.2.1,s_23.2.2.2.2.1⟩:ai),s_23.2.2.2.2.2⟩:aa) s_23.1 3 0 0).bind fun x_62=>
 (some (x_62.L,x_62.At.Row,x_62.At.Col,x_62.At.Pending,x_62.Auto):Option ((List ak)×Int×Int×Bool×Bool))
 else
 (some (s_23.2.1,s_23.2.2.1,s_23.2.2.2.1,s_23.2.2.2.2.1,s_23.2.2.2.2.2):Option ((List ak)×Int×Int×Bool×Bool))).bind fun z_34=>
 some (.inl ((w64 (s_23.1+1)),z_34.1,z_34.2.1,z_34.2.2.1,z_34.2.2.2.1,z_34.2.2.2.2))
 else
 some (.inr (s_23.2.1,s_23.2.2.1,s_23.2.2.2.1,s_23.2.2.2.2.1,s_23.2.2.2.2.2)))
      (fun i st hi hI=>by
        obtain ⟨rfl,s',v⟩:=hI;have hvl:(eS (cnd mode q.At.Row) q.L i).length=ks.length:=v.len;simp only [aZ,bsm,bq];rw [ae (by simp [hvl,hi]),eH hi (by omega)];by_cases hc:cnd mode q.At.Row i=true
        · rw [ae (show (mode==2 || mode==0 && decide ((i:Int) > q.At.Row) || mode==1 && decide ((i:Int) < q.At.Row))=true from hc)]
          have ha:=Dh v hi 3 0 0;rw [show (⟨eS (cnd mode q.At.Row) q.L i,⟨q.At.Row,q.At.Col,q.At.Pending⟩,q.Auto⟩:aa)=⟨eS (cnd mode q.At.Row) q.L i,q.At,q.Auto⟩ from rfl,ha];refine .inl ⟨_,rfl,?_,s'.sr ks[i] (ac ((eS (cnd mode q.At.Row) q.L i).getD i dl).Cells ((eS (cnd mode q.At.Row) q.L i).getD i dl).Wrap 3 0 0),?_⟩
          · simp only [eS]
            rw [ae hc]
          · simp only [eS]
            rw [ae hc];exact v.ac hi 3 0 0
        · rw [af (show ¬(mode==2 || mode==0 && decide ((i:Int) > q.At.Row) || mode==1 && decide ((i:Int) < q.At.Row))=true from hc)]
          refine .inl ⟨_,rfl,?_,s',?_⟩
          · simp only [eS]
            rw [af hc]
          · simp only [eS]
            rw [af hc];exact v)
      (fun st hI=>by
        obtain ⟨rfl,s',v⟩:=hI;have hvl:(eS (cnd mode q.At.Row) q.L ks.length).length=ks.length:=v.len;refine ⟨_,?_,rfl⟩;simp only [aZ,bsm];rw [af (by simp [hvl])])
      ⟨rfl,s,h⟩ (by omega)
    rw [h1,h2]
  · rw [af hk]
    have hf:(kind==4)=false:=by simpa using hk
    rw [show ((q.L.length:Int) - 0).toNat+1=q.L.length+1 by omega];simp only [cB,hf,aZ,Dk,bsm,aj,aM]
theorem BF (h:Pv C s k g W q ks) {i:Nat} (hi:i < ks.length) {c:List ab} {done:Bool} {r:bh} (hc:c=r.cells) (hd:done=true→r.wrap=false) (hn:done=false→r=⟨(q.L.getD i dl).Cells,(q.L.getD i dl).Wrap⟩) {z:aa} (hz:z=q):
    (if done=true then (bZ z i ⟨c,false⟩).bind fun x_172=>(some (x_172.L,x_172.At.Row,x_172.At.Col,x_172.At.Pending,x_172.Auto):Option ((List ak)×Int×Int×Bool×Bool))
     else (some (z.L,z.At.Row,z.At.Col,z.At.Pending,z.Auto):Option ((List ak)×Int×Int×Bool×Bool)))=some (q.L.set i (lt r),q.At.Row,q.At.Col,q.At.Pending,q.Auto):=by
  subst hz hc;have hl:=h.len
  cases done with
  | true=>
    rw [ae rfl,su h hi];simp only [bsm];unfold lt;rw [hd rfl]
  | false=>
    rw [af (by simp),hn rfl];unfold lt;rw [gdl (show i < z.L.length by omega),FT]
theorem CD {l:List ab} {w:Bool} {a b:Int}:(mvs a b l.length=true→(ish l w a b).wrap=false)∧(mvs a b l.length=false→ish l w a b=⟨l,w⟩):=by
  unfold ish;refine ⟨fun h=>by rw [ae h],fun h=>by rw [af (by rw [h]; simp)]⟩
theorem CP {l:List ab} {w:Bool} {a b:Int}:(mvs a b l.length=true→(dsh l w a b).wrap=false)∧(mvs a b l.length=false→dsh l w a b=⟨l,w⟩):=by
  unfold dsh;refine ⟨fun h=>by rw [ae h],fun h=>by rw [af (by rw [h]; simp)]⟩
theorem Ae (h:Pv C s k g W q ks) {i:Nat} (hi:i < ks.length) (hr:q.At.Row=(i:Int)) (kind:Int) {mode:Int} (hm:0≤mode∧mode≤2):∃L1,L1=q.L.set i (lt (ac (q.L.getD i dl).Cells (q.L.getD i dl).Wrap (md mode) q.At.Col 0))∧
    fj q kind mode=some ⟨if kind=4 then eS (cnd mode q.At.Row) L1 ks.length else L1,q.At,q.Auto⟩:=by
  refine ⟨_,rfl,?_⟩;unfold fj;have hidx:idx ([2,1,3]:List Int) mode=some (md mode):=by
    have:mode=0∨mode=1∨mode=2:=by omega
    rcases this with e | e | e <;> rw [e] <;> rfl
  have v:=h.ac hi (md mode) q.At.Col 0;have e0:cN q q.At.Row (md mode) q.At.Col 0=some ⟨q.L.set i (lt (ac (q.L.getD i dl).Cells (q.L.getD i dl).Wrap (md mode) q.At.Col 0)),q.At,q.Auto⟩:=by
    rw [hr];exact Dh h hi _ _ _
  rw [hidx];simp only [bsm];rw [e0];simp only [bsm];have:=zt v kind mode;simp only at this;rw [this];rfl
theorem Ea (h:Pv C s k g W q ks) (o:bc) (hw:w38 o=0):∃s' q' ks',om s (some k) o=some (s',Er.nil)∧fB q o=some q'∧Pv C s' k g W q' ks'∧ks'.length=ks.length∧Hd q'.At W ks.length∧q'.At.Pending=false:=by
  have hh:=h.g.h2;have h1:=h.g.h1;have w1:=h.g.w1;have w2:=h.g.w2;have hkind:2≤o.Kind∧o.Kind≤12:=by
    unfold w38 at hw;split at hw
    · cases hw
    · omega
  have hmode:(o.Kind=3∨o.Kind=4)→0≤o.A∧o.A≤2:=fun e=>by
    unfold w38 at hw;rw [af (by omega)] at hw;split at hw
    · cases hw
    · omega
  have hnil:e38 o=Er.nil:=by unfold e38; rw [hw]; rfl
  have hd0:=sH q.At w1 h1;have hv:Pv C (s.sp k ⟨some g,⟨(hc q.At W ks.length).Row,(hc q.At W ks.length).Col,false⟩,q.Auto⟩) k g W ⟨q.L,⟨(hc q.At W ks.length).Row,(hc q.At W ks.length).Col,false⟩,q.Auto⟩ ks:=h.set _ _;have hd:Hd ⟨(hc q.At W ks.length).Row,(hc q.At W ks.length).Col,false⟩ W ks.length:=⟨hd0.rr,hd0.cc,fun e=>by cases e⟩;unfold om fB;rw [vi,hnil,nY h];simp only [bsm,Er.isNil,cF,aj,aM,bf,ek,h.p];rw [jm h.g,eI h.g];simp only [bsm];rw [ox _ w1 w2 h1 hh];simp only [bsm];rw [iT (cz h.p)];simp only [bsm];rw [iT (by simp [Sto.sp]; exact cz h.p),we];simp only [bsm];generalize hc q.At W ks.length=c at *;obtain ⟨i,hi⟩:∃i:Nat,c.Row=(i:Int):=⟨c.Row.toNat,by have:=hd.rr; simp only at this; omega⟩;have hik:i < ks.length:=by have:=hd.rr; simp only at this; omega
  have hlen:=hv.len;simp only at hlen;obtain ⟨c1,c2,c3⟩:=c;simp only at hi hv hd;subst hi;simp only;rw [be (show i < q.L.length by omega)];simp only [bsm];generalize s.sp k ⟨some g,⟨(i:Int),c2,false⟩,q.Auto⟩=s1 at *;obtain ⟨L,⟨_,_,_⟩,au⟩:=q;simp only at hv hlen⊢;obtain ⟨r1,r2,r3⟩:=hv.rw_ hik;simp only at r1 r2 r3;obtain ⟨kd_,A,B,bs⟩:=o;simp only at hkind hmode⊢;have hcell:L[i]'(by omega)=L.getD i dl:=(gdl (by omega)).symm;rw [hcell];have:kd_=2∨kd_=3∨kd_=4∨kd_=5∨kd_=6∨kd_=7∨kd_=8∨kd_=9∨kd_=10∨kd_=11∨kd_=12:=by omega
  have hcc:=hd.cc;simp only at hcc;rcases this with e | e | e | e | e | e | e | e | e | e | e <;> subst e <;> simp only [Int.reduceBEq,aj,aM,bm,bsm]
  ·
    unfold fO;simp only [bsm,hv.p];rw [eV hv.g hik];simp only [bsm,Int.reduceBEq,bm];rw [jm hv.g,eI hv.g];simp only [bsm];unfold je;rw [ox _ w1 w2 h1 hh,qc hv,hlen];simp only [bsm];rw [ya _ w1 w2 h1 hh,iT (cz hv.p)];exact ⟨_,_,ks,rfl,rfl,hv.set (hc ⟨A,B,false⟩ W ks.length) au,rfl,sH _ w1 h1,by simp [hc]⟩
  ·
    have hm:=hmode (.inl rfl);obtain ⟨L1,e1,e2⟩:=Ae hv hik rfl 3 hm;simp only at e1;rw [e2];unfold fO;simp only [bsm,hv.p];rw [eV hv.g hik];simp only [bsm,Int.reduceBEq,aj,aM,bm];rw [wH hv hik rfl A];refine ⟨_,_,ks,rfl,rfl,?_,rfl,hd,rfl⟩;have:=hv.ac hik (md A) c2 0;simp only at this;rw [af (by decide),e1];exact this
  ·
    have hm:=hmode (.inr rfl);obtain ⟨L1,e1,e2⟩:=Ae hv hik rfl 4 hm;simp only at e1;rw [e2];unfold fO;simp only [bsm,hv.p];rw [eV hv.g hik];simp only [bsm,Int.reduceBEq,aj,aM,bm];unfold mp;rw [wH hv hik rfl A];have hv2:=hv.ac hik (md A) c2 0;simp only at hv2;rw [←e1] at hv2;simp only [bsm,hv2.p];rw [eI hv2.g];simp only [bsm];obtain ⟨s',l1,l2⟩:=xS hv2 A rfl;rw [l1];exact ⟨_,_,ks,rfl,rfl,l2,rfl,hd,rfl⟩
  ·
    unfold fO;simp only [bsm,hv.p];rw [eV hv.g hik];simp only [bsm,Int.reduceBEq,aj,aM,bm];rw [yA r1 r2 (by omega),Dh hv hik];exact ⟨_,_,ks,rfl,rfl,hv.ac hik 4 c2 A,rfl,hd,rfl⟩
  ·
    have hsn:=D0 (w:=(L.getD i dl).Wrap) r2 c2 A;have hlw:=D1 (l:=(L.getD i dl).Cells) (w:=(L.getD i dl).Wrap) c2 A;have hdn:=CD (l:=(L.getD i dl).Cells) (w:=(L.getD i dl).Wrap) (a:=c2) (b:=A);unfold fO;simp only [bsm,hv.p];rw [eV hv.g hik];simp only [bsm,Int.reduceBEq,aj,aM,bm];rw [AH r1 r2 (by omega),DE (by omega) _ _ (L.getD i dl).Wrap];simp only [bsm];have:=BF hv hik (c:=(ish (L.getD i dl).Cells (L.getD i dl).Wrap c2 A).cells) (done:=mvs c2 A (L.getD i dl).Cells.length) (r:=ish (L.getD i dl).Cells (L.getD i dl).Wrap c2 A) rfl hdn.1 hdn.2 rfl;simp only at this;rw [this];exact ⟨_,_,ks,rfl,rfl,hv.row hik hsn (by rw [hlw]; exact r3),rfl,hd,rfl⟩
  ·
    have hsn:=Ee (w:=(L.getD i dl).Wrap) r2 c2 A;have hlw:=Ef (l:=(L.getD i dl).Cells) (w:=(L.getD i dl).Wrap) c2 A;have hdn:=CP (l:=(L.getD i dl).Cells) (w:=(L.getD i dl).Wrap) (a:=c2) (b:=A);unfold fO;simp only [bsm,hv.p];rw [eV hv.g hik];simp only [bsm,Int.reduceBEq,aj,aM,bm];rw [AJ r1 r2 (by omega),DF (by omega) _ _ (L.getD i dl).Wrap];simp only [bsm];have:=BF hv hik (c:=(dsh (L.getD i dl).Cells (L.getD i dl).Wrap c2 A).cells) (done:=mvs c2 A (L.getD i dl).Cells.length) (r:=dsh (L.getD i dl).Cells (L.getD i dl).Wrap c2 A) rfl hdn.1 hdn.2 rfl;simp only at this;rw [this];exact ⟨_,_,ks,rfl,rfl,hv.row hik hsn (by rw [hlw]; exact r3),rfl,hd,rfl⟩
  ·
    obtain ⟨s',ks',u1,⟨u2,u3,u4,u5⟩,u6,u7⟩:=yC hv.g hv.nd (i:Int) (ks.length:Int) A;have hm:=qd (W:=W) (L:=L) (by omega) w2 (fun x hx=>(hv.ok x hx).2) (i:Int) (ks.length:Int) A false;rw [hlen] at hm⊢;unfold iY;simp only [bsm,hv.p];rw [eI hv.g];simp only [bsm,Int.reduceBEq,aj,aM,bm];rw [u1,hm];have hp:s'.place_Pen[k]? = some ⟨some g,⟨(i:Int),c2,false⟩,au⟩:=by rw [kB u6]; exact hv.p
    simp only [bsm,hp,dk];rw [iT (cz hp)];refine ⟨_,_,ks',rfl,rfl,⟨wP (cz hp),u2.sp _ _,u3,?_,(qL u6).trans hv.o,(hv.f.step u7 (kB u6)).sp _⟩,u4,⟨hd.rr,by simp only; omega,fun e=>by cases e⟩,rfl⟩;exact u5.trans (by rw [hv.l])
  ·
    obtain ⟨s',ks',u1,⟨u2,u3,u4,u5⟩,u6,u7⟩:=yW hv.g hv.nd (i:Int) (ks.length:Int) A;have hm:=qd (W:=W) (L:=L) (by omega) w2 (fun x hx=>(hv.ok x hx).2) (i:Int) (ks.length:Int) A true;rw [hlen] at hm⊢;unfold iY;simp only [bsm,hv.p];rw [eI hv.g];simp only [bsm,Int.reduceBEq,aj,aM,bm];rw [u1,hm];have hp:s'.place_Pen[k]? = some ⟨some g,⟨(i:Int),c2,false⟩,au⟩:=by rw [kB u6]; exact hv.p
    simp only [bsm,hp,dk];rw [iT (cz hp)];refine ⟨_,_,ks',rfl,rfl,⟨wP (cz hp),u2.sp _ _,u3,?_,(qL u6).trans hv.o,(hv.f.step u7 (kB u6)).sp _⟩,u4,⟨hd.rr,by simp only; omega,fun e=>by cases e⟩,rfl⟩;exact u5.trans (by rw [hv.l])
  ·
    obtain ⟨s',ks',u1,⟨u2,u3,u4,u5⟩,u6,u7⟩:=yW hv.g hv.nd 0 (ks.length:Int) A;have hm:=qd (W:=W) (L:=L) (by omega) w2 (fun x hx=>(hv.ok x hx).2) 0 (ks.length:Int) A true;rw [hlen] at hm⊢;unfold iY;simp only [bsm,hv.p];rw [eI hv.g];simp only [bsm,Int.reduceBEq,aj,aM,bm];rw [u1,hm];refine ⟨_,_,ks',rfl,rfl,⟨by rw [kB u6]; exact hv.p,u2,u3,?_,(qL u6).trans hv.o,hv.f.step u7 (kB u6)⟩,u4,hd,rfl⟩;exact u5.trans (by rw [hv.l])
  ·
    obtain ⟨s',ks',u1,⟨u2,u3,u4,u5⟩,u6,u7⟩:=yC hv.g hv.nd 0 (ks.length:Int) A;have hm:=qd (W:=W) (L:=L) (by omega) w2 (fun x hx=>(hv.ok x hx).2) 0 (ks.length:Int) A false;rw [hlen] at hm⊢;unfold iY;simp only [bsm,hv.p];rw [eI hv.g];simp only [bsm,Int.reduceBEq,aj,aM,bm];rw [u1,hm];refine ⟨_,_,ks',rfl,rfl,⟨by rw [kB u6]; exact hv.p,u2,u3,?_,(qL u6).trans hv.o,hv.f.step u7 (kB u6)⟩,u4,hd,rfl⟩;exact u5.trans (by rw [hv.l])
  ·
    unfold fO;simp only [bsm,hv.p];rw [eV hv.g hik];simp only [bsm,Int.reduceBEq,aj,aM,bm];rw [iT (cz hv.p)];exact ⟨_,_,ks,rfl,rfl,hv.set ⟨(i:Int),c2,false⟩ (A != 0),rfl,hd,rfl⟩
end Go.Proofs.YthokmpbbkpjhbaaGreatDoor
namespace Go.Proofs.YthokmpbbkpjhbaaGreatDoor
open Go Go.Lt
variable {s C:Sto} {g k W:Nat} {ks:List Nat} {q:aa} {l:List ab}
def rzc (l:List ab) (w j:Nat):ab:=if j < l.length∧(j+1 < w∨kd l j≠2) then l.getD j bl else bl
def rz (l:List ab) (w:Nat):List ab:=(List.range w).map (rzc l w)
theorem tn (l:List ab) (w:Nat):(rz l w).length=w:=by simp [rz]
theorem wT {w j:Nat} (h:j < w):(rz l w)[j]? = some (rzc l w j):=by simp [rz,h]
theorem EF {w j:Nat} (h:j < w):kd (rz l w) j=(rzc l w j).Kind:=by simp [kd,wT h]
theorem wS (l:List ab) (w j:Nat):(rzc l w j).Kind=if j < l.length∧(j+1 < w∨kd l j≠2) then kd l j else 0:=by
 unfold rzc;split
 ·exact mS l j
 ·rfl
theorem B0 (hs:Snd l) (w:Nat):Snd (rz l w):=fun j hj=>by
 have hjw:j < w:=by rw [tn] at hj; exact hj
 have e:(rz l w)[j]=rzc l w j:=by
  have:=wT (l:=l) hjw;rw [ag hj] at this;exact bz this
 rw [e];refine ⟨?_,fun h2=>?_,fun h3=>?_⟩
 ·unfold rzc;split
  ·rename_i h; exact hs.rg h.1
  ·rfl
 ·rw [wS] at h2;split at h2
  ·rename_i h
   have h4:=hs.two h2;have h5:j+1 < l.length:=tX (by rw [h4]; decide);have h6:j+1 < w:=by omega
   rw [EF h6,wS,ae ⟨h5,.inr (by rw [h4]; decide)⟩,h4]
  ·cases h2
 ·rw [wS] at h3;split at h3
  ·rename_i h
   obtain ⟨h4,h5⟩:=hs.three h3;have h6:j - 1 < l.length:=by omega
   refine ⟨h4,?_⟩;rw [EF (by omega),wS,ae ⟨h6,.inl (by omega)⟩,h5]
  ·cases h3
theorem E1 (w:Nat):rz [] w=List.replicate w bl:=by
 refine bT fun j=>?_;rcases aT j w with h | h
 ·rw [wT h,mP,ae h];unfold rzc;rw [af (by simp)]
 ·rw [aO (by rw [tn]; exact h),aO (by simpa using h)]
theorem D9 {n:Nat} (hn:n≤l.length) (hl:l.length≤1024):ol l n=some (if 0 < n∧kd l (n - 1)=2 then (l.take n).set (n - 1) bl else l.take n):=by
 unfold ol;rw [show (0:Int)=((0:Nat):Int) from rfl,nJ (cH _) hn,jx,ns];simp only [bsm];by_cases h0:0 < n
 ·have e:w64 ((n:Int) - 1)=((n - 1:Nat):Int):=by rw [aF (by omega)]; omega
  have hlt:n - 1 < (l.take n).length:=by simp; omega
  have hk:(l.take n)[n - 1].Kind=kd l (n - 1):=by rw [List.getElem_take,kJ (by omega)]
  rw [show decide ((n:Int) > ((0:Nat):Int))=true by simpa using h0,e,be hlt];simp only [gS,bsm,hk];by_cases h2:kd l (n - 1)=2
  ·rw [ae (by simpa using h2),ae ⟨h0,h2⟩,kP hlt];rfl
  ·rw [af (by simpa using h2),af (fun h=>h2 h.2)];rfl
 ·rw [show decide ((n:Int) > ((0:Nat):Int))=false by simpa using h0,af (fun h=>h0 h.1)];simp only [ip,bsm,aj,aM]
theorem FB (hs:Snd l) {w n:Nat} (hn:n=min w l.length) (w1:1≤w) (l1:1≤l.length):(if 0 < n∧kd l (n - 1)=2 then (l.take n).set (n - 1) bl else l.take n)++List.replicate (w - n) bl=rz l w:=by
 have hlen:(if 0 < n∧kd l (n - 1)=2 then (l.take n).set (n - 1) bl else l.take n).length=n:=by split <;> simp <;> omega
 refine bT fun j=>?_;rcases aT j w with h | h
 ·rw [wT h];rcases aT j n with hj | hj
  ·rw [aI (by omega)];have hjl:j < l.length:=by omega
   have g:l.getD j bl=l[j]:=by rw [ao,ag hjl]; rfl
   unfold rzc;split
   ·rename_i h2
    rw [lB];by_cases e:n - 1=j
    ·subst e;rw [ae rfl,ae (by simp; omega),af];rintro ⟨_,h5 | h5⟩
     ·have:=hs.two h2.2;have:=tX (l:=l) (j:=n - 1+1) (by omega);omega
     ·exact h5 h2.2
    ·rw [af e,aS,ae hj,ag hjl,ae ⟨hjl,by omega⟩,g]
   ·rename_i h2
    rw [aS,ae hj,ag hjl,ae,g];refine ⟨hjl,?_⟩;by_cases e:j+1 < w
    ·exact .inl e
    ·right
     intro h3;exact h2 ⟨by omega,by rw [show n - 1=j by omega]; exact h3⟩
  ·rw [ba (by omega),hlen,mP,ae (by omega)];unfold rzc;rw [af (by omega)]
 ·rw [aO (by rw [az,hlen,lu]; omega),aO (by rw [tn]; exact h)]
theorem zz {wr:Bool} (h:s.row_Row[k]? = some ⟨l,wr⟩) (hs:Snd l) (l1:1≤l.length) (l2:l.length≤1024) {w:Nat} (w1:1≤w) (w2:w≤1024):
  jF s (some k) w=some (s.add_row_Row ⟨rz l w,false⟩,some s.row_Row.length):=by
 have e1:aE 1 (aB (w:Int) 1024)=(w:Int):=by rw [dm,eU]; omega
 unfold jF;rw [e1];simp only [bf,aj,aM,qM h (by omega) hs.sht,iU h,bsm];obtain ⟨n,hn⟩:∃n,n=min w l.length:=⟨_,rfl⟩;rw [show aB (w:Int) (l.length:Int)=(n:Int) by rw [dm]; omega,D9 (by omega) l2];have hlen:(if 0 < n∧kd l (n - 1)=2 then (l.take n).set (n - 1) bl else l.take n).length=n:=by split <;> simp <;> omega
 have hcr:=FB hs hn w1 l1;generalize (if 0 < n∧kd l (n - 1)=2 then (l.take n).set (n - 1) bl else l.take n)=c at *;simp only [bsm];rw [hlen,aF (by omega),tQ];simp only [bsm];rw [show (max 0 (min ((w:Int) - (n:Int)) 1024)).toNat=w - n by omega,cK (by simp; omega),hcr];simp only [bsm];unfold sK;rw [B8 (by rw [tn]; exact w1) (by rw [tn]; exact w2) (B0 hs w)];rfl
theorem zj (l:List ab) (hl:l.length≤1000000) {w:Nat} (w1:1≤w) (w2:w≤1024):dV l w=some (rz l w):=by
 have e1:aE 1 (aB (w:Int) 1024)=(w:Int):=by rw [dm,eU]; omega
 unfold dV;rw [e1,nK _ (by omega),show (⟨0,[]⟩:ab)=bl from rfl,bU];simp only [bsm];obtain ⟨t,h3,h4⟩:=dC (σ:=(List ab)×Int) (τ:=(List ab)) (n:=min w l.length) (fuel:=((w:Int) - 0).toNat+1) (s:=(List.replicate w bl,0))
  (fun i q=>q=((List.range w).map (fun j=>if j < i then rzc l w j else bl),(i:Int))) (fun t=>t=rz l w)
  (step:=fun s_14=>
 (bO (decide (s_14.2 < (w:Int))) (some (decide (s_14.2 < (l.length:Int))))).bind fun d_18=>
 if d_18=true then
 ((orE (decide ((w64 (s_14.2+1)) < (w:Int))) ((idx l s_14.2).bind fun x_34=>
 some (x_34.Kind != 2))).bind fun d_30=>
 if d_30=true then
 (idx l s_14.2).bind fun x_43=>
 (idx s_14.1 s_14.2).bind fun x_45=>
 (oN s_14.1 s_14.2 x_43).bind fun w_46=>
 (some (w_46):Option ((List ab)))
 else
 (some (s_14.1):Option ((List ab)))).bind fun z_25=>
 some (.inl (z_25,(w64 (s_14.2+1))))
 else
 some (.inr (s_14.1)))
  (fun i q hi e=>by
   subst e;refine .inl ⟨_,?_,rfl⟩;have e5:w64 ((i:Int)+1)=((i+1:Nat):Int):=by rw [aF (by omega)]; simp
   have hil:i < l.length:=by omega
   have hd:(decide ((i:Int) < (w:Int)) && decide ((i:Int) < (l.length:Int)))=true:=by simp; omega
   have hlt:i < ((List.range w).map (fun j=>if j < i then rzc l w j else bl)).length:=by simp; omega
   have ho:(orE (decide (((i+1:Nat):Int) < (w:Int))) ((idx l (i:Int)).bind fun x_34=>some (x_34.Kind != 2)))=some (decide (i+1 < w∨kd l i≠2)):=by
    rw [be hil];simp only [bsm,bq,←kJ hil,aR];rw [ci];simp only [aD,an,mI];omega
   simp only [aZ,bsm,hd,bm,e5];rw [ho];simp only [bsm];have hnext:∀c:ab,c=rzc l w i→((List.range w).map (fun j=>if j < i then rzc l w j else bl)).set i c=(List.range w).map (fun j=>if j < i+1 then rzc l w j else bl):=fun c hc=>by
    refine bT fun j=>?_;rw [lB];by_cases e:i=j
    ·subst e;rw [ae rfl,ae hlt,bE,dj (by omega),hc];simp
    ·rw [af e,bE,bE];rcases aT j w with hj | hj
     ·rw [dj hj];simp only [fg,aR];by_cases h5:j < i
      ·rw [ae h5,ae (by omega)]
      ·rw [af h5,af (by omega)]
     ·rw [aO (by simpa using hj)];rfl
   by_cases hc:i+1 < w∨kd l i≠2
   ·rw [ae (by simpa using hc),be hil,be hlt];simp only [bsm];rw [kP hlt,hnext l[i] (by
     unfold rzc;rw [ae ⟨hil,hc⟩,ao,ag hil];rfl)]
    rfl
   ·rw [af (by simpa using hc)];simp only [bsm];have hb:rzc l w i=bl:=by
     unfold rzc;rw [af (fun h=>hc h.2)]
    have:=hnext bl hb.symm;rw [←this]
    congr 3
    refine (bT fun j=>?_).symm;rw [lB];by_cases e:i=j
    ·subst e;rw [ae rfl,ae hlt,bE,dj (by omega)];simp
    ·rw [af e])
  (fun q e=>⟨q.1,by
   subst e;have hd:(decide (((min w l.length:Nat):Int) < (w:Int)) && decide (((min w l.length:Nat):Int) < (l.length:Int)))=false:=by
    rw [yV];simp only [ww,aq,an];omega
   simp only [aZ,bsm,hd,aj,aM],by
   subst e;simp only;unfold rz;refine di fun j hj=>?_;rw [List.mem_range] at hj;by_cases h5:j < min w l.length
   ·rw [ae h5]
   ·rw [af h5];unfold rzc;rw [af (by omega)]⟩)
  (by
   simp only [BE,aM,gU];refine ⟨?_,rfl⟩;rw [HG,rE]) (by omega)
 subst h4;rw [h3];rfl
def cs (L:List ak) (n:Nat):List ab:=(L.getD n ⟨[],false⟩).Cells
def rs (L:List ak) (top w h:Nat):List ak:=(List.range h).map fun m=>⟨rz (cs L (top+m)) w,false⟩
def rsi (L:List ak) (top w h i:Nat):List ak:=(List.range h).map fun m=>if m < i then ⟨rz (cs L (top+m)) w,false⟩ else ⟨List.replicate w bl,false⟩
theorem zC {L:List ak} {n:Nat} (h:L.length≤n):cs L n= []:=by
 unfold cs;rw [ao,aO h];rfl
theorem CR {L:List ak} {n:Nat} (h:n < L.length):cs L n=L[n].Cells:=by
 unfold cs;rw [ao,ag h];rfl
theorem zW (L:List ak) (top w:Nat) {h i:Nat} (hi:i < h):(rsi L top w h i).set i ⟨rz (cs L (top+i)) w,false⟩=rsi L top w h (i+1):=by
 unfold rsi;refine bT fun j=>?_;rw [lB,db,rE];by_cases e:i=j
 ·subst e;rw [ae rfl,ae hi,bE,dj hi];simp
 ·rw [af e,bE,bE];rcases aT j h with hj | hj
  ·rw [dj hj];simp only [fg,aR];by_cases h5:j < i
   ·rw [ae h5,ae (by omega)]
   ·rw [af h5,af (by omega)]
  ·rw [aO (by simpa using hj)];rfl
theorem B5 (L:List ak) {top w h i:Nat} (ho:L.length≤top+i) (hi:i < h):rsi L top w h (i+1)=rsi L top w h i:=by
 rw [←zW L top w hi,zC ho,E1];refine bT fun j=>?_;rw [lB];by_cases e:i=j
 ·subst e;unfold rsi;rw [ae rfl,ae (by simp; exact hi),bE,dj hi];simp
 ·rw [af e]
theorem DC (L:List ak) (top w h:Nat):rsi L top w h h=rs L top w h:=by
 unfold rsi rs;refine di fun m hm=>?_;rw [List.mem_range] at hm;rw [ae hm]
theorem B4 (L:List ak) (top w h:Nat):rsi L top w h 0=bls w h:=by
 unfold rsi bls;simp only [BE,aM];rw [HG,rE]
theorem Fg {xs:List Nat} (nd:xs.Nodup) {x i:Nat} (hx:x∉xs):(xs.set i x).Nodup:=by
 rw [List.Nodup,List.pairwise_iff_getElem] at *;intro a b ha hb hab;rw [cq] at ha hb;rw [Hv,Hv];split
 ·split
  ·omega
  ·exact fun e=>hx (e▸ aG hb)
 ·split
  ·exact fun e=>hx (e▸ aG ha)
  ·exact nd a b ha hb hab
theorem Gw.sgo {g2:Nat} (h:Gw s g ks W) (hne:g2≠g) (x:bF):Gw (s.sg g2 x) g ks W:=
 ⟨by rw [←h.g]; simp [Sto.sg,aX hne],h.r,h.h1,h.h2,h.w1,h.w2⟩
theorem Gw.addg (h:Gw s g ks W) (x:bF):Gw (s.add_grid_Grid x) g ks W:=
 ⟨by rw [←h.g]; simp only [Sto.add_grid_Grid]; exact aI (cz h.g),h.r,h.h1,h.h2,h.w1,h.w2⟩
theorem Rf.more {s':Sto} {g2:Nat} {ks':List Nat} (h:Rf s s' g ks g2 ks') (hg2:s.grid_Grid.length≤g2) (xs:List bh) (x:bF) (i:Nat):Rf s ((s'.addr xs).sg g2 x) g ks g2 (ks'.set i s'.row_Row.length):=by
 have e:((s'.addr xs).sg g2 x).row_Row=s'.row_Row++xs:=rfl;have e2:((s'.addr xs).sg g2 x).grid_Grid=s'.grid_Grid.set g2 x:=rfl;have hr:=h.rl;refine ⟨by rw [e2,cq]; exact h.gl,by rw [e,az]; omega,fun j a b=>by rw [e2,aX (by omega)]; exact h.gr j a b,fun j a b=>by rw [e,aI (by omega)]; exact h.rw j a b,h.ng,fun r hr=>?_⟩;rcases Dl hr with q | rfl
 ·exact h.nr r q
 ·exact .inr h.rl
theorem Rf.begun (xs:List bh) (x:bF) {g2:Nat} (hg2:g2=s.grid_Grid.length) (m:Nat):Rf s ((s.addr xs).add_grid_Grid x) g ks g2 (List.range' s.row_Row.length m):=by
 subst hg2;refine ⟨by simp [Sto.add_grid_Grid,Sto.addr],by simp [Sto.add_grid_Grid,Sto.addr],fun j hj _=>?_,fun j hj _=>?_,.inr (aA _),fun r hr=> .inr (List.mem_range'_1.1 hr).1⟩
 ·simp only [Sto.add_grid_Grid,Sto.addr]; exact aI hj
 ·simp only [Sto.add_grid_Grid,Sto.addr]; exact aI hj
theorem AF (h:Pv C s k g W q ks) {w hh top:Nat} (w1:1≤w) (w2:w≤1024) (h1:1≤hh) (h2:hh≤1024) (ht:top≤1024) {g2:Nat} (hg2:g2=s.grid_Grid.length):
  ∃s' ks',cB (σ:=Int×Sto) (τ:=Sto) (((hh:Int) - 0).toNat+1) (fun s_54=>
 if (decide (s_54.1 < (hh:Int)))=true then
 ((s_54.2.place_Pen[k]?).bind fun o_64=>
 (bv s_54.2 o_64.G (w64 ((top:Int)+s_54.1))).bind fun x_68=>
 if (!x_68.isNone)=true then
 (jF s_54.2 x_68 (w:Int)).bind fun x_78=>
 (eB x_78.1 (some g2) s_54.1 x_78.2).bind fun x_79=>
 (some (x_79.1):Option (Sto))
 else
 (some (s_54.2):Option (Sto))).bind fun z_57=>
 some (.inl ((w64 (s_54.1+1)),z_57))
 else
 some (.inr (s_54.2))) (0,(s.addr ((bls w hh).map lr)).add_grid_Grid ⟨(List.range' s.row_Row.length hh).map some⟩)=some s'∧
  Gw s' g2 ks' w∧ks'.Nodup∧ks'.map (ln s')=rs q.L top w hh∧s'.rst=s.rst∧Rf s s' g ks g2 ks':=by
 have hb:(bls w hh).length=hh:=by simp [bls]
 have h0:((bls w hh)[0]'(by omega)).Cells.length=w:=by simp [bls]
 obtain ⟨b1,b2⟩:=EG (s:=s) (L:=bls w hh) (by omega) (by omega) (C6 w1 w2 h1);rw [h0,←hg2] at b1;rw [hb] at b1 b2;have hgl:=cz h.g.g;obtain ⟨t,e1,e2⟩:=dC (σ:=Int×Sto) (τ:=Sto) (n:=hh) (fuel:=((hh:Int) - 0).toNat+1) (s:=(0,(s.addr ((bls w hh).map lr)).add_grid_Grid ⟨(List.range' s.row_Row.length hh).map some⟩))
  (fun i q2=>q2.1=(i:Int)∧q2.2.rst=s.rst∧Gw q2.2 g ks W∧ks.map (ln q2.2)=q.L∧∃ks',Gw q2.2 g2 ks' w∧ks'.Nodup∧ks'.length=hh∧ks'.map (ln q2.2)=rsi q.L top w hh i∧Rf s q2.2 g ks g2 ks')
  (fun t=>t.rst=s.rst∧∃ks',Gw t g2 ks' w∧ks'.Nodup∧ks'.map (ln t)=rs q.L top w hh∧Rf s t g ks g2 ks')
  (step:=fun s_54=>
 if (decide (s_54.1 < (hh:Int)))=true then
 ((s_54.2.place_Pen[k]?).bind fun o_64=>
 (bv s_54.2 o_64.G (w64 ((top:Int)+s_54.1))).bind fun x_68=>
 if (!x_68.isNone)=true then
 (jF s_54.2 x_68 (w:Int)).bind fun x_78=>
 (eB x_78.1 (some g2) s_54.1 x_78.2).bind fun x_79=>
 (some (x_79.1):Option (Sto))
 else
 (some (s_54.2):Option (Sto))).bind fun z_57=>
 some (.inl ((w64 (s_54.1+1)),z_57))
 else
 some (.inr (s_54.2)))
  (fun i q2 hi ⟨e,hp,hg,hl,ks',c1,c2,c3,c4,c5⟩=>by
   obtain ⟨j,st⟩:=q2;simp only at e hp hg hl c1 c2 c3 c4 c5;subst e;have e5:w64 ((i:Int)+1)=((i+1:Nat):Int):=by rw [aF (by omega)]; simp
   have e6:w64 ((top:Int)+(i:Int))=((top+i:Nat):Int):=by rw [aF (by omega)]; simp
   have hd:decide ((i:Int) < (hh:Int))=true:=by simp; exact hi
   simp only [hd,bm,kB hp,h.p,bsm,e5,e6];have hlen:=h.len;by_cases ho:top+i < ks.length
   ·rw [eV hg ho];simp only [bsm,bf,ez,bm];obtain ⟨r,r1,r2,r3⟩:=hg.at ho;have hr:=zz (l:=r.cells) (wr:=r.wrap) r1 r2 (by rw [r3]; exact hg.w1) (by rw [r3]; exact hg.w2) w1 w2;rw [hr];simp only [bsm];have ea:st.add_row_Row ⟨rz r.cells w,false⟩=st.addr [⟨rz r.cells w,false⟩]:=by simp [Sto.add_row_Row,Sto.addr]
    rw [ea];have c1':=c1.addr (xs:=[⟨rz r.cells w,false⟩]);have hg':=hg.addr (xs:=[⟨rz r.cells w,false⟩]);have hnew:(st.addr [⟨rz r.cells w,false⟩]).row_Row[st.row_Row.length]? = some ⟨rz r.cells w,false⟩:=by simp [Sto.addr]
    have hrw:Rw (st.addr [⟨rz r.cells w,false⟩]) w st.row_Row.length:=⟨_,hnew,B0 r2 w,tn _ _⟩;rw [yv c1' (show i < ks'.length by omega) hrw];simp only [bsm];have hL:cs q.L (top+i)=r.cells:=by
     rw [CR (by rw [←hl]; simpa using ho)];have:q.L[top+i]? = (ks.map (ln st))[top+i]? :=by rw [hl]
     rw [ag (by rw [←hl]; simpa using ho),bE,ag ho,fg,mW r1] at this;rw [bz this]
    refine .inl ⟨_,rfl,rfl,hp,hg'.sgo (by omega) _,?_,ks'.set i st.row_Row.length,c1'.set hrw,Fg c2 fun hm=>absurd (c1.r _ hm).lt (Nat.lt_irrefl _),by rw [cq]; exact c3,?_,c5.more (by omega) _ _ _⟩
    ·rw [←hl];refine di fun x hx=>?_;rw [yn];exact uU (hg.r x hx).lt
    ·rw [←zW _ _ _ hi,←c4,hL,List.map_set,yn,mW hnew]
     congr 1
     refine di fun x hx=>?_;rw [yn];exact uU (c1.r x hx).lt
   ·rw [sJ hg (.inr (by omega))];simp only [bsm,Option.isNone_none,cF,aj,aM];exact .inl ⟨_,rfl,rfl,hp,hg,hl,ks',c1,c2,c3,by rw [B5 _ (by omega) hi]; exact c4,c5⟩)
  (fun q2 ⟨e,hp,_,_,ks',c1,c2,_,c4,c5⟩=>⟨q2.2,by
   have hd:decide (q2.1 < (hh:Int))=false:=by rw [e]; simp
   simp only [hd,aj,aM],hp,ks',c1,c2,by rw [c4,DC],c5⟩)
  ⟨rfl,rfl,(h.g.addr (xs:=(bls w hh).map lr)).addg _,by
   rw [←h.l];refine di fun x hx=>?_;exact uU (h.g.r x hx).lt,_,b1,Hp,by simp,by rw [B4]; exact b2,Rf.begun _ _ hg2 _⟩ (by omega)
 obtain ⟨p1,ks',p2,p3,p4,p5⟩:=e2;exact ⟨t,ks',e1,p2,p3,p4,p1,p5⟩
def tp (c:ai) (h:Nat):Nat:=(c.Row - h+1).toNat
theorem Gb (h:Pv C s k g W q ks) (a b:Int):dh q a b=some ⟨rs q.L (tp (hc q.At W ks.length) (sd b)) (sd a) (sd b),⟨(hc q.At W ks.length).Row - tp (hc q.At W ks.length) (sd b),min (hc q.At W ks.length).Col ((sd a:Int) - 1),false⟩,q.Auto⟩:=by
 have hd:=sH q.At h.g.w1 h.g.h1;have hl:=h.len;have hh2:=h.g.h2;have ha:=uI a;have hb:=uI b;have side:∀n:Int,bY n=some (sd n:Int):=fun n=>by
  unfold bY;by_cases h1:n < 1
  ·rw [ae (by simpa using h1)]
   congr 1
   unfold sd;omega
  ·rw [af (by simpa using h1)];by_cases h2:n > 1024
   ·rw [ae (by simpa using h2)]
    congr 1
    unfold sd;omega
   ·rw [af (by simpa using h2)]
    congr 1
    unfold sd;omega
 unfold dh;rw [nY h];generalize hc q.At W ks.length=c at *;have hr:=hd.rr;simp only [bsm,side];obtain ⟨t,e1,e2⟩:=dC (σ:=(List ak)×Int) (τ:=((List ak)×Int)) (n:=tp c (sd b)) (fuel:=(c.Row - (sd b:Int)).toNat+2) (s:=(q.L,c.Row))
  (fun i q2=>q2=(q.L.drop i,c.Row - i)) (fun t=>t=(q.L.drop (tp c (sd b)),c.Row - tp c (sd b)))
  (step:=fun s_25=>
 if (decide (s_25.2≥(sd b:Int)))=true then
 (slc s_25.1 1 s_25.1.length).bind fun x_32=>
 some (.inl (x_32,(w64 (s_25.2 - 1))))
 else
 some (.inr (s_25.1,s_25.2)))
  (fun i q2 hi e=>by
   subst e;refine .inl ⟨_,?_,rfl⟩;unfold tp at hi;have hd:decide (c.Row - (i:Int)≥(sd b:Int))=true:=by simp; omega
   simp only [hd,bm];rw [show (1:Int)=((1:Nat):Int) from rfl,nJ (by simp; omega) (aA _),aF (by omega)];simp only [bsm,df];rw [aC (by simp; omega)]
   congr 3
   omega)
  (fun q2 e=>⟨q2,by
   subst e;have hd:decide (c.Row - (tp c (sd b):Int)≥(sd b:Int))=false:=by
    unfold tp;simp;omega
   simp only [hd,aj,aM],e⟩)
  (by simp) (by unfold tp; omega)
 subst e2;rw [e1];simp only [bsm];obtain ⟨t,e3,e4⟩:=dC (σ:=(List ak)×Int) (τ:=(List ak)) (n:=sd b) (fuel:=((sd b:Int) - 0).toNat+1) (s:=(([]:List ak),0))
  (fun i q2=>q2=((rs q.L (tp c (sd b)) (sd a) (sd b)).take i,(i:Int))) (fun t=>t=rs q.L (tp c (sd b)) (sd a) (sd b))
  (step:=fun s_45=>
 if (decide (s_45.2 < (sd b:Int)))=true then
 (if (decide (s_45.2 < ((q.L.drop (tp c (sd b))).length:Int)))=true then
 (idx (q.L.drop (tp c (sd b))) s_45.2).bind fun x_60=>
 (some (x_60.Cells):Option ((List ab)))
 else
 (some (([]:List ab)):Option ((List ab)))).bind fun z_52=>
 (dV z_52 (sd a:Int)).bind fun x_68=>
 (app s_45.1 ([(⟨x_68,false⟩:ak)]:List ak)).bind fun x_71=>
 some (.inl (x_71,(w64 (s_45.2+1))))
 else
 some (.inr (s_45.1)))
  (fun i q2 hi e=>by
   subst e;refine .inl ⟨_,?_,rfl⟩;have e5:w64 ((i:Int)+1)=((i+1:Nat):Int):=by rw [aF (by omega)]; simp
   have hd:decide ((i:Int) < (sd b:Int))=true:=by simp; exact hi
   have hz:(if (decide ((i:Int) < ((q.L.drop (tp c (sd b))).length:Int)))=true then (idx (q.L.drop (tp c (sd b))) (i:Int)).bind fun x_60=>(some (x_60.Cells):Option ((List ab))) else (some (([]:List ab)):Option ((List ab))))=some (cs q.L (tp c (sd b)+i)):=by
    by_cases ho:i < (q.L.drop (tp c (sd b))).length
    ·rw [ae (by simpa using ho),be ho];have ho2:tp c (sd b)+i < q.L.length:=by simp at ho; omega
     rw [CR ho2];simp only [bsm,List.getElem_drop]
    ·rw [af (by simpa using ho),zC (by simp at ho; omega)]
   simp only [hd,bm,e5];rw [hz];simp only [bsm];have hcl:(cs q.L (tp c (sd b)+i)).length≤1000000:=by
    by_cases ho:tp c (sd b)+i < q.L.length
    ·rw [CR ho,(h.ok _ (aG ho)).2];have:=h.g.w2;omega
    ·rw [zC (by omega)];simp
   rw [zj _ hcl ha.1 ha.2];simp only [bsm];have hlt:i < (rs q.L (tp c (sd b)) (sd a) (sd b)).length:=by simp [rs]; exact hi
   rw [cK (by simp; omega),ay hlt];simp [rs])
  (fun q2 e=>⟨q2.1,by subst e; simp,by subst e; simp only; rw [aC (by simp [rs])]⟩)
  (by simp) (by omega)
 subst e4;rw [e3];simp only [bsm];rw [aF (by omega),dm]
theorem Dw (h:Pv C s k g W q ks) (a b:Int):∃s' q' g' ks',kR s (some k) a b=some s'∧dh q a b=some q'∧Pv C s' k g' (sd a) q' ks'∧q'.L=rs q.L (tp (hc q.At W ks.length) (sd b)) (sd a) (sd b)∧Hd q'.At (sd a) (sd b):=by
 have hd:=sH q.At h.g.w1 h.g.h1;have hh2:=h.g.h2;have ha:=uI a;have hb:=uI b;have sdd:∀n:Int,aE 1 (aB n 1024)=(sd n:Int):=fun n=>by
  rw [dm,eU];unfold sd;omega
 have hc1:=ox q.At h.g.w1 h.g.w2 h.g.h1 h.g.h2;have h39:=Gb h a b;generalize hc q.At W ks.length=c at *;have hr:=hd.rr;have hcc:=hd.cc;have etp:aE 0 (w64 ((w64 (c.Row - (sd b:Int)))+1))=(tp c (sd b):Int):=by
  rw [aF (n:=c.Row - (sd b:Int)) (by omega),aF (by omega),eU];unfold tp;omega
 obtain ⟨s',ks',e1,g1,g2,g3,g4,g5⟩:=AF h ha.1 ha.2 hb.1 hb.2 (top:=tp c (sd b)) (by unfold tp; omega) rfl;have hgn:=yw (s:=s) (sd a:Int) (sd b:Int);rw [wi ha.1 ha.2,wi hb.1 hb.2] at hgn;have hp':s'.place_Pen[k]? = some ⟨some g,q.At,q.Auto⟩:=by rw [kB g4]; exact h.p
 have hmv:je (c.Row - (tp c (sd b):Int)) c.Col (sd a:Int) (sd b:Int)=some ⟨c.Row - tp c (sd b),min c.Col ((sd a:Int) - 1),false⟩:=by
  unfold je;rw [ox _ ha.1 ha.2 hb.1 hb.2];simp only [bsm,hc,aR,ai.mk.injEq,ky,vF];unfold tp;omega
 refine ⟨(s'.sp k ⟨some s.grid_Grid.length,q.At,q.Auto⟩).sp k ⟨some s.grid_Grid.length,⟨c.Row - tp c (sd b),min c.Col ((sd a:Int) - 1),false⟩,q.Auto⟩,_,s.grid_Grid.length,ks',?_,h39,?_,rfl,⟨by simp only; unfold tp; omega,by simp only; omega,fun e=>by cases e⟩⟩
 ·unfold kR;simp only [bf,ek,bsm,h.p,aj,aM];rw [jm h.g,eI h.g];simp only [bsm,sdd];rw [hc1];simp only [bsm];rw [hgn];simp only [bsm,etp];rw [e1];simp only [bsm,hp'];rw [iT (cz hp')];simp only [bsm];rw [aF (by unfold tp; omega),hmv];simp only [bsm];rw [iT (by simp [Sto.sp]; exact cz hp')];rfl
 ·rw [we];exact ⟨wP (cz hp'),g1.sp _ _,g2,g3,(qL g4).trans h.o,(h.f.step g5 (kB g4)).sp _⟩
end Go.Proofs.YthokmpbbkpjhbaaGreatDoor
namespace Go.Proofs.YthokmpbbkpjhbaaGreatDoor
open Go Go.Lt
variable {s C:Sto} {x f k g W H:Nat} {q P:aa} {ks:List Nat} {op:Option Nat}
structure Mo where
 P:aa
 G:List Int
 h:List Int
structure Sd (C s:Sto) (x f k:Nat) (m:Mo) (q:aa):Prop where
 sc:s.screen_Screen[x]? = some ⟨some f,some k⟩
 bt:Bts m.h
 fd:∃g W H ks op,Fd C s f k g W H m.P m.G m.h q ks op
def lay (P:aa) (G:List Int):Option aa:=fo rI P (cls pj pr G)
def mdo (m:Mo) (o:bc):Option Mo:=
 if o.Kind=0 then some ⟨m.P,m.G++(bu m.h o.Bytes).1,(bu m.h o.Bytes).2⟩
 else if o.Kind=1 then (lay m.P (m.G++(if m.h= [] then [] else [65533]))).map fun q=>⟨q,[],[]⟩
 else if o.Kind=13 then (lay m.P m.G).bind fun q=>(dh q o.A o.B).map fun q'=>⟨q',[],m.h⟩
 else if w38 o=0 then (lay m.P m.G).bind fun q=>(fB q o).map fun q'=>⟨q',[],m.h⟩
 else some m
def w40 (o:bc):Int:=if o.Kind=0∨o.Kind=1∨o.Kind=13 then 0 else w38 o
def e40 (o:bc):Er:=if o.Kind=0∨o.Kind=1∨o.Kind=13 then Er.nil else e38 o
theorem CT (o:bc):nf (e40 o)=some (w40 o):=by
 unfold e40 w40;split
 ·rfl
 ·exact CU o
theorem Fd.pen_work {h:List Int} (F:Fd C s f k g W H P [] h q ks none) {s':Sto} {g' W':Nat} {q':aa} {ks':List Nat} (v:Pv s s' k g' W' q' ks') (hh:Hd q'.At W' ks'.length):Fd C s' f k g' W' ks'.length q' [] h q' ks' none:=by
 obtain ⟨d,hd,hdv⟩:=F.d;refine ⟨v.self,F.fr.trans F.v.oG F.v.oR v.f,F.fz.oth v.o,rfl,hh,rfl,F.gv,⟨d,?_,hdv⟩,fun _=>rfl,fun e=>by cases e⟩;rw [oQ v.o];exact hd
theorem AL {m:Mo} (S:Sd C s x f k m q) (o:bc) (hb:Bts o.Bytes) (hl:o.Bytes.length≤9223372036854775807):∃s' m' q',fy s (some x) o=some (s',e40 o)∧mdo m o=some m'∧Sd C s' x f k m' q':=by
 obtain ⟨g,W,H,ks,op,F⟩:=S.fd;have hC:C.screen_Screen[x]? = some ⟨some f,some k⟩:=by rw [←F.fz.sc]; exact S.sc
 have hs:∀{s':Sto} {g W H:Nat} {P:aa} {G h:List Int} {q:aa} {ks:List Nat} {op:Option Nat},Fd C s' f k g W H P G h q ks op→s'.screen_Screen[x]? = some ⟨some f,some k⟩:=fun F'=>by rw [F'.fz.sc]; exact hC
 unfold fy mdo e40;simp only [bf,aj,aM,bsm,aU,S.sc];by_cases k0:o.Kind=0
 ·obtain ⟨s',q',ks',op',b1,b2⟩:=Bo F S.bt hl hb;rw [ae k0,ae k0,ae (.inl k0),b1];exact ⟨s',_,q',rfl,rfl,hs b2,tv S.bt hb,⟨_,_,_,_,_,b2⟩⟩
 rw [af k0,af k0];by_cases k1:o.Kind=1
 ·obtain ⟨s',q',ks',b1,b2,b3⟩:=Bn F;rw [ae k1,ae k1,ae (.inr (.inl k1)),b1];unfold lay;rw [b3];exact ⟨s',_,q',rfl,rfl,hs b2,Bts.nil,⟨_,_,_,_,_,b2⟩⟩
 rw [af k1,af k1];by_cases k13:o.Kind=13
 ·obtain ⟨s2,b1,b2⟩:=tI F;obtain ⟨s',q',g',ks',c1,c2,c3,c4,c5⟩:=Dw b2.v o.A o.B;have hkl:ks'.length=sd o.B:=by rw [←c3.len,c4]; simp [rs]
  rw [ae k13,ae k13,ae (.inr (.inr k13)),b1];have hl2:lay m.P m.G=some q:=F.l;simp only [bsm,hs b2,hl2];rw [c1,c2];have F2:=b2.pen_work c3 (by rw [hkl]; exact c5);exact ⟨s',_,q',rfl,rfl,hs F2,S.bt,⟨_,_,_,_,_,F2⟩⟩
 rw [af k13,af k13,af (by omega),vi];simp only [bsm,Ed];by_cases hw:w38 o=0
 ·rw [af (by simp [hw]),ae hw];obtain ⟨s2,b1,b2⟩:=tI F;obtain ⟨s',q',ks',c1,c2,c3,c4,c5,_⟩:=Ea b2.v o hw;rw [b1];have hl2:lay m.P m.G=some q:=F.l;simp only [bsm,hs b2,hl2];rw [c1,c2];have he:e38 o=Er.nil:=by unfold e38; rw [hw]; rfl
  have F2:=b2.pen_work c3 (by rw [c4]; exact c5);exact ⟨s',_,q',by rw [he]; rfl,rfl,hs F2,S.bt,⟨_,_,_,_,_,F2⟩⟩
 ·rw [ae (by simpa using hw),af hw];exact ⟨s,m,q,rfl,rfl,S⟩
def vw (q:aa):gp:=⟨(q.L.getD 0 dl).Cells.length,(q.L.length:Int),q.L,q.At,q.Auto⟩
theorem xQ {m:Mo} (S:Sd C s x f k m q):eK s (some x)=some (vw q):=by
 obtain ⟨g,W,H,ks,op,F⟩:=S.fd;unfold eK vw;simp only [bf,aj,aM,bsm,S.sc,F.v.p];rw [jm F.v.g,eI F.v.g,zv F.v.g,F.v.l];simp only [bsm];have hl:=F.v.len;have h1:=F.v.g.h1;rw [gdl (show 0 < q.L.length by omega),(F.v.ok _ (aG (show 0 < q.L.length by omega))).2,hl]
theorem xU {m:Mo} (S:Sd C s x f k m q):fU s (some x)=some (m.h.length:Int):=by
 obtain ⟨g,W,H,ks,op,F⟩:=S.fd;unfold fU;simp only [bf,aj,aM,bsm,S.sc];rw [CN F];rfl
theorem xR {m:Mo} (S:Sd C s x f k m q):fT s (some x)=some (opn m.G):=by
 obtain ⟨g,W,H,ks,op,F⟩:=S.fd;unfold fT;simp only [bf,aj,aM,bsm,S.sc];rw [CJ F];rfl
theorem Sd.ok {m:Mo} (S:Sd C s x f k m q):∃W:Nat,1≤W∧W≤1024∧1≤q.L.length∧q.L.length≤1024∧(∀l∈q.L,Okl W l)∧(vw q).Wide=(W:Int)∧Hd q.At W q.L.length:=by
 obtain ⟨g,W,H,ks,op,F⟩:=S.fd;have hl:=F.v.len;have h1:=F.v.g.h1;have h2:=F.v.g.h2;refine ⟨W,F.v.g.w1,F.v.g.w2,by omega,by omega,F.v.ok,?_,by rw [hl,F.n]; exact F.hd⟩;unfold vw;rw [gdl (show 0 < q.L.length by omega),(F.v.ok _ (aG (show 0 < q.L.length by omega))).2]
theorem zc (s:Sto) (w h:Int):∃s',kD s w h=some (s',some s.screen_Screen.length)∧Sd s' s' s.screen_Screen.length s.feed_Feeder.length s.place_Pen.length ⟨⟨bls (sd w) (sd h),⟨0,0,false⟩,true⟩,[],[]⟩ ⟨bls (sd w) (sd h),⟨0,0,false⟩,true⟩:=by
 obtain ⟨s1,ks,h1,v1⟩:=A8 (s:=s) w h;have hks:=v1.g.h1;have hW1:=v1.g.w1;obtain ⟨s2,h2,d2,e2⟩:=CO v1.self ⟨by simp only; omega,by simp only; omega,fun e=>by cases e⟩;unfold kD;rw [h1];simp only [bsm];rw [h2];simp only [bsm];have es:s1.screen_Screen=s.screen_Screen:=xa v1.o;have ef:s1.feed_Feeder=s.feed_Feeder:=oQ v1.o;have es2:s2.screen_Screen=s1.screen_Screen:=by rw [e2]; rfl
 rw [es2,es,ef];rw [ef] at d2;refine ⟨_,rfl,⟨?_,Bts.nil,⟨s.grid_Grid.length,sd w,ks.length,ks,none,?_⟩⟩⟩
 ·have:(s2.add_screen_Screen ⟨some s.feed_Feeder.length,some s.place_Pen.length⟩).screen_Screen=s2.screen_Screen++ [⟨some s.feed_Feeder.length,some s.place_Pen.length⟩]:=rfl;rw [this,es2,es];simp
 ·obtain ⟨d,hd,hdv⟩:=d2.d;refine ⟨⟨d2.v.p,⟨d2.v.g.g,d2.v.g.r,d2.v.g.h1,d2.v.g.h2,d2.v.g.w1,d2.v.g.w2⟩,d2.v.nd,d2.v.l,rfl,d2.v.f.rgp ⟨rfl,rfl,rfl⟩ ⟨rfl,rfl,rfl⟩⟩,d2.v.f.rgp ⟨rfl,rfl,rfl⟩ ⟨rfl,rfl,rfl⟩,Fz.self _ _ _ (fun y hy=>?_) (cz hd),rfl,d2.hd,rfl,fun y hy=>by simp at hy,⟨d,hd,hdv⟩,fun _=>rfl,fun e=>by cases e⟩;have hy':s2.feed_Feeder[s.feed_Feeder.length]? = some y:=hy;rw [hd] at hy';cases hy';rfl
end Go.Proofs.YthokmpbbkpjhbaaGreatDoor
namespace Go.Proofs.YthokmpbbkpjhbaaGreatDoor
open Go Go.Lt
theorem Cp {γ:Type} {x:Option (γ×Bool)} (h:x.map (fun q=>q.2)=some true):∃s,x=some (s,true):=by
 cases x with
 | none=>cases h
 | some q=>
  obtain ⟨a,b⟩:=q;simp only [fg,aR] at h;subst h;exact ⟨a,rfl⟩
theorem Fe {f:Sto→Option (Sto×Bool)} {s:Sto} (h1:(f s).map (fun q=>q.2)=some true) (h2:((f s).bind fun q=>f q.1).map (fun q=>q.2)=some true):∃s1 s2,f s=some (s1,true)∧f s1=some (s2,true):=by
 obtain ⟨s1,e1⟩:=Cp h1;rw [e1] at h2;obtain ⟨s2,e2⟩:=Cp h2;exact ⟨s1,s2,e1,e2⟩
theorem wf8 {n:Int} (h:(Lit.int .u8 n).wf=true):0≤n∧n≤255:=by
 simp only [Lit.wf,IntKind.min,IntKind.max,IntKind.signed,IntKind.bits,aq,an,aj,aM] at h;omega
end Go.Proofs.YthokmpbbkpjhbaaGreatDoor
namespace Go.Proofs.YthokmpbbkpjhbaaGreatDoor
open Go Go.Lt
variable {s C:Sto} {x f k g W H:Nat} {q P:aa} {ks:List Nat} {op:Option Nat}
set_option maxRecDepth 100000 in
theorem Ax:(dx ⟨[],[],[],[],[],[]⟩).map (fun q=>q.2)=some true:=by kernel_rfl
set_option maxRecDepth 100000 in
theorem Aw:((dx ⟨[],[],[],[],[],[]⟩).bind fun q=>dx q.1).map (fun q=>q.2)=some true:=by kernel_rfl
def Obs (l:List bc):Prop:=∀o∈l,Bts o.Bytes∧o.Bytes.length≤9223372036854775807
theorem rk {α:Type} (f:α→Nat) {l:List α} {i:Nat} (h:i < l.length):((l.take (i+1)).map f).sum=((l.take i).map f).sum+f l[i]:=by
 rw [ay h,bG,HF];simp
theorem xM {α:Type} (f:α→Nat) (l:List α) (i:Nat):((l.take i).map f).sum≤(l.map f).sum:=by
 conv=>rhs; rw [←gJ i l]
 rw [bG,HF];omega
end Go.Proofs.YthokmpbbkpjhbaaGreatDoor
namespace Go.Proofs.YthokmpbbkpjhbaaGreatDoor
open Go Go.Lt
variable {s C:Sto} {x f k:Nat} {q q':aa} {F:av} {m m':Mo}
theorem yY (a:List Int) (ha:a.length≤9223372036854775807):cV a a=some true:=by
 obtain ⟨t,h1,h2⟩:=wm a ha a;rw [h1,h2.2 rfl]
def sV (l:List bc):Nat:=(l.map fun o=>o.Bytes.length).sum
theorem Bm (l:List bc) (hl:l.length≤9223372036854775807) (hb:∀o∈l,o.Bytes.length≤4611686018427387904):∃t,fq l=some t∧(t=false→l.length≤50∧sV l≤600):=by
 unfold fq;refine tE (σ:=Int×Int) (τ:=Bool ⊕ Unit) (n:=min l.length 60) (fun i (s:Int×Int)=>s=((sV (l.take i):Int),(i:Int))∧sV (l.take i)≤600) (fun u=>match u with | .inl b=>b=true | .inr _=>sV (l.take (min l.length 60))≤600) (fun i s hi e=>?_) (fun s e=>?_) ⟨rfl,by simp [sV]⟩ (by omega) (fun u hu=>?_)
 ·obtain ⟨rfl,hs⟩:=e;have hil:i < l.length:=by omega
  have hbi:=hb _ (aG hil);have e1:sV (l.take (i+1))=sV (l.take i)+l[i].Bytes.length:=rk (fun o:bc=>o.Bytes.length) hil;simp only [aZ,bsm];rw [ae (by simp; omega),be hil];simp only [bsm,aZ,bq];rw [aF (n:=(sV (l.take i):Int)+(l[i].Bytes.length:Int)) (by omega),aF (n:=(i:Int)+1) (by omega)];split
  ·exact .inr ⟨_,rfl,rfl⟩
  ·rename_i hn
   simp only [aD,an,Ff] at hn;exact .inl ⟨_,rfl,by rw [e1]; simp,by rw [e1]; omega⟩
 ·obtain ⟨rfl,hs⟩:=e;simp only [aZ,bsm];rw [af (by simp; omega)];exact ⟨_,rfl,hs⟩
 ·cases u with
  | inl b=>simp only at hu; exact ⟨b,rfl,fun h=>by rw [hu] at h; cases h⟩
  | inr u=>
   refine ⟨_,rfl,fun h=>?_⟩;have h1:l.length≤50:=by simp at h; omega
   rw [aC (by omega)] at hu;exact ⟨h1,hu⟩
structure Tm (F:av) (m:Mo):Prop where
 p:m.P=F.P
 g:m.G=F.Group
 h:m.h=(bu [] F.Raw).2
 n:F.Parts=((bu [] F.Raw).1.length:Int)
 b:Bts F.Raw
theorem Sd.gv (S:Sd C s x f k m q):∀y∈m.G,vld y=true:=by
 obtain ⟨g,W,H,ks,op,F⟩:=S.fd;exact F.gv
theorem Sd.lay1 (S:Sd C s x f k m q):lay m.P m.G=some q:=by
 obtain ⟨g,W,H,ks,op,F⟩:=S.fd;exact F.l
theorem AW (hv:∀y∈F.Group,vld y=true) (hb:Bts F.Raw) (hl:F.Raw.length≤1000000) (hg:F.Group.length < 1000000) (b3:lay F.P (F.Group++(if (bu [] F.Raw).2= [] then [] else [65533]))=some q'):dF F=some ⟨q',[],[],0⟩:=by
 unfold lay at b3;unfold dF;rw [uL hb hl];simp only [bsm];have hgv:∀x∈F.Group++(if (bu [] F.Raw).2= [] then [] else [65533]),vld x=true:=fun x hx=>by
  rcases List.mem_append.1 hx with hx | hx
  ·exact hv x hx
  ·split at hx
   ·simp at hx
   ·rw [List.mem_singleton.1 hx]; rfl
 by_cases hh:(bu [] F.Raw).2= []
 ·rw [af (by rw [hh]; simp)];rw [ae hh,dO] at b3;simp only [bsm];have:=qN (F:=⟨⟨F.P.L,⟨F.P.At.Row,F.P.At.Col,F.P.At.Pending⟩,F.P.Auto⟩,F.Group,[],0⟩) hv (by simp only; omega) b3;rw [this];rfl
 ·have hpos:0 < (bu [] F.Raw).2.length:=by
   cases hc:(bu [] F.Raw).2 with
   | nil=>exact absurd hc hh
   | cons _ _=>simp
  rw [ae (by simpa using hpos),B6 (by omega)];rw [af hh] at b3 hgv;simp only [bsm];have:=qN (F:=⟨⟨F.P.L,⟨F.P.At.Row,F.P.At.Col,F.P.At.Pending⟩,F.P.Auto⟩,F.Group++ [fH 65533],[],0⟩) hgv (by simp; omega) b3;rw [this];rfl
theorem Cf (T:Tm F m) (hv:∀y∈m.G,vld y=true) (hq:lay m.P m.G=some q) {o:bc} (hb:Bts o.Bytes) (hl:F.Raw.length+o.Bytes.length≤1000000) (hg:F.Group.length < 1000000) (hm:mdo m o=some m'):
  ∃F',gZ F o=some (F',w40 o)∧Tm F' m'∧F'.Raw.length≤F.Raw.length+o.Bytes.length∧F'.Group.length≤F.Group.length+2 * o.Bytes.length:=by
 obtain ⟨P,G,h⟩:=m;obtain ⟨p,g,hh,hn,hbt⟩:=T;simp only at p g hh hv hq hm;subst p g hh;unfold mdo at hm;unfold gZ w40;simp only [aU] at hm⊢;by_cases k0:o.Kind=0
 ·rw [ae k0] at hm;cases hm;rw [ae k0,ae (.inl k0),A4 hn hbt hb hl (by omega)];have hap:=nV [] F.Raw o.Bytes;have hlen:=wo (bu [] F.Raw).2 o.Bytes;refine ⟨_,rfl,⟨rfl,rfl,?_,rfl,fun y hy=>?_⟩,by simp,by simp only [az]; omega⟩
  ·simp only [hap]
  ·rcases List.mem_append.1 hy with hy | hy
   ·exact hbt y hy
   ·exact hb y hy
 rw [af k0] at hm⊢;by_cases k1:o.Kind=1
 ·rw [ae k1] at hm;rw [ae k1,ae (.inr (.inl k1))];simp only [kN] at hm;obtain ⟨q1,h1,rfl⟩:=hm;rw [AW hv hbt (by omega) hg h1];exact ⟨_,rfl,⟨rfl,rfl,rfl,rfl,fun y hy=>by simp at hy⟩,by simp,by simp⟩
 rw [af k1] at hm⊢;by_cases k13:o.Kind=13
 ·rw [ae k13] at hm;rw [ae k13,ae (.inr (.inr k13)),qN hv (by omega) hq];rw [hq] at hm;simp only [bsm,kN] at hm⊢;obtain ⟨q1,h1,rfl⟩:=hm;rw [h1];exact ⟨_,rfl,⟨rfl,rfl,rfl,hn,hbt⟩,by simp,by simp⟩
 rw [af k13] at hm;rw [af k13,af (by omega),yb];simp only [bsm];by_cases hw:w38 o=0
 ·rw [ae hw] at hm⊢;rw [qN hv (by omega) hq];rw [hq] at hm;simp only [bsm,kN] at hm⊢;obtain ⟨q1,h1,rfl⟩:=hm;rw [h1];exact ⟨_,rfl,⟨rfl,rfl,rfl,hn,hbt⟩,by simp,by simp⟩
 ·rw [af hw] at hm⊢;cases hm;exact ⟨_,rfl,⟨rfl,rfl,rfl,hn,hbt⟩,by simp,by simp⟩
theorem BI (S:Sd C s x f k m q):fX (vw q) (vw q)=some true:=by
 obtain ⟨W2,w1,w2,l1,l2,hok,hwd,hhd⟩:=S.ok;unfold fX;have e1:(vw q).Lines=q.L:=rfl;rw [e1,zd l2 w2 hok];simp [bO,bsm]
theorem zk (S:Sd C s x f k m q):fW q=some (vw q):=by
 obtain ⟨g,W,H,ks,op,F⟩:=S.fd;unfold fW vw;have hl:=F.v.len;have h1:=F.v.g.h1;rw [qc F.v,gdl (show 0 < q.L.length by omega),(F.v.ok _ (aG (show 0 < q.L.length by omega))).2];rfl
theorem A0 {W H:Nat} (w1:1≤W) (w2:W≤1024) (h1:1≤H) (h2:H≤1024):gt W H=some ⟨⟨bls W H,⟨0,0,false⟩,true⟩,[],[],0⟩:=by
 unfold gt;rw [eU,dm,eU,dm,show max (1:Int) (min (W:Int) 1024)=(W:Int) by omega,show max (1:Int) (min (H:Int) 1024)=(H:Int) by omega,A1 w2 h2];rfl
theorem tj (d:gb) (l:List bc) (hl:l.length≤9223372036854775807) (hb:Obs l) (hs:∀o∈l,o.Bytes.length≤4611686018427387904):∃st,dz ⟨[],[],[],[],[],[]⟩ d l=some (st,true):=by
 unfold dz;obtain ⟨s1,s2,h1,h2⟩:=Fe Ax Aw;obtain ⟨t,ht,ht2⟩:=Bm l hl hs;rw [h1];simp only [bsm,cF,ek,ht];by_cases hg:t=true
 ·rw [ae hg,h2];exact ⟨_,rfl⟩
 rw [af hg];obtain ⟨hL,hS⟩:=ht2 (by simpa using hg);obtain ⟨W,hW,hW1,hW2⟩:=Ex d.W 10 (by decide) (by decide);obtain ⟨H,hH,hH1,hH2⟩:=Ex d.H 6 (by decide) (by decide);rw [show ((10:Nat):Int)=10 from rfl] at hW;rw [show ((6:Nat):Int)=6 from rfl] at hH;rw [hW,hH];obtain ⟨s3,h3,S3⟩:=zc s1 W H;rw [h3,A0 hW1 (by omega) hH1 (by omega)];simp only [bsm];rw [wi hW1 (by omega),wi hH1 (by omega)] at S3;generalize s1.screen_Screen.length=x at *;generalize s1.feed_Feeder.length=f at *;generalize s1.place_Pen.length=k at *;refine Bi (n:=l.length) (fun i a=>∃F m q st,a=((i:Int),F.P.L,F.P.At.Row,F.P.At.Col,F.P.At.Pending,F.P.Auto,F.Group,F.Raw,F.Parts,st)∧Sd s3 st x f k m q∧Tm F m∧F.Raw.length≤sV (l.take i)∧F.Group.length≤2 * sV (l.take i))
  (fun u=>(∃e,u= .inr e)∨∃st,u= .inl (st,true)) (fun i a hi hI=>?_) (fun a hI=>?_) ⟨⟨⟨bls W H,⟨0,0,false⟩,true⟩,[],[],0⟩,_,_,s3,rfl,S3,⟨rfl,rfl,rfl,rfl,fun y hy=>by simp at hy⟩,by simp,by simp⟩ (by omega) (fun u hu=>?_)
 ·obtain ⟨F,m,q,st,rfl,S,T,hr,hgl⟩:=hI;simp only;rw [ae (dlt hi),eH hi hl];simp only [be hi,bsm];obtain ⟨hb1,hb2⟩:=hb _ (aG hi);have e1:sV (l.take (i+1))=sV (l.take i)+l[i].Bytes.length:=rk (fun o:bc=>o.Bytes.length) hi;have e2:sV (l.take (i+1))≤sV l:=xM (fun o:bc=>o.Bytes.length) l (i+1);obtain ⟨s',m',q',a1,a2,S'⟩:=AL S l[i] hb1 hb2;obtain ⟨F',b1,T',b3,b4⟩:=Cf T S.gv S.lay1 hb1 (by omega) (by omega) a2;have hF:(⟨(⟨F.P.L,(⟨F.P.At.Row,F.P.At.Col,F.P.At.Pending⟩:ai),F.P.Auto⟩:aa),F.Group,F.Raw,F.Parts⟩:av)=F:=rfl;rw [hF,b1];simp only [bsm];rw [a1];simp only [bsm,CT,yP,ek];rw [xQ S'];simp only [bsm];have hv':=S'.gv;have hq':=S'.lay1;rw [T'.g] at hv';rw [T'.p,T'.g] at hq';rw [zY hv' (by omega) hq'];simp only [bsm];rw [zk S'];simp only [bsm];rw [BI S'];simp only [bsm,cF,ek];rw [xU S',uL T'.b (by omega),T'.h];simp only [bsm,yP,ek];rw [xR S',T'.g,B9 hv' (by omega)];simp only [bsm];rw [yY _ (by
   have:(opn F'.Group).length≤16:=by
    unfold opn;split
    ·simp
    ·rw [aw]; omega
   omega)]
  simp only [bsm,cF,aj,aM];exact .inl ⟨_,rfl,F',m',q',s',rfl,S',T',by omega,by omega⟩
 ·obtain ⟨F,m,q,st,rfl,_⟩:=hI;exact ⟨_,by simp only; rw [af (by simp)],.inl ⟨_,rfl⟩⟩
 ·rcases hu with ⟨st,rfl⟩ | ⟨st,rfl⟩
  ·exact ⟨_,rfl⟩
  ·exact ⟨_,rfl⟩
end Go.Proofs.YthokmpbbkpjhbaaGreatDoor
