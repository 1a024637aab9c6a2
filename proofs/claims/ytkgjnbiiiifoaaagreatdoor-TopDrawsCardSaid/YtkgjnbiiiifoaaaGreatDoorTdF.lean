/- Parts of the proofs of TopDraws: the walk through the code, and plain Lean. No condition. -/
import Derived.Test.YtkgjnbiiiifoaaaGreatDoorTdE
import Derived.Test.YtkgjnbiiiifoaaaGreatDoorTdB
import Derived.Test.YtkgjnbiiiifoaaaGreatDoorTdC
import Derived.KernelRfl
import Derived.Test.YtkgjnbiiiifoaaaGreatDoorTdD
import Derived.Test.YtkgjnbiiiifoaaaGreatDoorTdA
import Derived.Test.YtkgjnbiiiifoaaaGreatDoorProg
set_option linter.unusedVariables false
set_option linter.unusedSimpArgs false
namespace Go.Proofs.YtkgjnbiiiifoaaaGreatDoor
open Go Go.Lt
variable {s C:Sto}{k g W j:Nat}{w:Bool}{q:ag}{ks:List Nat}
def Sto.sc (s:Sto) (j:Nat) (x:bj):Sto:={ s with widen_Cluster:=s.widen_Cluster.set j x}
theorem vQ {x:bj}(h:j<s.widen_Cluster.length):s.set_widen_Cluster j x=some (s.sc j x):=by
 unfold Sto.set_widen_Cluster;rw [ae h];rfl
theorem rZ {x:bj}(h:j<s.widen_Cluster.length):(s.sc j x).widen_Cluster[j]? = some x:=by simp [Sto.sc,h]
theorem zl (s:Sto) (j:Nat) (x y:bj):(s.sc j x).sc j y=s.sc j y:=by simp [Sto.sc]
theorem Gw.sc (h:Gw s g ks W) (j:Nat) (x:bj):Gw (s.sc j x) g ks W:=⟨h.g,h.r,h.h1,h.h2,h.w1,h.w2⟩
theorem Gw.addc (h:Gw s g ks W) (x:bj):Gw (s.add_widen_Cluster x) g ks W:=⟨h.g,h.r,h.h1,h.h2,h.w1,h.w2⟩
theorem Pv.sc (h:Pv s s k g W q ks) (j:Nat) (x:bj):Pv (s.sc j x) (s.sc j x) k g W q ks:=
 ⟨h.p,h.g.sc j x,h.nd,h.l,rfl,h.f.rgp ⟨rfl,rfl,rfl⟩ ⟨rfl,rfl,rfl⟩⟩
theorem Pv.addc (h:Pv s s k g W q ks) (x:bj):Pv (s.add_widen_Cluster x) (s.add_widen_Cluster x) k g W q ks:=
 ⟨h.p,h.g.addc x,h.nd,h.l,rfl,h.f.rgp ⟨rfl,rfl,rfl⟩ ⟨rfl,rfl,rfl⟩⟩
theorem vU {a b:Sto}(h:a.oth=b.oth):a.widen_Cluster=b.widen_Cluster:=by
 have:=nb Sto.widen_Cluster h;exact this
structure Wc (s:Sto) (j:Nat) (c:ai) (y:aY) (t:List Int) (n:Int):Prop where
 x:∃b,s.widen_Cluster[j]? = some ⟨c,n,b,y⟩/\Cv b t
theorem Wc.lt {c:ai}{y:aY}{t:List Int}{n:Int}(h:Wc s j c y t n):j<s.widen_Cluster.length:=by
 obtain ⟨b,h,_⟩:=h.x;exact cR h
theorem HG (r:Int):((dU r).bind fun x_6=>if (!x_6)=true then (some 65533:Option Int) else (some r:Option Int))=some (gF r):=by
 rw [pX];unfold gF
 cases vld r <;> rfl
theorem Hf {c:ai}{y:aY}{t:List Int}{n:Int}(h:Wc s j c y t n) (ht:t.length<16) (r:Int) (x:an):
  ∃b',fy s (some j) r x=some (s.sc j ⟨c,n,b',gz y (gF r) x⟩,wz (gz y (gF r) x))/\Cv b' (t++ [gF r]):=by
 have hj:=h.lt;obtain ⟨b,hb,hv⟩:=h.x;obtain ⟨b',h1,h2⟩:=Kq hv ht (gF r);refine ⟨b',?_,h2⟩;unfold fy;rw [HG];simp only [bsm,hb,h1];rw [vQ hj];simp only [bsm,xZ];rw [vQ (by simp [Sto.sc]; exact hj),zl];rfl
theorem IW (t:List Int) (h:2<=W):cl2 2 t W=(2,t):=by
 unfold cl2;rw [ab (by omega)];rfl
theorem DA (t:List Int) (h:1<=W):cl2 1 t W=(1,t):=by
 unfold cl2;rw [ab (by omega)];rfl
theorem DB (t:List Int):cl2 2 t 1=(1,[65533]):=by
 unfold cl2;rw [ae (by decide)]
structure On (C s:Sto) (k g W H j:Nat) (q0:ag) (y:aY) (t:List Int) (q:ag) (c:ai) (ks:List Nat):Prop where
 v:Pv s s k g W q ks
 f:Fr C s k g ks
 w:Wc s j c y t (wz y)
 n:ks.length=H
 p:aV q0 (wz y) t=some (q,c)
theorem G3 {q0:ag}(h:Pv C s k g W q0 ks) (r:Int) (x:an):∃s' q' c ks',lM s (some k) r x=some (s',some s.widen_Cluster.length)/\
  On C s' k g W ks.length s.widen_Cluster.length q0 (gz ⟨false,false,false⟩ (gF r) x) [gF r] q' c ks'/\∃z,s'.oth=(s.add_widen_Cluster z).oth:=by
 unfold lM;simp only [bJ,dR,bsm,h.p,aj,aU];have h0:Wc (s.add_widen_Cluster ⟨⟨0,0,false⟩,0,⟨(0,0,0,0,0,0,0,0,0,0,0,0,0,0,0,0),0⟩,⟨false,false,false⟩⟩) s.widen_Cluster.length ⟨0,0,false⟩ ⟨false,false,false⟩ [] 0:=
  ⟨⟨⟨(0,0,0,0,0,0,0,0,0,0,0,0,0,0,0,0),0⟩,by simp [Sto.add_widen_Cluster],⟨rfl,by simp,rfl⟩⟩⟩
 obtain ⟨b,h1,h2⟩:=Hf h0 (by simp) r x;have hlt:=h0.lt;rw [h1];have hv:=(h.self.addc ⟨⟨0,0,false⟩,0,⟨(0,0,0,0,0,0,0,0,0,0,0,0,0,0,0,0),0⟩,⟨false,false,false⟩⟩).sc s.widen_Cluster.length ⟨⟨0,0,false⟩,0,b,gz ⟨false,false,false⟩ (gF r) x⟩;have hR:Rgp s (s.add_widen_Cluster ⟨⟨0,0,false⟩,0,⟨(0,0,0,0,0,0,0,0,0,0,0,0,0,0,0,0),0⟩,⟨false,false,false⟩⟩):=⟨rfl,rfl,rfl⟩;have hA:∀z,((s.add_widen_Cluster ⟨⟨0,0,false⟩,0,⟨(0,0,0,0,0,0,0,0,0,0,0,0,0,0,0,0),0⟩,⟨false,false,false⟩⟩).sc s.widen_Cluster.length z)=s.add_widen_Cluster z:=fun z=>by
  simp [Sto.sc,Sto.add_widen_Cluster]
 generalize hs1:s.add_widen_Cluster ⟨⟨0,0,false⟩,0,⟨(0,0,0,0,0,0,0,0,0,0,0,0,0,0,0,0),0⟩,⟨false,false,false⟩⟩=s1 at *;simp only [bsm];rw [rZ hlt];simp only [bsm];rw [vQ (by simp [Sto.sc]; exact hlt),zl];simp only [bsm];rw [Dz h2];simp only [bsm,bW];have hv2:=hv.sc s.widen_Cluster.length ⟨⟨0,0,false⟩,wz (gz ⟨false,false,false⟩ (gF r) x),b,gz ⟨false,false,false⟩ (gF r) x⟩;simp only [zl] at hv2;obtain ⟨s3,q3,ks3,i,a,p1,p2,p3,p4,p5,p6,p7,_⟩:=CB hv2 (wz (gz ⟨false,false,false⟩ (gF r) x)) [gF r] (by simp);rw [p2];have hcl:s3.widen_Cluster=(s1.sc s.widen_Cluster.length ⟨⟨0,0,false⟩,wz (gz ⟨false,false,false⟩ (gF r) x),b,gz ⟨false,false,false⟩ (gF r) x⟩).widen_Cluster:=vU p4.o;have hg3:s3.widen_Cluster[s.widen_Cluster.length]? = some ⟨⟨0,0,false⟩,wz (gz ⟨false,false,false⟩ (gF r) x),b,gz ⟨false,false,false⟩ (gF r) x⟩:=by
  rw [hcl];exact rZ hlt
 simp only [bsm];rw [hg3];simp only [bsm];rw [vQ (cR hg3)];refine ⟨_,q3,_,ks3,rfl,⟨p4.self.sc _ _,?_,⟨_,rZ (cR hg3),by simpa using h2⟩,p5,p3⟩,⟨⟨(i:Int),(a:Int),false⟩,wz (gz ⟨false,false,false⟩ (gF r) x),b,gz ⟨false,false,false⟩ (gF r) x⟩,?_⟩
 ·exact (h.f.trans h.oG h.oR (p4.f.rgp (C':=s) ⟨hR.symm.r,hR.symm.g,hR.symm.p⟩ (Rgp.self _))).rgp (Rgp.self _) ⟨rfl,rfl,rfl⟩
 ·rw [<-hA];have:=nb (fun y:Sto=>y.sc s.widen_Cluster.length ⟨⟨(i:Int),(a:Int),false⟩,wz (gz ⟨false,false,false⟩ (gF r) x),b,gz ⟨false,false,false⟩ (gF r) x⟩) p4.o;refine this.trans ?_;show (((s1.sc _ _).sc _ _).oth)=_;rw [zl]
theorem AQ (y:aY):(y.wide=false/\wz y=1)\/(y.wide=true/\wz y=2):=by
 unfold wz;cases y.wide
 ·exact .inl ⟨rfl,rfl⟩
 ·exact .inr ⟨rfl,rfl⟩
theorem Dm {y:aY}(h:y.wide=true) (r:Int) (x:an):(gz y r x).wide=true:=by
 unfold gz;simp [h]
theorem IX (p1:Int) (t t':List Int) (W:Nat):(cl2 p1 t W).1=(cl2 p1 t' W).1:=by
 unfold cl2;split <;> rfl
theorem Ez {q0:ag}{y:aY}{t:List Int}{c:ai}{H:Nat}(h:On C s k g W H j q0 y t q c ks) (ht:t.length=16) (r:Int) (x:an):
  dS s (some j) (some k) r x=some (s,false):=by
 obtain ⟨b,hb,hv⟩:=h.w.x;unfold dS;simp only [bJ,dR,bsm,h.v.p,hb,Ao hv,ht];rfl
theorem Ir {C0 s0:Sto}{ks0:List Nat}{q0:ag}{H:Nat}(h0:Pv C0 s0 k g W q0 ks0) (hH:ks0.length=H){y:aY}{t:List Int}{c:ai}(h:On C s k g W H j q0 y t q c ks) (ht1:1<=t.length) (ht:t.length<16) (hvt:∀x∈t,vld x=true) (r:Int) (x:an):
  ∃s' q' c' ks',dS s (some j) (some k) r x=some (s',true)/\On C s' k g W H j q0 (gz y (gF r) x) (t++ [gF r]) q' c' ks'/\∃z,s'.oth=(s.sc j z).oth:=by
 have hj:=h.w.lt;obtain ⟨b',e1,e2⟩:=Hf h.w ht r x;obtain ⟨b,hb,hv⟩:=h.w.x;have w1:=h0.g.w1;have w2:=h0.g.w2;unfold dS;have hfull:decide (t.length=16)=false:=by simp; omega
 simp only [bJ,dR,bsm,h.v.p,hb,Ao hv,hfull,aj,aU,e1];have htl:(t++ [gF r]).length<=1000000:=by simp; omega
 generalize hy':gz y (gF r) x=y' at *;rw [rZ hj];simp only [bsm];rw [vQ (by simp [Sto.sc]; exact hj),zl];simp only [bsm];have hv2:=h.v.sc j ⟨c,wz y',b',y'⟩;have hfr:Fr C (s.sc j ⟨c,wz y',b',y'⟩) k g ks:=h.f.rgp (Rgp.self _) ⟨rfl,rfl,rfl⟩;by_cases hw:wz y'=wz y
 ·rw [ab (by simp [hw])];simp only [hv2.p,bsm];rw [jI hv2.g];simp only [bsm];obtain ⟨hdd,hdw⟩:=GR (wz y) t w1;obtain ⟨L2,i,a,pd,r1,r2,r3,r4,r5⟩:=FU h0 hdd hdw;have hq:=kS hdd h0 r1 r2 r3 r4 r5 (wz y) t (by omega) rfl;have hq':=kS hdd h0 r1 r2 r3 r4 r5 (wz y) (t++ [gF r]) htl (IX _ _ _ _);rw [h.p] at hq;simp only [aK,ib] at hq;obtain ⟨hq1,rfl⟩:=hq;by_cases hle:wz y'<=(W:Int)
  ·rw [ae (by simpa using hle)];have hcl:∀t2:List Int,cl2 (wz y) t2 W=((wz y).toNat,t2):=fun t2=>by
    rw [hw] at hle;rcases AQ y with ⟨_,q1⟩|⟨_,q1⟩
    ·rw [q1]; exact DA t2 w1
    ·rw [q1]; exact IW t2 (by omega)
   rw [hcl] at hq1 r3 hdd hdw r1 hq';rw [hcl] at hq';simp only at hq1 r3 hdd hdw r1 hq';generalize (wz y).toNat=d at *;have hik:i<ks.length:=by rw [h.n,<-hH]; exact r2
   rw [fm hv2.g hik];simp only [bsm];have hfx:fx t=t:=Ll hvt (by omega);obtain ⟨⟨rc,rw_⟩,hr0,hsn,hlw⟩:=h.v.g.at hik;simp only at hsn hlw;have hlt:i<L2.length:=by rw [r4]; exact r2
   have hat:=h.v.at hik;rw [oP hr0] at hat;have hqL:q.L=L2.set i ⟨pl (L2.getD i dl).Cells a (dD d (fx t)),pw (L2.getD i dl).Cells (L2.getD i dl).Wrap a d⟩:=by rw [hq1]; rfl
   have hgi:q.L[i]'(by rw [h.v.len]; exact hik)=⟨pl (L2.getD i dl).Cells a (dD d (fx t)),pw (L2.getD i dl).Cells (L2.getD i dl).Wrap a d⟩:=by
    have:q.L[i]? = some ⟨pl (L2.getD i dl).Cells a (dD d (fx t)),pw (L2.getD i dl).Cells (L2.getD i dl).Wrap a d⟩:=by rw [hqL,bp hlt]
    rw [af (by rw [h.v.len]; exact hik)] at this;exact aL this
   rw [hgi] at hat;simp only [ah.mk.injEq] at hat;obtain ⟨hrc,hrw⟩:=hat;subst hrc hrw;have hcells:(L2.getD i dl).Cells.length=W:=by
    rw [gdl hlt];exact (r5 _ (ay hlt)).2
   have hq1A:q.At=ca ⟨(i:Int),(a:Int),false⟩ d W q0.Auto/\q.Auto=q0.Auto:=by rw [hq1]; exact ⟨rfl,rfl⟩
   generalize hl0:(L2.getD i dl).Cells=l0 at *;generalize hw0:(L2.getD i dl).Wrap=w0 at *;rw [hfx] at hr0 hsn hqL hlw hgi;have hr0':(s.sc j ⟨⟨(i:Int),(a:Int),false⟩,wz y',b',y'⟩).row_Row[ks[i]]? = some ⟨pl l0 a (dD d t),pw l0 w0 a d⟩:=hr0;have hst:=oL d hdd t;have hst2:=oL d hdd (fx (t++ [r]));rw [Es hdd hr0' hsn (by omega) (by omega) ht1 (by omega) r];simp only [bsm];have o1:=zX (l:=l0) (p:=dD d t) (p':=dD d (fx (t++ [r]))) (av a) (by omega) (by omega);have o2:=De (l:=l0) (w:=w0) (p:=dD d t) (p':=dD d (fx (t++ [r]))) (av a) (by omega) (by omega);rw [hst,hst2] at o2;have hsn2:Snd (pl l0 a (dD d (fx (t++ [r])))):=by
    rw [<-o1];exact hsn.paint (Cm _ _) (by rw [jq]; omega)
   have hv4:=hv2.row hik (r:=⟨pl l0 a (dD d (fx (t++ [r]))),pw (pl l0 a (dD d t)) (pw l0 w0 a d) a d⟩) hsn2 (by simp only [jq]; exact hcells);refine ⟨_,_,_,ks,rfl,⟨hv4.self,hfr.sr (ay hik) _,⟨b',rZ hj,e2⟩,h.n,?_⟩,_,rfl⟩;rw [hw,hq'];have hfx2:=Gy (t:=t) (by omega) r;rw [o2,hqL,hq1A.1,hq1A.2,List.set_set,<-hfx2];unfold Ei;rw [hl0,hw0]
  ·rw [ab (by simpa using hle)];have hW:W=1:=by
    rcases AQ y' with ⟨_,q1⟩|⟨_,q1⟩ <;> omega
   refine ⟨_,q,_,ks,rfl,⟨hv2,hfr,⟨b',rZ hj,e2⟩,h.n,?_⟩,_,rfl⟩;rw [hw,hq'];have h2:wz y=2:=by
    rcases AQ y with ⟨_,q1⟩|⟨_,q1⟩
    ·rw [hw,q1] at hle; omega
    ·exact q1
   rw [hq1,h2,hW,DB,DB]
 ·rw [ae (by simpa using hw)];have hy1:wz y=1/\wz y'=2:=by
   rcases AQ y with ⟨_,q1⟩|⟨q1,q2⟩
   ·rcases AQ y' with ⟨_,q3⟩|⟨_,q3⟩
    ·rw [q1,q3] at hw; exact absurd rfl hw
    ·exact ⟨q1,q3⟩
   ·have:=Dm q1 (gF r) x;rw [hy'] at this;unfold wz at hw;rw [this,q1] at hw;exact absurd rfl hw
  simp only [hv2.p,bsm];rw [jh (cR hv2.p)];simp only [bsm];have hv3:=hv2.set c q.Auto;have hc3:((s.sc j ⟨c,wz y',b',y'⟩).sp k ⟨some g,c,q.Auto⟩).widen_Cluster[j]? = some ⟨c,wz y',b',y'⟩:=rZ hj;rw [hc3];simp only [bsm];rw [Dz e2];simp only [bsm];obtain ⟨s4,q4,ks4,i,a,p1,p2,p3,p4,p5,p6,p7,_⟩:=CB hv3 (wz y') (t++ [gF r]) htl;rw [p2];simp only [bsm];have hc4:s4.widen_Cluster[j]? = some ⟨c,wz y',b',y'⟩:=by
   rw [vU p4.o];exact hc3
  rw [hc4];simp only [bsm];rw [vQ (cR hc4)];refine ⟨_,q4,_,ks4,rfl,⟨p4.self.sc _ _,?_,⟨b',rZ (cR hc4),e2⟩,p5.trans h.n,?_⟩,⟨⟨(i:Int),(a:Int),false⟩,wz y',b',y'⟩,?_⟩
  ·have h3:=p4.f;have:=h.f.trans h.v.oG h.v.oR (h3.rgp (C':=s) ⟨rfl,rfl,rfl⟩ (Rgp.self _));exact this.rgp (Rgp.self _) ⟨rfl,rfl,rfl⟩
  ·rw [<-p3];exact (Ej h0 (by omega) htl (by rw [hy1.1,DA _ w1]) h.p h.v (h.n.trans hH.symm)).symm
  ·have:=nb (fun y:Sto=>y.sc j ⟨⟨(i:Int),(a:Int),false⟩,wz y',b',y'⟩) p4.o;refine this.trans ?_;show (((s.sc _ _).sc _ _).oth)=_;rw [zl]
def gf (t:List Int) (x:List an):aY:=(t.zip x).foldl (fun y p=>gz y p.1 p.2) ⟨false,false,false⟩
theorem AP {α β:Type}:∀(t:List α) (x:List β) (r:α) (h:t.length<x.length),(t++ [r]).zip x=t.zip x++ [(r,x[t.length])]
 | [],[],_,h=>by simp at h
 | [],b::x,r,_=>by simp
 | a::t,[],_,h=>by simp at h
 | a::t,b::x,r,h=>by
  have:=AP t x r (by simpa using h);simp only [dv,AL,this,aM,KE]
theorem xk {t:List Int}{x:List an}(h:t.length<x.length) (r:Int):gf (t++ [r]) x=gz (gf t x) r x[t.length]:=by
 unfold gf;rw [AP t x r h,kw];rfl
theorem AO {α β:Type}:∀(t:List α) (x:List β) (n:Nat),t.length<=n->t.zip (x.take n)=t.zip x
 | [],_,_,_=>rfl
 | _::_,[],_,_=>by simp
 | _::_,_::_,0,h=>by simp at h
 | a::t,b::x,n+1,h=>by
  rw [LU,AL,AL,AO t x n (by simpa using h)]
theorem Iz (t:List Int) (x:List an){n:Nat}(h:t.length<=n):gf t (x.take n)=gf t x:=by
 unfold gf;rw [AO _ _ _ h]
theorem Cy (b:Int) (zs:List Int) (hz:zs.length<=1000):∃t,cm (σ:=Int) (τ:=Int ⊕ Unit) (((zs.length:Int)-0).toNat+1) (fun s_9=>
 if decide (s_9<(zs.length:Int)) then
 (idx zs s_9).bind fun x_19=>
 if (b==x_19)=true then
 some (.inr (.inl 0))
 else
 some (.inl ((w64 (s_9+1))))
 else
 some (.inr (.inr ()))) 0=some t/\(match t with|.inl n=>n=0/\b∈zs|.inr _=>b∉zs):=by
 refine eV (n:=zs.length) (fun i s=>s=(i:Int)/\∀k (h:k<zs.length),k<i->zs[k]≠b) (fun t:Int ⊕ Unit=>match t with|.inl n=>n=0/\b∈zs|.inr _=>b∉zs) (fun i s hi he=>?_) (fun s he=>?_) ⟨rfl,fun k h hk=>by omega⟩ (by omega)
 ·obtain ⟨e,hI⟩:=he;subst e;rw [ae (dlt hi),bd hi,cM hi (by omega)];simp only [bsm];by_cases hx:b=zs[i]
  ·rw [ae (by simpa using hx)];exact .inr ⟨_,rfl,rfl,hx▸ ay hi⟩
  ·rw [ab (by simpa using hx)];refine .inl ⟨_,rfl,rfl,fun k h hk=>?_⟩;by_cases hki:k=i
   ·subst hki; exact fun e=>hx e.symm
   ·exact hI k h (by omega)
 ·obtain ⟨e,hI⟩:=he;subst e;refine ⟨.inr (),by rw [ab (by simp)],fun hb=>?_⟩;obtain ⟨i,hi,e⟩:=List.mem_iff_getElem.1 hb;exact hI i hi hi e
theorem FS (x:an):∃n,ik x=some n/\(n==2)=b2 x:=by
 unfold ik;obtain ⟨t,h1,h2⟩:=Cy x.Break [1,2,3,4,5,10,11] (by decide);rw [h1];have hz:zb x.Break=true↔x.Break∈([1,2,3,4,5,10,11]:List Int):=by simp [zb]; omega
 unfold b2
 cases t with
 | inl n=>
  obtain ⟨rfl,hm⟩:=h2;exact ⟨0,rfl,by rw [hz.2 hm]; rfl⟩
 | inr u=>
  have hf:zb x.Break=false:=by rw [<-vL,hz]; exact h2
  simp only [bu,bsm,hf]
  cases h:(x.East==1 || x.East==2) with
  | true=>exact ⟨2,by simp,rfl⟩
  | false=>exact ⟨1,by simp,rfl⟩
theorem KW (t:List Int) (x:List an) (h:t.length<=x.length) (ht:t.length<=1000000):gG t x=some (wz (gf t x)):=by
 unfold gG;have key:∀i,i<=t.length->(gf (t.take i) x).some=decide (0<i)/\(∀(h1:0<i) (h2:i-1<x.length),(gf (t.take i) x).pict=x[i-1].Pict):=fun i hi=>by
  cases i with
  | zero=>exact ⟨rfl,fun h=>absurd h (by decide)⟩
  | succ i=>
   have hl:(t.take i).length=i:=by rw [aA]; omega
   rw [ak (by omega),xk (by rw [hl]; omega)];exact ⟨by simp [gz],fun _ _=>by simp [gz,hl]⟩
 have mono:∀i,i<=t.length->(gf (t.take i) x).wide=true->(gf t x).wide=true:=fun i hi hw=>by
  have:∀m,i<=m->m<=t.length->(gf (t.take m) x).wide=true:=by
   intro m
   induction m with
   | zero=>intro h1 _; rw [show i=0 by omega] at hw; exact hw
   | succ m ih=>
    intro h1 h2;by_cases e:i=m+1
    ·rw [<-e]; exact hw
    ·rw [ak (by omega),xk (by rw [aA]; omega)];exact Dm (ih (by omega) (by omega)) _ _
  have:=this t.length hi (av _)
  rwa [aG (av _)] at this
 refine jH (n:=t.length) (fun i s=>s=(i:Int)/\(gf (t.take i) x).wide=false) (fun u=>match u with|.inl n=>n=2/\(gf t x).wide=true|.inr _=>(gf t x).wide=false) (fun i s hi ⟨e,hI⟩=>?_) (fun s ⟨e,hI⟩=>?_) ⟨rfl,rfl⟩ (by omega) (fun u hu=>?_)
 ·subst e;have e5:=cM hi (by omega);have hx:i<x.length:=by omega
  obtain ⟨n,h1,h2⟩:=FS x[i];rw [ae (dlt hi),bd hx];simp only [bsm,h1,h2,e5,bd hi];have hl:(t.take i).length=i:=by rw [aA]; omega
  have hs:(gf (t.take (i+1)) x).wide=(b2 x[i] || (decide (0<i) && ((t[i]==65039 && (gf (t.take i) x).pict) || x[i].Pict || x[i].Break==6))):=by
   rw [ak hi,xk (by rw [hl]; omega)];simp only [gz,hI,dz,(key i (by omega)).1,hl]
  have hd:∀(A:Option Bool),(∀(h0:0<i),A=some ((t[i]==65039 && x[i-1].Pict) || x[i].Pict || x[i].Break==6))->
    (orE (b2 x[i]) ((bw (decide ((i:Int)>0)) A).bind fun d_21=>some d_21))=some (gf (t.take (i+1)) x).wide:=fun A hA=>by
   rw [hs];by_cases h0:0<i
   ·rw [hA h0,show decide ((i:Int)>0)=true by simp; omega,jf,show decide (0<i)=true by simpa using h0,(key i (by omega)).2 h0 (by omega)];simp only [bsm,bu,dy]
   ·rw [show decide ((i:Int)>0)=false by simp; omega,kh,show decide (0<i)=false by simpa using h0];simp only [bsm,bu,iB]
  rw [hd _ (fun h0=>by
   rw [show w64 ((i:Int)-1)=((i-1:Nat):Int) by rw [aQ (by omega)]; omega,bd (show i-1<x.length by omega)];simp only [bsm,aX,bu])]
  simp only [bsm]
  cases hw:(gf (t.take (i+1)) x).wide with
  | true=>exact .inr ⟨.inl 2,rfl,rfl,mono (i+1) (by omega) hw⟩
  | false=>exact .inl ⟨_,rfl,rfl,rfl⟩
 ·subst e;rw [aG (av _)] at hI;exact ⟨.inr (),by rw [ab (by simp)],hI⟩
 ·unfold wz
  cases u with
  | inl n=>
   obtain ⟨rfl,hw⟩:=hu;rw [hw];rfl
  | inr u=>
   simp only at hu;rw [hu];rfl
end Go.Proofs.YtkgjnbiiiifoaaaGreatDoor
namespace Go.Proofs.YtkgjnbiiiifoaaaGreatDoor
open Go Go.Lt
variable {s C:Sto}{g k W:Nat}{ks:List Nat}{q:ag}
def bls (W H:Nat):List ah:=List.replicate H ⟨List.replicate W bl,false⟩
theorem GY {W H:Nat}(w1:1<=W) (w2:W<=1024) (h1:1<=H):∀i (h:i<(bls W H).length),1<=(bls W H)[i].Cells.length/\(bls W H)[i].Cells.length<=1024/\Snd (bls W H)[i].Cells/\(bls W H)[i].Cells.length=((bls W H)[0]'(by omega)).Cells.length:=fun i h=>by
 have e:∀j (hj:j<(bls W H).length),(bls W H)[j]=⟨List.replicate W bl,false⟩:=fun j hj=>by
  unfold bls;exact jx _
 rw [e i h,e 0 (by omega)];simp only [mq];exact ⟨w1,w2,vO W,trivial⟩
theorem BA (n m:Int):nM s n m=some ((s.addr ((bls (sd n) (sd m)).map lr)).add_grid_Grid ⟨(List.range' s.row_Row.length (sd m)).map some⟩,some s.grid_Grid.length):=by
 have hsd:=xu m;have hL:∀i,((bls (sd n) (sd m)).map lr).take i=List.replicate (min i (sd m)) ⟨List.replicate (sd n) bl,false⟩:=fun i=>by
  unfold bls;rw [List.map_replicate,List.take_replicate];rfl
 have hlen:((bls (sd n) (sd m)).map lr).length=sd m:=by simp [bls]
 have hH:bb 1 (aR m 1024)=(sd m:Int):=by
  rw [ey,iC];unfold sd;omega
 unfold nM;rw [hH];simp only [bsm];obtain ⟨t,h3,h4⟩:=eV (σ:=Int×Sto) (τ:=Sto) (n:=sd m) (fuel:=(((sd m:Nat):Int)-0).toNat+1) (s:=(0,s.add_grid_Grid (⟨([]:List (Option Nat))⟩:bV)))
  (fun i q=>q=((i:Int),(s.addr (((bls (sd n) (sd m)).map lr).take i)).add_grid_Grid ⟨(List.range' s.row_Row.length i).map some⟩))
  (fun t=>t=(s.addr ((bls (sd n) (sd m)).map lr)).add_grid_Grid ⟨(List.range' s.row_Row.length (sd m)).map some⟩)
  (step:=fun s_12=>
 if decide (s_12.1<((sd m:Nat):Int)) then
 (s_12.2.grid_Grid[s.grid_Grid.length]?).bind fun o_19=>
 (lC s_12.2 n).bind fun x_21=>
 (app o_19.rows ([x_21.2]:List (Option Nat))).bind fun x_23=>
 (x_21.1.set_grid_Grid s.grid_Grid.length (⟨x_23⟩:bV)).bind fun s_26001=>
 some (.inl ((w64 (s_12.1+1)),s_26001))
 else
 some (.inr s_12.2))
  (fun i q hi e=>by
   subst e;refine .inl ⟨_,?_,rfl⟩;have e5:w64 ((i:Int)+1)=((i+1:Nat):Int):=by rw [aQ (by omega)]; simp
   have hd:decide ((i:Int)<((sd m:Nat):Int))=true:=by simp; exact hi
   have hg:((s.addr (((bls (sd n) (sd m)).map lr).take i)).add_grid_Grid ⟨(List.range' s.row_Row.length i).map some⟩).grid_Grid[s.grid_Grid.length]? = some ⟨(List.range' s.row_Row.length i).map some⟩:=by
    simp [Sto.add_grid_Grid,Sto.addr]
   simp only [hd,bA];rw [hg,zU];simp only [bsm];rw [fg (by simp; omega)];simp only [bsm];have hlt:s.grid_Grid.length<(((s.addr (((bls (sd n) (sd m)).map lr).take i)).add_grid_Grid ⟨(List.range' s.row_Row.length i).map some⟩).add_row_Row ⟨List.replicate (sd n) bl,false⟩).grid_Grid.length:=by
    simp [Sto.add_grid_Grid,Sto.addr,Sto.add_row_Row]
   rw [A1 hlt,e5];simp only [bsm]
   congr 4
   refine Jz ?_ ?_ rfl
   ·simp only [Sto.sg,Sto.add_grid_Grid,Sto.add_row_Row,Sto.addr];rw [hL,hL,cV (by omega),cV (by omega),LL,aO]
   ·simp only [Sto.sg,Sto.add_grid_Grid,Sto.add_row_Row,Sto.addr];rw [pF _ _ (av _),nF,td,Mi,bK,hL,cV (by omega)];simp)
  (fun q e=>⟨q.2,by subst e; simp,by subst e; simp only; rw [aG (by omega)]⟩)
  (by simp [Cb]) (by omega)
 subst h4;rw [h3];rfl
theorem Fr.of_grid (xs:List bm) (x:bV){n:Nat}(hn:n=s.grid_Grid.length){m:Nat}:Fr s ((s.addr xs).add_grid_Grid x) k n (List.range' s.row_Row.length m):=by
 subst hn;refine Fr.new (av _) ?_ ?_ (fun _ _=>rfl) (fun j hj=>?_) (fun j hj=>?_) (av _) (fun r hr=>(List.mem_range'_1.1 hr).1)
 ·simp [Sto.add_grid_Grid,Sto.addr]
 ·simp [Sto.add_grid_Grid,Sto.addr]
 ·simp only [Sto.add_grid_Grid,Sto.addr]; exact aC hj
 ·simp only [Sto.add_grid_Grid,Sto.addr]; exact aC hj
theorem Gw.addp (h:Gw s g ks W) (x:bq):Gw (s.add_place_Pen x) g ks W:=⟨h.g,h.r,h.h1,h.h2,h.w1,h.w2⟩
theorem El (n m:Int):∃s' ks,og s n m=some (s',some s.place_Pen.length)/\Pv s s' s.place_Pen.length s.grid_Grid.length (sd n) ⟨bls (sd n) (sd m),⟨0,0,false⟩,true⟩ ks:=by
 have h1:=xu n;have h2:=xu m;have hb:(bls (sd n) (sd m)).length=sd m:=by simp [bls]
 have h0:((bls (sd n) (sd m))[0]'(by omega)).Cells.length=sd n:=by simp [bls]
 obtain ⟨g1,g2⟩:=Jk (s:=s) (L:=bls (sd n) (sd m)) (by omega) (by omega) (GY h1.1 h1.2 h2.1);rw [h0] at g1;rw [hb] at g1 g2;unfold og;rw [BA];refine ⟨_,_,rfl,⟨?_,g1.addp _,?_,?_,rfl,(Fr.of_grid _ _ rfl).addp _⟩⟩
 ·simp [Sto.add_place_Pen,Sto.add_grid_Grid,Sto.addr]
 ·exact Mu
 ·exact g2
def sil (r:Int):Bool:=(decide (0<=r) && decide (r<32)) || (decide (127<=r) && decide (r<=159))
theorem Cn (r:Int):ir r=some (sil r):=by
 simp only [ir,aX,bu,bsm,sil,CG]
theorem oO (r:Int):eq r=some (sil r):=by
 simp only [eq,aX,bu,bsm,sil,CG,aK];rw [ci];simp;omega
theorem zp (r:Int) (h:r≠13/\r≠10/\r≠8):dV q r=some (q,sil r):=by
 unfold dV;rw [ab (by simpa using h.1)];simp only [bsm];rw [ab (by simpa using h.2.1)];simp only [bsm];rw [ab (by simpa using h.2.2)];simp only [bsm];rw [oO];rfl
theorem IQ (h:Pv C s k g W q ks) (r:Int):∃s' q' ks',qk s (some k) r=some (s',sil r)/\dV q r=some (q',sil r)/\Pv C s' k g W q' ks'/\ks'.length=ks.length/\(Hd q.At W ks.length->Hd q'.At W ks.length):=by
 have w1:=h.g.w1;have w2:=h.g.w2;unfold qk;rw [Cn];simp only [bsm,bJ,dR,h.p];by_cases hs:sil r=true
 ·rw [hs];simp only [cP,aj,aU];rw [jI h.g,eW h.g];simp only [bsm];rw [qo _ h.g.w1 h.g.w2 h.g.h1 h.g.h2];have hd:=vf q.At h.g.w1 h.g.h1;have hh:=qb h;by_cases h13:r=13
  ·subst h13;simp only [bsm,lu,bA,dG];rw [jh (cR h.p)];refine ⟨_,_,ks,rfl,?_,h.set ⟨(hc q.At W ks.length).Row,0,false⟩ q.Auto,rfl,fun _=>⟨hd.rr,by simp only; omega,fun e=>by cases e⟩⟩;unfold dV;rw [hh,oO,hs];rfl
  by_cases h10:r=10
  ·subst h10;obtain ⟨s',q',ks',a1,a2,v,hn,hnd,_⟩:=xH h;simp only [bsm];rw [ab (by decide),ae (by decide),a1];refine ⟨s',q',ks',rfl,?_,v,hn,fun _=>hnd⟩;unfold dV;rw [ab (by decide)];simp only [bsm];rw [ae (by decide),show (⟨q.L,⟨q.At.Row,q.At.Col,q.At.Pending⟩,q.Auto⟩:ag)=q from rfl,a2];simp only [bsm];rw [ab (by decide),oO,hs];rfl
  by_cases h8:r=8
  ·subst h8;have hcc:=hd.cc;have hb:lT (hc q.At W ks.length)=some ⟨(hc q.At W ks.length).Row,max 0 ((hc q.At W ks.length).Col-1),false⟩:=by
    unfold lT;by_cases h0:(hc q.At W ks.length).Col>0
    ·rw [ae (by simpa using h0),aQ (by omega)];simp only [bsm,aK,ai.mk.injEq,xq,qw];omega
    ·rw [ab (by simpa using h0)];simp only [bsm,aK,ai.mk.injEq,xq,qw];omega
   simp only [bsm];rw [ab (by decide),ab (by decide),ae (by decide),hb];simp only [bsm];rw [jh (cR h.p)];refine ⟨_,_,ks,rfl,?_,h.set ⟨(hc q.At W ks.length).Row,max 0 ((hc q.At W ks.length).Col-1),false⟩ q.Auto,rfl,fun _=>⟨hd.rr,by simp only; omega,fun e=>by cases e⟩⟩;unfold dV;rw [ab (by decide)];simp only [bsm];rw [ab (by decide)];simp only [bsm];rw [ae (by decide),show (⟨q.L,⟨q.At.Row,q.At.Col,q.At.Pending⟩,q.Auto⟩:ag)=q from rfl,hh];simp only [bsm];rw [oO,hs,aQ (by omega),iC];rfl
  ·simp only [bsm];rw [ab (by simpa using h13),ab (by simpa using h10),ab (by simpa using h8)];exact ⟨s,q,ks,rfl,by rw [zp r ⟨h13,h10,h8⟩,hs],h,rfl,id⟩
 ·have hf:sil r=false:=by simpa using hs
  rw [hf];simp only [eK,bA];have hn:r≠13/\r≠10/\r≠8:=by
   refine ⟨?_,?_,?_⟩ <;> (rintro rfl; revert hf; decide)
  exact ⟨s,q,ks,rfl,by rw [zp r hn,hf],h,rfl,id⟩
end Go.Proofs.YtkgjnbiiiifoaaaGreatDoor
namespace Go.Proofs.YtkgjnbiiiifoaaaGreatDoor
open Go Go.Lt
def pj (a b:Int):Int:=(fu a b).getD 0
def clz (a:Int):Int:=if a<0\/13<a then 0 else a
def pjT (i j:Nat):Bool:=match fu i j,di i j with
 | some x,some y=>x==y && (x != 2 || ((i==6)==(j==6))) && (x==0 || !(i==1 || i==2 || i==3 || j==1 || j==2 || j==3) || (i==1 && j==2))
 | _,_=>false
theorem JO:((List.range 14).all fun i=>(List.range 14).all fun j=>pjT i j)=true:=by kernel_rfl
theorem Dx (a:Int):∃i:Nat,clz a=(i:Int)/\i<14/\(0<i->a=(i:Int)):=by
 unfold clz;split
 ·exact ⟨0,rfl,by omega,fun h=>by omega⟩
 ·exact ⟨a.toNat,by omega,by omega,fun _=>by omega⟩
theorem nZ (a:Int):js a=some (clz a):=by
 unfold js clz;simp only [bu,bsm];by_cases h:a<0\/13<a
 ·rw [ae (by simp only [aB,am]; omega),ae h]
 ·rw [ab (by simp only [aB,am]; omega),ab h]
theorem xl (a:Int):clz (clz a)=clz a:=by
 unfold clz
 repeat' split
 all_goals omega
theorem Em (a b:Int):fu a b=fu (clz a) (clz b):=by
 unfold fu;rw [nZ,nZ,nZ,nZ,xl,xl]
theorem Eg (a b:Int):di a b=di (clz a) (clz b):=by
 have h:∀(a:Int),((orE (decide (a<0)) (some (decide (a>13)))).bind fun d_6=>if d_6 then (some 0:Option Int) else (some a:Option Int))=some (clz a):=fun a=>by
  have:=nZ a;unfold js at this;exact this
 unfold di;rw [h,h,h,h,xl,xl]
theorem xE (a b:Int):∃x,fu a b=some x/\di a b=some x/\pj a b=x/\(x=2->(a=6↔b=6))/\(x≠0->(a=1\/a=2\/a=3\/b=1\/b=2\/b=3)->a=1/\b=2):=by
 obtain ⟨i,hi,i14,i0⟩:=Dx a;obtain ⟨j,hj,j14,j0⟩:=Dx b;have h:=List.all_eq_true.1 (List.all_eq_true.1 JO i (List.mem_range.2 i14)) j (List.mem_range.2 j14);have ia:∀n:Nat,0<n->n<14->(a=(n:Int)↔i=n):=fun n h0 h1=>by
  constructor
  ·intro e
   unfold clz at hi;split at hi <;> omega
  ·intro e; subst e; exact i0 h0
 have jb:∀n:Nat,0<n->n<14->(b=(n:Int)↔j=n):=fun n h0 h1=>by
  constructor
  ·intro e
   unfold clz at hj;split at hj <;> omega
  ·intro e; subst e; exact j0 h0
 have a1:=ia 1 (by omega) (by omega);have a2:=ia 2 (by omega) (by omega);have a3:=ia 3 (by omega) (by omega);have a6:=ia 6 (by omega) (by omega);have b1:=jb 1 (by omega) (by omega);have b2:=jb 2 (by omega) (by omega);have b3:=jb 3 (by omega) (by omega);have b6:=jb 6 (by omega) (by omega);unfold pj;rw [Em,Eg,hi,hj];unfold pjT at h;split at h
 ·rename_i x y e1 e2
  simp only [ao,aB,aS,kL,zt,cy,ny,fe] at h;obtain ⟨⟨hxy,h2⟩,h3⟩:=h;subst hxy;refine ⟨x,e1,e2,by rw [e1]; rfl,fun hx=>?_,fun hx hc=>?_⟩
  ·rcases h2 with q|q
   ·exact absurd hx q
   ·have q1:(i==6)=(j==6):=q
    rw [ci,aS,aS] at q1;omega
  ·rcases h3 with (q|q)|q
   ·exact absurd q hx
   ·exfalso
    omega
   ·omega
 ·cases h
theorem HU (a b:Int):fu a b=some (pj a b):=by
 obtain ⟨x,h1,_,h3,_⟩:=xE a b;rw [h1,h3]
theorem JN (a b:Int):di a b=some (pj a b):=by
 obtain ⟨x,_,h2,h3,_⟩:=xE a b;rw [h2,h3]
theorem JM (a b:Int) (h:pj a b=2):a=6↔b=6:=by
 obtain ⟨x,_,_,h3,h4,_⟩:=xE a b;exact h4 (by omega)
def sgB (s:Sg):bv:=⟨s.some,s.last,s.pict,s.conj,s.odd⟩
theorem A2 (s:Sg) (p:an):cI (sgB s) p=some (sgB (sgN s p),sgJ pj s p):=by
 have hj:dg (sgB s) p=some (sgJ pj s p):=by
  unfold dg sgB sgJ;simp only [aX,bsm,HU]
  cases s.some with
  | false=>rfl
  | true=>
   simp only [cP,aj,aU,dy]
   cases h1:(p.Conj==1 && s.conj==2) with
   | true=>rfl
   | false=>
    simp only [aj,aU,bsm,dz]
    cases h2:(p.Pict && s.pict==2) with
    | true=>rfl
    | false=>
     simp only [aj,aU,dz];by_cases h3:pj s.last p.Break=1
     ·rw [ae (by simpa using h3),h3]
      rfl
     ·rw [ab (by simpa using h3),show (pj s.last p.Break==1)=false by simpa using h3,dz]
      by_cases h4:pj s.last p.Break=2
      ·rw [ae (by simpa using h4),h4]
       rfl
      ·rw [ab (by simpa using h4),show (pj s.last p.Break==2)=false by simpa using h4]
       rfl
 have hp:cX (sgB s) p=some (nxP s.pict p):=by
  unfold cX sgB nxP;simp only [aX,bsm];by_cases h1:p.Pict=true
  ·rw [ae h1,ae h1]
  ·rw [ab h1,ab h1]
   by_cases h2:s.pict=1/\p.Break=4
   ·rw [ae (by simpa using h2),ae h2]
   ·rw [ab (by simpa using h2),ab h2]
    by_cases h3:s.pict=1/\p.Break=5
    ·rw [ae (by simpa using h3),ae h3]
    ·rw [ab (by simpa using h3),ab h3]
 have hc:cN (sgB s) p=some (nxC s.conj p):=by
  unfold cN sgB nxC;simp only [aS]
  repeat' split
  all_goals rfl
 unfold cI;simp only [aj,aU];rw [hj,hp,hc];simp only [bsm,aX];rfl
theorem zi (d:bv):dO d=some (sgB sg0):=rfl
theorem rW {α:Type}{l:List α}{k:Nat}(h:k<l.length):(l.take (k+1)).reverse=l[k]::(l.take k).reverse:=by
 rw [ak h,List.reverse_append];rfl
theorem IY (x:an) (l:List an) (n:Nat):cj (x::l) n=if x.Conj=1 then decide (0<n) else if x.Conj=2 then cj l (n+1) else if x.Conj=3 then cj l n else false:=rfl
theorem HT (x:an) (l:List an):pk (x::l)=if x.Pict then true else if x.Break=4 then pk l else false:=rfl
theorem HM (x:an) (l:List an):ri (x::l)=if x.Break=6 then ri l+1 else 0:=rfl
theorem CA {P:List an}(hP:P.length<=1000000){i:Nat}(hi:i<P.length):eH P i=some (P[i].Conj==1 && cj (P.take i).reverse 0):=by
 unfold eH;rw [bd hi];simp only [bsm];by_cases h1:P[i].Conj=1
 ·rw [ab (by simpa using h1),show (P[i].Conj==1)=true by simpa using h1,dy]
  have e1:w64 ((i:Int)-1)=(i:Int)-1:=aQ (by omega);rw [e1];refine zw (fun s=>∃k n:Nat,s=((n:Int),(k:Int)-1)/\k<=i/\n+k<=i/\cj (P.take k).reverse n=cj (P.take i).reverse 0) (fun s=>(s.2+1).toNat) (fun u=>(match u with|.inl b=>b|.inr _=>false)=cj (P.take i).reverse 0) (fun s hs=>?_) ⟨i,0,rfl,av _,by omega,rfl⟩ (by simp only; omega) (fun u hu=>?_)
  ·obtain ⟨k,n,rfl,hk,hn,hI⟩:=hs
   simp only
   cases k with
   | zero=>
    rw [ab (by simp)];exact .inr ⟨_,rfl,by rw [<-hI]; rfl⟩
   | succ k=>
    have e2:((k+1:Nat):Int)-1=(k:Int):=by omega
    have hkl:k<P.length:=by omega
    rw [rW hkl] at hI;rw [IY] at hI;rw [e2,ae (by simp),bd hkl];simp only [bsm];by_cases c1:P[k].Conj=1
    ·rw [ae (by simpa using c1)]
     rw [ae c1] at hI;exact .inr ⟨_,rfl,by rw [<-hI]; simp⟩
    ·rw [ab (by simpa using c1)]
     rw [ab c1] at hI;have e3:w64 ((k:Int)-1)=(k:Int)-1:=aQ (by omega);have e4:w64 ((n:Int)+1)=((n+1:Nat):Int):=by rw [aQ (by omega)]; simp
     simp only [aX,bsm,e3,e4];by_cases c2:P[k].Conj=2
     ·rw [ae (by simpa using c2)]
      simp only [bsm];rw [ab (by simp [c2])];rw [ae c2] at hI;exact .inl ⟨_,rfl,⟨k,n+1,rfl,by omega,by omega,hI⟩,by simp only; omega⟩
     ·rw [ab (by simpa using c2)]
      rw [ab c2] at hI;simp only [bsm];by_cases c3:P[k].Conj=3
      ·rw [ab (by simp [c3])]
       rw [ae c3] at hI;exact .inl ⟨_,rfl,⟨k,n,rfl,by omega,by omega,hI⟩,by simp only; omega⟩
      ·rw [ae (by simp [c2,c3])]
       rw [ab c3] at hI;exact .inr ⟨_,rfl,by rw [<-hI]⟩
  ·cases u with
   | inl b=>simp only at hu|-; rw [hu]
   | inr u=>simp only at hu|-; rw [hu]
 ·rw [ae (by simpa using h1),show (P[i].Conj==1)=false by simpa using h1]
  rfl
theorem Cz {P:List an}(hP:P.length<=1000000){i:Nat}(hi:i<P.length) (h0:1<=i):eY P i=some (P[i].Pict && (!(P[i-1]'(by omega)).Pict && (P[i-1]'(by omega)).Break==5 && pk (P.take (i-1)).reverse)):=by
 have e1:w64 ((i:Int)-1)=((i-1:Nat):Int):=by rw [aQ (by omega)]; omega
 unfold eY;rw [bd hi,e1,bd (show i-1<P.length by omega)];simp only [bsm,bu];by_cases hc:P[i].Pict=true/\2<=i/\(P[i-1]'(by omega)).Break=5/\(P[i-1]'(by omega)).Pict=false
 ·obtain ⟨c1,c2,c3,c4⟩:=hc
  rw [ab (by rw [c1,c3,c4]; simp; omega),c1,c3,c4];simp only [eK,lu,dy];have e2:w64 ((i:Int)-2)=((i-1:Nat):Int)-1:=by rw [aQ (by omega)]; omega
  rw [e2];refine zw (fun s=>∃k:Nat,s=(k:Int)-1/\k<=i-1/\pk (P.take k).reverse=pk (P.take (i-1)).reverse) (fun s=>(s+1).toNat) (fun u=>(match u with|.inl b=>b|.inr _=>false)=pk (P.take (i-1)).reverse) (fun s hs=>?_) ⟨i-1,rfl,av _,rfl⟩ (by omega) (fun u hu=>?_)
  ·obtain ⟨k,rfl,hk,hI⟩:=hs
   cases k with
   | zero=>
    rw [ab (by simp)];exact .inr ⟨_,rfl,by rw [<-hI]; rfl⟩
   | succ k=>
    have e2:((k+1:Nat):Int)-1=(k:Int):=by omega
    have hkl:k<P.length:=by omega
    rw [rW hkl] at hI;rw [HT] at hI;rw [e2,ae (by simp),bd hkl];simp only [bsm];by_cases d1:P[k].Pict=true
    ·rw [ae d1]
     rw [ae d1] at hI;exact .inr ⟨_,rfl,by rw [<-hI]⟩
    ·rw [ab d1]
     rw [ab d1] at hI;by_cases d2:P[k].Break=4
     ·rw [ab (by simpa using d2),aQ (by omega)]
      rw [ae d2] at hI;exact .inl ⟨_,rfl,⟨k,rfl,by omega,hI⟩,by omega⟩
     ·rw [ae (by simpa using d2)]
      rw [ab d2] at hI;exact .inr ⟨_,rfl,by rw [<-hI]⟩
  ·cases u with
   | inl b=>simp only at hu|-; rw [hu]
   | inr u=>simp only at hu|-; rw [hu]
 ·rw [ae ?_]
  ·congr 1
   rw [eq_comm,Ch];intro hh;simp only [ao,cy,aS] at hh;obtain ⟨g1,⟨g2,g3⟩,g4⟩:=hh;by_cases h2:2<=i
   ·exact hc ⟨g1,h2,g3,g2⟩
   ·rw [show i-1=0 by omega] at g4
    simp [pk] at g4
  ·simp only [aB,cy,am,kL,zt]
   by_cases g1:P[i].Pict=true
   ·by_cases g2:2<=i
    ·by_cases g3:(P[i-1]'(by omega)).Break=5
     ·right
      cases g4:(P[i-1]'(by omega)).Pict with
      | true=>rfl
      | false=>exact absurd ⟨g1,g2,g3,g4⟩ hc
     ·exact .inl (.inr g3)
    ·exact .inl (.inl (.inr (by omega)))
   ·exact .inl (.inl (.inl (by simpa using g1)))
theorem FT {P:List an}(hP:P.length<=1000000){i:Nat}(hi:i<P.length):(cm (σ:=Int×Int) (τ:=Int) (((w64 ((i:Int)-1))-0).toNat+2) (fun s_62=>
 (bw (decide (s_62.2>=0)) ((idx P s_62.2).bind fun x_69=>
 some (x_69.Break==6))).bind fun d_65=>
 if d_65 then
 some (.inl ((w64 (s_62.1+1)),(w64 (s_62.2-1))))
 else
 some (.inr s_62.1)) (0,(w64 ((i:Int)-1))))=some (ri (P.take i).reverse:Int):=by
  have e1:w64 ((i:Int)-1)=(i:Int)-1:=aQ (by omega);rw [e1];obtain ⟨t,h1,h2⟩:=oe (σ:=Int×Int) (τ:=Int) (step:=fun s_62=>
 (bw (decide (s_62.2>=0)) ((idx P s_62.2).bind fun x_69=>
 some (x_69.Break==6))).bind fun d_65=>
 if d_65 then
 some (.inl ((w64 (s_62.1+1)),(w64 (s_62.2-1))))
 else
 some (.inr s_62.1)) (fun s=>∃k n:Nat,s=((n:Int),(k:Int)-1)/\k<=i/\n+k<=i/\n+ri (P.take k).reverse=ri (P.take i).reverse) (fun s=>(s.2+1).toNat) (fun t=>t=(ri (P.take i).reverse:Int)) (fun s hs=>by
   obtain ⟨k,n,rfl,hk,hn,hI⟩:=hs;simp only
   cases k with
   | zero=>
    rw [show decide (((0:Nat):Int)-1>=0)=false by simp,kh];exact .inr ⟨_,rfl,by rw [<-hI]; simp [ri]⟩
   | succ k=>
    have e2:((k+1:Nat):Int)-1=(k:Int):=by omega
    have hkl:k<P.length:=by omega
    rw [rW hkl] at hI;rw [HM] at hI;rw [e2,show decide ((k:Int)>=0)=true by simp,jf,bd hkl];simp only [bsm];by_cases c1:P[k].Break=6
    ·rw [ae (by simpa using c1),aQ (by omega),aQ (by omega)]
     rw [ae c1] at hI;exact .inl ⟨_,rfl,⟨k,n+1,by simp,by omega,by omega,by omega⟩,by simp only; omega⟩
    ·rw [ab (by simpa using c1)]
     rw [ab c1] at hI;exact .inr ⟨_,rfl,by rw [<-hI]; simp⟩) ((((i:Int)-1)-0).toNat+2) (0,(i:Int)-1) ⟨i,0,rfl,av _,by omega,by omega⟩ (by simp only; omega)
  rw [h1,h2]
theorem Bc {P:List an}(hP:P.length<=1000000){i:Nat}(hi:i<P.length):eE P i=some (rj pj (P.take i).reverse P[i]):=by
 unfold eE;simp only [bu,bsm];by_cases h0:i=0
 ·subst h0
  rw [ae (by simp)];rfl
 ·obtain ⟨j,rfl⟩:∃j,i=j+1:=⟨i-1,by omega⟩
  rw [ab (by simp; omega)];have e1:w64 (((j+1:Nat):Int)-1)=(j:Int):=by rw [aQ (by omega)]; omega
  have hj:j<P.length:=by omega
  have hp:=Cz hP hi (by omega);simp only [AK] at hp;have hr:=FT hP hi;rw [e1] at hr|-;rw [bd hj,bd hi];simp only [bsm,JN,CA hP hi,hp];simp only [bu,bsm];rw [rW hj];unfold rj;simp only;rw [rW hj] at hr;generalize hA:(pj P[j].Break P[j+1].Break==1 || (P[j+1].Conj==1 && cj (P[j]::(P.take j).reverse) 0) || (P[j+1].Pict && (!P[j].Pict && P[j].Break==5 && pk (P.take j).reverse)))=A
  cases A with
  | true=>simp
  | false=>
   simp only [aj,aU,dz];by_cases hc:pj P[j].Break P[j+1].Break=2/\P[j+1].Break=6
   ·have b1:(pj P[j].Break P[j+1].Break==2)=true:=by rw [aS]; exact hc.1
    have b2:(P[j+1].Break==6)=true:=by rw [aS]; exact hc.2
    have b3:(pj P[j].Break P[j+1].Break != 2)=false:=by rw [bne,b1]; rfl
    have b4:(P[j+1].Break != 6)=false:=by rw [bne,b2]; rfl
    rw [ab (by rw [b3,b4]; simp),hr];simp only [bsm,b1,b2,dy,aK];rw [ci,aS,aS,Hn (by omega)];omega
   ·rw [ae (by simp only [aB,kL,zt]; omega)]
    congr 1
    rw [eq_comm,Ch];simp only [zt,ao,aS];exact fun h=>hc ⟨h.1.1,h.1.2⟩
def R32 (l:List Int):Prop:=∀x∈l,r32 x
theorem xD (l:List Int) (h:R32 l) (hl:l.length<=1000000):(cm (σ:=(List an)×Int) (τ:=(List an)) (((l.length:Int)-0).toNat+1) (fun s_7=>
 if decide (s_7.2<(l.length:Int)) then
 (idx l s_7.2).bind fun x_16=>
 (dW x_16).bind fun x_18=>
 (app s_7.1 ([x_18]:List an)).bind fun x_20=>
 some (.inl (x_20,(w64 (s_7.2+1))))
 else
 some (.inr s_7.1)) (([]:List an),0))=some (l.map pr):=by
  obtain ⟨t,h1,h2⟩:=eV (σ:=(List an)×Int) (τ:=(List an)) (n:=l.length) (fuel:=((l.length:Int)-0).toNat+1) (s:=(([]:List an),0))
   (fun i s=>s=((l.take i).map pr,(i:Int))) (fun t=>t=l.map pr) (step:=fun s_7=>
 if decide (s_7.2<(l.length:Int)) then
 (idx l s_7.2).bind fun x_16=>
 (dW x_16).bind fun x_18=>
 (app s_7.1 ([x_18]:List an)).bind fun x_20=>
 some (.inl (x_20,(w64 (s_7.2+1))))
 else
 some (.inr s_7.1))
   (fun i s hi e=>by
    subst e;simp only;rw [ae (dlt hi),bd hi,cM hi (by omega)];simp only [bsm];rw [K0 _ (h _ (ay hi))];simp only [bsm];rw [fg (by simp; omega)];refine .inl ⟨_,rfl,?_⟩;rw [ak hi,bK];rfl)
   (fun s e=>by subst e; exact ⟨_,by simp only; rw [ab (by simp)],by rw [aG (av _)]⟩)
   rfl (by omega)
  rw [h1,h2]
theorem FW (l:List Int) (h:R32 l) (hl:l.length<=1000000):fJ l=some (l.map pr):=by
 unfold fJ;rw [xD l h hl];rfl
theorem Gp {l:List Int}(hl:l.length<=1000000){i:Nat}(hi:i<l.length):eE (l.map pr) i=some (jn pj pr (l.take i) l[i]):=by
 rw [Bc (by simpa using hl) (by simpa using hi)];unfold jn;rw [JD pj JM,eo,List.map_take]
theorem DJ (l:List Int) (h:R32 l) (hl:l.length<=1000000):fw l=some ((sts pj pr l).map fun n:Nat=>(n:Int)):=by
 unfold fw;rw [FW l h hl];simp only [bsm,dF];have hsl:∀l:List Int,(sts pj pr l).length<=l.length:=fun l=>by
  unfold sts;exact cO (pH _ _) (by simp)
 refine jH (n:=l.length) (fun i s=>s=((sts pj pr (l.take i)).map fun n:Nat=>(n:Int),(i:Int))) (fun u=>u=(sts pj pr l).map fun n:Nat=>(n:Int)) (fun i s hi e=>?_) (fun s e=>?_) rfl (by omega) (fun u hu=>by rw [hu])
 ·subst e
  simp only;rw [ae (dlt hi),Gp hl hi,cM hi (by omega)];simp only [bsm];rw [ak hi,xr];have hle:=hsl (l.take i);rw [aA] at hle
  cases jn pj pr (l.take i) l[i] with
  | true=>
   simp only [cP,aj,aU,bsm,bA,dY];exact .inl ⟨_,rfl,rfl⟩
  | false=>
   simp only [eK,bA,aj,aU];rw [fg (by simp; omega)];refine .inl ⟨_,rfl,?_⟩;rw [bK,aA,cV (wA hi)];rfl
 ·subst e
  exact ⟨_,by simp only; rw [ab (by simp)],by rw [aG (av _)]⟩
theorem Hx (l:List Int):(sts pj pr l++ [l.length]).Pairwise (· < ·):=by
 rw [List.pairwise_append];refine ⟨?_,by simp,fun a ha b hb=>?_⟩
 ·unfold sts
  exact List.Pairwise.filter _ List.pairwise_lt_range
 ·rw [List.mem_singleton.1 hb]
  exact Cl ha
theorem BM (l:List Int) (h:R32 l) (hl:l.length<=1000000):eG l=some (cls pj pr l):=by
 have hsl:(sts pj pr l).length<=l.length:=by
  unfold sts;exact cO (pH _ _) (by simp)
 unfold eG;rw [DJ l h hl];simp only [bsm];rw [fg (by simp; omega)];simp only [bsm];have e0:((sts pj pr l).map fun n:Nat=>(n:Int))++ [(l.length:Int)]=(sts pj pr l++ [l.length]).map fun n:Nat=>(n:Int):=by rw [bK]; rfl
 rw [e0,<-HW (pj:=pj) (pr:=pr) l];have hinc:=Hx l;have hAl:(sts pj pr l++ [l.length]).length=(sts pj pr l).length+1:=by simp
 have hle:∀a∈sts pj pr l++ [l.length],a<=l.length:=fun a ha=>by
  rcases List.mem_append.1 ha with ha|ha
  ·exact wA (Cl ha)
  ·rw [List.mem_singleton.1 ha]; exact av _
 generalize sts pj pr l++ [l.length]=A at *;simp only [dF];have e1:w64 (0+1)=1:=rfl;rw [e1];refine jH (n:=A.length-1) (fun i s=>s=((List.range i).map (fun i=>slx l (A.getD i 0) (A.getD (i+1) 0)),(i:Int))) (fun u=>u=pcs l A) (fun i s hi e=>?_) (fun s e=>?_) rfl (by omega) (fun u hu=>by rw [hu])
 ·subst e
  have hi1:i+1<A.length:=by omega
  simp only;rw [cM (show i<A.length by omega) (by omega),ae (by simp; omega)];rw [bd (show i<(A.map fun n:Nat=>(n:Int)).length by simp; omega),bd (show i+1<(A.map fun n:Nat=>(n:Int)).length by simp; omega)];simp only [bsm,eo];have hlt:=List.pairwise_iff_getElem.1 hinc i (i+1) (by omega) hi1 (by omega);have hb:=hle _ (ay hi1);rw [ui (by omega) hb];simp only [bsm];rw [fg (by simp; omega),bW];simp only [bsm];rw [fg (by simp; omega)];refine .inl ⟨_,rfl,?_⟩;rw [lY,bK];simp only [zE,List.map_nil,ib,qw]
  congr 2
  unfold slx;have g:∀j (h:j<A.length),A.getD j 0=A[j]:=fun j h=>by rw [aq,af h]; rfl
  rw [g i (by omega),g (i+1) hi1]
 ·subst e
  refine ⟨_,?_,rfl⟩;simp only;rw [aQ (by omega),ab (by simp; omega)];rfl
def KS (n:Nat):Bool:= !sil n || (((pr n).Break==1 || (pr n).Break==2 || (pr n).Break==3) && !(pr n).Pict && (pr n).Conj==0)
theorem HB:(List.range 160).all KS=true:=by kernel_rfl
theorem Kc:gT.all (fun x=> !(x.2.2==1 || x.2.2==2) || (decide (0<=x.1) && decide (x.2.1<=31)))=true:=by kernel_rfl
theorem JB {r:Int}(h:sil r=true):0<=r/\r<160:=by
 unfold sil at h;simp only [aB,ao,am] at h;omega
theorem Fu:Sil pj pr sil:=by
 refine ⟨fun r hr=>?_,fun a b ha hne=>?_,fun a b hb hne=>?_,fun r hr=>?_⟩
 ·obtain ⟨h1,h2⟩:=JB hr
  have:=List.all_eq_true.1 HB r.toNat (List.mem_range.2 (by omega));unfold KS at this;rw [qY h1,hr] at this;simp only [cP,dz,ao,aB,aS,cy] at this;obtain ⟨⟨q1,q2⟩,q3⟩:=this;exact ⟨by rcases q1 with (q|q)|q <;> simp [q],q2,q3⟩
 ·obtain ⟨x,_,_,h3,_,h5⟩:=xE a b
  exact h5 (by omega) (by omega)
 ·obtain ⟨x,_,_,h3,_,h5⟩:=xE a b
  exact h5 (by omega) (by omega)
 ·have e:(pr r).Break=(lk gT r).getD (hcl r):=rfl
  rw [e] at hr;have hh:hcl r=9\/hcl r=10\/hcl r=11\/hcl r=0\/hcl r=12\/hcl r=13:=by
   unfold hcl
   repeat' split
   all_goals simp
  cases hx:fnd (fun x:Int×Int×Int=>x.1) (fun x=>x.2.1) gT r with
  | none=>
   unfold lk at hr;rw [hx] at hr;simp only [MI,Option.getD_none] at hr;omega
  | some x=>
   unfold lk at hr;rw [hx] at hr;simp only [fC,Mz] at hr;obtain ⟨m1,m2⟩:=Al hx;have:=List.all_eq_true.1 Kc x m1;rw [uV] at m2;simp only [aB,cy,ny,fe,ao,am] at this;unfold sil;simp only [aB,ao,am];omega
def fo {α β:Type}(f:β->α->Option β):β->List α->Option β
 | b,[]=>some b
 | b,a::l=>(f b a).bind fun b'=>fo f b' l
theorem Ki {α β:Type}(f:β->α->Option β) (b:β) (l m:List α):fo f b (l++m)=(fo f b l).bind fun b'=>fo f b' m:=by
 induction l generalizing b with
 | nil=>rfl
 | cons a l ih=>
  show (f b a).bind (fun b'=>fo f b' (l++m))=((f b a).bind fun b'=>fo f b' l).bind fun b'=>fo f b' m;rw [Mq]
  congr 1
  funext b'
  exact ih b'
theorem tv {α β:Type}(f:β->α->Option β) (b:β) (l:List α) (a:α):fo f b (l++ [a])=(fo f b l).bind fun b'=>f b' a:=by
 rw [Ki]
 congr 1
 funext b'
 show (f b' a).bind (fun b'=>some b')=f b' a
 cases f b' a <;> rfl
def GI (q:ag) (r:Int):Option ag:=(dV q r).map (·.1)
def w16 (c:List Int):Int:=wz (gf (c.take 16) ((c.take 16).map pr))
def vX (q:ag) (c:List Int):Option ag:=
 if sil (c.headD 0)=true then fo GI q c else (aV q (w16 c) (c.take 16)).map (·.1)
theorem xL {q:ag}{a:Int}{t:List Int}(h:sil a=true):vX q (a::t)=fo GI q (a::t):=by
 unfold vX;rw [ae (show sil ((a::t).headD 0)=true from h)]
theorem Bp {q:ag}{a:Int}{t:List Int}(h:sil a=false):vX q (a::t)=(aV q (w16 (a::t)) ((a::t).take 16)).map (·.1):=by
 unfold vX;rw [ab (show ¬sil ((a::t).headD 0)=true by rw [List.headD_cons,h]; simp)]
theorem KQ:dA=cI:=rfl
theorem DS (s:Sg) (p:an):dA (sgB s) p=some (sgB (sgN s p),sgJ pj s p):=by
 rw [KQ];exact A2 s p
theorem IV {l:List Int}{i:Nat}{cs0:List (List Int)}{cl:List Int}(h:cls pj pr (l.take i)=cs0++ [cl]):∀d,i+d<=l.length->∃t x,cls pj pr (l.take (i+d))=cs0++(t++ [x]):=by
 intro d
 induction d with
 | zero=>exact fun _=>⟨[],cl,h⟩
 | succ d ih=>
  intro hd;obtain ⟨t,x,e⟩:=ih (by omega);rw [show i+(d+1)=i+d+1 by omega,ak (by omega),qp];split
  ·exact ⟨t,x++ [l[i+d]],by rw [e,<-aO,nQ,aO]⟩
  ·exact ⟨t++ [x],[l[i+d]],by rw [e,aO,aO]⟩
end Go.Proofs.YtkgjnbiiiifoaaaGreatDoor
namespace Go.Proofs.YtkgjnbiiiifoaaaGreatDoor
def ld (b:Int):Int:=if b<128 then 1 else if 194<=b/\b<=223 then 2 else if 224<=b/\b<=239 then 3 else if 240<=b/\b<=244 then 4 else 0
def slo (b:Int):Int:=if b=224 then 160 else if b=240 then 144 else 128
def shi (b:Int):Int:=if b=237 then 159 else if b=244 then 143 else 191
theorem wH (b:Int):0<=ld b/\ld b<=4:=by
 unfold ld
 repeat' split
 all_goals omega
def bg:List Int->Int
 | [a]=>ld a
 | [a,b]=>if 2<=ld a/\slo a<=b/\b<=shi a then ld a else 0
 | [a,b,c]=>if 3<=ld a/\slo a<=b/\b<=shi a/\128<=c/\c<=191 then ld a else 0
 | [a,b,c,d]=>if ld a=4/\slo a<=b/\b<=shi a/\128<=c/\c<=191/\128<=d/\d<=191 then 4 else 0
 | _=>0
def b0 (a:Int):Int:=if ld a=2 then a-192 else if ld a=3 then a-224 else if ld a=4 then a-240 else a
def vl:List Int->Int
 | []=>0
 | a::l=>l.foldl (fun v x=>v*64+(x-128)) (b0 a)
def rs0 (b:Int):List Int×List Int:=if 1<ld b then ([],[b]) else if ld b=1 then ([b],[]) else ([65533],[])
def gx (h:List Int) (b:Int):List Int×List Int:=
 if h= [] then rs0 b else if (h.length:Int)+1<bg (h++ [b]) then ([],h++ [b]) else if 0<bg (h++ [b]) then ([vl (h++ [b])],[]) else (65533::(rs0 b).1,(rs0 b).2)
def fk:List Int->List Int->List Int×List Int
 | h,[]=>([],h)
 | h,b::p=>((gx h b).1++(fk (gx h b).2 p).1,(fk (gx h b).2 p).2)
theorem zn (h a b:List Int):fk h (a++b)=((fk h a).1++(fk (fk h a).2 b).1,(fk (fk h a).2 b).2):=by
 induction a generalizing h with
 | nil=>simp [fk]
 | cons x a ih=>simp [fk,ih]
theorem Cq (h a:List Int) (x:Int):fk h (a++ [x])=((fk h a).1++(gx (fk h a).2 x).1,(gx (fk h a).2 x).2):=by
 rw [zn];simp [fk]
def Hh (h:List Int):Prop:=h= []\/(h.length:Int)<bg h
theorem Hh.len {h:List Int}(hh:Hh h):h.length<=3:=by
 rcases hh with rfl|hh
 ·simp
 ·match h,hh with
  | [],_=>simp
  | [_],_=>simp
  | [_,_],_=>simp
  | [_,_,_],_=>simp
  | [a,b,c,d],q=>simp only [bg,aM,bf] at q; split at q <;> omega
  | _::_::_::_::_::_,q=>simp only [bg,aM] at q; omega
end Go.Proofs.YtkgjnbiiiifoaaaGreatDoor
namespace Go.Proofs.YtkgjnbiiiifoaaaGreatDoor
open Go Go.Lt
def Byt (b:Int):Prop:=0<=b/\b<=255
def Bts (l:List Int):Prop:=∀x∈l,Byt x
theorem Bi {b:Int}(h:Byt b):jX b=some (ld b):=by
 obtain ⟨h1,h2⟩:=h;unfold jX ld;simp only [aX,bsm,ao,am,CG];have e1:w64 (0+1)=1:=rfl;have e2:w64 (1+1)=2:=rfl;have e3:w64 (2+1)=3:=rfl;have e4:w64 (3+1)=4:=rfl;rw [e1,e2,e3,e4]
 repeat' split
 all_goals first|rfl|omega
theorem CC {b:Int}(h:Byt b) (hl:2<=ld b):kX b=some (slo b,shi b):=by
 unfold kX slo shi;rw [Bi h];simp only [bsm,aS,am];rw [ab (by omega)];have e1:IntKind.u8.wrap (IntKind.u8.wrap (191-16)-32)=143:=by decide
 have e2:IntKind.u8.wrap (191-32)=159:=by decide
 rw [e1,e2];by_cases a1:b=224
 ·subst a1; rfl
 by_cases a2:b=240
 ·subst a2; rfl
 by_cases a3:b=244
 ·subst a3; rfl
 by_cases a4:b=237
 ·subst a4; rfl
 rw [ab a1,ab a2,ab a3,ab a4,ab a1,ab a2,ab a4,ab a3];rfl
def G1 (n:Nat):Bool:=(mV n==if ld n=0 then some 0 else some (b0 n))
theorem GZ:(List.range 256).all G1=true:=by kernel_rfl
theorem F6 {b:Int}(h:Byt b) (hl:1<=ld b):mV b=some (b0 b):=by
 obtain ⟨h1,h2⟩:=h;have:=List.all_eq_true.1 GZ b.toNat (List.mem_range.2 (by omega));unfold G1 at this;rw [aS,qY h1,ab (by omega)] at this;exact this
def Fp (n:Nat):Bool:=(fP .u8 n 63==if 128<=n/\n<=191 then (n:Int)-128 else fP .u8 n 63)
theorem Fo:(List.range 256).all Fp=true:=by kernel_rfl
theorem Fk {b:Int}(h1:128<=b) (h2:b<=191):fP .u8 b 63=b-128:=by
 have:=List.all_eq_true.1 Fo b.toNat (List.mem_range.2 (by omega));unfold Fp at this;rw [aS,qY (by omega),ae (by omega)] at this;exact this
theorem JT {x y:Nat}(hx:x<1000000000) (hy:y<64):gW .i64 ((x:Int)*64) (y:Int)=((x*64+y:Nat):Int):=by
 have e1:BitVec.ofInt 64 ((x:Int)*64)=BitVec.ofNat 64 (x*64):=by
  rw [show ((x:Int)*64)=((x*64:Nat):Int) by simp,LR]
 have e2:BitVec.ofInt 64 (y:Int)=BitVec.ofNat 64 y:=LR _ _;have e3:(x*64) ||| y=x*64+y:=by
  have:=Nat.shiftLeft_add_eq_or_of_lt (show y<2 ^ 6 by omega) x;rw [Nat.shiftLeft_eq] at this;exact this.symm
 unfold gW;rw [show IntKind.i64.bits=64 from rfl,e1,e2,BitVec.toNat_or,Mn,Mn,CZ (by omega),CZ (by omega),e3];exact aQ (by omega)
def Dv (d:bD) (h:List Int):Prop:=
 Hh h/\Bts h/\d=(match h with|[]=>⟨0,0,0,0,0⟩|[a]=>⟨1,ld a-1,slo a,shi a,b0 a⟩|a::b::t=>⟨(h.length:Int),bg h-(h.length:Int),128,191,vl h⟩)
theorem zC {b:Int}(h:Byt b):∃d',cv ⟨0,0,0,0,0⟩ b=some (d',(rs0 b).1)/\Dv d' (rs0 b).2:=by
 have hb:=h;obtain ⟨h1,h2⟩:=hb;unfold cv rs0;rw [Bi h];simp only [bsm,aS];have hin:=wH b;by_cases e0:ld b=0
 ·rw [ae e0,ab (by omega),ab (by omega)];exact ⟨_,rfl,.inl rfl,fun x hx=>by simp at hx,rfl⟩
 ·rw [ab e0];by_cases e1:ld b=1
  ·rw [ae e1,ab (by omega),ae e1,zG (by omega)];exact ⟨_,rfl,.inl rfl,fun x hx=>by simp at hx,rfl⟩
  ·rw [ab e1,ae (by omega),F6 h (by omega),CC h (by omega)];simp only [bsm];rw [aQ (by omega)];refine ⟨_,rfl,.inr ?_,fun x hx=>?_,rfl⟩
   ·simp only [aM,bf,bg]; omega
   ·rw [List.mem_singleton.1 hx]; exact h
theorem Hu {h:List Int}(hne:h≠ []) (b:Int):vl (h++ [b])=vl h*64+(b-128):=by
 cases h with
 | nil=>exact absurd rfl hne
 | cons a t=>simp [vl,kw]
theorem G6 {a:Int}(h:Byt a) (hl:2<=ld a):0<=b0 a/\b0 a<=31:=by
 obtain ⟨h1,h2⟩:=h;unfold b0;unfold ld at hl;unfold ld
 repeat' split at hl
 all_goals (repeat' split)
 all_goals omega
theorem KO {h:List Int}(hh:Hh h) (hb:Bts h) (hne:h≠ []):0<=vl h/\vl h<=131071:=by
 rcases hh with rfl|hh
 ·exact absurd rfl hne
 ·match h,hh with
  | [],_=>exact absurd rfl hne
  | [a],q=>
   have ha:=hb a (by simp);simp only [bg,aM,bf] at q;have:=G6 ha (by omega);simp only [vl,List.foldl];omega
  | [a,b],q=>
   have ha:=hb a (by simp);simp only [bg,aM,bf] at q;split at q
   ·rename_i g
    have:=G6 ha (by omega);have hs:128<=b/\b<=191:=by
     have:=g.2;unfold slo shi at this
     repeat' split at this
     all_goals omega
    simp only [vl,List.foldl];omega
   ·omega
  | [a,b,c],q=>
   have ha:=hb a (by simp);simp only [bg,aM,bf] at q;split at q
   ·rename_i g
    have:=G6 ha (by omega);have hs:128<=b/\b<=191:=by
     have:=g.2;unfold slo shi at this
     repeat' split at this
     all_goals omega
    simp only [vl,List.foldl];omega
   ·omega
  | [a,b,c,d],q=>simp only [bg,aM,bf] at q; split at q <;> omega
  | _::_::_::_::_::_,q=>simp only [bg,aM] at q; omega
theorem F8 {h:List Int}(hh:(h.length:Int)<bg h) (hne:h≠ []) (b:Int):∃lo hi,(match h with|[a]=>(slo a,shi a)|_=>(128,191))=(lo,hi)/\128<=lo/\hi<=191/\
  ((lo<=b/\b<=hi)->bg (h++ [b])=bg h)/\(¬(lo<=b/\b<=hi)->bg (h++ [b])=0):=by
 match h,hh with
 | [],_=>exact absurd rfl hne
 | [a],q=>
  simp only [bg,aM,bf] at q;refine ⟨slo a,shi a,rfl,by unfold slo; repeat' split; all_goals omega,by unfold shi; repeat' split; all_goals omega,fun g=>?_,fun g=>?_⟩
  ·simp only [dv,bW,bg];rw [ae ⟨by omega,g.1,g.2⟩]
  ·simp only [dv,bW,bg];rw [ab (fun c=>g c.2)]
 | [a,c],q=>
  simp only [bg,aM,bf] at q;refine ⟨128,191,rfl,by omega,by omega,fun g=>?_,fun g=>?_⟩
  ·simp only [dv,bW,bg];split at q
   ·rename_i r
    rw [ae ⟨by omega,r.2.1,r.2.2,g.1,g.2⟩,ae r]
   ·omega
  ·simp only [dv,bW,bg];rw [ab (fun r=>g r.2.2.2)]
 | [a,c,d],q=>
  have hl:=wH a;simp only [bg,aM,bf] at q;refine ⟨128,191,rfl,by omega,by omega,fun g=>?_,fun g=>?_⟩
  ·simp only [dv,bW,bg];split at q
   ·rename_i r
    rw [ae ⟨by omega,r.2.1,r.2.2.1,r.2.2.2.1,r.2.2.2.2,g.1,g.2⟩,ae r];omega
   ·omega
  ·simp only [dv,bW,bg];rw [ab (fun r=>g r.2.2.2.2.2)]
 | [a,b,c,d],q=>simp only [bg,aM,bf] at q; split at q <;> omega
 | _::_::_::_::_::_,q=>simp only [bg,aM] at q; omega
theorem Dv.shape {d:bD}{h:List Int}(v:Dv d h) (hne:h≠ []):∃lo hi,(match h with|[a]=>(slo a,shi a)|_=>(128,191))=(lo,hi)/\d=⟨(h.length:Int),bg h-(h.length:Int),lo,hi,vl h⟩:=by
 obtain ⟨_,_,e⟩:=v
 match h,e with
 | [],_=>exact absurd rfl hne
 | [a],e=>exact ⟨_,_,rfl,e⟩
 | a::b::t,e=>exact ⟨_,_,rfl,e⟩
theorem GJ {d:bD}{h:List Int}(v:Dv d h){b:Int}(hb:Byt b):∃d',de d b=some (d',(gx h b).1)/\Dv d' (gx h b).2:=by
 have v0:=v;obtain ⟨hh,hbs,e⟩:=v;unfold de gx;simp only [aj,aU];by_cases hne:h= []
 ·subst hne;simp only at e;subst e;obtain ⟨d',a1,a2⟩:=zC hb;simp only [lu,eq_self,bA,a1,bsm];exact ⟨d',rfl,a2⟩
 ·obtain ⟨lo,hi,e1,e2⟩:=v0.shape hne;have hlt:(h.length:Int)<bg h:=by
   rcases hh with q|q
   ·exact absurd q hne
   ·exact q
  obtain ⟨lo',hi',f1,f2,f3,f4,f5⟩:=F8 hlt hne b;rw [e1] at f1;cases f1;subst e2;have hlen:0<h.length:=by
   cases h with
   | nil=>exact absurd rfl hne
   | cons _ _=>simp
  have hl3:=hh.len;rw [ab hne];simp only [aS];rw [ab (by omega)];simp only [bu,bsm,aB,am,gt_iff_lt];by_cases hr:lo<=b/\b<=hi
  ·have hbg:=f4 hr;have hvl:=KO hh hbs hne;have hbgl:bg h<=4:=by
    match h,hlen with
    | [a],_=>simp only [bg]; exact (wH a).2
    | [a,b],_=>simp only [bg]; split <;> first|exact (wH a).2|omega
    | [a,b,c],_=>simp only [bg]; split <;> first|exact (wH a).2|omega
    | a::b::c::x::t,_=>simp at hl3
   have hbits:gW .i64 (w64 (vl h*2 ^ 6)) (w64 (fP .u8 b 63))=vl h*64+(b-128):=by
    obtain ⟨x,hx⟩:∃x:Nat,vl h=(x:Int):=⟨(vl h).toNat,by omega⟩;obtain ⟨y,hy⟩:∃y:Nat,b-128=(y:Int):=⟨(b-128).toNat,by omega⟩;rw [Fk (by omega) (by omega),hx,hy,show ((x:Int)*2 ^ 6)=(x:Int)*64 from rfl,aQ (by omega),aQ (by omega),JT (by omega) (by omega)];simp
   have hbs':Bts (h++ [b]):=fun x hx=>by
    rcases List.mem_append.1 hx with hx|hx
    ·exact hbs x hx
    ·rw [List.mem_singleton.1 hx]; exact hb
   have hsn:=Hu hne b;rw [ab (by omega),aQ (by omega),aQ (by omega),hbits,<-hsn];by_cases hm:(h.length:Int)+1<bg h
   ·rw [ae (by omega),ae (by rw [hbg]; omega)];refine ⟨_,rfl,.inr (by rw [hbg]; simp; omega),hbs',?_⟩;simp only [hbg]
    match h,hlen with
    | a::t,_=>
     cases t with
     | nil=>simp only [dv,bW,aM,bf,bD.mk.injEq,qw,xq]; omega
     | cons b2 t=>simp only [dv,aM,ax,bf,bD.mk.injEq,qw,xq]; omega
   ·rw [ab (by omega),ab (by rw [hbg]; omega),ae (by rw [hbg]; omega),zG (by rw [hsn]; omega)];exact ⟨_,rfl,.inl rfl,fun x hx=>by simp at hx,rfl⟩
  ·have hz:=f5 hr;rw [ae (by omega),ab (by rw [hz]; omega),ab (by rw [hz]; omega)];have hfl:bI ⟨(h.length:Int),bg h-(h.length:Int),lo,hi,vl h⟩=some (⟨0,0,0,0,0⟩,[65533]):=by
    unfold bI cF;simp only [aj,aU,bsm,aS];rw [ab (by omega)]
   rw [hfl];simp only [bsm];obtain ⟨d',a1,a2⟩:=zC hb;rw [a1];simp only [bsm];have hrl:(rs0 b).1.length<=1:=by
    unfold rs0;split
    ·simp
    ·split <;> simp
   rw [fg (by simp; omega)];exact ⟨d',rfl,a2⟩
theorem GK {d:bD}{h:List Int}(v:Dv d h):cF d=some (h.length:Int):=by
 unfold cF;simp only [aj,aU];by_cases hne:h= []
 ·subst hne;obtain ⟨_,_,e⟩:=v;simp only at e;rw [e];rfl
 ·obtain ⟨lo,hi,_,e⟩:=v.shape hne;rw [e]
theorem EL {d:bD}{h:List Int}(v:Dv d h):bI d=some (⟨0,0,0,0,0⟩,if h= [] then [] else [65533]):=by
 unfold bI;rw [GK v];simp only [bsm,aS];by_cases hne:h= []
 ·subst hne;obtain ⟨_,_,e⟩:=v;simp only at e;rw [ae (by simp),ae rfl,e]
 ·rw [ab (fun e=>hne (dm (by omega))),ab hne]
theorem Dv.zero:Dv ⟨0,0,0,0,0⟩ []:=⟨.inl rfl,fun x hx=>by simp at hx,rfl⟩
def fr (n:Nat):Int:=if n=2 then 128 else if n=3 then 2048 else if n=4 then 65536 else 0
theorem sm (a:Int):(ld a=1/\a<128)\/(ld a=2/\194<=a/\a<=223)\/(ld a=3/\224<=a/\a<=239)\/(ld a=4/\240<=a/\a<=244)\/(ld a=0/\128<=a/\¬(194<=a/\a<=244)):=by
 unfold ld
 repeat' split
 all_goals omega
theorem LF {p:List Int}(h:0<bg p):(p.length:Int)<=bg p:=by
 match p,h with
 | [],h=>simp [bg] at h
 | [a],h=>simp only [bg,aM,bf] at h|-; omega
 | [a,b],h=>simp only [bg,aM,bf] at h|-; split at h <;> rename_i g; rw [ae g]; omega; omega
 | [a,b,c],h=>simp only [bg,aM,bf] at h|-; split at h <;> rename_i g; rw [ae g]; omega; omega
 | [a,b,c,d],h=>simp only [bg,aM,bf] at h|-; split at h <;> rename_i g; rw [ae g]; omega; omega
 | _::_::_::_::_::_,h=>simp [bg] at h
theorem LD (p:List Int):0<=bg p/\bg p<=4:=by
 match p with
 | []=>simp [bg]
 | [a]=>exact wH a
 | [a,b]=>simp only [bg]; split <;> first|exact wH a|omega
 | [a,b,c]=>simp only [bg]; split <;> first|exact wH a|omega
 | [a,b,c,d]=>simp only [bg]; split <;> omega
 | _::_::_::_::_::_=>simp [bg]
theorem Bts.snoc {h:List Int}(hb:Bts h){b:Int}(h1:Byt b):Bts (h++ [b]):=fun x hx=>by
 rcases List.mem_append.1 hx with hx|hx
 ·exact hb x hx
 ·rw [List.mem_singleton.1 hx]; exact h1
theorem D6 (h:List Int) (b:Int):(gx h b).1.length<=2:=by
 have hrl:(rs0 b).1.length<=1:=by
  unfold rs0;split
  ·simp
  ·split <;> simp
 unfold gx;split
 ·omega
 ·split
  ·simp
  ·split
   ·simp
   ·simp; omega
theorem D7 {h:List Int}(hb:Bts h){b:Int}(h1:Byt b):Bts (gx h b).2:=by
 have h0:Bts (rs0 b).2:=by
  unfold rs0;split
  ·intro x hx; rw [List.mem_singleton.1 hx]; exact h1
  ·split <;> (intro x hx; simp at hx)
 unfold gx;split
 ·exact h0
 ·split
  ·exact hb.snoc h1
  ·split
   ·intro x hx; simp at hx
   ·exact h0
theorem zm {h p:List Int}(hb:Bts h) (hp:Bts p):Bts (fk h p).2:=by
 induction p generalizing h with
 | nil=>exact hb
 | cons b p ih=>exact ih (D7 hb (hp b (by simp))) (fun x hx=>hp x (qz _ hx))
theorem Bts.nil:Bts []:=fun x hx=>by simp at hx
end Go.Proofs.YtkgjnbiiiifoaaaGreatDoor
namespace Go.Proofs.YtkgjnbiiiifoaaaGreatDoor
open Go Go.Lt
variable {s C:Sto}{f k g W H:Nat}{q P:ag}{ks:List Nat}
def Sto.sf (s:Sto) (f:Nat) (x:bE):Sto:={ s with feed_Feeder:=s.feed_Feeder.set f x}
theorem rX {x:bE}(h:f<s.feed_Feeder.length):s.set_feed_Feeder f x=some (s.sf f x):=by
 unfold Sto.set_feed_Feeder;rw [ae h];rfl
theorem vP {x:bE}(h:f<s.feed_Feeder.length):(s.sf f x).feed_Feeder[f]? = some x:=by simp [Sto.sf,h]
theorem Ja (s:Sto) (f:Nat) (x y:bE):(s.sf f x).sf f y=s.sf f y:=by simp [Sto.sf]
theorem zO (s:Sto) (f:Nat) (x:bE):(s.sf f x).feed_Feeder.length=s.feed_Feeder.length:=by simp [Sto.sf]
theorem Pv.sf (h:Pv s s k g W q ks) (x:bE):Pv (s.sf f x) (s.sf f x) k g W q ks:=
 ⟨h.p,⟨h.g.g,h.g.r,h.g.h1,h.g.h2,h.g.w1,h.g.w2⟩,h.nd,h.l,rfl,h.f.rgp ⟨rfl,rfl,rfl⟩ ⟨rfl,rfl,rfl⟩⟩
theorem Wc.sf {j:Nat}{c:ai}{y:aY}{t:List Int}{n:Int}(h:Wc s j c y t n) (x:bE):Wc (s.sf f x) j c y t n:=⟨h.x⟩
def JR (C:Sto) (f j:Nat):Prop:=∃x,C.feed_Feeder[f]? = some x/\x.open_=some j
structure Fz (C s:Sto) (f:Nat) (op:Option Nat):Prop where
 fl:C.feed_Feeder.length<=s.feed_Feeder.length
 ff:∀j,j<C.feed_Feeder.length->j≠f->s.feed_Feeder[j]? = C.feed_Feeder[j]?
 wl:C.widen_Cluster.length<=s.widen_Cluster.length
 wc:∀j,j<C.widen_Cluster.length->¬JR C f j->s.widen_Cluster[j]? = C.widen_Cluster[j]?
 oc:∀j,op=some j->JR C f j\/C.widen_Cluster.length<=j
 sc:s.screen_Screen=C.screen_Screen
theorem qE {a b:Sto}(h:a.oth=b.oth):a.feed_Feeder=b.feed_Feeder:=by
 have:=nb Sto.feed_Feeder h;exact this
theorem zZ {a b:Sto}(h:a.oth=b.oth):a.screen_Screen=b.screen_Screen:=by
 have:=nb Sto.screen_Screen h;exact this
theorem Fz.oth {s':Sto}{op:Option Nat}(h:Fz C s f op) (e:s'.oth=s.oth):Fz C s' f op:=by
 refine ⟨by rw [qE e]; exact h.fl,by rw [qE e]; exact h.ff,by rw [vU e]; exact h.wl,by rw [vU e]; exact h.wc,h.oc,by rw [zZ e]; exact h.sc⟩
theorem Fz.sf {op:Option Nat}(h:Fz C s f op) (x:bE) (op':Option Nat) (ho:∀j,op'=some j->JR C f j\/C.widen_Cluster.length<=j):Fz C (s.sf f x) f op':=
 ⟨by rw [zO]; exact h.fl,fun j a b=>by simp only [Sto.sf]; rw [aW (wx b)]; exact h.ff j a b,h.wl,h.wc,ho,h.sc⟩
theorem Fz.more {op:Option Nat}(h:Fz C s f op){s':Sto}{z:bj}(e:s'.oth=(s.add_widen_Cluster z).oth):Fz C s' f op:=by
 have e1:s'.feed_Feeder=s.feed_Feeder:=(qE e).trans rfl;have e2:s'.widen_Cluster=s.widen_Cluster++ [z]:=(vU e).trans rfl;have e3:s'.screen_Screen=s.screen_Screen:=(zZ e).trans rfl;have hl:=h.wl;exact ⟨by rw [e1]; exact h.fl,by rw [e1]; exact h.ff,by rw [e2,ax]; omega,fun j a b=>by rw [e2,aC (by omega)]; exact h.wc j a b,h.oc,by rw [e3]; exact h.sc⟩
theorem Fz.grow {j:Nat}(h:Fz C s f (some j)){s':Sto}{z:bj}(e:s'.oth=(s.sc j z).oth):Fz C s' f (some j):=by
 have e1:s'.feed_Feeder=s.feed_Feeder:=(qE e).trans rfl;have e2:s'.widen_Cluster=s.widen_Cluster.set j z:=(vU e).trans rfl;have e3:s'.screen_Screen=s.screen_Screen:=(zZ e).trans rfl;refine ⟨by rw [e1]; exact h.fl,by rw [e1]; exact h.ff,by rw [e2,cq]; exact h.wl,fun i a b=>?_,h.oc,by rw [e3]; exact h.sc⟩;rw [e2,aW ?_]
 ·exact h.wc i a b
 ·rintro rfl;rcases h.oc j rfl with q|q
  ·exact b q
  ·omega
def Bl (G:List Int):Bool:=match G.getLast? with|none=>true|some x=>sil x
theorem mw (G:List Int) (r:Int):Bl (G++ [r])=sil r:=by simp [Bl]
def qB (G:List Int):Sg:=if Bl G=true then sg0 else sgF (G.map pr)
structure Op (s:Sto) (k g W H:Nat) (P:ag) (G:List Int) (q:ag) (j:Nat):Prop where
 x:∃q0 c C0 s0 ks0 cs0 cl,cls pj pr G=cs0++ [cl]/\cl≠ []/\sil (cl.headD 0)=false/\fo vX P cs0=some q0/\Pv C0 s0 k g W q0 ks0/\ks0.length=H/\
  Wc s j c (gf (cl.take 16) ((cl.take 16).map pr)) (cl.take 16) (w16 cl)/\aV q0 (w16 cl) (cl.take 16)=some (q,c)
structure Fd (C s:Sto) (f k g W H:Nat) (P:ag) (G h:List Int) (q:ag) (ks:List Nat) (op:Option Nat):Prop where
 v:Pv s s k g W q ks
 fr:Fr C s k g ks
 fz:Fz C s f op
 n:ks.length=H
 hd:Hd q.At W H
 l:fo vX P (cls pj pr G)=some q
 gv:∀x∈G,vld x=true
 d:∃d,s.feed_Feeder[f]? = some ⟨some k,d,sgB (qB G),op⟩/\Dv d h
 o1:Bl G=true->op=none
 o2:Bl G=false->∃j,op=some j/\Op s k g W H P G q j
theorem Jt {x:Int}(h:vld x=true):r32 x:=by
 unfold vld at h;unfold r32;simp only [ao,am] at h;omega
theorem IM {q q':ag}{r:Int}{b:Bool}(h:dV q r=some (q',b)):GI q r=some q':=by
 unfold GI;rw [h];rfl
theorem Ht (c:List Int):(c.take 16).length<=16:=by rw [aA]; omega
theorem sq (t:List Int) (r:Int):gf (t++ [r]) ((t++ [r]).map pr)=gz (gf t (t.map pr)) r (pr r):=by
 rw [xk (by simp) r];have e:((t++ [r]).map pr).take t.length=t.map pr:=by simp
 rw [<-Iz t ((t++ [r]).map pr) (av _),e];simp
theorem GB {r:Int}(h:vld r=true):gF r=r:=by unfold gF; rw [ae h]
theorem FV {C s:Sto}{k g W H:Nat}{q0 q:ag}{ks:List Nat}(h:Pv C s k g W q0 ks) (hn:ks.length=H){n:Int}{t:List Int}(ht:t.length<=1000000){c:ai}(hp:aV q0 n t=some (q,c)):Hd q.At W H:=by
 obtain ⟨s',q',ks',i,a,_,_,a2,_,_,a5,_⟩:=CB h n t ht;rw [hp] at a2;cases a2;rw [<-hn];exact a5
theorem GP {G h:List Int}{op:Option Nat}(F:Fd C s f k g W H P G h q ks op){r:Int}(hr:vld r=true):∃s' q' ks' op',gH s (some f) r=some s'/\Fd C s' f k g W H P (G++ [r]) h q' ks' op':=by
 obtain ⟨d,hd,hdv⟩:=F.d;have hf:=cR hd;have hgv:∀x∈G++ [r],vld x=true:=fun x hx=>by
  rcases List.mem_append.1 hx with hx|hx
  ·exact F.gv x hx
  ·rw [List.mem_singleton.1 hx]; exact hr
 have hcs:=qp pj pr G r;unfold gH;rw [Cn];simp only [bsm]
 cases hs:sil r with
 | true=>
  simp only [bA];unfold du;simp only [bJ,eK,bA,bsm,hd];rw [rX hf];simp only [bsm,zi];rw [rX (by rw [zO]; exact hf),Ja];simp only [bsm];rw [vP hf];simp only [bsm];obtain ⟨s',q',ks',a1,a2,a3,hks,hcd⟩:=IQ (F.v.sf (f:=f) ⟨some k,d,sgB sg0,none⟩) r;rw [a1];have hdo:=IM a2;have hf1:Fr C (s.sf f ⟨some k,d,sgB sg0,none⟩) k g ks:=F.fr.rgp (Rgp.self _) ⟨rfl,rfl,rfl⟩;have hv1:=F.v.sf (f:=f) ⟨some k,d,sgB sg0,none⟩;refine ⟨s',q',ks',none,rfl,⟨a3.self,hf1.trans hv1.oG hv1.oR a3.f,(F.fz.sf ⟨some k,d,sgB sg0,none⟩ none (fun j e=>by cases e)).oth a3.o,by rw [hks]; exact F.n,by rw [<-F.n]; exact hcd (by rw [F.n]; exact F.hd),?_,hgv,⟨d,?_,hdv⟩,fun _=>rfl,fun e=>?_⟩⟩
  ·
   rw [hcs];split
   ·rename_i hj
    obtain ⟨l0,x,rfl,hx⟩:=Fu.yes hs hj;obtain ⟨cs0,c,ec⟩:=jU ((qr (pj:=pj) (pr:=pr) (l0++ [x])).2.2 (by simp));obtain ⟨c',rfl⟩:=BN ec;rw [ec,nQ];have hall:=Fu.all (l0++ [x]) (c'++ [x]) (by rw [ec]; simp);have hal:∀y∈c'++ [x],sil y=true:=by
     rcases hall with q|q
     ·exact q
     ·have:=q x (by simp); rw [hx] at this; cases this
    have hl:=F.l;rw [ec,tv] at hl;rw [tv]
    cases hq0:fo vX P cs0 with
    | none=>rw [hq0] at hl; cases hl
    | some q0=>
     rw [hq0] at hl;simp only [bsm] at hl|-;obtain ⟨a,t,ea⟩:∃a t,c'++ [x]=a::t:=by
      cases h:c'++ [x] with
      | nil=>simp at h
      | cons a t=>exact ⟨a,t,rfl⟩
     have ha:sil a=true:=hal a (by rw [ea]; simp);rw [ea,xL ha] at hl;rw [ea,dv,xL ha,<-dv,tv,hl];exact hdo
   ·rw [tv,F.l];simp only [bsm];rw [xL hs];show (GI q r).bind (fun b=>some b)=_;rw [hdo];rfl
  ·have:qB (G++ [r])=sg0:=by unfold qB; rw [mw,ae hs]
   rw [this,qE a3.o];exact vP hf
  ·rw [mw,hs] at e;cases e
 | false=>
  simp only [aj,aU];rw [Cj r (Jt hr)];simp only [bsm,hd];rw [A2];simp only [bsm];rw [rX hf];simp only [bsm];have hsj:sgJ pj (qB G) (pr r)=jn pj pr G r/\sgN (qB G) (pr r)=sgF ((G++ [r]).map pr):=by
   unfold qB;rw [bK,tf,uM]
   cases hL:Bl G with
   | false=>simp only [aj,aU]; exact ⟨rfl,trivial⟩
   | true=>
    simp only [bA];by_cases hG:G= []
    ·subst hG; exact ⟨rfl,rfl⟩
    ·obtain ⟨G0,x,rfl⟩:=jU hG;rw [mw] at hL;rw [Fu.no G0 hL hs,Fu.new G0 hL];exact ⟨rfl,rfl⟩
  rw [hsj.1,hsj.2];have hsg:qB (G++ [r])=sgF ((G++ [r]).map pr):=by unfold qB; rw [mw,hs]; rfl
  rw [<-hsg];have hv1:=F.v.sf (f:=f) ⟨some k,d,sgB (qB (G++ [r])),op⟩;have hf1:Fr C (s.sf f ⟨some k,d,sgB (qB (G++ [r])),op⟩) k g ks:=F.fr.rgp (Rgp.self _) ⟨rfl,rfl,rfl⟩;have hz1:=F.fz.sf ⟨some k,d,sgB (qB (G++ [r])),op⟩ op F.fz.oc;have hg1:(s.sf f ⟨some k,d,sgB (qB (G++ [r])),op⟩).feed_Feeder[f]? = some ⟨some k,d,sgB (qB (G++ [r])),op⟩:=vP hf;simp only [aX,bsm];rw [hg1];simp only [bsm];have hfix:=GB hr
  cases hj:jn pj pr G r with
  | true=>
   have hL:Bl G=false:=by
    cases hL:Bl G with
    | false=>rfl
    | true=>
     obtain ⟨G0,x,rfl⟩:=jU (zv pj pr hj);rw [mw] at hL;rw [Fu.no G0 hL hs] at hj;cases hj
   obtain ⟨j,rfl,⟨q0,c,C0,s0,ks0,cs0,cl,ec,hcne,hcs0,hq0,hp0,hn0,hw,hput⟩⟩:=F.o2 hL;simp only [bJ,eK,Bool.and_self,bA];have hcs2:cls pj pr (G++ [r])=cs0++ [cl++ [r]]:=by rw [hcs,ae hj,ec,nQ]
   have hclv:∀x∈cl.take 16,vld x=true:=fun x hx=>F.gv x (by
    rw [<-(qr (pj:=pj) (pr:=pr) G).1,ec];exact List.mem_flatten.2 ⟨cl,by simp,ku hx⟩)
   have hhd:sil ((cl++ [r]).headD 0)=false:=by
    cases cl with
    | nil=>exact absurd rfl hcne
    | cons a t=>exact hcs0
   have hw16:w16 cl=wz (gf (cl.take 16) ((cl.take 16).map pr)):=rfl;rw [hw16] at hw hput;have on:On C (s.sf f ⟨some k,d,sgB (qB (G++ [r])),some j⟩) k g W H j q0 (gf (cl.take 16) ((cl.take 16).map pr)) (cl.take 16) q c ks:=⟨hv1,hf1,hw.sf _,F.n,hput⟩;have hlayc:∀q2 c2,aV q0 (w16 (cl++ [r])) ((cl++ [r]).take 16)=some (q2,c2)->fo vX P (cls pj pr (G++ [r]))=some q2:=fun q2 c2 e=>by
    rw [hcs2,tv,hq0];simp only [bsm]
    cases hcc:cl++ [r] with
    | nil=>simp at hcc
    | cons a t=>
     rw [hcc] at e hhd;rw [Bp (by simpa using hhd),e];rfl
   have hlen:cl.length<16\/16<=cl.length:=by omega
   have hcl1:1<=cl.length:=by
    cases cl with
    | nil=>exact absurd rfl hcne
    | cons _ _=>simp
   rcases hlen with hlt|hge
   ·have et:cl.take 16=cl:=aG (by omega);have et2:(cl++ [r]).take 16=cl++ [r]:=aG (by simp; omega);rw [et] at on hclv;obtain ⟨s',q',c',ks',b1,b2,z,b3⟩:=Ir hp0 hn0 on hcl1 hlt hclv r (pr r);rw [b1];simp only [bsm];rw [hfix,<-sq] at b2;have hw2:w16 (cl++ [r])=wz (gf (cl++ [r]) ((cl++ [r]).map pr)):=by unfold w16; rw [et2]
    refine ⟨s',q',ks',some j,rfl,⟨b2.v,b2.f,hz1.grow b3,b2.n,FV hp0 hn0 (Ht cl |> fun _=>by simp; omega) b2.p,hlayc q' c' (by rw [hw2,et2]; exact b2.p),hgv,⟨d,?_,hdv⟩,fun e=>?_,fun _=>⟨j,rfl,⟨q0,c',C0,s0,ks0,cs0,cl++ [r],hcs2,by simp,hhd,hq0,hp0,hn0,?_,by rw [hw2,et2]; exact b2.p⟩⟩⟩⟩
    ·rw [show s'.feed_Feeder=(s.sf f ⟨some k,d,sgB (qB (G++ [r])),some j⟩).feed_Feeder from (qE b3).trans rfl];exact hg1
    ·rw [mw,hs] at e; cases e
    ·rw [hw2,et2];exact b2.w
   ·have hfl:(cl.take 16).length=16:=by rw [aA]; omega
    have et2:(cl++ [r]).take 16=cl.take 16:=dP hge;have hw2:w16 (cl++ [r])=w16 cl:=by unfold w16; rw [et2]
    rw [Ez on hfl r (pr r)];simp only [bsm];refine ⟨_,q,ks,some j,rfl,⟨hv1,hf1,hz1,F.n,F.hd,hlayc q c (by rw [hw2,et2]; exact hput),hgv,⟨d,hg1,hdv⟩,fun e=>?_,fun _=>⟨j,rfl,⟨q0,c,C0,s0,ks0,cs0,cl++ [r],hcs2,by simp,hhd,hq0,hp0,hn0,?_,by rw [hw2,et2]; exact hput⟩⟩⟩⟩
    ·rw [mw,hs] at e; cases e
    ·rw [hw2,et2];exact hw.sf _
  | false=>
   simp only [iB,aj,aU];obtain ⟨s2,q2,c2,ks2,b1,b2,z,b3⟩:=G3 hv1 r (pr r);rw [b1];simp only [bsm];have e1:s2.feed_Feeder=(s.sf f ⟨some k,d,sgB (qB (G++ [r])),op⟩).feed_Feeder:=(qE b3).trans rfl;rw [e1,hg1];simp only [bsm];have hf2:f<s2.feed_Feeder.length:=by rw [e1,zO]; exact hf
   rw [rX hf2];rw [hfix] at b2;have hgf:gz ⟨false,false,false⟩ r (pr r)=gf [r] ([r].map pr):=by
    have:=sq [] r;simp only [bW] at this;rw [this];rfl
   rw [hgf] at b2;have hcs2:cls pj pr (G++ [r])=cls pj pr G++ [[r]]:=by rw [hcs,hj]; rfl
   have hlay:fo vX P (cls pj pr (G++ [r]))=some q2:=by
    rw [hcs2,tv,F.l];simp only [bsm];rw [Bp hs];show (aV q (wz (gf [r] ([r].map pr))) [r]).map (·.1)=some q2;rw [b2.p];rfl
   refine ⟨_,q2,ks2,some (s.sf f ⟨some k,d,sgB (qB (G++ [r])),op⟩).widen_Cluster.length,rfl,⟨b2.v.sf _,?_,(hz1.more b3).sf _ _ (fun j e=>?_),b2.n.trans F.n,FV F.v F.n (by simp) b2.p,hlay,hgv,⟨d,vP hf2,hdv⟩,fun e=>?_,fun _=>⟨_,rfl,⟨q,c2,_,_,ks,cls pj pr G,[r],hcs2,by simp,hs,F.l,F.v,F.n,b2.w.sf _,b2.p⟩⟩⟩⟩
   ·exact (hf1.trans hv1.oG hv1.oR b2.f).rgp (Rgp.self _) ⟨rfl,rfl,rfl⟩
   ·cases e;exact .inr hz1.wl
   ·rw [mw,hs] at e; cases e
end Go.Proofs.YtkgjnbiiiifoaaaGreatDoor
namespace Go.Proofs.YtkgjnbiiiifoaaaGreatDoor
open Go Go.Lt
theorem BC:dx=bX:=rfl
theorem EM (t:List Int) (h:R32 t) (hl:t.length<=1000000):mD t=some (wz (gf t (t.map pr))):=by
 unfold mD;refine jH (n:=t.length) (fun i (a:Int×Int×Bool×Bool×Bool)=>a=(wz (gf (t.take i) ((t.take i).map pr)),(i:Int),(gf (t.take i) ((t.take i).map pr)).some,(gf (t.take i) ((t.take i).map pr)).pict,(gf (t.take i) ((t.take i).map pr)).wide)) (fun u=>u.1=wz (gf t (t.map pr))) (fun i a hi e=>?_) (fun a e=>?_) rfl (by omega) (fun u e=>by rw [e])
 ·left
  subst e;simp only;rw [ae (dlt hi),bd hi,bsm,Cj _ (h _ (ay hi)),bsm,BC,xZ,bsm,cM hi (by omega)];refine ⟨_,rfl,?_⟩;rw [ak hi,sq]
 ·subst e;exact ⟨_,by simp only; rw [ab (by simp)],by simp only; rw [cC]⟩
variable {s C:Sto}{k g W:Nat}{q P:ag}{ks:List Nat}
end Go.Proofs.YtkgjnbiiiifoaaaGreatDoor
namespace Go.Proofs.YtkgjnbiiiifoaaaGreatDoor
open Go Go.Lt
theorem LH {σ:Type}{y:σ->Int->List Int->Option (σ×Bool)}(l:List Int) (h:R32 l) (hl:l.length<=1000000){s0:σ}(P:List (List Int)->σ->Prop)
  (hy:∀cs0 s c (i:Int),(∃t,cls pj pr l=cs0++c::t)->P cs0 s->∃s',y s i c=some (s',true)/\P (cs0++ [c]) s') (hf:P [] s0):∃s1,la y l s0=some s1/\P (cls pj pr l) s1:=by
 have hsl:∀k m:Nat,k<=m->m<=l.length->slc l (k:Int) (m:Int)=some ((l.drop k).take (m-k)):=fun k m h1 h2=>ui h1 h2;have hsn:∀(k i:Nat) (hi:i<l.length),k<=i->(l.drop k).take (i+1-k)=(l.drop k).take (i-k)++ [l[i]]:=fun k i hi hk=>by
  have e:i+1-k=(i-k)+1:=by omega
  have hd:i-k<(l.drop k).length:=by rw [br]; omega
  rw [e,ak hd,Mw]
  congr 3
  omega
 unfold la;refine jG (n:=l.length) (p:=fun s1=>P (cls pj pr l) s1) (fun i (a:bv×Int×Int×σ)=>∃(k:Nat) (s:σ),a=(sgB (sgF ((l.take i).map pr)),(k:Int),(i:Int),s)/\((i=0/\k=0/\s=s0)\/∃cs0,cls pj pr (l.take i)=cs0++ [(l.drop k).take (i-k)]/\k<i/\P cs0 s))
  (fun (u:σ ⊕ (Int×σ))=>∃(k:Nat) (s:σ),u= .inr ((k:Int),s)/\((l.length=0/\k=0/\s=s0)\/∃cs0,cls pj pr l=cs0++ [(l.drop k).take (l.length-k)]/\k<l.length/\P cs0 s)) (fun i a hi hI=>?_) (fun a hI=>?_) ⟨0,s0,rfl,.inl ⟨rfl,rfl,rfl⟩⟩ (by omega) (fun u hu=>?_)
 ·obtain ⟨k,s,rfl,hI⟩:=hI
  left
  simp only;have hst:=qp pj pr (l.take i) l[i];rw [<-ak hi] at hst;have hsg:sgF ((l.take (i+1)).map pr)=sgN (sgF ((l.take i).map pr)) (pr l[i]):=by rw [ak hi,bK,tf,uM]
  rw [ae (dlt hi),cM hi (by omega),bd hi,bsm,Cj _ (h _ (ay hi)),bsm,DS,bsm,bu,bsm];have hjn:sgJ pj (sgF ((l.take i).map pr)) (pr l[i])=jn pj pr (l.take i) l[i]:=rfl;simp only;rw [hjn,<-hsg];rcases hI with ⟨rfl,rfl,rfl⟩|⟨cs0,hc,hk,hs⟩
  ·rw [ae (by simp)];refine ⟨_,rfl,0,s,rfl,.inr ⟨[],?_,by omega,hf⟩⟩;have hz:jn pj pr ([]:List Int) l[0]=false:=rfl;rw [hst,iy,hz,ab (by simp),hsn 0 0 hi (av _)];rfl
  ·cases hj:jn pj pr (l.take i) l[i] with
   | true=>
    rw [ae (by simp)];rw [hj,ae rfl,hc,nQ] at hst;exact ⟨_,rfl,k,s,rfl,.inr ⟨cs0,by rw [hst,hsn k i hi (by omega)],by omega,hs⟩⟩
   | false=>
    rw [ab (by simp; omega),hsl k i (by omega) (by omega),bsm];rw [hj,ab (by simp),hc] at hst;obtain ⟨t,x,ht⟩:=IV hst (l.length-(i+1)) (by omega);rw [show i+1+(l.length-(i+1))=l.length by omega,cC] at ht;obtain ⟨s',h1,h2⟩:=hy cs0 s ((l.drop k).take (i-k)) (k:Int) ⟨t++ [x],by rw [ht]; simp⟩ hs;rw [h1,bsm,ab (by simp)];refine ⟨_,rfl,i,s',rfl,.inr ⟨cs0++ [(l.drop k).take (i-k)],?_,by omega,?_⟩⟩
    ·rw [hst,hsn i i hi (av _),nF];rfl
    ·exact h2
 ·obtain ⟨k,s,rfl,hI⟩:=hI;refine ⟨_,by simp only; rw [ab (by simp)],k,s,rfl,?_⟩;rw [cC] at hI;exact hI
 ·obtain ⟨k,s,rfl,hI⟩:=hu;simp only;rcases hI with ⟨h0,rfl,rfl⟩|⟨cs0,hc,hk,hs⟩
  ·rw [ab (by rw [am]; omega)];obtain rfl:=dm h0;exact ⟨_,rfl,hf⟩
  ·rw [ae (by rw [am]; omega),hsl k l.length (by omega) (av _),bsm];obtain ⟨s',h1,h2⟩:=hy cs0 s ((l.drop k).take (l.length-k)) (k:Int) ⟨[],by rw [hc]⟩ hs;rw [h1,bsm];refine ⟨_,rfl,?_⟩;rw [hc];exact h2
theorem GO (l:List Int) (h:R32 l) (hl:l.length<=1000000):gX l=some ((cls pj pr l).length:Int):=by
 unfold gX kP;have hc:(cls pj pr l).length<=1000000:=by
  obtain ⟨hf,hne,_⟩:=qr (pj:=pj) (pr:=pr) l;have key:∀cs:List (List Int),(∀c∈cs,c≠ [])->cs.length<=cs.flatten.length:=by
   intro cs
   induction cs with
   | nil=>intro _; simp
   | cons c cs ih=>
    intro h;have h1:=ih fun d hd=>h d (qz _ hd);have h2:1<=c.length:=by
     cases c with
     | nil=>exact absurd rfl (h [] (by simp))
     | cons _ _=>simp
    simp only [pg,aM,ax];omega
  have:=key (cls pj pr l) hne;rw [hf] at this;omega
 obtain ⟨r,h1,h2⟩:=LH (y:=fun (out:List Int) i _=>(app out [i]).bind fun o=>some (o,true)) (s0:=[]) l h hl (fun cs s=>s.length=cs.length) (fun cs0 s c i ⟨t,ht⟩ hs=>by
  have:cs0.length+1<=(cls pj pr l).length:=by rw [ht]; simp
  rw [oB _ _ (by simp; omega),bsm];exact ⟨_,rfl,by simp [hs]⟩) rfl
 rw [h1,bsm,h2]
theorem DO (t:List Int) (hl:t.length<=1000000):∃r,ce t=some r/\decide (r>=0)=t.any sil:=by
 unfold ce;refine jG (n:=t.length) (fun i (a:Int)=>a=(i:Int)/\(t.take i).any sil=false) (fun u=>(∃k:Nat,u= .inl (k:Int)/\t.any sil=true)\/(u= .inr ()/\t.any sil=false)) (fun i a hi hI=>?_) (fun a hI=>?_) ⟨rfl,by simp⟩ (by omega) (fun u hu=>?_)
 ·obtain ⟨rfl,hI⟩:=hI;rw [ae (dlt hi),bd hi,bsm,Cn,bsm];by_cases hs:sil t[i]=true
  ·right
   rw [ae hs];exact ⟨_,rfl,.inl ⟨i,rfl,List.any_eq_true.2 ⟨_,ay hi,hs⟩⟩⟩
  ·left
   rw [ab hs,cM hi (by omega)];refine ⟨_,rfl,rfl,?_⟩;rw [ak hi,Fc,hI];simpa using hs
 ·obtain ⟨rfl,hI⟩:=hI;rw [cC] at hI;exact ⟨_,by rw [ab (by simp)],.inr ⟨rfl,hI⟩⟩
 ·rcases hu with ⟨k,rfl,hu⟩|⟨rfl,hu⟩
  ·exact ⟨_,rfl,by rw [hu]; simp⟩
  ·exact ⟨_,rfl,by rw [hu]; decide⟩
theorem zN (t:List Int) (hl:t.length<=1000000):bC t=some (t.any sil):=by
 unfold bC;obtain ⟨r,h1,h2⟩:=DO t hl;rw [h1,bsm,h2]
theorem E1 (t:List Int):dI t [65533]=some (decide (t= [65533])):=by
 unfold dI
 match t with
 | []=>rfl
 | [x]=>
  by_cases hx:x=65533
  ·subst hx; rfl
  ·have e:(x != 65533)=true:=by simpa using hx
   have e2:decide ([x]= [65533])=false:=by simpa using hx
   rw [e2];simp [cm,idx,hx]
 | x::y::z=>
  rw [ae (by simp; omega)];simp
theorem FR (t:List Int) (h:R32 t) (hl:t.length<=16):ij t=some (wz (gf t (t.map pr))):=by
 unfold ij;rw [xD _ h (by omega)];simp only [bsm];rw [KW _ _ (by simp) (by omega)];rfl
def drw (c:aa):Bool:=
 (c.Kind==0 || c.Kind==3) || (c.Kind==1 && decide (c.Text= [65533])) || (!c.Text.any sil && (((cls pj pr c.Text).length:Int)==1 && wz (gf c.Text (c.Text.map pr))==c.Kind))
theorem DF {t:List Int}(h:t.all vld=true):R32 t:=fun x hx=>by
 have:=List.all_eq_true.1 h x hx;unfold vld at this;simp only [ao,am] at this;unfold r32;omega
theorem mL {c:aa}(h:rgt c=true):(c.Kind=0/\c.Text= [])\/(c.Kind=3/\c.Text= [])\/((c.Kind=1\/c.Kind=2)/\1<=c.Text.length/\c.Text.length<=16/\c.Text.all vld=true):=by
 unfold rgt at h;split at h
 ·rename_i q
  have e:c.Text= []:=by simpa using h
  rcases q with q|q
  ·exact .inl ⟨q,e⟩
  ·exact .inr (.inl ⟨q,e⟩)
 ·simp only [ao,aB,am] at h;exact .inr (.inr ⟨h.1.1.1,h.1.1.2,h.1.2,h.2⟩)
theorem GF (c:aa) (h:rgt c=true):jO c=some (drw c):=by
 unfold jO drw;rcases mL h with ⟨h0,ht⟩|⟨h0,ht⟩|⟨h0,h1,h2,h3⟩
 ·rw [h0]; rfl
 ·rw [h0]; rfl
 ·have hR:=DF h3;rw [E1,GO _ hR (by omega),zN _ (by omega),EM _ hR (by omega)];have n0:(c.Kind==0)=false:=by simp; omega
  have n3:(c.Kind==3)=false:=by simp; omega
  simp only [n0,n3,aj,aU,bsm,aX];rcases h0 with q|q
  ·rw [q];simp only [show ((1:Int)==2)=false from rfl,aj,aU,show ((1:Int)==1)=true from rfl,dy,dz];by_cases hb:c.Text= [65533]
   ·simp [hb]
   ·simp only [hb,decide_false,aj,aU,dz]
    cases (c.Text.any sil) <;> simp
  ·rw [q];simp only [show ((2:Int)==2)=true from rfl,bA,show ((2:Int)==1)=false from rfl,iB,aj,aU,dz]
   cases (c.Text.any sil) <;> simp
theorem Ec (c:aa) (h:rgt c=true):eC c=some (drw c):=by
 unfold eC drw;simp only [bu,aX,bsm];rcases mL h with ⟨h0,ht⟩|⟨h0,ht⟩|⟨h0,h1,h2,h3⟩
 ·rw [h0]; rfl
 ·rw [h0]; rfl
 ·have hR:=DF h3;have n0:(c.Kind==0)=false:=by simp; omega
  have n3:(c.Kind==3)=false:=by simp; omega
  simp only [n0,n3,dz,dR];have hbad:((bw (c.Kind==1 && (c.Text.length:Int)==1) ((idx c.Text 0).bind fun g=>some (g==65533))).bind fun e=>some e)=some (c.Kind==1 && decide (c.Text= [65533])):=by
   match hc:c.Text,h1 with
   | [x],_=>
    cases (c.Kind==1)
    ·rfl
    ·by_cases hx:x=65533
     ·subst hx; rfl
     ·have e2:decide ([x]= [65533])=false:=by simpa using hx
      rw [e2];simp [bw,idx,hx]
   | x::y::z,_=>
    have e1:((((x::y::z).length:Nat):Int)==1)=false:=by simp; omega
    have e2:decide (x::y::z= [65533])=false:=by simp
    rw [e1,e2];simp [bw]
  rw [hbad,bsm];by_cases hb:(c.Kind==1 && decide (c.Text= [65533]))=true
  ·rw [ae hb,hb]; rfl
  ·rw [ab hb,show (c.Kind==1 && decide (c.Text= [65533]))=false by simpa using hb,dz,BM _ hR (by omega),FR _ hR h2];refine jH (n:=c.Text.length) (fun i (a:Int)=>a=(i:Int)/\(c.Text.take i).any sil=false) (fun u=>(u= .inl false/\c.Text.any sil=true)\/(u= .inr ()/\c.Text.any sil=false)) (fun i a hi hI=>?_) (fun a hI=>?_) ⟨rfl,by simp⟩ (by omega) (fun u hu=>?_)
   ·obtain ⟨rfl,hI⟩:=hI;rw [ae (dlt hi),bd hi,bsm,oO,bsm];by_cases hs:sil c.Text[i]=true
    ·right
     rw [ae hs];exact ⟨_,rfl,.inl ⟨rfl,List.any_eq_true.2 ⟨_,ay hi,hs⟩⟩⟩
    ·left
     rw [ab hs,cM hi (by omega)];refine ⟨_,rfl,rfl,?_⟩;rw [ak hi,Fc,hI];simpa using hs
   ·obtain ⟨rfl,hI⟩:=hI;rw [cC] at hI;exact ⟨_,by rw [ab (by simp)],.inr ⟨rfl,hI⟩⟩
   ·rcases hu with ⟨rfl,hu⟩|⟨rfl,hu⟩
    ·rw [hu]; rfl
    ·rw [hu];simp only [bsm,aX];rfl
theorem LG (u:Nat) (h:u<2000000):fP .i32 (u:Int) 63=((u % 64:Nat):Int):=by
 have e1:(BitVec.ofInt 32 (u:Int) &&& BitVec.ofInt 32 63).toNat=u % 64:=by
  have b1:(BitVec.ofInt 32 (u:Int)).toNat=u:=by rw [BitVec.toNat_ofInt]; omega
  have b2:(BitVec.ofInt 32 63).toNat=63:=rfl;rw [BitVec.toNat_and,b1,b2];exact Nat.and_two_pow_sub_one_eq_mod u 6
 show IntKind.i32.wrap ((BitVec.ofInt 32 (u:Int) &&& BitVec.ofInt 32 63).toNat:Int)=_;rw [e1];exact zG (by omega)
theorem Lf:∀y:Fin 64,gW .u8 128 (IntKind.u8.wrap (y.val:Int))=128+(y.val:Int):=by decide +kernel
theorem Le:∀y:Fin 32,gW .u8 192 (IntKind.u8.wrap (y.val:Int))=192+(y.val:Int):=by decide +kernel
theorem Ld:∀y:Fin 16,gW .u8 224 (IntKind.u8.wrap (y.val:Int))=224+(y.val:Int):=by decide +kernel
theorem Lc:∀y:Fin 8,gW .u8 240 (IntKind.u8.wrap (y.val:Int))=240+(y.val:Int):=by decide +kernel
theorem or0:∀y:Fin 128,gW .u8 0 (IntKind.u8.wrap (y.val:Int))=(y.val:Int):=by decide +kernel
def frm (r:Int):List Int:=if r<128 then [r] else if r<2048 then [192+r / 64,128+r % 64] else if r<65536 then [224+r / 4096,128+r / 64 % 64,128+r % 64] else [240+r / 262144,128+r / 4096 % 64,128+r / 64 % 64,128+r % 64]
def szf (r:Int):Int:=if r<128 then 1 else if r<2048 then 2 else if r<65536 then 3 else 4
theorem zH {r:Int}(h:vld r=true):0<=r/\r<=1114111:=by
 unfold vld at h;simp only [ao,am] at h;omega
theorem Dq (r:Int):(frm r).length<=4:=by
 unfold frm
 repeat' split
 all_goals simp
theorem FC {r:Int}(h:vld r=true):lP r=some (szf r):=by
 unfold lP szf;rw [pX,h];simp only [bsm,cP,aj,aU,am]
 repeat' split
 all_goals rfl
theorem EH (u:Nat):(u:Int).fdiv (2 ^ 6)=((u / 64:Nat):Int):=by
 rw [Ho _ (by decide)];rfl
theorem Ep {u:Nat}(h:u<2000000):gW .u8 128 (IntKind.u8.wrap (fP .i32 (u:Int) 63))=128+((u % 64:Nat):Int):=by
 rw [LG u h];exact Lf ⟨u % 64,Hl _ (by decide)⟩
theorem FD {r:Int}(h:vld r=true):lQ r=some (frm r):=by
 obtain ⟨r0,r9⟩:=zH h;unfold lQ;rw [FC h,bsm];obtain ⟨u,rfl⟩:∃u:Nat,r=(u:Int):=⟨r.toNat,by omega⟩;unfold szf frm;by_cases h1:(u:Int)<128
 ·rw [ae h1,ae h1];refine Hp (b:=some [gW .u8 0 (IntKind.u8.wrap (u:Int))]) rfl ?_;rw [or0 ⟨u,by omega⟩]
 ·rw [ab h1,ab h1];by_cases h2:(u:Int)<2048
  ·rw [ae h2,ae h2];refine Hp (b:=some [gW .u8 192 (IntKind.u8.wrap ((u:Int).fdiv (2 ^ 6))),gW .u8 128 (IntKind.u8.wrap (fP .i32 (u:Int) 63))]) rfl ?_;rw [Ep (by omega),EH,Le ⟨u / 64,by omega⟩];rfl
  ·rw [ab h2,ab h2];by_cases h3:(u:Int)<65536
   ·rw [ae h3,ae h3];refine Hp (b:=some [gW .u8 224 (IntKind.u8.wrap (((u:Int).fdiv (2 ^ 6)).fdiv (2 ^ 6))),gW .u8 128 (IntKind.u8.wrap (fP .i32 ((u:Int).fdiv (2 ^ 6)) 63)),gW .u8 128 (IntKind.u8.wrap (fP .i32 (u:Int) 63))]) rfl ?_;rw [EH,EH,Ep (by omega),Ep (by omega),Ld ⟨u / 64 / 64,by omega⟩];simp only [aK,Fb,qw];refine ⟨?_,?_,?_⟩ <;> omega
   ·rw [ab h3,ab h3];refine Hp (b:=some [gW .u8 240 (IntKind.u8.wrap ((((u:Int).fdiv (2 ^ 6)).fdiv (2 ^ 6)).fdiv (2 ^ 6))),gW .u8 128 (IntKind.u8.wrap (fP .i32 (((u:Int).fdiv (2 ^ 6)).fdiv (2 ^ 6)) 63)),gW .u8 128 (IntKind.u8.wrap (fP .i32 ((u:Int).fdiv (2 ^ 6)) 63)),gW .u8 128 (IntKind.u8.wrap (fP .i32 (u:Int) 63))]) rfl ?_;rw [EH,EH,EH,Ep (by omega),Ep (by omega),Ep (by omega),Lc ⟨u / 64 / 64 / 64,by omega⟩];simp only [aK,Fb,qw];refine ⟨?_,?_,?_,?_⟩ <;> omega
theorem BE (l:List Int):(l.flatMap frm).length<=4*l.length:=by
 induction l with
 | nil=>simp
 | cons x l ih=>
  rw [ug,ax,aM];have:=Dq x;omega
theorem EF {l:List Int}{i:Nat}(h:i<l.length):(l.take (i+1)).flatMap frm=(l.take i).flatMap frm++frm l[i]:=by
 rw [ak h,za];simp
theorem GA {l:List Int}(hl:l.length<=1000000){i:Nat}(h:i<l.length):app ((l.take i).flatMap frm) (frm l[i])=some ((l.take (i+1)).flatMap frm):=by
 have h1:=BE (l.take i);have h2:=Dq l[i];rw [aA] at h1;rw [fg (by omega),EF h]
theorem HF {l:List Int}(hv:∀x∈l,vld x=true) (hl:l.length<=1000000):mP l=some (l.flatMap frm,Er.nil):=by
 unfold mP;refine jH (n:=l.length) (fun i a=>a=((l.take i).flatMap frm,(i:Int))) (fun u=>u= .inr (l.flatMap frm)) (fun i a hi e=>?_) (fun a e=>?_) rfl (by omega) (fun u e=>by rw [e])
 ·left
  subst e;have hx:=hv _ (ay hi);simp only;rw [ae (dlt hi),bd hi,bsm,pX,hx,bsm,ab (by simp),FD hx,bsm,GA hl hi,bsm,cM hi (by omega)];exact ⟨_,rfl,rfl⟩
 ·subst e;exact ⟨_,by simp only; rw [ab (by simp)],by rw [cC]⟩
theorem BO {a:List aa}(ha:a.length<=9223372036854775807) (hs:∀c∈a,c.Text.length<=9223372036854775807):gq a a=some true:=by
 unfold gq;rw [ab (by simp)];refine jH (n:=a.length) (fun i (q:Int)=>q=(i:Int)) (fun t=>t= .inr ()) (fun i q hi e=>?_) (fun q e=>?_) rfl (by omega) (fun t ht=>by rw [ht])
 ·subst e
  left
  have hm:=hs _ (ay hi);obtain ⟨t,h1,h2⟩:=DU a[i].Text hm a[i].Text;refine ⟨_,?_,rfl⟩;simp only [dlt hi,bA,bd hi,bsm,cM hi ha,h1,h2.2 rfl,bne_self_eq_false,cP,dR,aj,aU]
 ·subst e
  exact ⟨_,by rw [ab (by simp)],rfl⟩
theorem Bn {a:List ah}(ha:a.length<=9223372036854775807) (hs:∀x∈a,x.Cells.length<=9223372036854775807/\∀c∈x.Cells,c.Text.length<=9223372036854775807):gn a a=some true:=by
 unfold gn;rw [ab (by simp)];refine jH (n:=a.length) (fun i (q:Int)=>q=(i:Int)) (fun t=>t= .inr ()) (fun i q hi e=>?_) (fun q e=>?_) rfl (by omega) (fun t ht=>by rw [ht])
 ·subst e
  left
  have hm:=hs _ (ay hi);refine ⟨_,?_,rfl⟩;simp only [dlt hi,bA,bd hi,bsm,cM hi ha,BO hm.1 hm.2,lu,cP,dR,aj,aU]
 ·subst e
  exact ⟨_,by rw [ab (by simp)],rfl⟩
def VwR (v:aH):Prop:=v.Lines.length<=35184372088832/\∀l∈v.Lines,l.Cells.length<=35184372088832/\∀c∈l.Cells,c.Text.length<=35184372088832
theorem HH {v:aH}(h:VwR v):gj v v=some true:=by
 have h1:=h.1;unfold gj;rw [Bn (by omega) (fun x hx=>⟨by have:=(h.2 x hx).1; omega,fun c hc=>by have:=(h.2 x hx).2 c hc; omega⟩)];simp only [lu,jf,aX,bsm,Bool.and_self]
def bare (v:aH):aH:=⟨v.Wide,v.High,v.Lines.map fun l=>⟨l.Cells,false⟩,⟨v.At.Row,v.At.Col,false⟩,v.Auto⟩
theorem Cw (v:aH) (h:v.Lines.length<=1000):gi v=some (bare v):=by
 unfold gi;refine jH (n:=v.Lines.length) (fun i a=>a=((v.Lines.take i).map fun l=>(⟨l.Cells,false⟩:ah),(i:Int))) (fun u=>u=v.Lines.map fun l=>(⟨l.Cells,false⟩:ah)) (fun i a hi e=>?_) (fun a e=>?_) rfl (by omega) (fun u e=>by rw [e]; rfl)
 ·left
  subst e;simp only;rw [ae (dlt hi),bd hi,bsm,oB _ _ (by simp; omega),bsm,cM hi (by omega)];refine ⟨_,rfl,?_⟩;rw [ak hi,bK];rfl
 ·subst e
  refine ⟨_,by simp only; rw [ab (by simp)],?_⟩;simp only [cC]
def zc (v:aH):Prop:=VwP v/\∀l∈v.Lines,∀c∈l.Cells,drw c=true
theorem xe {l:List aa}(h:Snd l):∀c∈l,rgt c=true:=fun c hc=>by
 obtain ⟨i,hi,rfl⟩:=List.mem_iff_getElem.1 hc;exact (h i hi).1
theorem GU (v:aH) (hL:v.Lines.length<=100) (hc:∀l∈v.Lines,l.Cells.length<=400):∃b,mQ v=some b/\(b=true↔zc v):=by
  unfold mQ;obtain ⟨b,b1,b2⟩:=E3 v hL hc;rw [b1,bsm]
  cases b with
  | false=>
   rw [ae (by decide)];exact ⟨_,rfl,fun q=>(by cases q),fun q=>b2.2 q.1⟩
  | true=>
   have P:=b2.1 rfl;rw [ab (by simp)];refine jG (n:=v.Lines.length) (p:=fun b=>(b=true↔zc v)) (fun i (a:Int)=>a=(i:Int)/\∀l∈v.Lines.take i,∀c∈l.Cells,drw c=true) (fun t=>(t= .inl false/\¬zc v)\/(t= .inr ()/\∀l∈v.Lines,∀c∈l.Cells,drw c=true)) (fun i a hi hI=>?_) (fun a hI=>?_) ⟨rfl,by simp⟩ (by omega) (fun t ht=>?_)
   ·obtain ⟨rfl,h⟩:=hI
    have hm:=ay hi;have hl:=hc _ hm;have hr:=xe (P.lines _ hm).2;rw [ae (dlt hi),bd hi,bsm];obtain ⟨t,t1,t2⟩:∃t,cm (σ:=Int) (τ:=Bool ⊕ Unit) (((v.Lines[i].Cells.length:Int)-0).toNat+1) (fun d=>
 if decide (d<(v.Lines[i].Cells.length:Int)) then
 (idx v.Lines[i].Cells d).bind fun f=>
 (jO f).bind fun g=>
 if (!g)=true then
 some (.inr (.inl false))
 else
 some (.inl ((w64 (d+1))))
 else
 some (.inr (.inr ()))) 0=some t/\((t= .inl false/\¬∀c∈v.Lines[i].Cells,drw c=true)\/(t= .inr ()/\∀c∈v.Lines[i].Cells,drw c=true)):=by
     refine eV (n:=v.Lines[i].Cells.length) (fun k (a:Int)=>a=(k:Int)/\∀c∈v.Lines[i].Cells.take k,drw c=true) _ (fun k a hk hI=>?_) (fun a hI=>?_) ⟨rfl,by simp⟩ (by omega)
     ·obtain ⟨rfl,hI⟩:=hI
      have hk':=ay hk;rw [ae (dlt hk),bd hk,bsm,GF _ (hr _ hk'),bsm]
      cases hd:drw v.Lines[i].Cells[k] with
      | true=>
       left
       rw [ab (by simp),cM hk (by omega)];refine ⟨_,rfl,rfl,fun c hcm=>?_⟩;rw [ak hk] at hcm;rcases List.mem_append.1 hcm with q|q
       ·exact hI c q
       ·rw [List.mem_singleton.1 q]; exact hd
      | false=>
       right
       rw [ae (by decide)];exact ⟨_,rfl,.inl ⟨rfl,fun q=>by have:=q _ hk'; rw [hd] at this; cases this⟩⟩
     ·obtain ⟨rfl,hI⟩:=hI
      rw [cC] at hI;exact ⟨_,by rw [ab (by simp)],.inr ⟨rfl,hI⟩⟩
    rw [t1,bsm];rcases t2 with ⟨rfl,t2⟩|⟨rfl,t2⟩
    ·right
     exact ⟨_,rfl,.inl ⟨rfl,fun q=>t2 (q.2 _ hm)⟩⟩
    ·left
     rw [cM hi (by omega)];refine ⟨_,rfl,rfl,fun l hlm=>?_⟩;rw [ak hi] at hlm;rcases List.mem_append.1 hlm with q|q
     ·exact h l q
     ·rw [List.mem_singleton.1 q]; exact t2
   ·obtain ⟨rfl,h⟩:=hI
    rw [cC] at h;exact ⟨_,by rw [ab (by simp)],.inr ⟨rfl,h⟩⟩
   ·rcases ht with ⟨rfl,h⟩|⟨rfl,h⟩
    ·exact ⟨_,rfl,fun q=>(by cases q),fun q=>absurd q h⟩
    ·exact ⟨_,rfl,fun _=>⟨P,h⟩,fun _=>rfl⟩
theorem Ef (v:aH) (hL:v.Lines.length<=100) (hc:∀l∈v.Lines,l.Cells.length<=400):∃b,fB v=some b/\(b=true↔zc v):=by
  unfold fB;obtain ⟨b,b1,b2⟩:=Bb v ⟨by omega,fun l hl=>by have:=hc l hl; omega⟩;rw [b1,bsm]
  cases b with
  | false=>
   rw [ae (by decide)];exact ⟨_,rfl,fun q=>(by cases q),fun q=>b2.2 q.1⟩
  | true=>
   have P:=b2.1 rfl;rw [ab (by simp)];refine jG (n:=v.Lines.length) (p:=fun b=>(b=true↔zc v)) (fun i (a:Int)=>a=(i:Int)/\∀l∈v.Lines.take i,∀c∈l.Cells,drw c=true) (fun t=>(t= .inl false/\¬zc v)\/(t= .inr ()/\∀l∈v.Lines,∀c∈l.Cells,drw c=true)) (fun i a hi hI=>?_) (fun a hI=>?_) ⟨rfl,by simp⟩ (by omega) (fun t ht=>?_)
   ·obtain ⟨rfl,h⟩:=hI
    have hm:=ay hi;have hl:=hc _ hm;have hr:=xe (P.lines _ hm).2;rw [ae (dlt hi),bd hi,bsm];obtain ⟨t,t1,t2⟩:∃t,cm (σ:=Int) (τ:=Bool ⊕ Unit) (((v.Lines[i].Cells.length:Int)-0).toNat+1) (fun d=>
 (some v.Lines[i]).bind fun f=>
 if decide (d<(f.Cells.length:Int)) then
 (some v.Lines[i]).bind fun g=>
 (idx g.Cells d).bind fun h=>
 (eC h).bind fun i=>
 if (!i)=true then
 some (.inr (.inl false))
 else
 some (.inl ((w64 (d+1))))
 else
 some (.inr (.inr ()))) 0=some t/\((t= .inl false/\¬∀c∈v.Lines[i].Cells,drw c=true)\/(t= .inr ()/\∀c∈v.Lines[i].Cells,drw c=true)):=by
     refine eV (n:=v.Lines[i].Cells.length) (fun k (a:Int)=>a=(k:Int)/\∀c∈v.Lines[i].Cells.take k,drw c=true) _ (fun k a hk hI=>?_) (fun a hI=>?_) ⟨rfl,by simp⟩ (by omega)
     ·obtain ⟨rfl,hI⟩:=hI
      have hk':=ay hk;rw [bsm,ae (dlt hk),bsm,bd hk,bsm,Ec _ (hr _ hk'),bsm]
      cases hd:drw v.Lines[i].Cells[k] with
      | true=>
       left
       rw [ab (by simp),cM hk (by omega)];refine ⟨_,rfl,rfl,fun c hcm=>?_⟩;rw [ak hk] at hcm;rcases List.mem_append.1 hcm with q|q
       ·exact hI c q
       ·rw [List.mem_singleton.1 q]; exact hd
      | false=>
       right
       rw [ae (by decide)];exact ⟨_,rfl,.inl ⟨rfl,fun q=>by have:=q _ hk'; rw [hd] at this; cases this⟩⟩
     ·obtain ⟨rfl,hI⟩:=hI
      rw [cC] at hI;exact ⟨_,by rw [bsm,ab (by simp)],.inr ⟨rfl,hI⟩⟩
    rw [t1,bsm];rcases t2 with ⟨rfl,t2⟩|⟨rfl,t2⟩
    ·right
     exact ⟨_,rfl,.inl ⟨rfl,fun q=>t2 (q.2 _ hm)⟩⟩
    ·left
     rw [cM hi (by omega)];refine ⟨_,rfl,rfl,fun l hlm=>?_⟩;rw [ak hi] at hlm;rcases List.mem_append.1 hlm with q|q
     ·exact h l q
     ·rw [List.mem_singleton.1 q]; exact t2
   ·obtain ⟨rfl,h⟩:=hI
    rw [cC] at h;exact ⟨_,by rw [ab (by simp)],.inr ⟨rfl,h⟩⟩
   ·rcases ht with ⟨rfl,h⟩|⟨rfl,h⟩
    ·exact ⟨_,rfl,fun q=>(by cases q),fun q=>absurd q h⟩
    ·exact ⟨_,rfl,fun _=>⟨P,h⟩,fun _=>rfl⟩
def cop (r k:Int) (c:aa):List aJ:=if c.Text.length=0 then [] else [⟨2,r,k,[]⟩,⟨0,0,0,c.Text.flatMap frm⟩]
def lop (r:Int) (l:List aa) (k:Nat):List aJ:=(List.range k).flatMap fun (j:Nat)=>match l[j]? with|some c=>cop r j c|none=>[]
theorem xJ (r:Int){l:List aa}{k:Nat}(h:k<l.length):lop r l (k+1)=lop r l k++cop r k l[k]:=by
 unfold lop;rw [lY,za,ug,MC,dY];simp only [af h]
def Ae (l:List aa) (k:Nat):Nat:=((l.take k).filter fun c=>decide (0<c.Text.length)).length
theorem Ew {l:List aa}{k:Nat}(h:k<l.length):Ae l (k+1)=Ae l k+(if 0<l[k].Text.length then 1 else 0):=by
 unfold Ae;rw [ak h,Mj,ax]
 congr 1
 by_cases q:0<l[k].Text.length
 ·rw [ae q,List.filter_cons_of_pos (by simpa using q)]; rfl
 ·rw [ab q,List.filter_cons_of_neg (by simpa using q)]; rfl
theorem Ad (l:List aa) (k:Nat):Ae l k<=l.length:=by
 unfold Ae;exact cO (pH _ _) (by rw [aA]; omega)
theorem xi (r:Int) (l:List aa):∀k,k<=l.length->(lop r l k).length=2*Ae l k
 | 0,_=>rfl
 | k+1,h=>by
  rw [xJ r h,Ew h,ax,xi r l k (by omega)];unfold cop;by_cases q:0<l[k].Text.length
  ·rw [ab (by omega),ae q]; simp; omega
  ·rw [ae (by omega),ab q]; simp
theorem Ev (r:Int) (l:List aa) (hl:l.length<=400) (hr:∀c∈l,rgt c=true):lR r l=some (lop r l l.length):=by
 unfold lR;refine jH (n:=l.length) (fun k a=>a=(lop r l k,(k:Int))) (fun u=>u=lop r l l.length) (fun k a hk e=>?_) (fun a e=>?_) rfl (by omega) (fun u e=>by rw [e])
 ·left
  subst e;simp only;rw [ae (dlt hk),bd hk,bsm,cM hk (by omega),xJ r hk];have hlen:=xi r l k (by omega);have hcn:=Ad l k;unfold cop;by_cases q:l[k].Text.length=0
  ·rw [ae (by simp [q]),ae q,bsm,dY];exact ⟨_,rfl,rfl⟩
  ·rw [ab (by simpa using fun e=>q (by simp [e])),ab q];rcases mL (hr _ (ay hk)) with ⟨_,e⟩|⟨_,e⟩|⟨_,_,h2,h3⟩
   ·exact absurd (by rw [e]; rfl) q
   ·exact absurd (by rw [e]; rfl) q
   ·rw [HF (fun x hx=>List.all_eq_true.1 h3 x hx) (by omega),bsm,oB _ _ (by simp; omega),bsm,bsm];exact ⟨_,rfl,rfl⟩
 ·subst e;exact ⟨_,by simp only; rw [ab (by simp)],rfl⟩
def yE (ls:List ah) (n:Nat):List aJ:=(List.range n).flatMap fun (i:Nat)=>match ls[i]? with|some l=>lop i l.Cells l.Cells.length|none=>[]
theorem vV {ls:List ah}{n:Nat}(h:n<ls.length):yE ls (n+1)=yE ls n++lop n ls[n].Cells ls[n].Cells.length:=by
 unfold yE;rw [lY,za,ug,MC,dY];simp only [af h]
def CM:List ah->Nat->Nat
 | _,0=>0
 | ls,n+1=>CM ls n+(match ls[n]? with|some l=>Ae l.Cells l.Cells.length|none=>0)
theorem zD {ls:List ah}{n:Nat}(h:n<ls.length):CM ls (n+1)=CM ls n+Ae ls[n].Cells ls[n].Cells.length:=by
 show CM ls n+(match ls[n]? with|some l=>Ae l.Cells l.Cells.length|none=>0)=_;rw [af h]
theorem uX (ls:List ah):∀n,n<=ls.length->(yE ls n).length=2*CM ls n
 | 0,_=>rfl
 | n+1,h=>by
  rw [vV h,zD h,ax,uX ls n (by omega),xi _ _ _ (av _)];omega
theorem xn (ls:List ah) (hc:∀l∈ls,l.Cells.length<=400):∀n,n<=ls.length->CM ls n<=n*400
 | 0,_=>dk _
 | n+1,h=>by
  rw [zD h];have h1:=xn ls hc n (by omega);have h2:=Ad ls[n].Cells ls[n].Cells.length;have h3:=hc _ (ay h);omega
def tP (v:aH):List aJ:=(⟨12,0,0,[]⟩::yE v.Lines v.Lines.length)++(if v.Auto then [⟨12,1,0,[]⟩] else [])++ [⟨2,v.At.Row,v.At.Col,[]⟩]
theorem JU {v:aH}(h:¬zc v) (hL:v.Lines.length<=100) (hc:∀l∈v.Lines,l.Cells.length<=400):jW v=some ([],false):=by
 unfold jW;obtain ⟨b,b1,b2⟩:=GU v hL hc;rw [b1,bsm,show b=false by cases b with|false=>rfl|true=>exact absurd (b2.1 rfl) h,ae (by decide)]
theorem JV {v:aH}(h:zc v) (hL:v.Lines.length<=100) (hc:∀l∈v.Lines,l.Cells.length<=400):jW v=some (tP v,true):=by
 unfold jW;obtain ⟨b,b1,b2⟩:=GU v hL hc;rw [b1,bsm,b2.2 h,ab (by simp)];have hcn:=xn v.Lines hc v.Lines.length (av _);have hln:=uX v.Lines v.Lines.length (av _);refine jH (n:=v.Lines.length) (fun i a=>a=((⟨12,0,0,[]⟩:aJ)::yE v.Lines i,(i:Int))) (fun u=>u=(⟨12,0,0,[]⟩:aJ)::yE v.Lines v.Lines.length) (fun i a hi e=>?_) (fun a e=>?_) rfl (by omega) (fun u e=>?_)
 ·left
  subst e;have hm:=ay hi;have h1:=xn v.Lines hc i (by omega);have h2:=uX v.Lines i (by omega);have h3:=xi (i:Int) v.Lines[i].Cells _ (av _);have h4:=Ad v.Lines[i].Cells v.Lines[i].Cells.length;have h5:=hc _ hm;simp only;rw [ae (dlt hi),bd hi,bsm,Ev _ _ h5 (xe (h.1.lines _ hm).2),bsm,oB _ _ (by simp only [aM]; omega),bsm,cM hi (by omega),vV hi];exact ⟨_,rfl,rfl⟩
 ·subst e;exact ⟨_,by simp only; rw [ab (by simp)],rfl⟩
 ·subst e;unfold tP
  cases v.Auto with
  | true=>
   rw [ae rfl,ae rfl,oB _ _ (by simp only [aM,bf]; omega),bsm,bsm,oB _ _ (by simp only [aM,bf,ax]; omega),bsm]
  | false=>
   rw [ab (by simp),ab (by simp),bsm,oB _ _ (by simp only [aM,bf,ax]; omega),bsm,dY]
theorem Ih {v:aH}:(tP v).length<=3+2*CM v.Lines v.Lines.length:=by
 unfold tP;have:=uX v.Lines v.Lines.length (av _);simp only [ax,aM,bf];split <;> simp <;> omega
end Go.Proofs.YtkgjnbiiiifoaaaGreatDoor
namespace Go.Proofs.YtkgjnbiiiifoaaaGreatDoor
open Go Go.Lt
variable {s C:Sto}{f k g W H:Nat}{q P:ag}{ks:List Nat}{op:Option Nat}
theorem Ju {p:List Int}(hp:Bts p) (hb:bg p=(p.length:Int)) (hne:p≠ []):vld (vl p)=true:=by
 have h4:=LD p;unfold vld;simp only [ao,am]
 match p,hne with
 | [a],_=>
  obtain ⟨a1,a2⟩:=hp a (by simp);have hl:=sm a;simp only [bg,aM,bf] at hb;simp only [vl,List.foldl,b0]
  repeat' split
  all_goals simp only [aB,am]
  all_goals omega
 | [a,b],_=>
  obtain ⟨a1,a2⟩:=hp a (by simp);have hl:=sm a;simp only [bg,aM,bf] at hb;split at hb
  ·rename_i g
   have hs:128<=b/\b<=191:=by
    have:=g.2;unfold slo shi at this
    repeat' split at this
    all_goals omega
   simp only [vl,List.foldl,b0]
   repeat' split
   all_goals simp only [aB,am]
   all_goals omega
  ·omega
 | [a,b,c],_=>
  obtain ⟨a1,a2⟩:=hp a (by simp);have hl:=sm a;simp only [bg,aM,bf] at hb;split at hb
  ·rename_i g
   have hs:128<=b/\b<=191/\(a=237->b<=159):=by
    have:=g.2;unfold slo shi at this
    repeat' split at this
    all_goals omega
   simp only [vl,List.foldl,b0]
   repeat' split
   all_goals simp only [aB,am]
   all_goals omega
  ·omega
 | [a,b,c,d],_=>
  obtain ⟨a1,a2⟩:=hp a (by simp);have hl:=sm a;simp only [bg,aM,bf] at hb;split at hb
  ·rename_i g
   have hs:128<=b/\b<=191/\(a=240->144<=b)/\(a=244->b<=143):=by
    have:=g.2;unfold slo shi at this
    repeat' split at this
    all_goals omega
   simp only [vl,List.foldl,b0]
   repeat' split
   all_goals simp only [aB,am]
   all_goals omega
  ·omega
 | _::_::_::_::_::_,_=>simp only [bg,aM] at hb; omega
theorem Db {b:Int}(h:Byt b):∀x∈(rs0 b).1,vld x=true:=fun x hx=>by
 obtain ⟨h1,h2⟩:=h;have hl:=sm b;unfold rs0 at hx;split at hx
 ·simp at hx
 ·split at hx
  ·rw [List.mem_singleton.1 hx];unfold vld;simp only [ao,aB,am];omega
  ·rw [List.mem_singleton.1 hx]; rfl
theorem D5 {h:List Int}(hb:Bts h){b:Int}(h1:Byt b):∀x∈(gx h b).1,vld x=true:=fun x hx=>by
 unfold gx at hx;split at hx
 ·exact Db h1 x hx
 ·split at hx
  ·simp at hx
  ·split at hx
   ·rename_i g1 g2
    rw [List.mem_singleton.1 hx];refine Ju (hb.snoc h1) ?_ (by simp);have:=LF g2;simp only [ax,aM,bf] at this|-;omega
   ·rcases List.mem_cons.1 hx with hx|hx
    ·rw [hx]; rfl
    ·exact Db h1 x hx
theorem ex4 {α β γ δ:Type}{X:Option α}{Q:α->β->γ->δ->Prop}(h:∃a,X=some a/\∃b c d,Q a b c d):∃a b c d,X=some a/\Q a b c d:=by
 obtain ⟨a,h1,b,c,d,h2⟩:=h;exact ⟨a,b,c,d,h1,h2⟩
theorem Dr {G h:List Int}(F:Fd C s f k g W H P G h q ks op){l:List Int}(hl:l.length<=1000000) (hv:∀x∈l,vld x=true):∃s' q' ks' op',gE s (some f) l=some s'/\Fd C s' f k g W H P (G++l) h q' ks' op':=by
 unfold gE;refine ex4 (jG (n:=l.length) (fun i (st:Int×Sto)=>st.1=(i:Int)/\∃q' ks' op',Fd C st.2 f k g W H P (G++l.take i) h q' ks' op') (fun u:Sto=>∃q' ks' op',Fd C u f k g W H P (G++l) h q' ks' op') (p:=fun s':Sto=>∃q' ks' op',Fd C s' f k g W H P (G++l) h q' ks' op') (fun i st hi hI=>?_) (fun st hI=>?_) ⟨rfl,q,ks,op,by simpa using F⟩ (by omega) (fun u hu=>⟨u,rfl,hu⟩))
 ·obtain ⟨i',st⟩:=st;obtain ⟨e,q1,ks1,op1,F1⟩:=hI;simp only at e F1;subst e;simp only;rw [ae (dlt hi),bd hi,cM hi (by omega)];simp only [bsm];obtain ⟨s2,q2,ks2,op2,b1,b2⟩:=GP F1 (hv _ (ay hi));rw [b1];refine .inl ⟨_,rfl,rfl,q2,ks2,op2,?_⟩;rw [ak hi,<-aO];exact b2
 ·obtain ⟨i',st⟩:=st;obtain ⟨e,q1,ks1,op1,F1⟩:=hI;simp only at e F1;subst e;refine ⟨st,by simp only; rw [ab (by simp)],q1,ks1,op1,?_⟩;rw [aG (av _)] at F1;exact F1
theorem Fd.dec {G h h':List Int}(F:Fd C s f k g W H P G h q ks op){d d':bD}(hd:s.feed_Feeder[f]? = some ⟨some k,d,sgB (qB G),op⟩) (hv:Dv d' h'):Fd C (s.sf f ⟨some k,d',sgB (qB G),op⟩) f k g W H P G h' q ks op:=by
 have hf:=cR hd;refine ⟨F.v.sf _,F.fr.rgp (Rgp.self _) ⟨rfl,rfl,rfl⟩,F.fz.sf _ _ F.fz.oc,F.n,F.hd,F.l,F.gv,⟨d',vP hf,hv⟩,F.o1,fun e=>?_⟩;obtain ⟨j,e1,⟨q0,c,C0,s0,ks0,cs0,cl,a1,a2,a3,a4,a5,a6,a7,a8⟩⟩:=F.o2 e;exact ⟨j,e1,⟨q0,c,C0,s0,ks0,cs0,cl,a1,a2,a3,a4,a5,a6,a7.sf _,a8⟩⟩
theorem EI {G h:List Int}(F:Fd C s f k g W H P G h q ks op) (hb:Bts h){b:List Int}(hl:b.length<=9223372036854775807) (hbt:Bts b):∃s' q' ks' op',gJ s (some f) b=some s'/\Fd C s' f k g W H P (G++(fk h b).1) (fk h b).2 q' ks' op':=by
 unfold gJ;simp only [bJ,aj,aU,bsm];refine ex4 (jG (n:=b.length) (fun i (st:Int×Sto)=>st.1=(i:Int)/\∃q' ks' op',Fd C st.2 f k g W H P (G++(fk h (b.take i)).1) (fk h (b.take i)).2 q' ks' op') (fun u:Sto=>∃q' ks' op',Fd C u f k g W H P (G++(fk h b).1) (fk h b).2 q' ks' op') (p:=fun s':Sto=>∃q' ks' op',Fd C s' f k g W H P (G++(fk h b).1) (fk h b).2 q' ks' op') (fun i st hi hI=>?_) (fun st hI=>?_) ⟨rfl,q,ks,op,by simpa [fk] using F⟩ (by omega) (fun u hu=>⟨u,rfl,hu⟩))
 ·obtain ⟨i',st⟩:=st;obtain ⟨e,q1,ks1,op1,F1⟩:=hI;simp only at e F1;subst e;simp only;rw [ae (dlt hi),bd hi,cM hi (by omega)];obtain ⟨d,hd,hdv⟩:=F1.d;simp only [bsm,hd];have hx:=hbt _ (ay hi);obtain ⟨d',c1,c2⟩:=GJ hdv hx;rw [c1];simp only [bsm];rw [rX (cR hd)];simp only [bsm];have hbt':Bts (b.take i):=fun x hx=>hbt x (ku hx);obtain ⟨s2,q2,ks2,op2,b1,b2⟩:=Dr (F1.dec hd c2) (l:=(gx (fk h (b.take i)).2 b[i]).1) (by have:=D6 (fk h (b.take i)).2 b[i]; omega) (D5 (zm hb hbt') hx);rw [b1];refine .inl ⟨_,rfl,rfl,q2,ks2,op2,?_⟩;rw [ak hi,Cq];simp only;rw [<-aO];exact b2
 ·obtain ⟨i',st⟩:=st;obtain ⟨e,q1,ks1,op1,F1⟩:=hI;simp only at e F1;subst e;refine ⟨st,by simp only; rw [ab (by simp)],q1,ks1,op1,?_⟩;rw [aG (av _)] at F1;exact F1
theorem vZ {G h:List Int}(F:Fd C s f k g W H P G h q ks op):∃s',du s (some f)=some s'/\Fd C s' f k g W H q [] h q ks none:=by
 obtain ⟨d,hd,hdv⟩:=F.d;have hf:=cR hd;unfold du;simp only [bJ,eK,bA,bsm,hd];rw [rX hf];simp only [bsm,zi];rw [rX (by rw [zO]; exact hf),Ja];refine ⟨_,rfl,⟨F.v.sf _,F.fr.rgp (Rgp.self _) ⟨rfl,rfl,rfl⟩,F.fz.sf _ none (fun j e=>by cases e),F.n,F.hd,rfl,fun x hx=>by simp at hx,⟨d,vP hf,hdv⟩,fun _=>rfl,fun e=>by cases e⟩⟩
theorem EG {G h:List Int}(F:Fd C s f k g W H P G h q ks op):∃s' q' ks',gI s (some f)=some s'/\Fd C s' f k g W H q' [] [] q' ks' none/\fo vX P (cls pj pr (G++(if h= [] then [] else [65533])))=some q':=by
 obtain ⟨d,hd,hdv⟩:=F.d;have hf:=cR hd;unfold gI;simp only [bJ,aj,aU,bsm,hd];rw [EL hdv];simp only [bsm];rw [rX hf];simp only [bsm];obtain ⟨s2,q2,ks2,op2,b1,b2⟩:=Dr (F.dec hd Dv.zero) (l:=if h= [] then [] else [65533]) (by split <;> simp) (fun x hx=>by
  split at hx
  ·simp at hx
  ·rw [List.mem_singleton.1 hx]; rfl)
 rw [b1];simp only [bsm];obtain ⟨s3,c1,c2⟩:=vZ b2;rw [c1];exact ⟨s3,q2,ks2,rfl,c2,b2.l⟩
theorem Fz.self (s:Sto) (f:Nat) (op:Option Nat) (h:∀x,s.feed_Feeder[f]? = some x->x.open_=op) (hf:f<s.feed_Feeder.length):Fz s s f op:=
 ⟨av _,fun _ _ _=>rfl,av _,fun _ _ _=>rfl,fun j e=> .inl ⟨s.feed_Feeder[f],af hf,by rw [h _ (af hf)]; exact e⟩,rfl⟩
theorem Pv.addf (h:Pv s s k g W q ks) (x:bE):Pv (s.add_feed_Feeder x) (s.add_feed_Feeder x) k g W q ks:=
 ⟨h.p,⟨h.g.g,h.g.r,h.g.h1,h.g.h2,h.g.w1,h.g.w2⟩,h.nd,h.l,rfl,h.f.rgp ⟨rfl,rfl,rfl⟩ ⟨rfl,rfl,rfl⟩⟩
theorem GC (h:Pv s s k g W q ks) (hh:Hd q.At W ks.length):∃s',oX s (some k)=some (s',some s.feed_Feeder.length)/\Fd s' s' s.feed_Feeder.length k g W ks.length q [] [] q ks none/\s'=s.add_feed_Feeder ⟨some k,⟨0,0,0,0,0⟩,⟨false,0,0,0,false⟩,none⟩:=by
 unfold oX;simp only [bJ,dR,bsm,h.p,aj,aU];have hg:(s.add_feed_Feeder ⟨some k,⟨0,0,0,0,0⟩,⟨false,0,0,0,false⟩,none⟩).feed_Feeder[s.feed_Feeder.length]? = some ⟨some k,⟨0,0,0,0,0⟩,⟨false,0,0,0,false⟩,none⟩:=by simp [Sto.add_feed_Feeder]
 refine ⟨_,rfl,⟨h.addf _,(h.addf _).f,Fz.self _ _ _ (fun x hx=>?_) (cR hg),rfl,hh,rfl,fun x hx=>by simp at hx,⟨_,hg,Dv.zero⟩,fun _=>rfl,fun e=>by cases e⟩,rfl⟩;rw [hg] at hx;cases hx;rfl
end Go.Proofs.YtkgjnbiiiifoaaaGreatDoor
namespace Go.Proofs.YtkgjnbiiiifoaaaGreatDoor
open Go Go.Lt
variable {s:Sto}{k:Nat}{l p:List aa}{w:Bool}
theorem Lw {c m:Nat}(h:c<=m):cl (c:Int) m=c:=by unfold cl; omega
theorem Dl (n:Int) (m:Nat):fZ n 0 m=some ((cl n m:Nat):Int):=by
 simp only [fZ,iC,ey,cl,aK];omega
def rg (l:List aa) (w:Bool) (a b:Nat):bm:=if a<b then ⟨pl l a (List.replicate (b-a) bl),pw l w a (b-a)⟩ else ⟨l,w⟩
theorem FN {a b:Nat}(h:Snd l) (hb:b<=l.length):Snd (rg l w a b).cells:=by
 unfold rg;split
 ·exact h.paint (vO _) (by simp; omega)
 ·exact h
theorem JJ (a b:Nat):(rg l w a b).cells.length=l.length:=by
 unfold rg;split
 ·exact jq _ _ _
 ·rfl
theorem uU (h:s.row_Row[k]? = some ⟨l,w⟩) (hs:Snd l) (hl:l.length<=1024) (a b:Int):
  gR s (some k) a b=some (s.sr k (rg l w (cl a l.length) (cl b l.length))):=by
 unfold gR;simp only [jF h,bsm,Dl];have ha:=oD a l.length;have hb:=oD b l.length;generalize cl a l.length=a' at *;generalize cl b l.length=b' at *;unfold rg;by_cases hab:a' < b'
 ·have e:w64 ((b':Int)-(a':Int))=((b' - a':Nat):Int):=by rw [aQ (by omega)]; omega
  rw [ae (by simp; omega),ae hab,e,wv,show (max 0 (min (((b' - a':Nat)):Int) 1024)).toNat=b' - a' by omega];simp only [bsm];rw [pZ h hs hl (vO _) (by simp; omega) (by simp; omega)];simp
 ·rw [ab (by simp; omega),ab hab,AZ h]
theorem qa (l:List aa) (w:Bool) (hl:l.length<=1024) (a b:Int):dL l w a b=some ((rg l w (cl a l.length) (cl b l.length)).cells,(rg l w (cl a l.length) (cl b l.length)).wrap):=by
 unfold dL;have ha:=oD a l.length;have hb:=oD b l.length;have ea:bb 0 (aR a (l.length:Int))=((cl a l.length:Nat):Int):=by simp only [iC,ey,cl]; omega
 have eb:bb 0 (aR b (l.length:Int))=((cl b l.length:Nat):Int):=by simp only [iC,ey,cl]; omega
 rw [ea,eb];generalize cl a l.length=a' at *;generalize cl b l.length=b' at *;unfold rg;by_cases hab:a' < b'
 ·have e:w64 ((b':Int)-(a':Int))=((b' - a':Nat):Int):=by rw [aQ (by omega)]; omega
  rw [ab (by simp; omega),ae hab,e,qD _ (by omega)];simp only [bsm];have:=tn l w a' (List.replicate (b' - a') bl) (by omega) (by omega) (by simp; omega);rw [mq] at this;rw [show (List.replicate (((b' - a':Nat):Int).toNat) (⟨0,([]:List Int)⟩:aa))=List.replicate (b' - a') bl by rfl,this];rfl
 ·rw [ae (by simp; omega),ab hab]
theorem GS (h:s.row_Row[k]? = some ⟨l,w⟩) (hs:Snd l) (hl:l.length<=1024) (col n:Int):
  kC s (some k) col n=some (if 0<=col/\0<n then s.sr k (rg l w (cl col l.length) (cl (((cl col l.length:Nat):Int)+((cl n l.length:Nat):Int)) l.length)) else s):=by
 unfold kC;simp only [aX,bsm];by_cases hc:0<=col/\0<n
 ·rw [ae (by simp; omega),ae hc];simp only [jF h,bsm,Dl];have h1:=oD col l.length;have h2:=oD n l.length;rw [aQ (by omega),uU h hs hl];simp only [bsm,Lw h1]
 ·rw [ab (by simp; omega),ab hc]
def ac (l:List aa) (w:Bool) (x A B:Int):bm:=
 if x=0 then rg l w (cl A l.length) (cl B l.length)
 else if x=1 then rg l w 0 (cl (max (-1) (min A l.length)+1) l.length)
 else if x=2 then rg l w (cl A l.length) l.length
 else if x=3 then ⟨(rg l w 0 l.length).cells,false⟩
 else if 0<=A/\0<B then rg l w (cl A l.length) (cl (((cl A l.length:Nat):Int)+((cl B l.length:Nat):Int)) l.length) else ⟨l,w⟩
theorem Jc {a b:Nat}(h:b<=a):rg l w a b=⟨l,w⟩:=by
 unfold rg;rw [ab (by omega)]
theorem GQ (m:Nat):cl 0 m=0:=by unfold cl; omega
theorem xm (m:Nat):cl (m:Int) m=m:=by unfold cl; omega
theorem CJ (h:s.row_Row[k]? = some ⟨l,w⟩) (hs:Snd l) (hl:l.length<=1024) (a b:Int):mW s (some k) a=some (s.sr k (ac l w 1 a b)):=by
 unfold mW fZ;simp only [jF h,bsm,iC,ey];rw [aQ (by omega),uU h hs hl,GQ];rfl
theorem BF (h:s.row_Row[k]? = some ⟨l,w⟩) (hs:Snd l) (hl:l.length<=1024) (a b:Int):lS s (some k) a=some (s.sr k (ac l w 2 a b)):=by
 unfold lS;simp only [jF h,bsm];rw [uU h hs hl,xm];rfl
theorem zA (h:s.row_Row[k]? = some ⟨l,w⟩) (hs:Snd l) (hl:l.length<=1024) (a b:Int):lc s (some k)=some (s.sr k (ac l w 3 a b)):=by
 have hk:=cR h;unfold lc;simp only [jF h,bsm];rw [uU h hs hl,xm,GQ];simp only [bsm];rw [xz (l:=(rg l w 0 l.length).cells) (w:=(rg l w 0 l.length).wrap) (uh hk),C8];rfl
theorem BG (h:s.row_Row[k]? = some ⟨l,w⟩) (hs:Snd l) (hl:l.length<=1024) (a b:Int):kC s (some k) a b=some (s.sr k (ac l w 4 a b)):=by
 rw [GS h hs hl,show ac l w 4 a b=if 0<=a/\0<b then rg l w (cl a l.length) (cl (((cl a l.length:Nat):Int)+((cl b l.length:Nat):Int)) l.length) else ⟨l,w⟩ by rfl];split
 ·rfl
 ·rw [AZ h]
theorem HP (l:List aa) (w:Bool) (hl:l.length<=1024) (x A B:Int):lK l w x A B=some ((ac l w x A B).cells,(ac l w x A B).wrap):=by
 unfold lK ac;by_cases h0:x=0
 ·rw [ae (by simpa using h0),ae h0,qa l w hl];rfl
 rw [ab (by simpa using h0),ab h0];by_cases h1:x=1
 ·rw [ae (by simpa using h1),ae h1];by_cases hA:A<0
  ·rw [ae (by simpa using hA),show max (-1) (min A (l.length:Int))+1=0 by omega,GQ,Jc (av _)]
  ·rw [ab (by simpa using hA),ey,aQ (by omega),qa l w hl,GQ,show max (-1) (min A (l.length:Int))=min A (l.length:Int) by omega];rfl
 rw [ab (by simpa using h1),ab h1];by_cases h2:x=2
 ·rw [ae (by simpa using h2),ae h2,qa l w hl,xm];rfl
 rw [ab (by simpa using h2),ab h2];by_cases h3:x=3
 ·rw [ae (by simpa using h3),ae h3,qa l w hl,xm,GQ];rfl
 rw [ab (by simpa using h3),ab h3];simp only [bu,bsm];by_cases hA:0<=A/\0<B
 ·rw [ae hA];by_cases hg:(l.length:Int)<=A
  ·rw [ae (by simp; omega),show cl A l.length=l.length by unfold cl; omega,Jc (oD _ _)]
  ·rw [ab (by simp; omega),ey,aQ (by omega),qa l w hl];rw [show cl (A+min B (l.length:Int)) l.length=cl (((cl A l.length:Nat):Int)+((cl B l.length:Nat):Int)) l.length by unfold cl; omega];rfl
 ·rw [ab hA,ae (by simp; omega)]
theorem KA (hs:Snd l) (x A B:Int):Snd (ac l w x A B).cells:=by
 unfold ac
 repeat' split
 all_goals first|exact hs|exact FN hs (oD _ _)|exact FN hs (av _)
theorem KB (x A B:Int):(ac l w x A B).cells.length=l.length:=by
 unfold ac
 repeat' split
 all_goals first|rfl|exact JJ _ _
theorem jr {α:Type}{l:List α}{n:Nat}{f:Nat->α}(hl:l.length=n) (h:∀i,i<n->l[i]? = some (f i)):l=(List.range n).map f:=by
 apply bi;intro i;rcases aE i n with hi|hi
 ·rw [h i hi]; simp [hi]
 ·rw [az (by omega),az (by simp; exact hi)]
def trc (l:List aa) (c j:Nat):aa:=if kd l c=3/\(j=c\/j+1=c) then bl else l.getD j bl
def tr (l:List aa) (c:Nat):List aa:=(List.range l.length).map (trc l c)
theorem rU (l:List aa) (c:Nat):(tr l c).length=l.length:=by simp [tr]
theorem Fj {c j:Nat}(h:j<l.length):(tr l c)[j]? = some (trc l c j):=by simp [tr,h]
theorem Fi (l:List aa) (c j:Nat):(trc l c j).Kind=if kd l c=3/\(j=c\/j+1=c) then 0 else kd l j:=by
 unfold trc;split
 ·rfl
 ·exact mM l j
theorem Dj (c j:Nat):kd (tr l c) j=if kd l c=3/\(j=c\/j+1=c) then 0 else kd l j:=by
 rcases aE j l.length with h|h
 ·rw [<-Fi]; simp [kd,Fj h]
 ·rw [lJ (by rw [rU]; exact h),lJ (l:=l) h]; simp
theorem I9 {c:Nat}(h:kd l c≠3):tr l c=l:=by
 symm
 refine jr rfl fun i hi=>?_;unfold trc;rw [ab (by intro e; exact h e.1),aq,af hi];rfl
theorem zI (hs:Snd l) (c:Nat):Snd (tr l c):=fun j hj=>by
 have hj':j<l.length:=by rw [rU] at hj; exact hj
 have he:(tr l c)[j]=trc l c j:=by
  have:=Fj (c:=c) hj';rw [af hj] at this;exact aL this
 have h2:=fun (h:kd l j=2)=>hs.two h;have h3:=fun (h:kd l j=3)=>hs.three h;have hc:=fun (h:kd l c=3)=>hs.three h;rw [he,Fi,Dj,Dj];refine ⟨?_,?_,?_⟩
 ·unfold trc;split
  ·rfl
  ·exact hs.rg hj'
 ·intro e;split at e
  ·cases e
  ·rename_i hn
   have:=h2 e;rw [ab]
   ·exact this
   ·rintro ⟨q1,q2⟩;have:=hc q1;rcases q2 with rfl|q2
    ·exact hn ⟨q1,.inr rfl⟩
    ·obtain rfl:c=j+2:=by omega
     rw [show j+2-1=j+1 by omega] at this;omega
 ·intro e;split at e
  ·cases e
  ·rename_i hn
   have:=h3 e;refine ⟨this.1,?_⟩;rw [ab]
   ·exact this.2
   ·rintro ⟨q1,q2⟩;have:=hc q1;rcases q2 with q2|q2
    ·rw [<-q2] at q1;omega
    ·exact hn ⟨q1,.inl (by omega)⟩
theorem xP (l:List aa) (c:Nat):kd (tr l c) c≠3:=by
 rw [Dj];split
 ·decide
 ·rename_i h
  intro e;exact h ⟨e,.inl rfl⟩
theorem zK (hs:Snd l) (hl:l.length<=1024) (c:Nat):jV l c=some (tr l c):=by
 unfold jV;rcases aE c l.length with h|h
 ·have hd:decide ((c:Int)<(l.length:Int))=true:=by simp; exact h
  simp only [hd,jf,bd h,bsm];by_cases h3:kd l c=3
  ·have hb:(l[c].Kind==3)=true:=by rw [<-jy h,h3]; rfl
   obtain ⟨h0,_⟩:=hs.three h3;have e1:w64 ((c:Int)-1)=((c-1:Nat):Int):=by rw [aQ (by omega)]; omega
   rw [hb,ae rfl,e1,bd (by omega:c-1<l.length)];simp only [bsm];rw [kR (by omega)];simp only [bsm];rw [bd (by rw [cq]; exact h)];simp only [bsm];rw [kR (by rw [cq]; exact h)];simp only [bsm]
   congr 1
   refine jr (by simp) fun i hi=>?_;unfold trc;by_cases q1:c=i
   ·subst q1;rw [bp (by rw [cq]; exact h),ae ⟨h3,.inl rfl⟩];rfl
   ·rw [aW q1];by_cases q2:c-1=i
    ·subst q2;rw [bp (by omega),ae ⟨h3,.inr (by omega)⟩];rfl
    ·rw [aW q2,ab (by rintro ⟨_,q⟩; omega),aq,af hi];rfl
  ·have hb:(l[c].Kind==3)=false:=by rw [<-jy h]; simp [h3]
   rw [hb,ab (by decide),I9 h3]
 ·have hd:decide ((c:Int)<(l.length:Int))=false:=by simp; exact h
  simp only [hd,kh,bsm];rw [ab (by decide),I9 (by rw [lJ h]; decide)]
theorem zJ (hl:l.length<=1024) (c:Nat):gp l c=some (tr l c):=by
 unfold gp;refine AG (xQ (n:=l.length) (trc l c) (t:=tr l c) (fun i hi=>?_) ?_ (by omega)) rfl
 ·simp only [dlt hi,bA,bd hi,bsm,cM hi (by omega),bu];have hz:bw (decide ((c:Int)<(l.length:Int))) ((idx l c).bind fun x_29=>some (x_29.Kind==3))=some (kd l c==3):=by
   rcases aE c l.length with h|h
   ·have hd:decide ((c:Int)<(l.length:Int))=true:=by simp; exact h
    simp only [hd,jf,bd h,bsm,<-jy h]
   ·have hd:decide ((c:Int)<(l.length:Int))=false:=by simp; exact h
    simp only [hd,kh];rw [lJ h];rfl
  simp only [hz,bsm,aX];rw [show (kd l c==3 && ((i:Int)==(c:Int) || ((i+1:Nat):Int)==(c:Int)))=decide (kd l c=3/\(i=c\/i+1=c)) by
   rw [ci];simp only [ao,aB,aS,am];omega]
  have hx:(if decide (kd l c=3/\(i=c\/i+1=c))=true then (some (0,([]:List Int)):Option (Int×(List Int))) else (some (l[i].Kind,l[i].Text):Option (Int×(List Int))))=some ((trc l c i).Kind,(trc l c i).Text):=by
   unfold trc;split
   ·rename_i h
    rw [ae (tQ h)];rfl
   ·rename_i h
    rw [ab (by simpa using h),aq,af hi];rfl
  rw [hx];simp only [bsm];rw [fg (by simp; omega)];rfl
 ·simp only [dnl];rfl
def inx (l:List aa) (c n j:Nat):aa:=if j<c then (tr l c).getD j bl else if j<c+n then bl else (tr l c).getD (j-n) bl
def wS (l:List aa) (c n j:Nat):aa:=if j+1=l.length/\(inx l c n j).Kind=2 then bl else inx l c n j
def xW (l:List aa) (c n:Nat):List aa:=(List.range l.length).map (wS l c n)
theorem qc (l:List aa) (c n:Nat):(xW l c n).length=l.length:=by simp [xW]
theorem Bv {c n j:Nat}(h:j<l.length):(xW l c n)[j]? = some (wS l c n j):=by simp [xW,h]
theorem xV (l:List aa) (c n j:Nat):(inx l c n j).Kind=if j<c then kd (tr l c) j else if j<c+n then 0 else kd (tr l c) (j-n):=by
 unfold inx;split
 ·exact mM _ _
 ·split
  ·rfl
  ·exact mM _ _
theorem ve (l:List aa) (c n j:Nat) (h:j<l.length):kd (xW l c n) j=if j+1=l.length/\(inx l c n j).Kind=2 then 0 else (inx l c n j).Kind:=by
 rw [show kd (xW l c n) j=(wS l c n j).Kind by simp [kd,Bv h]];unfold wS;split <;> rfl
theorem uP (hs:Snd l) (j:Nat):rgt (l.getD j bl)=true:=by
 rcases aE j l.length with h|h
 ·exact hs.rg h
 ·rw [aq,az h];rfl
theorem Is {A:Prop}[Decidable A] {X:Int}(h:(if A/\X=2 then (0:Int) else X)=2):X=2/\¬A:=by
 by_cases q:A/\X=2
 ·rw [ae q] at h; omega
 ·rw [ab q] at h; exact ⟨h,fun a=>q ⟨a,h⟩⟩
theorem EB {A:Prop}[Decidable A] {X:Int}(h:(if A/\X=2 then (0:Int) else X)=3):X=3:=by
 by_cases q:A/\X=2
 ·rw [ae q] at h; omega
 ·rwa [ab q] at h
theorem Gq {A:Prop}[Decidable A] {X:Int}(h:X≠2):(if A/\X=2 then (0:Int) else X)=X:=ab fun q=>h q.2
theorem Bu (hs:Snd l) (c n:Nat):Snd (xW l c n):=fun j hj=>by
 have hj':j<l.length:=by rw [qc] at hj; exact hj
 have he:(xW l c n)[j]=wS l c n j:=by
  have:=Bv (c:=c) (n:=n) hj';rw [af hj] at this;exact aL this
 have ht:=zI hs c;have hlen:=rU l c;have hat:=xP l c;rw [<-jy hj,he];refine ⟨?_,?_,?_⟩
 ·unfold wS;split
  ·rfl
  ·unfold inx;split
   ·exact uP ht j
   ·split
    ·rfl
    ·exact uP ht (j-n)
 ·intro e;rw [ve l c n j hj',xV] at e;obtain ⟨e,hl⟩:=Is e
  ·rw [ve l c n (j+1) (by omega),xV];have key:(if j+1<c then kd (tr l c) (j+1) else if j+1<c+n then 0 else kd (tr l c) (j+1-n))=3:=by
    split at e
    ·have h3:=ht.two e;rw [ae]
     ·exact h3
     ·rcases aE (j+1) c with q|q
      ·exact q
      ·obtain rfl:c=j+1:=by omega
       exact absurd h3 hat
    ·split at e
     ·cases e
     ·have h3:=ht.two e;rw [ab (by omega),ab (by omega),show j+1-n=j-n+1 by omega];exact h3
   rw [key];exact Gq (by decide)
 ·intro e;rw [ve l c n j hj',xV] at e;have e':=EB e;split at e'
  ·obtain ⟨h0,h2⟩:=ht.three e';refine ⟨h0,?_⟩;rw [ve l c n (j-1) (by omega),xV,ab (by rintro ⟨q,_⟩; omega),ae (by omega)];exact h2
  ·split at e'
   ·cases e'
   ·obtain ⟨h0,h2⟩:=ht.three e';have hne:j-n≠c:=by
     intro q;rw [q] at e';exact hat e'
    refine ⟨by omega,?_⟩;rw [ve l c n (j-1) (by omega),xV,ab (by rintro ⟨q,_⟩; omega),ab (by omega),ab (by omega),show j-1-n=j-n-1 by omega];exact h2
theorem J9 (hl:l.length<=1024){c n:Nat}(hc:c<l.length) (h1:1<=n) (hn:c+n<=l.length):jK (tr l c) n c=some (xW l c n):=by
 unfold jK;have htl:=rU l c;rw [wv,show (max 0 (min (n:Int) 1024)).toNat=n by omega];simp only [bsm];have hi:km (tr l c) c (List.replicate n bl)=some ((tr l c).take c++List.replicate n bl++(tr l c).drop c):=by
  unfold km;rw [ae (by rw [htl,mq]; unfold far; omega),bS]
 rw [hi];simp only [bsm];have hO:slc ((tr l c).take c++List.replicate n bl++(tr l c).drop c) 0 ((tr l c).length:Int)=some ((List.range l.length).map (inx l c n)):=by
  have:=ui (xs:=(tr l c).take c++List.replicate n bl++(tr l c).drop c) (i:=0) (j:=(tr l c).length) (by omega) (by simp [htl]; omega);rw [show ((0:Nat):Int)=0 by rfl] at this;rw [this]
  congr 1
  refine jr (by simp [htl]; omega) fun i hi=>?_;rw [ph,aT,ae (by omega),aO];unfold inx;have htk:((tr l c).take c).length=c:=by simp [htl]; omega
  split
  ·rename_i q
   rw [aC (by omega),aT,ae q,aq,af (by omega:i<(tr l c).length)];rfl
  ·rename_i q
   rw [be (by omega),htk];split
   ·rw [aC (by simp; omega),jc,ae (by omega)]
   ·rw [be (by simp; omega),mq,bO,show c+(i-c-n)=i-n by omega,aq,af (by omega:i-n<(tr l c).length)];rfl
 rw [hO];simp only [bsm];have e1:w64 (((tr l c).length:Int)-1)=((l.length-1:Nat):Int):=by rw [aQ (by omega),htl]; omega
 rw [e1,bd (by simp; omega)];simp only [bsm,eo,AN];by_cases hk:(inx l c n (l.length-1)).Kind=2
 ·rw [ae (by rw [hk]; rfl),kR (by simp; omega)];simp only [bsm]
  congr 1
  refine jr (by simp) fun i hi=>?_;unfold wS;by_cases q:l.length-1=i
  ·subst q;rw [bp (by simp; omega),ae ⟨by omega,hk⟩];rfl
  ·rw [aW q,ab (by rintro ⟨q,_⟩; omega)];simp [hi]
 ·rw [ab (by simp; exact hk)];simp only [bsm]
  congr 1
  refine jr (by simp) fun i hi=>?_;unfold wS;by_cases q:l.length-1=i
  ·subst q;rw [ab (by rintro ⟨_,q⟩; exact hk q)];simp [hi]
  ·rw [ab (by rintro ⟨q,_⟩; omega)];simp [hi]
def tt (l:List aa) (c n:Nat):List aa:=tr (tr l c) (c+n)
theorem Ck (l:List aa) (c n:Nat):(tt l c n).length=l.length:=by simp [tt,rU]
def dlx (l:List aa) (c n j:Nat):aa:=if j<c then (tt l c n).getD j bl else if j+n<l.length then (tt l c n).getD (j+n) bl else bl
def yb (l:List aa) (c n:Nat):List aa:=(List.range l.length).map (dlx l c n)
theorem qn (l:List aa) (c n:Nat):(yb l c n).length=l.length:=by simp [yb]
theorem BL {c n j:Nat}(h:j<l.length):(yb l c n)[j]? = some (dlx l c n j):=by simp [yb,h]
theorem tu (l:List aa) (c n j:Nat) (h:j<l.length):kd (yb l c n) j=if j<c then kd (tt l c n) j else if j+n<l.length then kd (tt l c n) (j+n) else 0:=by
 rw [show kd (yb l c n) j=(dlx l c n j).Kind by simp [kd,BL h]];unfold dlx;split
 ·exact mM _ _
 ·split
  ·exact mM _ _
  ·rfl
theorem BK (hs:Snd l) (c n:Nat):Snd (yb l c n):=fun j hj=>by
 have hj':j<l.length:=by rw [qn] at hj; exact hj
 have he:(yb l c n)[j]=dlx l c n j:=by
  have:=BL (c:=c) (n:=n) hj';rw [af hj] at this;exact aL this
 have ht:Snd (tt l c n):=zI (zI hs c) (c+n);have hlen:=Ck l c n;have hat1:kd (tt l c n) c≠3:=by
  unfold tt;rw [Dj];split
  ·decide
  ·exact xP l c
 have hat2:kd (tt l c n) (c+n)≠3:=xP _ _;rw [<-jy hj,he];refine ⟨?_,?_,?_⟩
 ·unfold dlx;split
  ·exact uP ht j
  ·split
   ·exact uP ht _
   ·rfl
 ·intro e;rw [tu l c n j hj'] at e;split at e
  ·have h3:=ht.two e;have hlt:=vd (l:=tt l c n) (j:=j+1) (by omega);rw [tu l c n (j+1) (by omega),ae]
   ·exact h3
   ·rcases aE (j+1) c with q|q
    ·exact q
    ·obtain rfl:c=j+1:=by omega
     exact absurd h3 hat1
  ·split at e
   ·have h3:=ht.two e;have hlt:=vd (l:=tt l c n) (j:=j+n+1) (by omega);rw [tu l c n (j+1) (by omega),ab (by omega),ae (by omega),show j+1+n=j+n+1 by omega];exact h3
   ·omega
 ·intro e;rw [tu l c n j hj'] at e;split at e
  ·obtain ⟨h0,h2⟩:=ht.three e;refine ⟨h0,?_⟩;rw [tu l c n (j-1) (by omega),ae (by omega)];exact h2
  ·split at e
   ·obtain ⟨h0,h2⟩:=ht.three e;have hne:j≠c:=by
     intro q;rw [q] at e;exact hat2 e
    refine ⟨by omega,?_⟩;rw [tu l c n (j-1) (by omega),ab (by omega),ae (by omega),show j-1+n=j+n-1 by omega];exact h2
   ·omega
theorem Kn (hs:Snd l) (hl:l.length<=1024){c n:Nat}(hc:c<l.length) (h1:1<=n) (hn:c+n<=l.length):jL (tr l c) n c=some (yb l c n):=by
 unfold jL;have htl:=Ck l c n;have e1:w64 ((c:Int)+(n:Int))=((c+n:Nat):Int):=by rw [aQ (by omega)]; simp
 rw [e1,zK (zI hs c) (by rw [rU]; exact hl)];simp only [bsm];rw [show tr (tr l c) (c+n)=tt l c n by rfl];have hd:kn (tt l c n) c ((c+n:Nat):Int)=some ((tt l c n).take c++(tt l c n).drop (c+n)):=by
  unfold kn;rw [ae (by rw [htl]; omega),bS,bS]
 rw [hd,wv,show (max 0 (min (n:Int) 1024)).toNat=n by omega];simp only [bsm];rw [fg (by simp [htl]; omega)];simp only [bsm]
 congr 1
 refine jr (by simp [htl]; omega) fun i hi=>?_;unfold dlx;have htk:((tt l c n).take c).length=c:=by simp [htl]; omega
 rw [aO];split
 ·rename_i q
  rw [aC (by omega),aT,ae q,aq,af (by omega:i<(tt l c n).length)];rfl
 ·rename_i q
  rw [be (by omega),htk];split
  ·rw [aC (by simp [htl]; omega),bO,show c+n+(i-c)=i+n by omega,aq,af (by omega:i+n<(tt l c n).length)];rfl
  ·rw [be (by simp [htl]; omega),jc,ae (by simp [htl]; omega)]
theorem Bf (h:p.length=l.length):pl l 0 p=p:=by
 symm
 refine jr h fun i hi=>?_;unfold pc;rw [ae ⟨dk _,by omega⟩,Cf,aq,af (by omega)];rfl
theorem Be (h1:1<=l.length):pw l w 0 l.length=false:=by
 unfold pw tch;rw [show decide (0<l.length)=true by simp; omega,show decide (0<=l.length-1)=true by simp,show decide (l.length-1<0+l.length)=true by simp; omega];simp
def mvs (col n:Int) (m:Nat):Bool:=decide (0<=col) && decide (col<(m:Int)) && decide (1<=n)
def ish (l:List aa) (w:Bool) (col n:Int):bm:=if mvs col n l.length=true then ⟨xW l col.toNat (min n ((l.length:Int)-col)).toNat,false⟩ else ⟨l,w⟩
def dsh (l:List aa) (w:Bool) (col n:Int):bm:=if mvs col n l.length=true then ⟨yb l col.toNat (min n ((l.length:Int)-col)).toNat,false⟩ else ⟨l,w⟩
theorem It (hs:Snd l) (col n:Int):Snd (ish l w col n).cells:=by
 unfold ish;split
 ·exact Bu hs _ _
 ·exact hs
theorem IG (hs:Snd l) (col n:Int):Snd (dsh l w col n).cells:=by
 unfold dsh;split
 ·exact BK hs _ _
 ·exact hs
theorem Iu (col n:Int):(ish l w col n).cells.length=l.length:=by
 unfold ish;split
 ·exact qc _ _ _
 ·rfl
theorem IH (col n:Int):(dsh l w col n).cells.length=l.length:=by
 unfold dsh;split
 ·exact qn _ _ _
 ·rfl
theorem xh {col n:Int}{m:Nat}:(decide (col<0) || decide (col>=(m:Int)) || decide (n<1))= !mvs col n m:=by
 rw [ci];simp only [mvs,aB,cy,mu,am,eB];omega
theorem Ab {col n:Int}{m:Nat}(h:mvs col n m=true):∃c e:Nat,col=(c:Int)/\min n ((m:Int)-col)=(e:Int)/\c<m/\1<=e/\c+e<=m:=by
 simp only [mvs,ao,am] at h;exact ⟨col.toNat,(min n ((m:Int)-col)).toNat,by omega,by omega,by omega,by omega,by omega⟩
theorem DP (h:s.row_Row[k]? = some ⟨l,w⟩) (hs:Snd l) (hl:l.length<=1024) (col n:Int):kU s (some k) col n=some (s.sr k (ish l w col n)):=by
 unfold kU ez;simp only [jF h,bsm,bu,xh];unfold ish;by_cases hm:mvs col n l.length=true
 ·obtain ⟨c,e,rfl,he,h1,h2,h3⟩:=Ab hm;rw [ab (by rw [hm]; decide),ae hm,tl h (by omega) hs.sht];simp only [bsm,zK hs hl];have e1:aR n (w64 ((l.length:Int)-(c:Int)))=(e:Int):=by rw [aQ (by omega),ey]; exact he
  rw [e1,J9 hl h1 h2 h3,he];simp only [bsm,bS];have:=pZ h hs hl (Bu hs c e) (a:=0) (by rw [qc]; omega) (by rw [qc]; omega);rw [show ((0:Nat):Int)=0 by rfl] at this;rw [this,Bf (qc l c e),qc,Be (by omega)];rfl
 ·rw [ae (by simpa using hm),ab hm,AZ h];rfl
theorem DQ (h:s.row_Row[k]? = some ⟨l,w⟩) (hs:Snd l) (hl:l.length<=1024) (col n:Int):kV s (some k) col n=some (s.sr k (dsh l w col n)):=by
 unfold kV eA;simp only [jF h,bsm,bu,xh];unfold dsh;by_cases hm:mvs col n l.length=true
 ·obtain ⟨c,e,rfl,he,h1,h2,h3⟩:=Ab hm;rw [ab (by rw [hm]; decide),ae hm,tl h (by omega) hs.sht];simp only [bsm,zK hs hl];have e1:aR n (w64 ((l.length:Int)-(c:Int)))=(e:Int):=by rw [aQ (by omega),ey]; exact he
  rw [e1,Kn hs hl h1 h2 h3,he];simp only [bsm,bS];have:=pZ h hs hl (BK hs c e) (a:=0) (by rw [qn]; omega) (by rw [qn]; omega);rw [show ((0:Nat):Int)=0 by rfl] at this;rw [this,Bf (qn l c e),qn,Be (by omega)];rfl
 ·rw [ae (by simpa using hm),ab hm,AZ h];rfl
theorem HN (hl:l.length<=1024) (col n:Int) (w:Bool):jY l col n=some ((ish l w col n).cells,mvs col n l.length):=by
 unfold jY;simp only [bsm,bu,xh];unfold ish;by_cases hm:mvs col n l.length=true
 ·rw [hm];obtain ⟨c,e,rfl,he,h1,h2,h3⟩:=Ab hm;have e1:aR n (w64 ((l.length:Int)-(c:Int)))=(e:Int):=by rw [aQ (by omega),ey]; exact he
  rw [ab (by decide),ae rfl,zJ hl,e1,he];simp only [bsm,bS];refine AG (xQ (n:=l.length) (wS l c e) (t:=xW l c e) (fun i hi=>?_) ?_ (by omega)) rfl
  ·have e2:w64 ((c:Int)+(e:Int))=((c+e:Nat):Int):=by rw [aQ (by omega)]; simp
   simp only [dlt hi,bA,cM hi (by omega),e2,aX,bsm];have htl:=rU l c;have hx:((if decide ((i:Int)<(c:Int))=true then (idx (tr l c) (i:Int)).bind fun x=>(some (x.Kind,x.Text):Option (Int×(List Int))) else (some (0,([]:List Int)):Option (Int×(List Int)))).bind fun z=>
     if decide ((i:Int)>=((c+e:Nat):Int))=true then (idx (tr l c) (w64 ((i:Int)-(e:Int)))).bind fun x=>(some (x.Kind,x.Text):Option (Int×(List Int))) else (some (z.1,z.2):Option (Int×(List Int))))=some ((inx l c e i).Kind,(inx l c e i).Text):=by
    unfold inx;by_cases q1:i<c
    ·rw [ae (by simp; omega),bd (by omega:i<(tr l c).length)];simp only [bsm];rw [ab (by simp; omega),ae q1,aq,af (by omega:i<(tr l c).length)];rfl
    ·rw [ab (by simp; omega),ab q1];simp only [bsm];by_cases q2:i<c+e
     ·rw [ab (by simp; omega),ae q2];rfl
     ·have e3:w64 ((i:Int)-(e:Int))=((i-e:Nat):Int):=by rw [aQ (by omega)]; omega
      rw [ae (by simp; omega),ab q2,e3,bd (by omega:i-e<(tr l c).length),aq,af (by omega:i-e<(tr l c).length)];rfl
   refine (Mq _ _ _).symm.trans ?_;rw [hx];simp only [bsm];have hy:(if (((i+1:Nat):Int)==(l.length:Int) && (inx l c e i).Kind==2)=true then (some (0,([]:List Int)):Option (Int×(List Int))) else (some ((inx l c e i).Kind,(inx l c e i).Text):Option (Int×(List Int))))=some ((wS l c e i).Kind,(wS l c e i).Text):=by
    unfold wS;by_cases q:i+1=l.length/\(inx l c e i).Kind=2
    ·rw [ae (by simp only [ao,aS]; omega),ae q];rfl
    ·rw [ab (by simp only [ao,aS]; omega),ab q]
   rw [hy];simp only [bsm];rw [fg (by simp; omega)];rfl
  ·simp only [dnl];rfl
 ·rw [ae (by simpa using hm),ab hm];simp only [vL] at hm;rw [hm]
theorem HO (hl:l.length<=1024) (col n:Int) (w:Bool):jZ l col n=some ((dsh l w col n).cells,mvs col n l.length):=by
 unfold jZ;simp only [bsm,bu,xh];unfold dsh;by_cases hm:mvs col n l.length=true
 ·rw [hm];obtain ⟨c,e,rfl,he,h1,h2,h3⟩:=Ab hm;have e1:aR n (w64 ((l.length:Int)-(c:Int)))=(e:Int):=by rw [aQ (by omega),ey]; exact he
  have e2:w64 ((c:Int)+(e:Int))=((c+e:Nat):Int):=by rw [aQ (by omega)]; simp
  rw [ab (by decide),ae rfl,zJ hl,e1,he];simp only [bsm,bS,e2];rw [zJ (by rw [rU]; exact hl)];simp only [bsm];rw [show tr (tr l c) (c+e)=tt l c e by rfl];refine AG (xQ (n:=l.length) (dlx l c e) (t:=yb l c e) (fun i hi=>?_) ?_ (by omega)) rfl
  ·have htl:=Ck l c e;have e3:w64 ((i:Int)+(e:Int))=((i+e:Nat):Int):=by rw [aQ (by omega)]; simp
   simp only [dlt hi,bA,cM hi (by omega),e3];have hx:(if decide ((i:Int)<(c:Int))=true then (idx (tt l c e) (i:Int)).bind fun x=>(some (x.Kind,x.Text):Option (Int×(List Int))) else if decide (((i+e:Nat):Int)<(l.length:Int))=true then (idx (tt l c e) ((i+e:Nat):Int)).bind fun x=>(some (x.Kind,x.Text):Option (Int×(List Int))) else (some (0,([]:List Int)):Option (Int×(List Int))))=some ((dlx l c e i).Kind,(dlx l c e i).Text):=by
    unfold dlx;by_cases q1:i<c
    ·rw [ae (by simp; omega),bd (by omega:i<(tt l c e).length),ae q1,aq,af (by omega:i<(tt l c e).length)];rfl
    ·rw [ab (by simp; omega),ab q1];by_cases q2:i+e<l.length
     ·rw [ae (by simp only [am]; omega),ae q2,bd (by omega:i+e<(tt l c e).length),aq,af (by omega:i+e<(tt l c e).length)];rfl
     ·rw [ab (by simp only [am]; omega),ab q2];rfl
   rw [hx];simp only [bsm];rw [fg (by simp; omega)];rfl
  ·simp only [dnl];rfl
 ·rw [ae (by simpa using hm),ab hm];simp only [vL] at hm;rw [hm]
end Go.Proofs.YtkgjnbiiiifoaaaGreatDoor
namespace Go.Proofs.YtkgjnbiiiifoaaaGreatDoor
open Go Go.Lt
variable {s C:Sto}{g k W:Nat}{ks:List Nat}{q:ag}
def w38 (o:aJ):Int:=if o.Kind<2\/12<o.Kind then 5 else if (o.Kind=3\/o.Kind=4)/\(o.A<0\/2<o.A) then 3 else 0
def e38 (o:aJ):Er:=if w38 o=5 then .sent 3 else if w38 o=3 then .sent 7 else .nil
theorem Js (o:aJ):w38 o=5\/w38 o=3\/w38 o=0:=by
 unfold w38
 repeat' split
 all_goals simp
def EK (n:Int):Bool:=decide (2<=n) && decide (n<=12)
theorem EJ (n:Int):om n=some (EK n):=by
 unfold om EK;simp only [aX,bsm,CG]
theorem Lv (o:aJ):EK o.Kind=(w38 o != 5):=by
 rw [ci];unfold EK w38;simp only [ao,am,kL,zt]
 repeat' split
 all_goals omega
theorem ya (o:aJ):lD o=some (e38 o):=by
 unfold lD;rw [EJ];have hd:EK o.Kind= !decide (o.Kind<2\/12<o.Kind):=by
  rw [ci];simp only [EK,ao,am,cy,eB];omega
 simp only [bsm,hd,aX,bu,Bool.not_not];unfold e38;by_cases h:o.Kind<2\/12<o.Kind
 ·have e:w38 o=5:=by unfold w38; rw [ae h]
  rw [ae (by simpa using h),ae e]
 ·rw [ab (by simpa using h)]
  by_cases h2:(o.Kind=3\/o.Kind=4)/\(o.A<0\/2<o.A)
  ·have e:w38 o=3:=by unfold w38; rw [ab h,ae h2]
   rw [ae (by simp only [ao,aB,am,kL,zt]; omega),e];rfl
  ·have e:w38 o=0:=by unfold w38; rw [ab h,ab h2]
   rw [ab (by simp only [ao,aB,am,kL,zt]; omega),e];rfl
theorem Ds (o:aJ):(e38 o).isNil=(w38 o==0):=by
 unfold e38;rcases Js o with h|h|h <;> rw [h] <;> rfl
def lt (r:bm):ah:=⟨r.cells,r.wrap⟩
theorem Hj (h:Pv C s k g W q ks){i:Nat}(hi:i<ks.length) (x a b:Int):dK q i x a b=some ⟨q.L.set i (lt (ac (q.L.getD i dl).Cells (q.L.getD i dl).Wrap x a b)),q.At,q.Auto⟩:=by
 have hl:=h.len;have hlt:i<q.L.length:=by omega
 have hok:=h.ok _ (ay hlt);have w2:=h.g.w2;unfold dK;rw [bd hlt];simp only [bsm];rw [HP _ _ (by rw [hok.2]; exact w2)];simp only [bsm];rw [uQ h hi,gdl hlt];rfl
theorem Pv.ac (h:Pv C s k g W q ks){i:Nat}(hi:i<ks.length) (x a b:Int):Pv C (s.sr ks[i] (ac (q.L.getD i dl).Cells (q.L.getD i dl).Wrap x a b)) k g W ⟨q.L.set i (lt (Go.Proofs.YtkgjnbiiiifoaaaGreatDoor.ac (q.L.getD i dl).Cells (q.L.getD i dl).Wrap x a b)),q.At,q.Auto⟩ ks:=by
 have hl:=h.len;have hlt:i<q.L.length:=by omega
 have hok:=h.ok _ (ay hlt);have e:q.L.getD i dl=q.L[i]:=gdl hlt;rw [e];exact h.row hi (KA hok.1 x a b) (by rw [KB]; exact hok.2)
theorem Pv.rw_ (h:Pv C s k g W q ks){i:Nat}(hi:i<ks.length):s.row_Row[ks[i]]? = some ⟨(q.L.getD i dl).Cells,(q.L.getD i dl).Wrap⟩/\Snd (q.L.getD i dl).Cells/\(q.L.getD i dl).Cells.length=W:=by
 have hl:=h.len;have hlt:i<q.L.length:=by omega
 have hok:=h.ok _ (ay hlt);obtain ⟨r,h1,h2,h3⟩:=h.g.at hi;have e:q.L[i]=⟨r.cells,r.wrap⟩:=by rw [h.at hi,oP h1]
 rw [gdl hlt,e];exact ⟨h1,h2,h3⟩
def md (mode:Int):Int:=if mode=0 then 2 else if mode=1 then 1 else 3
theorem zB (h:Pv C s k g W q ks){i:Nat}(hi:i<ks.length) (hr:q.At.Row=(i:Int)) (mode:Int):mC s (some k) mode=some (s.sr ks[i] (ac (q.L.getD i dl).Cells (q.L.getD i dl).Wrap (md mode) q.At.Col 0)):=by
 obtain ⟨r1,r2,r3⟩:=h.rw_ hi;have w2:=h.g.w2;unfold mC md;simp only [bsm,h.p,hr];rw [fm h.g hi];simp only [bsm];by_cases h0:mode=0
 ·rw [ae (by simpa using h0),ae h0,BF r1 r2 (by omega) _ 0]
  rfl
 ·rw [ab (by simpa using h0),ab h0]
  by_cases h1:mode=1
  ·rw [ae (by simpa using h1),ae h1,CJ r1 r2 (by omega) _ 0]
   rfl
  ·rw [ab (by simpa using h1),ab h1,zA r1 r2 (by omega) q.At.Col 0]
   rfl
def eS (cond:Nat->Bool) (L:List ah):Nat->List ah
 | 0=>L
 | i+1=>if cond i=true then (eS cond L i).set i (lt (ac ((eS cond L i).getD i dl).Cells ((eS cond L i).getD i dl).Wrap 3 0 0)) else eS cond L i
def cnd (mode:Int) (row:Int) (i:Nat):Bool:=mode==2 || (mode==0 && decide ((i:Int)>row)) || (mode==1 && decide ((i:Int)<row))
theorem A3 (h:Pv C s k g W q ks) (mode:Int){H:Int}(hH:H=(ks.length:Int)):∃s',(cm (σ:=Int×Sto) (τ:=Sto) ((H-0).toNat+1) (fun s_12=>
 if decide (s_12.1<H) then
 ((orE (mode==2) ((bw (mode==0) ((s_12.2.place_Pen[k]?).bind fun o_32=>
 some (decide (s_12.1>o_32.At.Row)))).bind fun d_25=>
 some d_25)).bind fun d_21=>
 (orE d_21 ((bw (mode==1) ((s_12.2.place_Pen[k]?).bind fun o_45=>
 some (decide (s_12.1<o_45.At.Row)))).bind fun d_38=>
 some d_38)).bind fun d_34=>
 if d_34 then
 (s_12.2.place_Pen[k]?).bind fun o_51=>
 (bz s_12.2 o_51.G s_12.1).bind fun x_53=>
 (lc s_12.2 x_53).bind fun x_54=>
 (some x_54:Option Sto)
 else
 (some s_12.2:Option Sto)).bind fun z_15=>
 some (.inl ((w64 (s_12.1+1)),z_15))
 else
 some (.inr s_12.2)) (0,s))=some s'/\Pv C s' k g W ⟨eS (cnd mode q.At.Row) q.L ks.length,q.At,q.Auto⟩ ks:=by
  subst hH;have hh:=h.g.h2;refine eV (n:=ks.length) (fun i st=>st.1=(i:Int)/\Pv C st.2 k g W ⟨eS (cnd mode q.At.Row) q.L i,q.At,q.Auto⟩ ks) (fun st=>Pv C st k g W ⟨eS (cnd mode q.At.Row) q.L ks.length,q.At,q.Auto⟩ ks) (fun i st hi hI=>?_) (fun st hI=>?_) ⟨rfl,h⟩ (by omega)
  ·obtain ⟨i',st⟩:=st
   obtain ⟨e,v⟩:=hI;simp only at e v;subst e;simp only;rw [ae (dlt hi)];have hp:=v.p;simp only at hp;simp only [hp,bsm,aX,bu];rw [cM hi (by omega)];by_cases hc:cnd mode q.At.Row i=true
   ·rw [ae (show (mode==2 || mode==0 && decide ((i:Int)>q.At.Row) || mode==1 && decide ((i:Int)<q.At.Row))=true from hc),fm v.g hi]
    obtain ⟨r1,r2,r3⟩:=v.rw_ hi;simp only [bsm];have w2:=h.g.w2;rw [zA r1 r2 (by omega) 0 0];refine .inl ⟨_,rfl,rfl,?_⟩;simp only [eS];rw [ae hc];exact v.ac hi 3 0 0
   ·rw [ab (show ¬(mode==2 || mode==0 && decide ((i:Int)>q.At.Row) || mode==1 && decide ((i:Int)<q.At.Row))=true from hc)]
    refine .inl ⟨_,rfl,rfl,?_⟩;simp only [eS];rw [ab hc];exact v
  ·obtain ⟨i',st⟩:=st
   obtain ⟨e,v⟩:=hI;simp only at e v;subst e;exact ⟨st,by simp,v⟩
theorem CE (h:Pv C s k g W q ks) (kind mode:Int):(cm (σ:=Int×(List ah)×Int×Int×Bool×Bool) (τ:=((List ah)×Int×Int×Bool×Bool)) (((q.L.length:Int)-0).toNat+1) (fun s_23=>
 (bw (decide (s_23.1<(s_23.2.1.length:Int))) (some (kind==4))).bind fun d_29=>
 if d_29 then
 ((orE (mode==2) ((bw (mode==0) (some (decide (s_23.1>s_23.2.2.1)))).bind fun d_41=>
 some d_41)).bind fun d_37=>
 (orE d_37 ((bw (mode==1) (some (decide (s_23.1<s_23.2.2.1)))).bind fun d_52=>
 some d_52)).bind fun d_48=>
 if d_48 then
 (dK (⟨s_23.2.1,(⟨s_23.2.2.1,s_23.2.2.2.1,s_23.2.2.2.2.1⟩:ai),s_23.2.2.2.2.2⟩:ag) s_23.1 3 0 0).bind fun x_62=>
 (some (x_62.L,x_62.At.Row,x_62.At.Col,x_62.At.Pending,x_62.Auto):Option ((List ah)×Int×Int×Bool×Bool))
 else
 (some (s_23.2.1,s_23.2.2.1,s_23.2.2.2.1,s_23.2.2.2.2.1,s_23.2.2.2.2.2):Option ((List ah)×Int×Int×Bool×Bool))).bind fun z_34=>
 some (.inl ((w64 (s_23.1+1)),z_34.1,z_34.2.1,z_34.2.2.1,z_34.2.2.2.1,z_34.2.2.2.2))
 else
 some (.inr (s_23.2.1,s_23.2.2.1,s_23.2.2.2.1,s_23.2.2.2.2.1,s_23.2.2.2.2.2))) (0,q.L,q.At.Row,q.At.Col,q.At.Pending,q.Auto))=
   some (if kind=4 then eS (cnd mode q.At.Row) q.L ks.length else q.L,q.At.Row,q.At.Col,q.At.Pending,q.Auto):=by
  have hh:=h.g.h2;have hl:=h.len;by_cases hk:kind=4
  ·subst hk
   rw [ae rfl];obtain ⟨t,h1,h2⟩:=eV (σ:=Int×(List ah)×Int×Int×Bool×Bool) (τ:=((List ah)×Int×Int×Bool×Bool)) (n:=ks.length) (fuel:=((q.L.length:Int)-0).toNat+1) (s:=(0,q.L,q.At.Row,q.At.Col,q.At.Pending,q.Auto))
    (fun i st=>st=((i:Int),eS (cnd mode q.At.Row) q.L i,q.At.Row,q.At.Col,q.At.Pending,q.Auto)/\∃s',Pv C s' k g W ⟨eS (cnd mode q.At.Row) q.L i,q.At,q.Auto⟩ ks) (fun t=>t=(eS (cnd mode q.At.Row) q.L ks.length,q.At.Row,q.At.Col,q.At.Pending,q.Auto))
    (step:=fun s_23=>
 (bw (decide (s_23.1<(s_23.2.1.length:Int))) (some ((4:Int)==4))).bind fun d_29=>
 if d_29 then
 ((orE (mode==2) ((bw (mode==0) (some (decide (s_23.1>s_23.2.2.1)))).bind fun d_41=>
 some d_41)).bind fun d_37=>
 (orE d_37 ((bw (mode==1) (some (decide (s_23.1<s_23.2.2.1)))).bind fun d_52=>
 some d_52)).bind fun d_48=>
 if d_48 then
 (dK (⟨s_23.2.1,(⟨s_23.2.2.1,s_23.2.2.2.1,s_23.2.2.2.2.1⟩:ai),s_23.2.2.2.2.2⟩:ag) s_23.1 3 0 0).bind fun x_62=>
 (some (x_62.L,x_62.At.Row,x_62.At.Col,x_62.At.Pending,x_62.Auto):Option ((List ah)×Int×Int×Bool×Bool))
 else
 (some (s_23.2.1,s_23.2.2.1,s_23.2.2.2.1,s_23.2.2.2.2.1,s_23.2.2.2.2.2):Option ((List ah)×Int×Int×Bool×Bool))).bind fun z_34=>
 some (.inl ((w64 (s_23.1+1)),z_34.1,z_34.2.1,z_34.2.2.1,z_34.2.2.2.1,z_34.2.2.2.2))
 else
 some (.inr (s_23.2.1,s_23.2.2.1,s_23.2.2.2.1,s_23.2.2.2.2.1,s_23.2.2.2.2.2)))
    (fun i st hi hI=>by
     obtain ⟨rfl,s',v⟩:=hI;have hvl:(eS (cnd mode q.At.Row) q.L i).length=ks.length:=v.len;simp only [aX,bsm,bu];rw [ae (by simp [hvl,hi]),cM hi (by omega)];by_cases hc:cnd mode q.At.Row i=true
     ·rw [ae (show (mode==2 || mode==0 && decide ((i:Int)>q.At.Row) || mode==1 && decide ((i:Int)<q.At.Row))=true from hc)]
      have ha:=Hj v hi 3 0 0;rw [show (⟨eS (cnd mode q.At.Row) q.L i,⟨q.At.Row,q.At.Col,q.At.Pending⟩,q.Auto⟩:ag)=⟨eS (cnd mode q.At.Row) q.L i,q.At,q.Auto⟩ from rfl,ha];refine .inl ⟨_,rfl,?_,s'.sr ks[i] (ac ((eS (cnd mode q.At.Row) q.L i).getD i dl).Cells ((eS (cnd mode q.At.Row) q.L i).getD i dl).Wrap 3 0 0),?_⟩
      ·simp only [eS]
       rw [ae hc]
      ·simp only [eS]
       rw [ae hc];exact v.ac hi 3 0 0
     ·rw [ab (show ¬(mode==2 || mode==0 && decide ((i:Int)>q.At.Row) || mode==1 && decide ((i:Int)<q.At.Row))=true from hc)]
      refine .inl ⟨_,rfl,?_,s',?_⟩
      ·simp only [eS]
       rw [ab hc]
      ·simp only [eS]
       rw [ab hc];exact v)
    (fun st hI=>by
     obtain ⟨rfl,s',v⟩:=hI;have hvl:(eS (cnd mode q.At.Row) q.L ks.length).length=ks.length:=v.len;refine ⟨_,?_,rfl⟩;simp only [aX,bsm];rw [ab (by simp [hvl])])
    ⟨rfl,s,h⟩ (by omega)
   rw [h1,h2]
  ·rw [ab hk]
   have hf:(kind==4)=false:=by simpa using hk
   rw [show ((q.L.length:Int)-0).toNat+1=q.L.length+1 by omega];simp only [cm,hf,aX,Hq,bsm,aj,aU]
theorem Fg (h:Pv C s k g W q ks){i:Nat}(hi:i<ks.length){c:List aa}{done:Bool}{r:bm}(hc:c=r.cells) (hd:done=true->r.wrap=false) (hn:done=false->r=⟨(q.L.getD i dl).Cells,(q.L.getD i dl).Wrap⟩){z:ag}(hz:z=q):
  (if done then (cu z i ⟨c,false⟩).bind fun x_172=>(some (x_172.L,x_172.At.Row,x_172.At.Col,x_172.At.Pending,x_172.Auto):Option ((List ah)×Int×Int×Bool×Bool))
   else (some (z.L,z.At.Row,z.At.Col,z.At.Pending,z.Auto):Option ((List ah)×Int×Int×Bool×Bool)))=some (q.L.set i (lt r),q.At.Row,q.At.Col,q.At.Pending,q.Auto):=by
 subst hz hc;have hl:=h.len
 cases done with
 | true=>
  rw [ae rfl,uQ h hi];simp only [bsm];unfold lt;rw [hd rfl]
 | false=>
  rw [ab (by simp),hn rfl];unfold lt;rw [gdl (show i<z.L.length by omega),xc]
theorem Gs {l:List aa}{w:Bool}{a b:Int}:(mvs a b l.length=true->(ish l w a b).wrap=false)/\(mvs a b l.length=false->ish l w a b=⟨l,w⟩):=by
 unfold ish;refine ⟨fun h=>by rw [ae h],fun h=>by rw [ab (by rw [h]; simp)]⟩
theorem GE {l:List aa}{w:Bool}{a b:Int}:(mvs a b l.length=true->(dsh l w a b).wrap=false)/\(mvs a b l.length=false->dsh l w a b=⟨l,w⟩):=by
 unfold dsh;refine ⟨fun h=>by rw [ae h],fun h=>by rw [ab (by rw [h]; simp)]⟩
theorem Di (h:Pv C s k g W q ks){i:Nat}(hi:i<ks.length) (hr:q.At.Row=(i:Int)) (kind:Int){mode:Int}(hm:0<=mode/\mode<=2):∃L1,L1=q.L.set i (lt (ac (q.L.getD i dl).Cells (q.L.getD i dl).Wrap (md mode) q.At.Col 0))/\
  kJ q kind mode=some ⟨if kind=4 then eS (cnd mode q.At.Row) L1 ks.length else L1,q.At,q.Auto⟩:=by
 refine ⟨_,rfl,?_⟩;unfold kJ;have hidx:idx ([2,1,3]:List Int) mode=some (md mode):=by
  have:mode=0\/mode=1\/mode=2:=by omega
  rcases this with e|e|e <;> rw [e] <;> rfl
 have v:=h.ac hi (md mode) q.At.Col 0;have e0:dK q q.At.Row (md mode) q.At.Col 0=some ⟨q.L.set i (lt (ac (q.L.getD i dl).Cells (q.L.getD i dl).Wrap (md mode) q.At.Col 0)),q.At,q.Auto⟩:=by
  rw [hr];exact Hj h hi _ _ _
 rw [hidx];simp only [bsm];rw [e0];simp only [bsm];have:=CE v kind mode;simp only at this;rw [this];rfl
theorem ID (h:Pv C s k g W q ks) (o:aJ) (hw:w38 o=0):∃s' q' ks',qi s (some k) o=some (s',Er.nil)/\eU q o=some q'/\Pv C s' k g W q' ks'/\ks'.length=ks.length/\Hd q'.At W ks.length/\q'.At.Pending=false:=by
 have hh:=h.g.h2;have h1:=h.g.h1;have w1:=h.g.w1;have w2:=h.g.w2;have hkind:2<=o.Kind/\o.Kind<=12:=by
   unfold w38 at hw;split at hw
   ·cases hw
   ·omega
 have hmode:(o.Kind=3\/o.Kind=4)->0<=o.A/\o.A<=2:=fun e=>by
   unfold w38 at hw;rw [ab (by omega)] at hw;split at hw
   ·cases hw
   ·omega
 have hnil:e38 o=Er.nil:=by unfold e38; rw [hw]; rfl
 have hd0:=vf q.At w1 h1;have hv:Pv C (s.sp k ⟨some g,⟨(hc q.At W ks.length).Row,(hc q.At W ks.length).Col,false⟩,q.Auto⟩) k g W ⟨q.L,⟨(hc q.At W ks.length).Row,(hc q.At W ks.length).Col,false⟩,q.Auto⟩ ks:=h.set _ _;have hd:Hd ⟨(hc q.At W ks.length).Row,(hc q.At W ks.length).Col,false⟩ W ks.length:=⟨hd0.rr,hd0.cc,fun e=>by cases e⟩;unfold qi eU;rw [ya,hnil,qb h];simp only [bsm,Er.isNil,cP,aj,aU,bJ,dR,h.p];rw [jI h.g,eW h.g];simp only [bsm];rw [qo _ w1 w2 h1 hh];simp only [bsm];rw [jh (cR h.p)];simp only [bsm];rw [jh (by simp [Sto.sp]; exact cR h.p),zg];simp only [bsm];generalize hc q.At W ks.length=c at *;obtain ⟨i,hi⟩:∃i:Nat,c.Row=(i:Int):=⟨c.Row.toNat,by have:=hd.rr; simp only at this; omega⟩;have hik:i<ks.length:=by have:=hd.rr; simp only at this; omega
 have hlen:=hv.len;simp only at hlen;obtain ⟨c1,c2,c3⟩:=c;simp only at hi hv hd;subst hi;simp only;rw [bd (show i<q.L.length by omega)];simp only [bsm];generalize s.sp k ⟨some g,⟨(i:Int),c2,false⟩,q.Auto⟩=s1 at *;obtain ⟨L,⟨_,_,_⟩,au⟩:=q;simp only at hv hlen|-;obtain ⟨r1,r2,r3⟩:=hv.rw_ hik;simp only at r1 r2 r3;obtain ⟨kd_,A,B,bs⟩:=o;simp only at hkind hmode|-;have hcell:L[i]'(by omega)=L.getD i dl:=(gdl (by omega)).symm;rw [hcell];have:kd_=2\/kd_=3\/kd_=4\/kd_=5\/kd_=6\/kd_=7\/kd_=8\/kd_=9\/kd_=10\/kd_=11\/kd_=12:=by omega
 have hcc:=hd.cc;simp only at hcc;rcases this with e|e|e|e|e|e|e|e|e|e|e <;> subst e <;> simp only [Int.reduceBEq,aj,aU,bA,bsm]
 ·
   unfold ga;simp only [bsm,hv.p];rw [fm hv.g hik];simp only [bsm,Int.reduceBEq,bA];rw [jI hv.g,eW hv.g];simp only [bsm];unfold ju;rw [qo _ w1 w2 h1 hh,uR hv,hlen];simp only [bsm];rw [uT _ w1 w2 h1 hh,jh (cR hv.p)];exact ⟨_,_,ks,rfl,rfl,hv.set (hc ⟨A,B,false⟩ W ks.length) au,rfl,vf _ w1 h1,by simp [hc]⟩
 ·
   have hm:=hmode (.inl rfl);obtain ⟨L1,e1,e2⟩:=Di hv hik rfl 3 hm;simp only at e1;rw [e2];unfold ga;simp only [bsm,hv.p];rw [fm hv.g hik];simp only [bsm,Int.reduceBEq,aj,aU,bA];rw [zB hv hik rfl A];refine ⟨_,_,ks,rfl,rfl,?_,rfl,hd,rfl⟩;have:=hv.ac hik (md A) c2 0;simp only at this;rw [ab (by decide),e1];exact this
 ·
   have hm:=hmode (.inr rfl);obtain ⟨L1,e1,e2⟩:=Di hv hik rfl 4 hm;simp only at e1;rw [e2];unfold ga;simp only [bsm,hv.p];rw [fm hv.g hik];simp only [bsm,Int.reduceBEq,aj,aU,bA];unfold nS;rw [zB hv hik rfl A];have hv2:=hv.ac hik (md A) c2 0;simp only at hv2;rw [<-e1] at hv2;simp only [bsm,hv2.p];rw [eW hv2.g];simp only [bsm];obtain ⟨s',l1,l2⟩:=A3 hv2 A rfl;rw [l1];exact ⟨_,_,ks,rfl,rfl,l2,rfl,hd,rfl⟩
 ·
   unfold ga;simp only [bsm,hv.p];rw [fm hv.g hik];simp only [bsm,Int.reduceBEq,aj,aU,bA];rw [BG r1 r2 (by omega),Hj hv hik];exact ⟨_,_,ks,rfl,rfl,hv.ac hik 4 c2 A,rfl,hd,rfl⟩
 ·
   have hsn:=It (w:=(L.getD i dl).Wrap) r2 c2 A;have hlw:=Iu (l:=(L.getD i dl).Cells) (w:=(L.getD i dl).Wrap) c2 A;have hdn:=Gs (l:=(L.getD i dl).Cells) (w:=(L.getD i dl).Wrap) (a:=c2) (b:=A);unfold ga;simp only [bsm,hv.p];rw [fm hv.g hik];simp only [bsm,Int.reduceBEq,aj,aU,bA];rw [DP r1 r2 (by omega),HN (by omega) _ _ (L.getD i dl).Wrap];simp only [bsm];have:=Fg hv hik (c:=(ish (L.getD i dl).Cells (L.getD i dl).Wrap c2 A).cells) (done:=mvs c2 A (L.getD i dl).Cells.length) (r:=ish (L.getD i dl).Cells (L.getD i dl).Wrap c2 A) rfl hdn.1 hdn.2 rfl;simp only at this;rw [this];exact ⟨_,_,ks,rfl,rfl,hv.row hik hsn (by rw [hlw]; exact r3),rfl,hd,rfl⟩
 ·
   have hsn:=IG (w:=(L.getD i dl).Wrap) r2 c2 A;have hlw:=IH (l:=(L.getD i dl).Cells) (w:=(L.getD i dl).Wrap) c2 A;have hdn:=GE (l:=(L.getD i dl).Cells) (w:=(L.getD i dl).Wrap) (a:=c2) (b:=A);unfold ga;simp only [bsm,hv.p];rw [fm hv.g hik];simp only [bsm,Int.reduceBEq,aj,aU,bA];rw [DQ r1 r2 (by omega),HO (by omega) _ _ (L.getD i dl).Wrap];simp only [bsm];have:=Fg hv hik (c:=(dsh (L.getD i dl).Cells (L.getD i dl).Wrap c2 A).cells) (done:=mvs c2 A (L.getD i dl).Cells.length) (r:=dsh (L.getD i dl).Cells (L.getD i dl).Wrap c2 A) rfl hdn.1 hdn.2 rfl;simp only at this;rw [this];exact ⟨_,_,ks,rfl,rfl,hv.row hik hsn (by rw [hlw]; exact r3),rfl,hd,rfl⟩
 ·
   obtain ⟨s',ks',u1,⟨u2,u3,u4,u5⟩,u6,u7⟩:=BI hv.g hv.nd (i:Int) (ks.length:Int) A;have hm:=sa (W:=W) (L:=L) (by omega) w2 (fun x hx=>(hv.ok x hx).2) (i:Int) (ks.length:Int) A false;rw [hlen] at hm|-;unfold jl;simp only [bsm,hv.p];rw [eW hv.g];simp only [bsm,Int.reduceBEq,aj,aU,bA];rw [u1,hm];have hp:s'.place_Pen[k]? = some ⟨some g,⟨(i:Int),c2,false⟩,au⟩:=by rw [lB u6]; exact hv.p
   simp only [bsm,hp,dG];rw [jh (cR hp)];refine ⟨_,_,ks',rfl,rfl,⟨zM (cR hp),u2.sp _ _,u3,?_,(tj u6).trans hv.o,(hv.f.step u7 (lB u6)).sp _⟩,u4,⟨hd.rr,by simp only; omega,fun e=>by cases e⟩,rfl⟩;exact u5.trans (by rw [hv.l])
 ·
   obtain ⟨s',ks',u1,⟨u2,u3,u4,u5⟩,u6,u7⟩:=Ci hv.g hv.nd (i:Int) (ks.length:Int) A;have hm:=sa (W:=W) (L:=L) (by omega) w2 (fun x hx=>(hv.ok x hx).2) (i:Int) (ks.length:Int) A true;rw [hlen] at hm|-;unfold jl;simp only [bsm,hv.p];rw [eW hv.g];simp only [bsm,Int.reduceBEq,aj,aU,bA];rw [u1,hm];have hp:s'.place_Pen[k]? = some ⟨some g,⟨(i:Int),c2,false⟩,au⟩:=by rw [lB u6]; exact hv.p
   simp only [bsm,hp,dG];rw [jh (cR hp)];refine ⟨_,_,ks',rfl,rfl,⟨zM (cR hp),u2.sp _ _,u3,?_,(tj u6).trans hv.o,(hv.f.step u7 (lB u6)).sp _⟩,u4,⟨hd.rr,by simp only; omega,fun e=>by cases e⟩,rfl⟩;exact u5.trans (by rw [hv.l])
 ·
   obtain ⟨s',ks',u1,⟨u2,u3,u4,u5⟩,u6,u7⟩:=Ci hv.g hv.nd 0 (ks.length:Int) A;have hm:=sa (W:=W) (L:=L) (by omega) w2 (fun x hx=>(hv.ok x hx).2) 0 (ks.length:Int) A true;rw [hlen] at hm|-;unfold jl;simp only [bsm,hv.p];rw [eW hv.g];simp only [bsm,Int.reduceBEq,aj,aU,bA];rw [u1,hm];refine ⟨_,_,ks',rfl,rfl,⟨by rw [lB u6]; exact hv.p,u2,u3,?_,(tj u6).trans hv.o,hv.f.step u7 (lB u6)⟩,u4,hd,rfl⟩;exact u5.trans (by rw [hv.l])
 ·
   obtain ⟨s',ks',u1,⟨u2,u3,u4,u5⟩,u6,u7⟩:=BI hv.g hv.nd 0 (ks.length:Int) A;have hm:=sa (W:=W) (L:=L) (by omega) w2 (fun x hx=>(hv.ok x hx).2) 0 (ks.length:Int) A false;rw [hlen] at hm|-;unfold jl;simp only [bsm,hv.p];rw [eW hv.g];simp only [bsm,Int.reduceBEq,aj,aU,bA];rw [u1,hm];refine ⟨_,_,ks',rfl,rfl,⟨by rw [lB u6]; exact hv.p,u2,u3,?_,(tj u6).trans hv.o,hv.f.step u7 (lB u6)⟩,u4,hd,rfl⟩;exact u5.trans (by rw [hv.l])
 ·
   unfold ga;simp only [bsm,hv.p];rw [fm hv.g hik];simp only [bsm,Int.reduceBEq,aj,aU,bA];rw [jh (cR hv.p)];exact ⟨_,_,ks,rfl,rfl,hv.set ⟨(i:Int),c2,false⟩ (A != 0),rfl,hd,rfl⟩
end Go.Proofs.YtkgjnbiiiifoaaaGreatDoor
namespace Go.Proofs.YtkgjnbiiiifoaaaGreatDoor
open Go Go.Lt
variable {s C:Sto}{g k W:Nat}{ks:List Nat}{q:ag}{l:List aa}
def rzc (l:List aa) (w j:Nat):aa:=if j<l.length/\(j+1<w\/kd l j≠2) then l.getD j bl else bl
def rz (l:List aa) (w:Nat):List aa:=(List.range w).map (rzc l w)
theorem vR (l:List aa) (w:Nat):(rz l w).length=w:=by simp [rz]
theorem zR {w j:Nat}(h:j<w):(rz l w)[j]? = some (rzc l w j):=by simp [rz,h]
theorem Jf {w j:Nat}(h:j<w):kd (rz l w) j=(rzc l w j).Kind:=by simp [kd,zR h]
theorem zQ (l:List aa) (w j:Nat):(rzc l w j).Kind=if j<l.length/\(j+1<w\/kd l j≠2) then kd l j else 0:=by
 unfold rzc;split
 ·exact mM l j
 ·rfl
theorem FE (hs:Snd l) (w:Nat):Snd (rz l w):=fun j hj=>by
 have hjw:j<w:=by rw [vR] at hj; exact hj
 have e:(rz l w)[j]=rzc l w j:=by
  have:=zR (l:=l) hjw;rw [af hj] at this;exact aL this
 rw [e];refine ⟨?_,fun h2=>?_,fun h3=>?_⟩
 ·unfold rzc;split
  ·rename_i h; exact hs.rg h.1
  ·rfl
 ·rw [zQ] at h2;split at h2
  ·rename_i h
   have h4:=hs.two h2;have h5:j+1<l.length:=vd (by rw [h4]; decide);have h6:j+1<w:=by omega
   rw [Jf h6,zQ,ae ⟨h5,.inr (by rw [h4]; decide)⟩,h4]
  ·cases h2
 ·rw [zQ] at h3;split at h3
  ·rename_i h
   obtain ⟨h4,h5⟩:=hs.three h3;have h6:j-1<l.length:=by omega
   refine ⟨h4,?_⟩;rw [Jf (by omega),zQ,ae ⟨h6,.inl (by omega)⟩,h5]
  ·cases h3
theorem JH (w:Nat):rz [] w=List.replicate w bl:=by
 refine bi fun j=>?_;rcases aE j w with h|h
 ·rw [zR h,jc,ae h];unfold rzc;rw [ab (by simp)]
 ·rw [az (by rw [vR]; exact h),az (by simpa using h)]
theorem IC {n:Nat}(hn:n<=l.length) (hl:l.length<=1024):qh l n=some (if 0<n/\kd l (n-1)=2 then (l.take n).set (n-1) bl else l.take n):=by
 unfold qh;rw [show (0:Int)=((0:Nat):Int) from rfl,ui (dk _) hn,ph,Cf];simp only [bsm];by_cases h0:0<n
 ·have e:w64 ((n:Int)-1)=((n-1:Nat):Int):=by rw [aQ (by omega)]; omega
  have hlt:n-1<(l.take n).length:=by simp; omega
  have hk:(l.take n)[n-1].Kind=kd l (n-1):=by rw [List.getElem_take,jy (by omega)]
  rw [show decide ((n:Int)>((0:Nat):Int))=true by simpa using h0,e,bd hlt];simp only [jf,bsm,hk];by_cases h2:kd l (n-1)=2
  ·rw [ae (by simpa using h2),ae ⟨h0,h2⟩,kR hlt];rfl
  ·rw [ab (by simpa using h2),ab (fun h=>h2 h.2)];rfl
 ·rw [show decide ((n:Int)>((0:Nat):Int))=false by simpa using h0,ab (fun h=>h0 h.1)];simp only [kh,bsm,aj,aU]
theorem Ko (hs:Snd l){w n:Nat}(hn:n=min w l.length) (w1:1<=w) (l1:1<=l.length):(if 0<n/\kd l (n-1)=2 then (l.take n).set (n-1) bl else l.take n)++List.replicate (w-n) bl=rz l w:=by
 have hlen:(if 0<n/\kd l (n-1)=2 then (l.take n).set (n-1) bl else l.take n).length=n:=by split <;> simp <;> omega
 refine bi fun j=>?_;rcases aE j w with h|h
 ·rw [zR h];rcases aE j n with hj|hj
  ·rw [aC (by omega)];have hjl:j<l.length:=by omega
   have g:l.getD j bl=l[j]:=by rw [aq,af hjl]; rfl
   unfold rzc;split
   ·rename_i h2
    rw [mG];by_cases e:n-1=j
    ·subst e;rw [ae rfl,ae (by simp; omega),ab];rintro ⟨_,h5|h5⟩
     ·have:=hs.two h2.2;have:=vd (l:=l) (j:=n-1+1) (by omega);omega
     ·exact h5 h2.2
    ·rw [ab e,aT,ae hj,af hjl,ae ⟨hjl,by omega⟩,g]
   ·rename_i h2
    rw [aT,ae hj,af hjl,ae,g];refine ⟨hjl,?_⟩;by_cases e:j+1<w
    ·exact .inl e
    ·right
     intro h3;exact h2 ⟨by omega,by rw [show n-1=j by omega]; exact h3⟩
  ·rw [be (by omega),hlen,jc,ae (by omega)];unfold rzc;rw [ab (by omega)]
 ·rw [az (by rw [ax,hlen,mq]; omega),az (by rw [vR]; exact h)]
theorem CI {wr:Bool}(h:s.row_Row[k]? = some ⟨l,wr⟩) (hs:Snd l) (l1:1<=l.length) (l2:l.length<=1024){w:Nat}(w1:1<=w) (w2:w<=1024):
  ka s (some k) w=some (s.add_row_Row ⟨rz l w,false⟩,some s.row_Row.length):=by
 have e1:bb 1 (aR (w:Int) 1024)=(w:Int):=by rw [ey,iC]; omega
 unfold ka;rw [e1];simp only [bJ,aj,aU,tl h (by omega) hs.sht,jF h,bsm];obtain ⟨n,hn⟩:∃n,n=min w l.length:=⟨_,rfl⟩;rw [show aR (w:Int) (l.length:Int)=(n:Int) by rw [ey]; omega,IC (by omega) l2];have hlen:(if 0<n/\kd l (n-1)=2 then (l.take n).set (n-1) bl else l.take n).length=n:=by split <;> simp <;> omega
 have hcr:=Ko hs hn w1 l1;generalize (if 0<n/\kd l (n-1)=2 then (l.take n).set (n-1) bl else l.take n)=c at *;simp only [bsm];rw [hlen,aQ (by omega),wv];simp only [bsm];rw [show (max 0 (min ((w:Int)-(n:Int)) 1024)).toNat=w-n by omega,fg (by simp; omega),hcr];simp only [bsm];unfold vj;rw [JI (by rw [vR]; exact w1) (by rw [vR]; exact w2) (FE hs w)];rfl
theorem Ct (l:List aa) (hl:l.length<=1000000){w:Nat}(w1:1<=w) (w2:w<=1024):gM l w=some (rz l w):=by
 have e1:bb 1 (aR (w:Int) 1024)=(w:Int):=by rw [ey,iC]; omega
 unfold gM;rw [e1,qD _ (by omega),show (⟨0,[]⟩:aa)=bl from rfl,bS];simp only [bsm];obtain ⟨t,h3,h4⟩:=eV (σ:=(List aa)×Int) (τ:=(List aa)) (n:=min w l.length) (fuel:=((w:Int)-0).toNat+1) (s:=(List.replicate w bl,0))
  (fun i q=>q=((List.range w).map (fun j=>if j<i then rzc l w j else bl),(i:Int))) (fun t=>t=rz l w)
  (step:=fun s_14=>
 (bw (decide (s_14.2<(w:Int))) (some (decide (s_14.2<(l.length:Int))))).bind fun d_18=>
 if d_18 then
 ((orE (decide ((w64 (s_14.2+1))<(w:Int))) ((idx l s_14.2).bind fun x_34=>
 some (x_34.Kind != 2))).bind fun d_30=>
 if d_30 then
 (idx l s_14.2).bind fun x_43=>
 (idx s_14.1 s_14.2).bind fun x_45=>
 (pJ s_14.1 s_14.2 x_43).bind fun w_46=>
 (some w_46:Option ((List aa)))
 else
 (some s_14.1:Option ((List aa)))).bind fun z_25=>
 some (.inl (z_25,(w64 (s_14.2+1))))
 else
 some (.inr s_14.1))
  (fun i q hi e=>by
   subst e;refine .inl ⟨_,?_,rfl⟩;have e5:w64 ((i:Int)+1)=((i+1:Nat):Int):=by rw [aQ (by omega)]; simp
   have hil:i<l.length:=by omega
   have hd:(decide ((i:Int)<(w:Int)) && decide ((i:Int)<(l.length:Int)))=true:=by simp; omega
   have hlt:i<((List.range w).map (fun j=>if j<i then rzc l w j else bl)).length:=by simp; omega
   have ho:(orE (decide (((i+1:Nat):Int)<(w:Int))) ((idx l (i:Int)).bind fun x_34=>some (x_34.Kind != 2)))=some (decide (i+1<w\/kd l i≠2)):=by
    rw [bd hil];simp only [bsm,bu,<-jy hil,aK];rw [ci];simp only [aB,am,kL];omega
   simp only [aX,bsm,hd,bA,e5];rw [ho];simp only [bsm];have hnext:∀c:aa,c=rzc l w i->((List.range w).map (fun j=>if j<i then rzc l w j else bl)).set i c=(List.range w).map (fun j=>if j<i+1 then rzc l w j else bl):=fun c hc=>by
    refine bi fun j=>?_;rw [mG];by_cases e:i=j
    ·subst e;rw [ae rfl,ae hlt,bB,dE (by omega),hc];simp
    ·rw [ab e,bB,bB];rcases aE j w with hj|hj
     ·rw [dE hj];simp only [fC,aK];by_cases h5:j<i
      ·rw [ae h5,ae (by omega)]
      ·rw [ab h5,ab (by omega)]
     ·rw [az (by simpa using hj)];rfl
   by_cases hc:i+1<w\/kd l i≠2
   ·rw [ae (by simpa using hc),bd hil,bd hlt];simp only [bsm];rw [kR hlt,hnext l[i] (by
     unfold rzc;rw [ae ⟨hil,hc⟩,aq,af hil];rfl)]
    rfl
   ·rw [ab (by simpa using hc)];simp only [bsm];have hb:rzc l w i=bl:=by
     unfold rzc;rw [ab (fun h=>hc h.2)]
    have:=hnext bl hb.symm;rw [<-this]
    congr 3
    refine (bi fun j=>?_).symm;rw [mG];by_cases e:i=j
    ·subst e;rw [ae rfl,ae hlt,bB,dE (by omega)];simp
    ·rw [ab e])
  (fun q e=>⟨q.1,by
   subst e;have hd:(decide (((min w l.length:Nat):Int)<(w:Int)) && decide (((min w l.length:Nat):Int)<(l.length:Int)))=false:=by
    rw [Ch];simp only [zt,ao,am];omega
   simp only [aX,bsm,hd,aj,aU],by
   subst e;simp only;unfold rz;refine dt fun j hj=>?_;rw [List.mem_range] at hj;by_cases h5:j<min w l.length
   ·rw [ae h5]
   ·rw [ab h5];unfold rzc;rw [ab (by omega)]⟩)
  (by
   simp only [Fa,aU,ib];refine ⟨?_,rfl⟩;rw [MJ,uf]) (by omega)
 subst h4;rw [h3];rfl
def cs (L:List ah) (n:Nat):List aa:=(L.getD n ⟨[],false⟩).Cells
def rs (L:List ah) (top w h:Nat):List ah:=(List.range h).map fun m=>⟨rz (cs L (top+m)) w,false⟩
def rsi (L:List ah) (top w h i:Nat):List ah:=(List.range h).map fun m=>if m<i then ⟨rz (cs L (top+m)) w,false⟩ else ⟨List.replicate w bl,false⟩
theorem CK {L:List ah}{n:Nat}(h:L.length<=n):cs L n= []:=by
 unfold cs;rw [aq,az h];rfl
theorem GN {L:List ah}{n:Nat}(h:n<L.length):cs L n=L[n].Cells:=by
 unfold cs;rw [aq,af h];rfl
theorem Da (L:List ah) (top w:Nat){h i:Nat}(hi:i<h):(rsi L top w h i).set i ⟨rz (cs L (top+i)) w,false⟩=rsi L top w h (i+1):=by
 unfold rsi;refine bi fun j=>?_;rw [mG,dF,uf];by_cases e:i=j
 ·subst e;rw [ae rfl,ae hi,bB,dE hi];simp
 ·rw [ab e,bB,bB];rcases aE j h with hj|hj
  ·rw [dE hj];simp only [fC,aK];by_cases h5:j<i
   ·rw [ae h5,ae (by omega)]
   ·rw [ab h5,ab (by omega)]
  ·rw [az (by simpa using hj)];rfl
theorem FK (L:List ah){top w h i:Nat}(ho:L.length<=top+i) (hi:i<h):rsi L top w h (i+1)=rsi L top w h i:=by
 rw [<-Da L top w hi,CK ho,JH];refine bi fun j=>?_;rw [mG];by_cases e:i=j
 ·subst e;unfold rsi;rw [ae rfl,ae (by simp; exact hi),bB,dE hi];simp
 ·rw [ab e]
theorem HL (L:List ah) (top w h:Nat):rsi L top w h h=rs L top w h:=by
 unfold rsi rs;refine dt fun m hm=>?_;rw [List.mem_range] at hm;rw [ae hm]
theorem FJ (L:List ah) (top w h:Nat):rsi L top w h 0=bls w h:=by
 unfold rsi bls;simp only [Fa,aU];rw [MJ,uf]
theorem JY {xs:List Nat}(nd:xs.Nodup){x i:Nat}(hx:x∉xs):(xs.set i x).Nodup:=by
 rw [List.Nodup,List.pairwise_iff_getElem] at *;intro a b ha hb hab;rw [cq] at ha hb;rw [MB,MB];split
 ·split
  ·omega
  ·exact fun e=>hx (e▸ ay hb)
 ·split
  ·exact fun e=>hx (e▸ ay ha)
  ·exact nd a b ha hb hab
theorem Gw.sgo {g2:Nat}(h:Gw s g ks W) (hne:g2≠g) (x:bV):Gw (s.sg g2 x) g ks W:=
 ⟨by rw [<-h.g]; simp [Sto.sg,aW hne],h.r,h.h1,h.h2,h.w1,h.w2⟩
theorem Gw.addg (h:Gw s g ks W) (x:bV):Gw (s.add_grid_Grid x) g ks W:=
 ⟨by rw [<-h.g]; simp only [Sto.add_grid_Grid]; exact aC (cR h.g),h.r,h.h1,h.h2,h.w1,h.w2⟩
theorem Rf.more {s':Sto}{g2:Nat}{ks':List Nat}(h:Rf s s' g ks g2 ks') (hg2:s.grid_Grid.length<=g2) (xs:List bm) (x:bV) (i:Nat):Rf s ((s'.addr xs).sg g2 x) g ks g2 (ks'.set i s'.row_Row.length):=by
 have e:((s'.addr xs).sg g2 x).row_Row=s'.row_Row++xs:=rfl;have e2:((s'.addr xs).sg g2 x).grid_Grid=s'.grid_Grid.set g2 x:=rfl;have hr:=h.rl;refine ⟨by rw [e2,cq]; exact h.gl,by rw [e,ax]; omega,fun j a b=>by rw [e2,aW (by omega)]; exact h.gr j a b,fun j a b=>by rw [e,aC (by omega)]; exact h.rw j a b,h.ng,fun r hr=>?_⟩;rcases Hr hr with q|rfl
 ·exact h.nr r q
 ·exact .inr h.rl
theorem Rf.begun (xs:List bm) (x:bV){g2:Nat}(hg2:g2=s.grid_Grid.length) (m:Nat):Rf s ((s.addr xs).add_grid_Grid x) g ks g2 (List.range' s.row_Row.length m):=by
 subst hg2;refine ⟨by simp [Sto.add_grid_Grid,Sto.addr],by simp [Sto.add_grid_Grid,Sto.addr],fun j hj _=>?_,fun j hj _=>?_,.inr (av _),fun r hr=> .inr (List.mem_range'_1.1 hr).1⟩
 ·simp only [Sto.add_grid_Grid,Sto.addr]; exact aC hj
 ·simp only [Sto.add_grid_Grid,Sto.addr]; exact aC hj
theorem DN (h:Pv C s k g W q ks){w hh top:Nat}(w1:1<=w) (w2:w<=1024) (h1:1<=hh) (h2:hh<=1024) (ht:top<=1024){g2:Nat}(hg2:g2=s.grid_Grid.length):
  ∃s' ks',cm (σ:=Int×Sto) (τ:=Sto) (((hh:Int)-0).toNat+1) (fun s_54=>
 if decide (s_54.1<(hh:Int)) then
 ((s_54.2.place_Pen[k]?).bind fun o_64=>
 (bz s_54.2 o_64.G (w64 ((top:Int)+s_54.1))).bind fun x_68=>
 if (!x_68.isNone)=true then
 (ka s_54.2 x_68 (w:Int)).bind fun x_78=>
 (eN x_78.1 (some g2) s_54.1 x_78.2).bind fun x_79=>
 (some x_79.1:Option Sto)
 else
 (some s_54.2:Option Sto)).bind fun z_57=>
 some (.inl ((w64 (s_54.1+1)),z_57))
 else
 some (.inr s_54.2)) (0,(s.addr ((bls w hh).map lr)).add_grid_Grid ⟨(List.range' s.row_Row.length hh).map some⟩)=some s'/\
  Gw s' g2 ks' w/\ks'.Nodup/\ks'.map (ln s')=rs q.L top w hh/\s'.rst=s.rst/\Rf s s' g ks g2 ks':=by
 have hb:(bls w hh).length=hh:=by simp [bls]
 have h0:((bls w hh)[0]'(by omega)).Cells.length=w:=by simp [bls]
 obtain ⟨b1,b2⟩:=Jk (s:=s) (L:=bls w hh) (by omega) (by omega) (GY w1 w2 h1);rw [h0,<-hg2] at b1;rw [hb] at b1 b2;have hgl:=cR h.g.g;obtain ⟨t,e1,e2⟩:=eV (σ:=Int×Sto) (τ:=Sto) (n:=hh) (fuel:=((hh:Int)-0).toNat+1) (s:=(0,(s.addr ((bls w hh).map lr)).add_grid_Grid ⟨(List.range' s.row_Row.length hh).map some⟩))
  (fun i q2=>q2.1=(i:Int)/\q2.2.rst=s.rst/\Gw q2.2 g ks W/\ks.map (ln q2.2)=q.L/\∃ks',Gw q2.2 g2 ks' w/\ks'.Nodup/\ks'.length=hh/\ks'.map (ln q2.2)=rsi q.L top w hh i/\Rf s q2.2 g ks g2 ks')
  (fun t=>t.rst=s.rst/\∃ks',Gw t g2 ks' w/\ks'.Nodup/\ks'.map (ln t)=rs q.L top w hh/\Rf s t g ks g2 ks')
  (step:=fun s_54=>
 if decide (s_54.1<(hh:Int)) then
 ((s_54.2.place_Pen[k]?).bind fun o_64=>
 (bz s_54.2 o_64.G (w64 ((top:Int)+s_54.1))).bind fun x_68=>
 if (!x_68.isNone)=true then
 (ka s_54.2 x_68 (w:Int)).bind fun x_78=>
 (eN x_78.1 (some g2) s_54.1 x_78.2).bind fun x_79=>
 (some x_79.1:Option Sto)
 else
 (some s_54.2:Option Sto)).bind fun z_57=>
 some (.inl ((w64 (s_54.1+1)),z_57))
 else
 some (.inr s_54.2))
  (fun i q2 hi ⟨e,hp,hg,hl,ks',c1,c2,c3,c4,c5⟩=>by
   obtain ⟨j,st⟩:=q2;simp only at e hp hg hl c1 c2 c3 c4 c5;subst e;have e5:w64 ((i:Int)+1)=((i+1:Nat):Int):=by rw [aQ (by omega)]; simp
   have e6:w64 ((top:Int)+(i:Int))=((top+i:Nat):Int):=by rw [aQ (by omega)]; simp
   have hd:decide ((i:Int)<(hh:Int))=true:=by simp; exact hi
   simp only [hd,bA,lB hp,h.p,bsm,e5,e6];have hlen:=h.len;by_cases ho:top+i<ks.length
   ·rw [fm hg ho];simp only [bsm,bJ,eK,bA];obtain ⟨r,r1,r2,r3⟩:=hg.at ho;have hr:=CI (l:=r.cells) (wr:=r.wrap) r1 r2 (by rw [r3]; exact hg.w1) (by rw [r3]; exact hg.w2) w1 w2;rw [hr];simp only [bsm];have ea:st.add_row_Row ⟨rz r.cells w,false⟩=st.addr [⟨rz r.cells w,false⟩]:=by simp [Sto.add_row_Row,Sto.addr]
    rw [ea];have c1':=c1.addr (xs:=[⟨rz r.cells w,false⟩]);have hg':=hg.addr (xs:=[⟨rz r.cells w,false⟩]);have hnew:(st.addr [⟨rz r.cells w,false⟩]).row_Row[st.row_Row.length]? = some ⟨rz r.cells w,false⟩:=by simp [Sto.addr]
    have hrw:Rw (st.addr [⟨rz r.cells w,false⟩]) w st.row_Row.length:=⟨_,hnew,FE r2 w,vR _ _⟩;rw [Bz c1' (show i<ks'.length by omega) hrw];simp only [bsm];have hL:cs q.L (top+i)=r.cells:=by
     rw [GN (by rw [<-hl]; simpa using ho)];have:q.L[top+i]? = (ks.map (ln st))[top+i]? :=by rw [hl]
     rw [af (by rw [<-hl]; simpa using ho),bB,af ho,fC,oP r1] at this;rw [aL this]
    refine .inl ⟨_,rfl,rfl,hp,hg'.sgo (by omega) _,?_,ks'.set i st.row_Row.length,c1'.set hrw,JY c2 fun hm=>absurd (c1.r _ hm).lt (Nat.lt_irrefl _),by rw [cq]; exact c3,?_,c5.more (by omega) _ _ _⟩
    ·rw [<-hl];refine dt fun x hx=>?_;rw [Bm];exact xK (hg.r x hx).lt
    ·rw [<-Da _ _ _ hi,<-c4,hL,List.map_set,Bm,oP hnew]
     congr 1
     refine dt fun x hx=>?_;rw [Bm];exact xK (c1.r x hx).lt
   ·rw [vi hg (.inr (by omega))];simp only [bsm,Option.isNone_none,cP,aj,aU];exact .inl ⟨_,rfl,rfl,hp,hg,hl,ks',c1,c2,c3,by rw [FK _ (by omega) hi]; exact c4,c5⟩)
  (fun q2 ⟨e,hp,_,_,ks',c1,c2,_,c4,c5⟩=>⟨q2.2,by
   have hd:decide (q2.1<(hh:Int))=false:=by rw [e]; simp
   simp only [hd,aj,aU],hp,ks',c1,c2,by rw [c4,HL],c5⟩)
  ⟨rfl,rfl,(h.g.addr (xs:=(bls w hh).map lr)).addg _,by
   rw [<-h.l];refine dt fun x hx=>?_;exact xK (h.g.r x hx).lt,_,b1,Mu,by simp,by rw [FJ]; exact b2,Rf.begun _ _ hg2 _⟩ (by omega)
 obtain ⟨p1,ks',p2,p3,p4,p5⟩:=e2;exact ⟨t,ks',e1,p2,p3,p4,p1,p5⟩
def tp (c:ai) (h:Nat):Nat:=(c.Row-h+1).toNat
theorem KZ (h:Pv C s k g W q ks) (a b:Int):gK q a b=some ⟨rs q.L (tp (hc q.At W ks.length) (sd b)) (sd a) (sd b),⟨(hc q.At W ks.length).Row-tp (hc q.At W ks.length) (sd b),min (hc q.At W ks.length).Col ((sd a:Int)-1),false⟩,q.Auto⟩:=by
 have hd:=vf q.At h.g.w1 h.g.h1;have hl:=h.len;have hh2:=h.g.h2;have ha:=xu a;have hb:=xu b;have side:∀n:Int,bh n=some (sd n:Int):=fun n=>by
  unfold bh;by_cases h1:n<1
  ·rw [ae (by simpa using h1)]
   congr 1
   unfold sd;omega
  ·rw [ab (by simpa using h1)];by_cases h2:n>1024
   ·rw [ae (by simpa using h2)]
    congr 1
    unfold sd;omega
   ·rw [ab (by simpa using h2)]
    congr 1
    unfold sd;omega
 unfold gK;rw [qb h];generalize hc q.At W ks.length=c at *;have hr:=hd.rr;simp only [bsm,side];obtain ⟨t,e1,e2⟩:=eV (σ:=(List ah)×Int) (τ:=((List ah)×Int)) (n:=tp c (sd b)) (fuel:=(c.Row-(sd b:Int)).toNat+2) (s:=(q.L,c.Row))
  (fun i q2=>q2=(q.L.drop i,c.Row-i)) (fun t=>t=(q.L.drop (tp c (sd b)),c.Row-tp c (sd b)))
  (step:=fun s_25=>
 if decide (s_25.2>=(sd b:Int)) then
 (slc s_25.1 1 s_25.1.length).bind fun x_32=>
 some (.inl (x_32,(w64 (s_25.2-1))))
 else
 some (.inr (s_25.1,s_25.2)))
  (fun i q2 hi e=>by
   subst e;refine .inl ⟨_,?_,rfl⟩;unfold tp at hi;have hd:decide (c.Row-(i:Int)>=(sd b:Int))=true:=by simp; omega
   simp only [hd,bA];rw [show (1:Int)=((1:Nat):Int) from rfl,ui (by simp; omega) (av _),aQ (by omega)];simp only [bsm,dH];rw [aG (by simp; omega)]
   congr 3
   omega)
  (fun q2 e=>⟨q2,by
   subst e;have hd:decide (c.Row-(tp c (sd b):Int)>=(sd b:Int))=false:=by
    unfold tp;simp;omega
   simp only [hd,aj,aU],e⟩)
  (by simp) (by unfold tp; omega)
 subst e2;rw [e1];simp only [bsm];obtain ⟨t,e3,e4⟩:=eV (σ:=(List ah)×Int) (τ:=(List ah)) (n:=sd b) (fuel:=((sd b:Int)-0).toNat+1) (s:=(([]:List ah),0))
  (fun i q2=>q2=((rs q.L (tp c (sd b)) (sd a) (sd b)).take i,(i:Int))) (fun t=>t=rs q.L (tp c (sd b)) (sd a) (sd b))
  (step:=fun s_45=>
 if decide (s_45.2<(sd b:Int)) then
 (if (decide (s_45.2<((q.L.drop (tp c (sd b))).length:Int)))=true then
 (idx (q.L.drop (tp c (sd b))) s_45.2).bind fun x_60=>
 (some x_60.Cells:Option ((List aa)))
 else
 (some (([]:List aa)):Option ((List aa)))).bind fun z_52=>
 (gM z_52 (sd a:Int)).bind fun x_68=>
 (app s_45.1 ([(⟨x_68,false⟩:ah)]:List ah)).bind fun x_71=>
 some (.inl (x_71,(w64 (s_45.2+1))))
 else
 some (.inr s_45.1))
  (fun i q2 hi e=>by
   subst e;refine .inl ⟨_,?_,rfl⟩;have e5:w64 ((i:Int)+1)=((i+1:Nat):Int):=by rw [aQ (by omega)]; simp
   have hd:decide ((i:Int)<(sd b:Int))=true:=by simp; exact hi
   have hz:(if (decide ((i:Int)<((q.L.drop (tp c (sd b))).length:Int)))=true then (idx (q.L.drop (tp c (sd b))) (i:Int)).bind fun x_60=>(some x_60.Cells:Option ((List aa))) else (some (([]:List aa)):Option ((List aa))))=some (cs q.L (tp c (sd b)+i)):=by
    by_cases ho:i<(q.L.drop (tp c (sd b))).length
    ·rw [ae (by simpa using ho),bd ho];have ho2:tp c (sd b)+i<q.L.length:=by simp at ho; omega
     rw [GN ho2];simp only [bsm,Mw]
    ·rw [ab (by simpa using ho),CK (by simp at ho; omega)]
   simp only [hd,bA,e5];rw [hz];simp only [bsm];have hcl:(cs q.L (tp c (sd b)+i)).length<=1000000:=by
    by_cases ho:tp c (sd b)+i<q.L.length
    ·rw [GN ho,(h.ok _ (ay ho)).2];have:=h.g.w2;omega
    ·rw [CK (by omega)];simp
   rw [Ct _ hcl ha.1 ha.2];simp only [bsm];have hlt:i<(rs q.L (tp c (sd b)) (sd a) (sd b)).length:=by simp [rs]; exact hi
   rw [fg (by simp; omega),ak hlt];simp [rs])
  (fun q2 e=>⟨q2.1,by subst e; simp,by subst e; simp only; rw [aG (by simp [rs])]⟩)
  (by simp) (by omega)
 subst e4;rw [e3];simp only [bsm];rw [aQ (by omega),ey]
theorem HA (h:Pv C s k g W q ks) (a b:Int):∃s' q' g' ks',lO s (some k) a b=some s'/\gK q a b=some q'/\Pv C s' k g' (sd a) q' ks'/\q'.L=rs q.L (tp (hc q.At W ks.length) (sd b)) (sd a) (sd b)/\Hd q'.At (sd a) (sd b):=by
 have hd:=vf q.At h.g.w1 h.g.h1;have hh2:=h.g.h2;have ha:=xu a;have hb:=xu b;have sdd:∀n:Int,bb 1 (aR n 1024)=(sd n:Int):=fun n=>by
  rw [ey,iC];unfold sd;omega
 have hc1:=qo q.At h.g.w1 h.g.w2 h.g.h1 h.g.h2;have h39:=KZ h a b;generalize hc q.At W ks.length=c at *;have hr:=hd.rr;have hcc:=hd.cc;have etp:bb 0 (w64 ((w64 (c.Row-(sd b:Int)))+1))=(tp c (sd b):Int):=by
  rw [aQ (n:=c.Row-(sd b:Int)) (by omega),aQ (by omega),iC];unfold tp;omega
 obtain ⟨s',ks',e1,g1,g2,g3,g4,g5⟩:=DN h ha.1 ha.2 hb.1 hb.2 (top:=tp c (sd b)) (by unfold tp; omega) rfl;have hgn:=BA (s:=s) (sd a:Int) (sd b:Int);rw [zj ha.1 ha.2,zj hb.1 hb.2] at hgn;have hp':s'.place_Pen[k]? = some ⟨some g,q.At,q.Auto⟩:=by rw [lB g4]; exact h.p
 have hmv:ju (c.Row-(tp c (sd b):Int)) c.Col (sd a:Int) (sd b:Int)=some ⟨c.Row-tp c (sd b),min c.Col ((sd a:Int)-1),false⟩:=by
  unfold ju;rw [qo _ ha.1 ha.2 hb.1 hb.2];simp only [bsm,hc,aK,ai.mk.injEq,iB,qw];unfold tp;omega
 refine ⟨(s'.sp k ⟨some s.grid_Grid.length,q.At,q.Auto⟩).sp k ⟨some s.grid_Grid.length,⟨c.Row-tp c (sd b),min c.Col ((sd a:Int)-1),false⟩,q.Auto⟩,_,s.grid_Grid.length,ks',?_,h39,?_,rfl,⟨by simp only; unfold tp; omega,by simp only; omega,fun e=>by cases e⟩⟩
 ·unfold lO;simp only [bJ,dR,bsm,h.p,aj,aU];rw [jI h.g,eW h.g];simp only [bsm,sdd];rw [hc1];simp only [bsm];rw [hgn];simp only [bsm,etp];rw [e1];simp only [bsm,hp'];rw [jh (cR hp')];simp only [bsm];rw [aQ (by unfold tp; omega),hmv];simp only [bsm];rw [jh (by simp [Sto.sp]; exact cR hp')];rfl
 ·rw [zg];exact ⟨zM (cR hp'),g1.sp _ _,g2,g3,(tj g4).trans h.o,(h.f.step g5 (lB g4)).sp _⟩
end Go.Proofs.YtkgjnbiiiifoaaaGreatDoor
namespace Go.Proofs.YtkgjnbiiiifoaaaGreatDoor
open Go Go.Lt
variable {s C:Sto}{x f k g W H:Nat}{q P:ag}{ks:List Nat}{op:Option Nat}
structure Mo where
 P:ag
 G:List Int
 h:List Int
structure Sd (C s:Sto) (x f k:Nat) (m:Mo) (q:ag):Prop where
 sc:s.screen_Screen[x]? = some ⟨some f,some k⟩
 bt:Bts m.h
 fd:∃g W H ks op,Fd C s f k g W H m.P m.G m.h q ks op
def lay (P:ag) (G:List Int):Option ag:=fo vX P (cls pj pr G)
def mdo (m:Mo) (o:aJ):Option Mo:=
 if o.Kind=0 then some ⟨m.P,m.G++(fk m.h o.Bytes).1,(fk m.h o.Bytes).2⟩
 else if o.Kind=1 then (lay m.P (m.G++(if m.h= [] then [] else [65533]))).map fun q=>⟨q,[],[]⟩
 else if o.Kind=13 then (lay m.P m.G).bind fun q=>(gK q o.A o.B).map fun q'=>⟨q',[],m.h⟩
 else if w38 o=0 then (lay m.P m.G).bind fun q=>(eU q o).map fun q'=>⟨q',[],m.h⟩
 else some m
def w40 (o:aJ):Int:=if o.Kind=0\/o.Kind=1\/o.Kind=13 then 0 else w38 o
def e40 (o:aJ):Er:=if o.Kind=0\/o.Kind=1\/o.Kind=13 then Er.nil else e38 o
theorem Fd.pen_work {h:List Int}(F:Fd C s f k g W H P [] h q ks none){s':Sto}{g' W':Nat}{q':ag}{ks':List Nat}(v:Pv s s' k g' W' q' ks') (hh:Hd q'.At W' ks'.length):Fd C s' f k g' W' ks'.length q' [] h q' ks' none:=by
 obtain ⟨d,hd,hdv⟩:=F.d;refine ⟨v.self,F.fr.trans F.v.oG F.v.oR v.f,F.fz.oth v.o,rfl,hh,rfl,F.gv,⟨d,?_,hdv⟩,fun _=>rfl,fun e=>by cases e⟩;rw [qE v.o];exact hd
theorem DT {m:Mo}(S:Sd C s x f k m q) (o:aJ) (hb:Bts o.Bytes) (hl:o.Bytes.length<=9223372036854775807):∃s' m' q',ig s (some x) o=some (s',e40 o)/\mdo m o=some m'/\Sd C s' x f k m' q':=by
 obtain ⟨g,W,H,ks,op,F⟩:=S.fd;have hC:C.screen_Screen[x]? = some ⟨some f,some k⟩:=by rw [<-F.fz.sc]; exact S.sc
 have hs:∀{s':Sto}{g W H:Nat}{P:ag}{G h:List Int}{q:ag}{ks:List Nat}{op:Option Nat},Fd C s' f k g W H P G h q ks op->s'.screen_Screen[x]? = some ⟨some f,some k⟩:=fun F'=>by rw [F'.fz.sc]; exact hC
 unfold ig mdo e40;simp only [bJ,aj,aU,bsm,aS,S.sc];by_cases k0:o.Kind=0
 ·obtain ⟨s',q',ks',op',b1,b2⟩:=EI F S.bt hl hb;rw [ae k0,ae k0,ae (.inl k0),b1];exact ⟨s',_,q',rfl,rfl,hs b2,zm S.bt hb,⟨_,_,_,_,_,b2⟩⟩
 rw [ab k0,ab k0];by_cases k1:o.Kind=1
 ·obtain ⟨s',q',ks',b1,b2,b3⟩:=EG F;rw [ae k1,ae k1,ae (.inr (.inl k1)),b1];unfold lay;rw [b3];exact ⟨s',_,q',rfl,rfl,hs b2,Bts.nil,⟨_,_,_,_,_,b2⟩⟩
 rw [ab k1,ab k1];by_cases k13:o.Kind=13
 ·obtain ⟨s2,b1,b2⟩:=vZ F;obtain ⟨s',q',g',ks',c1,c2,c3,c4,c5⟩:=HA b2.v o.A o.B;have hkl:ks'.length=sd o.B:=by rw [<-c3.len,c4]; simp [rs]
  rw [ae k13,ae k13,ae (.inr (.inr k13)),b1];have hl2:lay m.P m.G=some q:=F.l;simp only [bsm,hs b2,hl2];rw [c1,c2];have F2:=b2.pen_work c3 (by rw [hkl]; exact c5);exact ⟨s',_,q',rfl,rfl,hs F2,S.bt,⟨_,_,_,_,_,F2⟩⟩
 rw [ab k13,ab k13,ab (by omega),ya];simp only [bsm,Ds];by_cases hw:w38 o=0
 ·rw [ab (by simp [hw]),ae hw];obtain ⟨s2,b1,b2⟩:=vZ F;obtain ⟨s',q',ks',c1,c2,c3,c4,c5,_⟩:=ID b2.v o hw;rw [b1];have hl2:lay m.P m.G=some q:=F.l;simp only [bsm,hs b2,hl2];rw [c1,c2];have he:e38 o=Er.nil:=by unfold e38; rw [hw]; rfl
  have F2:=b2.pen_work c3 (by rw [c4]; exact c5);exact ⟨s',_,q',by rw [he]; rfl,rfl,hs F2,S.bt,⟨_,_,_,_,_,F2⟩⟩
 ·rw [ae (by simpa using hw),ab hw];exact ⟨s,m,q,rfl,rfl,S⟩
def vw (q:ag):aH:=⟨(q.L.getD 0 dl).Cells.length,(q.L.length:Int),q.L,q.At,q.Auto⟩
theorem wF {m:Mo}(S:Sd C s x f k m q):dh s (some x)=some (vw q):=by
 obtain ⟨g,W,H,ks,op,F⟩:=S.fd;unfold dh vw;simp only [bJ,aj,aU,bsm,S.sc,F.v.p];rw [jI F.v.g,eW F.v.g,CF F.v.g,F.v.l];simp only [bsm];have hl:=F.v.len;have h1:=F.v.g.h1;rw [gdl (show 0<q.L.length by omega),(F.v.ok _ (ay (show 0<q.L.length by omega))).2,hl]
theorem Sd.ok {m:Mo}(S:Sd C s x f k m q):∃W:Nat,1<=W/\W<=1024/\1<=q.L.length/\q.L.length<=1024/\(∀l∈q.L,Okl W l)/\(vw q).Wide=(W:Int)/\Hd q.At W q.L.length:=by
 obtain ⟨g,W,H,ks,op,F⟩:=S.fd;have hl:=F.v.len;have h1:=F.v.g.h1;have h2:=F.v.g.h2;refine ⟨W,F.v.g.w1,F.v.g.w2,by omega,by omega,F.v.ok,?_,by rw [hl,F.n]; exact F.hd⟩;unfold vw;rw [gdl (show 0<q.L.length by omega),(F.v.ok _ (ay (show 0<q.L.length by omega))).2]
theorem xx (s:Sto) (w h:Int):∃s',ji s w h=some (s',some s.screen_Screen.length)/\Sd s' s' s.screen_Screen.length s.feed_Feeder.length s.place_Pen.length ⟨⟨bls (sd w) (sd h),⟨0,0,false⟩,true⟩,[],[]⟩ ⟨bls (sd w) (sd h),⟨0,0,false⟩,true⟩:=by
 obtain ⟨s1,ks,h1,v1⟩:=El (s:=s) w h;have hks:=v1.g.h1;have hW1:=v1.g.w1;obtain ⟨s2,h2,d2,e2⟩:=GC v1.self ⟨by simp only; omega,by simp only; omega,fun e=>by cases e⟩;unfold ji;rw [h1];simp only [bsm];rw [h2];simp only [bsm];have es:s1.screen_Screen=s.screen_Screen:=zZ v1.o;have ef:s1.feed_Feeder=s.feed_Feeder:=qE v1.o;have es2:s2.screen_Screen=s1.screen_Screen:=by rw [e2]; rfl
 rw [es2,es,ef];rw [ef] at d2;refine ⟨_,rfl,⟨?_,Bts.nil,⟨s.grid_Grid.length,sd w,ks.length,ks,none,?_⟩⟩⟩
 ·have:(s2.add_screen_Screen ⟨some s.feed_Feeder.length,some s.place_Pen.length⟩).screen_Screen=s2.screen_Screen++ [⟨some s.feed_Feeder.length,some s.place_Pen.length⟩]:=rfl;rw [this,es2,es];simp
 ·obtain ⟨d,hd,hdv⟩:=d2.d;refine ⟨⟨d2.v.p,⟨d2.v.g.g,d2.v.g.r,d2.v.g.h1,d2.v.g.h2,d2.v.g.w1,d2.v.g.w2⟩,d2.v.nd,d2.v.l,rfl,d2.v.f.rgp ⟨rfl,rfl,rfl⟩ ⟨rfl,rfl,rfl⟩⟩,d2.v.f.rgp ⟨rfl,rfl,rfl⟩ ⟨rfl,rfl,rfl⟩,Fz.self _ _ _ (fun y hy=>?_) (cR hd),rfl,d2.hd,rfl,fun y hy=>by simp at hy,⟨d,hd,hdv⟩,fun _=>rfl,fun e=>by cases e⟩;have hy':s2.feed_Feeder[s.feed_Feeder.length]? = some y:=hy;rw [hd] at hy';cases hy';rfl
end Go.Proofs.YtkgjnbiiiifoaaaGreatDoor
namespace Go.Proofs.YtkgjnbiiiifoaaaGreatDoor
open Go Go.Lt
theorem F5 {γ:Type}{x:Option (γ×Bool)}(h:x.map (fun q=>q.2)=some true):∃s,x=some (s,true):=by
 cases x with
 | none=>cases h
 | some q=>
  obtain ⟨a,b⟩:=q;simp only [fC,aK] at h;subst h;exact ⟨a,rfl⟩
theorem JW {f:Sto->Option (Sto×Bool)}{s:Sto}(h1:(f s).map (fun q=>q.2)=some true) (h2:((f s).bind fun q=>f q.1).map (fun q=>q.2)=some true):∃s1 s2,f s=some (s1,true)/\f s1=some (s2,true):=by
 obtain ⟨s1,e1⟩:=F5 h1;rw [e1] at h2;obtain ⟨s2,e2⟩:=F5 h2;exact ⟨s1,s2,e1,e2⟩
theorem wf8 {n:Int}(h:(Lit.int .u8 n).wf=true):0<=n/\n<=255:=by
 simp only [Lit.wf,IntKind.min,IntKind.max,IntKind.signed,IntKind.bits,ao,am,aj,aU] at h;omega
end Go.Proofs.YtkgjnbiiiifoaaaGreatDoor
namespace Go.Proofs.YtkgjnbiiiifoaaaGreatDoor
open Go Go.Lt
variable {s C:Sto}{x f k g W H:Nat}{q P:ag}{ks:List Nat}{op:Option Nat}
def Obs (l:List aJ):Prop:=∀o∈l,Bts o.Bytes/\o.Bytes.length<=9223372036854775807
theorem yD {α:Type}(f:α->Nat){l:List α}{i:Nat}(h:i<l.length):((l.take (i+1)).map f).sum=((l.take i).map f).sum+f l[i]:=by
 rw [ak h,bK,List.sum_append];simp
end Go.Proofs.YtkgjnbiiiifoaaaGreatDoor
namespace Go.Proofs.YtkgjnbiiiifoaaaGreatDoor
open Go Go.Lt
variable {s C:Sto}{x f k:Nat}{q q':ag}{m m':Mo}
def B4 (l:List aJ):Nat:=(l.map fun o=>o.Bytes.length).sum
theorem EE (l:List aJ) (hl:l.length<=9223372036854775807) (hb:∀o∈l,o.Bytes.length<=4611686018427387904):∃t,fK l=some t/\(t=false->l.length<=50/\B4 l<=600):=by
 unfold fK;refine jG (σ:=Int×Int) (τ:=Bool ⊕ Unit) (n:=min l.length 60) (fun i (s:Int×Int)=>s=((B4 (l.take i):Int),(i:Int))/\B4 (l.take i)<=600) (fun u=>match u with|.inl b=>b=true|.inr _=>B4 (l.take (min l.length 60))<=600) (fun i s hi e=>?_) (fun s e=>?_) ⟨rfl,by simp [B4]⟩ (by omega) (fun u hu=>?_)
 ·obtain ⟨rfl,hs⟩:=e;have hil:i<l.length:=by omega
  have hbi:=hb _ (ay hil);have e1:B4 (l.take (i+1))=B4 (l.take i)+l[i].Bytes.length:=yD (fun o:aJ=>o.Bytes.length) hil;simp only [aX,bsm];rw [ae (by simp; omega),bd hil];simp only [bsm,aX,bu];rw [aQ (n:=(B4 (l.take i):Int)+(l[i].Bytes.length:Int)) (by omega),aQ (n:=(i:Int)+1) (by omega)];split
  ·exact .inr ⟨_,rfl,rfl⟩
  ·rename_i hn
   simp only [aB,am,JX] at hn;exact .inl ⟨_,rfl,by rw [e1]; simp,by rw [e1]; omega⟩
 ·obtain ⟨rfl,hs⟩:=e;simp only [aX,bsm];rw [ab (by simp; omega)];exact ⟨_,rfl,hs⟩
 ·cases u with
  | inl b=>simp only at hu; exact ⟨b,rfl,fun h=>by rw [hu] at h; cases h⟩
  | inr u=>
   refine ⟨_,rfl,fun h=>?_⟩;have h1:l.length<=50:=by simp at h; omega
   rw [aG (by omega)] at hu;exact ⟨h1,hu⟩
def mr (m:Mo) (l:List aJ):Option Mo:=l.foldl (fun a o=>a.bind fun m=>mdo m o) (some m)
theorem Ij (m:Mo){l:List aJ}{i:Nat}(h:i<l.length):mr m (l.take (i+1))=(mr m (l.take i)).bind fun m=>mdo m l[i]:=by
 rw [ak h];unfold mr;rw [kw];rfl
def Non (l:List aJ) (n:Nat):Prop:=∀j o,j<n->l[j]? = some o->w40 o=0
def Fst (l:List aJ) (n j:Nat) (o:aJ):Prop:=j<n/\l[j]? = some o/\w40 o≠0/\Non l j
def Fe (l:List aJ) (n:Nat) (e:Er):Prop:=(e= .nil/\Non l n)\/∃j o,Fst l n j o/\e= .fault (j:Int) (e40 o)
theorem Non.zero (l:List aJ):Non l 0:=fun j o h=>by omega
theorem Non.succ {l:List aJ}{i:Nat}(h:Non l i) (hi:i<l.length) (hw:w40 l[i]=0):Non l (i+1):=fun j o hj ho=>by
 by_cases e:j=i
 ·subst e;rw [af hi] at ho;cases ho;exact hw
 ·exact h j o (by omega) ho
theorem Fst.succ {l:List aJ}{i j:Nat}{o:aJ}(h:Fst l i j o):Fst l (i+1) j o:=⟨Ms h.1,h.2⟩
theorem Fst.new {l:List aJ}{i:Nat}(h:Non l i) (hi:i<l.length) (hw:w40 l[i]≠0):Fst l (i+1) i l[i]:=⟨MA i,af hi,hw,h⟩
theorem IF (o:aJ):(e40 o).isNil=(w40 o==0):=by
 unfold e40 w40;split
 ·rfl
 ·exact Ds o
theorem xw (S:Sd C s x f k m q) (l:List aJ) (hl:l.length<=9223372036854775807) (hb:Obs l):
  ∃s' e m' q',dJ s (some x) l=some (s',e)/\mr m l=some m'/\Sd C s' x f k m' q'/\Fe l l.length e:=by
 suffices h:∃r,dJ s (some x) l=some r/\(∃m' q',mr m l=some m'/\Sd C r.1 x f k m' q'/\Fe l l.length r.2) by
  obtain ⟨r,h1,m',q',h2,h3,h4⟩:=h;exact ⟨r.1,r.2,m',q',h1,h2,h3,h4⟩
 unfold dJ;refine jG (n:=l.length) (fun i (a:Er×Int×Sto)=>a.2.1=(i:Int)/\∃m' q',mr m (l.take i)=some m'/\Sd C a.2.2 x f k m' q'/\Fe l i a.1)
  (fun (u:Er×Sto)=>∃m' q',mr m l=some m'/\Sd C u.2 x f k m' q'/\Fe l l.length u.1) (fun i a hi hI=>?_) (fun a hI=>?_) ⟨rfl,m,q,rfl,S,.inl ⟨rfl,Non.zero l⟩⟩ (by omega) (fun u hu=>⟨_,rfl,hu⟩)
 ·obtain ⟨e,i',st⟩:=a;obtain ⟨e1,m1,q1,hm,S1,hF⟩:=hI;simp only at e1 S1 hF;subst e1;simp only;rw [ae (dlt hi),cM hi hl];obtain ⟨hb1,hb2⟩:=hb _ (ay hi);obtain ⟨s',m2,q2,a1,a2,a3⟩:=DT S1 l[i] hb1 hb2;simp only [bd hi,bsm];rw [a1];simp only [bsm,aX,IF];have hm2:mr m (l.take (i+1))=some m2:=by rw [Ij m hi,hm]; exact a2
  rcases hF with ⟨rfl,hn⟩|⟨j,o,h1,rfl⟩
  ·by_cases hw:w40 l[i]=0
   ·rw [ab (by simp [hw])];exact .inl ⟨_,rfl,rfl,m2,q2,hm2,a3,.inl ⟨rfl,hn.succ hi hw⟩⟩
   ·rw [ae (by simp [hw,Er.isNil])];exact .inl ⟨_,rfl,rfl,m2,q2,hm2,a3,.inr ⟨i,l[i],Fst.new hn hi hw,rfl⟩⟩
  ·rw [ab (by simp [Er.isNil])];exact .inl ⟨_,rfl,rfl,m2,q2,hm2,a3,.inr ⟨j,o,h1.succ,rfl⟩⟩
 ·obtain ⟨e,i',st⟩:=a;obtain ⟨e1,m1,q1,hm,S1,hF⟩:=hI;simp only at e1 S1 hF;subst e1;refine ⟨_,by simp only; rw [ab (by simp)],m1,q1,?_,S1,hF⟩;rw [<-hm,cC]
end Go.Proofs.YtkgjnbiiiifoaaaGreatDoor
namespace Go.Proofs.YtkgjnbiiiifoaaaGreatDoor
open Go Go.Lt
structure Fl (L:List ah) (W n:Nat):Prop where
 len:L.length=n
 wd:∀l∈L,l.Cells.length=W
 w1:1<=W
 w2:W<=1024
 n1:1<=n
 n2:n<=1024
variable {L:List ah}{W n:Nat}
theorem Fl.wide (h:Fl L W n) (c:ai) (a:Bool):dp ⟨L,c,a⟩=some (W:Int):=by
 have h1:=h.len;have h2:=h.n1;unfold dp;rw [show (0:Int)=((0:Nat):Int) from rfl,bd (show 0<L.length by omega),bsm,h.wd _ (ay _)]
theorem Fl.hold (h:Fl L W n) (c:ai) (a:Bool):bY ⟨L,c,a⟩=some ⟨L,hc c W n,a⟩:=by
 unfold bY;rw [h.wide,bsm];simp only;rw [h.len,uT c h.w1 h.w2 h.n1 h.n2,bsm]
theorem Jh {c:ai}(h1:1<=n):∃i:Nat,(hc c W n).Row=(i:Int)/\i<n:=by
 refine ⟨(max 0 (min c.Row ((n:Int)-1))).toNat,?_,by omega⟩;simp only [hc];omega
theorem Jj {r k:Nat}(hr:r<n) (hk:k<W):hc ⟨(r:Int),(k:Int),false⟩ W n=⟨(r:Int),(k:Int),false⟩:=
 Ji ⟨by simp only; omega,by simp only; omega,fun e=>by cases e⟩
theorem IK (h:Fl L W n) (c:ai) (a:Bool){r k:Nat}(hr:r<n) (hk:k<W):eU ⟨L,c,a⟩ ⟨2,(r:Int),(k:Int),[]⟩=some ⟨L,⟨(r:Int),(k:Int),false⟩,a⟩:=by
 obtain ⟨i,e,hi⟩:=Jh (c:=c) (W:=W) h.n1;have hl:=h.len;have hh:go ⟨(r:Int),(k:Int),false⟩ (W:Int) (L.length:Int)=some ⟨(r:Int),(k:Int),false⟩:=by
  rw [hl,uT _ h.w1 h.w2 h.n1 h.n2,Jj hr hk]
 unfold eU;rw [h.hold,bsm];simp only;rw [e,bd (show i<L.length by omega),bsm,ae (by rfl),h.wide,bsm,hh,bsm,bsm,ab (by simp),bsm]
theorem IL (h:Fl L W n) (c:ai) (a:Bool) (x:Int):∃c',eU ⟨L,c,a⟩ ⟨12,x,0,[]⟩=some ⟨L,c',x != 0⟩:=by
 obtain ⟨i,e,hi⟩:=Jh (c:=c) (W:=W) h.n1;have hl:=h.len;unfold eU;rw [h.hold,bsm];simp only;rw [e,bd (show i<L.length by omega),bsm];exact ⟨_,rfl⟩
theorem HS (h:Fl L W n){i k d:Nat}(hi:i<n) (hd:d=1\/d=2) (hk:k+d<=W){t:List Int}(ht:t.length<=16) (hv:t.all vld=true) (hw:∀q:i<L.length,L[i].Wrap=false) (q:i<L.length):
  ∃c' z,aV ⟨L,⟨(i:Int),(k:Int),false⟩,false⟩ (d:Int) t=some (⟨L.set i ⟨pl L[i].Cells k (dD (d:Int) t),false⟩,c',false⟩,z):=by
 have hl:=h.len;have w1:=h.w1;have w2:=h.w2;have hc2:cl2 (d:Int) t W=(d,t):=by
  unfold cl2;rw [ab (by omega)]
  congr 1
  omega
 have hfx:fx t=t:=by
  unfold fx;rw [aG ht]
  conv=>rhs; rw [<-List.map_id t]
  apply dt;intro x hx;unfold gF;rw [ae (List.all_eq_true.1 hv x hx)];rfl
 unfold aV;rw [h.hold,bsm,Jj hi (by omega),h.wide,bsm,CL,bsm,hc2,ab (by simp),bsm];simp only;have hq:(bw (((d:Nat):Int)==2) (some ((k:Int)==w64 ((W:Int)-1))))=some false:=by
  rw [aX,aQ (by omega)]
  congr 1
  rw [mu];by_cases e:d=2
  ·right; simp; omega
  ·left; simp; omega
 rw [hq,bsm,ab (by simp),bsm,Cu _ _ (by omega),hfx,bsm];simp only;have hpaint:bT ⟨L,⟨(i:Int),(k:Int),false⟩,false⟩ (i:Int) (k:Int) (dD (d:Int) t)=some ⟨L.set i ⟨pl L[i].Cells k (dD (d:Int) t),false⟩,⟨(i:Int),(k:Int),false⟩,false⟩:=by
  unfold bT;rw [bd q,bsm,bsm,tn _ _ _ _ (by rw [h.wd _ (ay q)]; omega) (by omega) (by rw [oL d hd]; omega),bsm];unfold cu;have h2:=h.n2;rw [oB _ _ (by simp; omega),bW,bsm,bd q,bsm,kR q,bsm,bsm];simp only [hw q,pw,iB]
 rw [hpaint,bsm];simp only;rw [vS _ hd w1 w2 (by simp only; omega),bsm];exact ⟨_,_,rfl⟩
def dr (l:List aa) (k:Nat):List aa:=(List.range l.length).map fun j=>if j<k\/(j=k/\kd l j=3) then l.getD j bl else bl
theorem oA (l:List aa) (k:Nat):(dr l k).length=l.length:=by simp [dr]
theorem vn {l:List aa}{k j:Nat}(h:j<l.length):(dr l k)[j]? = some (if j<k\/(j=k/\kd l j=3) then l.getD j bl else bl):=by simp [dr,h]
theorem Jg {l:List aa}{k j:Nat}:kd (dr l k) j=if j<k\/(j=k/\kd l j=3) then kd l j else 0:=by
 rcases aE j l.length with h|h
 ·have e:(dr l k).getD j bl=if j<k\/(j=k/\kd l j=3) then l.getD j bl else bl:=by simp [List.getD,vn h]
  rw [<-mM (dr l k),e];split
  ·exact mM l j
  ·rfl
 ·rw [lJ (by rw [oA]; exact h),lJ h];split <;> rfl
theorem Kl {l:List aa}:dr l l.length=l:=by
 apply bi;intro j;rcases aE j l.length with h|h
 ·rw [vn h,ae (.inl h)];simp [List.getD,af h]
 ·rw [az (by rw [oA]; exact h),az h]
theorem Dt {l:List aa}(hs:Snd l):dr l 0=List.replicate l.length bl:=by
 apply bi;intro j;rcases aE j l.length with h|h
 ·rw [vn h,ab,jc,ae h];rintro (q|⟨rfl,q⟩)
  ·omega
  ·have:=(hs.three q).1; omega
 ·rw [az (by rw [oA]; exact h),az (by simpa using h)]
theorem IJ {l:List aa}(hs:Snd l){k:Nat}(hk:k<l.length) (ht:l[k].Text.length=0):dr l (k+1)=dr l k:=by
 have hr:=(hs k hk).1;have hK:l[k].Kind=0\/l[k].Kind=3:=by
  rcases mL hr with ⟨a,_⟩|⟨a,_⟩|⟨_,a,_⟩
  ·exact .inl a
  ·exact .inr a
  ·omega
 have hTx:l[k].Text= []:=dm ht;apply bi;intro j;rcases aE j l.length with h|h
 ·rw [vn h,vn h]
  congr 1
  by_cases e1:j<k
  ·rw [ae (.inl (by omega)),ae (.inl e1)]
  ·by_cases e2:j=k
   ·subst e2;rw [ae (.inl (by omega))];split
    ·rfl
    ·rename_i hn
     have:l[j].Kind=0:=by
      rcases hK with a|a
      ·exact a
      ·exact absurd (.inr ⟨rfl,by rw [jy h]; exact a⟩) hn
     simp only [List.getD,af h,Mz];have e:l[j]=⟨l[j].Kind,l[j].Text⟩:=rfl;rw [e,this,hTx];rfl
   ·rw [ab (show ¬(j<k\/(j=k/\kd l j=3)) by omega),ab];rintro (q|⟨rfl,q⟩)
    ·omega
    ·have:=(hs.three q).2;rw [show k+1-1=k by omega,jy hk] at this;omega
 ·rw [az (by rw [oA]; exact h),az (by rw [oA]; exact h)]
theorem GG {l:List aa}(hs:Snd l){k:Nat}(hk:k<l.length) (ht:1<=l[k].Text.length):pl (dr l k) k (dD l[k].Kind l[k].Text)=dr l (k+1)/\(l[k].Kind=1\/(l[k].Kind=2/\k+2<=l.length)):=by
 have hr:=(hs k hk).1;have hne:l[k].Text≠ []:=by intro e; rw [e] at ht; simp at ht
 have hK:l[k].Kind=1\/l[k].Kind=2:=by
  rcases mL hr with ⟨_,a⟩|⟨_,a⟩|⟨a,_⟩
  ·exact absurd a hne
  ·exact absurd a hne
  ·exact a
 have n3:kd l k≠3:=by rw [jy hk]; omega
 have np:∀j,j+1=k->kd l j≠2:=fun j e q=>n3 (by have:=hs.two q; rw [e] at this; exact this);have nn:kd l (k+1)=3->l[k].Kind=2:=fun q=>by
  have:=(hs.three q).2;rw [show k+1-1=k by omega,jy hk] at this;exact this
 have gD:∀{m:List aa}{j:Nat}(h:j<m.length),m.getD j bl=m[j]:=fun h=>by simp [List.getD,af h]
 have hgk:l.getD k bl=⟨l[k].Kind,l[k].Text⟩:=gD hk;rcases hK with h1|h2
 ·refine ⟨?_,.inl h1⟩;have hst:dD l[k].Kind l[k].Text= [⟨1,l[k].Text⟩]:=by rw [h1]; unfold dD; rw [ab hne,ab (by decide)]
  rw [hst];apply bi;intro j;rcases aE j l.length with h|h
  ·rw [se (by rw [oA]; exact h),vn h]
   congr 1
   unfold pc;simp only [aM,bf];by_cases e:j=k
   ·subst e;rw [ae (by omega),ae (.inl (by omega)),hgk,h1];simp
   ·rw [ab (by omega),ab]
    ·have:(dr l k).getD j bl=if j<k\/(j=k/\kd l j=3) then l.getD j bl else bl:=by simp [List.getD,vn h]
     rw [this];by_cases e2:j<k
     ·rw [ae (.inl e2),ae (.inl (by omega))]
     ·rw [ab (by omega),ab];rintro (q|⟨q,q2⟩)
      ·omega
      ·subst q; have:=nn q2; omega
    ·unfold tch;simp only [aB,ao,am,Jg];rintro ((q|⟨⟨q1,q2⟩,q3⟩)|⟨⟨q1,q2⟩,q3⟩)
     ·omega
     ·have:=np j (by omega);split at q1
      ·exact this q1
      ·cases q1
     ·rw [ab (by omega)] at q1;cases q1
  ·rw [az (by rw [jq,oA]; exact h),az (by rw [oA]; exact h)]
 ·have h3:kd l (k+1)=3:=(hs k hk).2.1 h2;have hk1:k+1<l.length:=vd (by rw [h3]; decide);refine ⟨?_,.inr ⟨h2,by omega⟩⟩;have hst:dD l[k].Kind l[k].Text= [⟨2,l[k].Text⟩,⟨3,[]⟩]:=by rw [h2]; unfold dD; rw [ab hne,ae (by decide)]
  have hg1:l.getD (k+1) bl=⟨3,[]⟩:=by
   rw [gD hk1];have hk3:l[k+1].Kind=3:=by rw [<-jy hk1]; exact h3
   have hx:l[k+1].Text= []:=by
    rcases mL (hs (k+1) hk1).1 with ⟨_,a⟩|⟨_,a⟩|⟨a,_⟩
    ·exact a
    ·exact a
    ·omega
   have e:l[k+1]=⟨l[k+1].Kind,l[k+1].Text⟩:=rfl;rw [e,hk3,hx]
  rw [hst];apply bi;intro j;rcases aE j l.length with h|h
  ·rw [se (by rw [oA]; exact h),vn h]
   congr 1
   unfold pc;simp only [aM,bf];by_cases e:j=k
   ·subst e;rw [ae (by omega),ae (.inl (by omega)),hgk,h2];simp
   ·by_cases e1:j=k+1
    ·subst e1;rw [ae (by omega),ae (.inr ⟨rfl,h3⟩),hg1];simp
    ·rw [ab (by omega),ab]
     ·have:(dr l k).getD j bl=if j<k\/(j=k/\kd l j=3) then l.getD j bl else bl:=by simp [List.getD,vn h]
      rw [this];by_cases e2:j<k
      ·rw [ae (.inl e2),ae (.inl (by omega))]
      ·rw [ab (by omega),ab (by omega)]
     ·unfold tch;simp only [aB,ao,am,Jg];rintro ((q|⟨⟨q1,q2⟩,q3⟩)|⟨⟨q1,q2⟩,q3⟩)
      ·omega
      ·have:=np j (by omega);split at q1
       ·exact this q1
       ·cases q1
      ·rw [ab (by omega)] at q1;cases q1
  ·rw [az (by rw [jq,oA]; exact h),az (by rw [oA]; exact h)]
end Go.Proofs.YtkgjnbiiiifoaaaGreatDoor
namespace Go.Proofs.YtkgjnbiiiifoaaaGreatDoor
open Go Go.Lt
theorem Lq {a:Int}(h:ld a=1):fk [] [a]=([a],[]):=by
 simp [fk,gx,rs0,h]
theorem Lp {a b:Int}(h:ld a=2) (hb:slo a<=b/\b<=shi a):fk [] [a,b]=([(a-192)*64+(b-128)],[]):=by
 have e0:gx [] a=([],[a]):=by simp [gx,rs0,h]
 have e1:bg [a,b]=2:=by simp only [bg]; rw [ae ⟨by omega,hb⟩,h]
 have e2:gx [a] b=([(a-192)*64+(b-128)],[]):=by
  unfold gx;rw [ab (by simp),xb,e1,ab (by simp),ae (by decide)];simp [vl,b0,h]
 simp [fk,e0,e2]
theorem Lo {a b c:Int}(h:ld a=3) (hb:slo a<=b/\b<=shi a) (hc:128<=c/\c<=191):fk [] [a,b,c]=([((a-224)*64+(b-128))*64+(c-128)],[]):=by
 have e0:gx [] a=([],[a]):=by simp [gx,rs0,h]
 have e1:bg [a,b]=3:=by simp only [bg]; rw [ae ⟨by omega,hb⟩,h]
 have e2:gx [a] b=([],[a,b]):=by
  unfold gx;rw [ab (by simp),xb,e1,ae (by simp)]
 have e3:bg [a,b,c]=3:=by simp only [bg]; rw [ae ⟨by omega,hb.1,hb.2,hc⟩,h]
 have e4:gx [a,b] c=([((a-224)*64+(b-128))*64+(c-128)],[]):=by
  unfold gx;rw [ab (by simp),show [a,b]++ [c]= [a,b,c] from rfl,e3,ab (by simp),ae (by decide)];simp [vl,b0,h]
 simp [fk,e0,e2,e4]
theorem Ln {a b c d:Int}(h:ld a=4) (hb:slo a<=b/\b<=shi a) (hc:128<=c/\c<=191) (hd:128<=d/\d<=191):fk [] [a,b,c,d]=([(((a-240)*64+(b-128))*64+(c-128))*64+(d-128)],[]):=by
 have e0:gx [] a=([],[a]):=by simp [gx,rs0,h]
 have e1:bg [a,b]=4:=by simp only [bg]; rw [ae ⟨by omega,hb⟩,h]
 have e2:gx [a] b=([],[a,b]):=by
  unfold gx;rw [ab (by simp),xb,e1,ae (by simp)]
 have e3:bg [a,b,c]=4:=by simp only [bg]; rw [ae ⟨by omega,hb.1,hb.2,hc⟩,h]
 have e4:gx [a,b] c=([],[a,b,c]):=by
  unfold gx;rw [ab (by simp),show [a,b]++ [c]= [a,b,c] from rfl,e3,ae (by simp)]
 have e5:bg [a,b,c,d]=4:=by simp only [bg]; rw [ae ⟨h,hb.1,hb.2,hc.1,hc.2,hd⟩]
 have e6:gx [a,b,c] d=([(((a-240)*64+(b-128))*64+(c-128))*64+(d-128)],[]):=by
  unfold gx;rw [ab (by simp),show [a,b,c]++ [d]= [a,b,c,d] from rfl,e5,ab (by simp),ae (by decide)];simp [vl,b0,h]
 simp [fk,e0,e2,e4,e6]
theorem GD {r:Int}(h:vld r=true):fk [] (frm r)=([r],[]):=by
 obtain ⟨h0,h1⟩:=zH h;have hs:r<55296\/57343<r:=by
  unfold vld at h;simp only [ao,aB,am] at h;exact h.2
 unfold frm;split
 ·rename_i q
  rw [Lq (by unfold ld; rw [ae q])]
 ·split
  ·rename_i q1 q2
   rw [Lp (by unfold ld; rw [ab (by omega),ae (by omega)]) (by unfold slo shi; rw [ab (by omega),ab (by omega),ab (by omega),ab (by omega)]; omega)]
   congr 2
   omega
  ·split
   ·rename_i q1 q2 q3
    rw [Lo (by unfold ld; rw [ab (by omega),ab (by omega),ae (by omega)]) (by unfold slo shi; (repeat' split) <;> omega) (by omega)]
    congr 2
    omega
   ·rename_i q1 q2 q3
    rw [Ln (by unfold ld; rw [ab (by omega),ab (by omega),ab (by omega),ae (by omega)]) (by unfold slo shi; (repeat' split) <;> omega) (by omega) (by omega)]
    congr 2
    omega
theorem zz:∀{t:List Int},(∀x∈t,vld x=true)->fk [] (t.flatMap frm)=(t,[])
 | [],_=>rfl
 | r::t,h=>by
  rw [ug,zn,GD (h r AM),zz fun x hx=>h x (qz _ hx)];rfl
theorem IA {r:Int}(h:vld r=true):∀x∈frm r,0<=x/\x<=255:=by
 obtain ⟨h0,h1⟩:=zH h;intro x hx;unfold frm at hx;split at hx
 ·simp at hx; omega
 ·split at hx
  ·simp at hx; omega
  ·split at hx
   ·simp at hx; omega
   ·simp at hx; omega
end Go.Proofs.YtkgjnbiiiifoaaaGreatDoor
namespace Go.Proofs.YtkgjnbiiiifoaaaGreatDoor
open Go Go.Lt
variable {L:List ah}{W n:Nat}{m:Mo}
theorem Ik (l:List aJ):l.foldl (fun a o=>a.bind fun m=>mdo m o) (none:Option Mo)=none:=by
 induction l with
 | nil=>rfl
 | cons a t ih=>exact ih
theorem xI (m:Mo) (a b:List aJ):mr m (a++b)=(mr m a).bind fun m=>mr m b:=by
 unfold mr;rw [kw]
 cases List.foldl (fun a o=>a.bind fun m=>mdo m o) (some m) a with
 | none=>exact Ik b
 | some x=>rfl
theorem tq (m:Mo) (o:aJ) (l:List aJ):mr m (o::l)=(mdo m o).bind fun m=>mr m l:=xI m [o] l
theorem CD (m:Mo):mr m []=some m:=rfl
def Dn (m:Mo) (L:List ah) (au:Bool):Prop:=m.h= []/\∃c,lay m.P m.G=some ⟨L,c,au⟩
theorem An (h:Fl L W n){au:Bool}(D:Dn m L au){r k:Nat}(hr:r<n) (hk:k<W):mdo m ⟨2,(r:Int),(k:Int),[]⟩=some ⟨⟨L,⟨(r:Int),(k:Int),false⟩,au⟩,[],[]⟩:=by
 obtain ⟨c,hc⟩:=D.2;unfold mdo;rw [ab (by simp),ab (by simp),ab (by simp),ae (by rfl),hc,bsm,IK h c au hr hk,D.1];rfl
theorem Dw (h:Fl L W n){au:Bool}(D:Dn m L au) (x:Int):∃m',mdo m ⟨12,x,0,[]⟩=some m'/\Dn m' L (x != 0):=by
 obtain ⟨c,hc⟩:=D.2;obtain ⟨c',e⟩:=IL h c au x;unfold mdo;rw [ab (by simp),ab (by simp),ab (by simp),ae (by rfl),hc,bsm,e,D.1];exact ⟨_,rfl,rfl,c',rfl⟩
theorem Io {P:ag}{t:List Int}(hc:cls pj pr t= [t]) (hs:sil (t.headD 0)=false) (ht:t.length<=16):lay P t=(aV P (w16 t) t).map (·.1):=by
 unfold lay;rw [hc];show (vX P t).bind (fun b=>some b)=_;unfold vX;rw [ab (by rw [hs]; simp),aG ht]
 cases (aV P (w16 t) t) <;> rfl
set_option maxRecDepth 100000 in
theorem DD:cls pj pr [65533]= [[65533]]/\w16 [65533]=1:=⟨by kernel_rfl,by kernel_rfl⟩
theorem II {c:aa}(h:drw c=true) (hr:rgt c=true) (ht:1<=c.Text.length):cls pj pr c.Text= [c.Text]/\sil (c.Text.headD 0)=false/\w16 c.Text=c.Kind/\c.Text.length<=16/\c.Text.all vld=true:=by
 rcases mL hr with ⟨_,e⟩|⟨_,e⟩|⟨hK,_,h2,h3⟩
 ·rw [e] at ht; simp at ht
 ·rw [e] at ht; simp at ht
 have n0:(c.Kind==0)=false:=by simp; omega
 have n3:(c.Kind==3)=false:=by simp; omega
 unfold drw at h;rw [n0,n3,dz,dz] at h;rcases aB _ _▸ h with q|q
 ·simp only [ao,aS,am] at q;obtain ⟨q1,q2⟩:=q;rw [q2,q1];exact ⟨DD.1,rfl,DD.2,by simp,rfl⟩
 ·simp only [ao,cy,aS] at q;obtain ⟨q1,q2,q3⟩:=q;have hone:cls pj pr c.Text= [c.Text]:=by
   obtain ⟨f,_,_⟩:=qr (pj:=pj) (pr:=pr) c.Text
   match hcl:cls pj pr c.Text,q2 with
   | [x],_=>
    rw [hcl] at f;simp at f;rw [f]
  refine ⟨hone,?_,?_,h2,h3⟩
  ·match hx:c.Text,ht with
   | a::t,_=>
    rw [hx] at q1;simp only [List.any_cons,ny] at q1;exact q1.1
  ·unfold w16;rw [aG h2];exact q3
theorem Km (h:Fl L W n) (D:Dn m L false){l:List aa}(hs:Snd l) (hl:l.length=W){i k:Nat}(hi:i<n) (q:i<L.length) (hL:L[i]=⟨dr l k,false⟩) (hk:k<l.length) (hd:drw l[k]=true):
  ∃m',mr m (cop (i:Int) (k:Int) l[k])=some m'/\Dn m' (L.set i ⟨dr l (k+1),false⟩) false:=by
 unfold cop;by_cases ht:l[k].Text.length=0
 ·rw [ae ht,IJ hs hk ht,<-hL,xc];exact ⟨m,rfl,D⟩
 ·rw [ab ht];obtain ⟨o1,o2,o3,o4,o5⟩:=II hd (hs k hk).1 (by omega);obtain ⟨p1,p2⟩:=GG hs hk (by omega);rw [tq,An h D hi (by omega),bsm,tq];have hf:mdo ⟨⟨L,⟨(i:Int),(k:Int),false⟩,false⟩,[],[]⟩ ⟨0,0,0,l[k].Text.flatMap frm⟩=some ⟨⟨L,⟨(i:Int),(k:Int),false⟩,false⟩,l[k].Text,[]⟩:=by
   unfold mdo;rw [ae rfl];simp only [zz (fun x hx=>List.all_eq_true.1 o5 x hx),bW]
  rw [hf,bsm,CD];refine ⟨_,rfl,rfl,?_⟩;obtain ⟨d,e,hdd,hdk⟩:∃d:Nat,l[k].Kind=(d:Int)/\(d=1\/d=2)/\k+d<=W:=by
   rcases p2 with a|⟨a,b⟩
   ·exact ⟨1,a,.inl rfl,by omega⟩
   ·exact ⟨2,a,.inr rfl,by omega⟩
  obtain ⟨c',z,hp⟩:=HS h hi hdd hdk o4 o5 (fun _=>by rw [hL]) q;simp only;rw [Io o1 o2 o4,o3,e,hp];refine ⟨c',?_⟩;rw [hL];simp only;rw [<-e,p1];rfl
def DL (ls:List ah) (W i k:Nat):List ah:=(List.range ls.length).map fun j=>⟨if j<i then (ls.getD j dl).Cells else if j=i then dr (ls.getD j dl).Cells k else List.replicate W bl,false⟩
variable {ls:List ah}
theorem pU (i k:Nat):(DL ls W i k).length=ls.length:=by simp [DL]
theorem vK {i k j:Nat}(h:j<ls.length):(DL ls W i k)[j]? = some ⟨if j<i then (ls.getD j dl).Cells else if j=i then dr (ls.getD j dl).Cells k else List.replicate W bl,false⟩:=by simp [DL,h]
theorem qH {j:Nat}(h:j<ls.length):ls.getD j dl=ls[j]:=by simp [List.getD,af h]
structure Lns (ls:List ah) (W:Nat):Prop where
 ok:∀l∈ls,l.Cells.length=W/\Snd l.Cells/\∀c∈l.Cells,drw c=true
 w1:1<=W
 w2:W<=1024
 n1:1<=ls.length
 n2:ls.length<=1024
theorem Lns.fl (h:Lns ls W) (i k:Nat):Fl (DL ls W i k) W ls.length:=by
 refine ⟨pU i k,fun l hl=>?_,h.w1,h.w2,h.n1,h.n2⟩;obtain ⟨j,hj,rfl⟩:=List.mem_iff_getElem.1 hl;have hj':j<ls.length:=by rw [pU] at hj; exact hj
 have e:=vK (W:=W) (i:=i) (k:=k) hj';rw [af hj] at e;rw [aL e];have hw:=(h.ok _ (ay hj')).1;simp only [qH hj'];split
 ·exact hw
 ·split
  ·rw [oA]; exact hw
  ·simp
theorem KH {i k:Nat}(hi:i<ls.length):(DL ls W i k).set i ⟨dr ls[i].Cells (k+1),false⟩=DL ls W i (k+1):=by
 apply bi;intro j;by_cases e:i=j
 ·subst e;rw [bp (by rw [pU]; exact hi),vK hi,qH hi,ab (by omega),ae rfl]
 ·rw [aW e];rcases aE j ls.length with hj|hj
  ·rw [vK hj,vK hj,ab (show ¬j=i by omega),ab (show ¬j=i by omega)]
  ·rw [az (by rw [pU]; exact hj),az (by rw [pU]; exact hj)]
theorem I7 (h:Lns ls W){i:Nat}(hi:i<ls.length):DL ls W i ls[i].Cells.length=DL ls W (i+1) 0:=by
 apply bi;intro j;rcases aE j ls.length with hj|hj
 ·rw [vK hj,vK hj]
  congr 2
  by_cases e1:j<i
  ·rw [ae e1,ae (by omega)]
  ·by_cases e2:j=i
   ·subst e2;rw [ab (by omega),ae rfl,ae (by omega),qH hj,Kl]
   ·rw [ab e1,ab e2,ab (by omega)];split
    ·obtain ⟨a,b,_⟩:=h.ok _ (ay hj);rw [qH hj,Dt b,a]
    ·rfl
 ·rw [az (by rw [pU]; exact hj),az (by rw [pU]; exact hj)]
theorem I6 (h:Lns ls W):DL ls W 0 0=bls W ls.length:=by
 apply bi;intro j;rcases aE j ls.length with hj|hj
 ·obtain ⟨a,b,_⟩:=h.ok _ (ay hj);unfold bls;rw [vK hj,jc,ae hj,ab (by omega)]
  congr 2
  split
  ·rw [qH hj,Dt b,a]
  ·rfl
 ·rw [az (by rw [pU]; exact hj),az (by simpa [bls] using hj)]
theorem KI:DL ls W ls.length 0=ls.map fun l=>⟨l.Cells,false⟩:=by
 apply bi;intro j;rcases aE j ls.length with hj|hj
 ·rw [vK hj,ae hj,qH hj];simp [af hj]
 ·rw [az (by rw [pU]; exact hj),az (by simpa using hj)]
theorem Du (h:Lns ls W){i:Nat}(hi:i<ls.length) (D:Dn m (DL ls W i 0) false):∀k,k<=ls[i].Cells.length->∃m',mr m (lop (i:Int) ls[i].Cells k)=some m'/\Dn m' (DL ls W i k) false
 | 0,_=>⟨m,rfl,D⟩
 | k+1,hk=>by
  obtain ⟨m1,h1,D1⟩:=Du h hi D k (by omega);obtain ⟨a,b,c⟩:=h.ok _ (ay hi);have hq:i<(DL ls W i k).length:=by rw [pU]; exact hi
  have hL:(DL ls W i k)[i]=⟨dr ls[i].Cells k,false⟩:=by
   have e:=vK (W:=W) (i:=i) (k:=k) hi;rw [af hq] at e;rw [aL e,ab (by omega),ae rfl,qH hi]
  obtain ⟨m2,h2,D2⟩:=Km (h.fl i k) D1 b a hi hq hL (show k<ls[i].Cells.length by omega) (c _ (ay _));rw [KH hi] at D2;refine ⟨m2,?_,D2⟩;rw [xJ _ (show k<ls[i].Cells.length by omega),xI,h1,bsm,h2]
theorem BJ (h:Lns ls W) (D:Dn m (DL ls W 0 0) false):∀i,i<=ls.length->∃m',mr m (yE ls i)=some m'/\Dn m' (DL ls W i 0) false
 | 0,_=>⟨m,rfl,D⟩
 | i+1,hi=>by
  obtain ⟨m1,h1,D1⟩:=BJ h D i (by omega);obtain ⟨m2,h2,D2⟩:=Du h (show i<ls.length by omega) D1 _ (av _);rw [I7 h (show i<ls.length by omega)] at D2;refine ⟨m2,?_,D2⟩;rw [vV (show i<ls.length by omega),xI,h1,bsm,h2]
theorem Lu {v:aH}{r k:Nat}(h:Lns v.Lines W) (hr:v.At.Row=(r:Int)) (hk:v.At.Col=(k:Int)) (hr2:r<v.Lines.length) (hk2:k<W):
  mr ⟨⟨bls W v.Lines.length,⟨0,0,false⟩,true⟩,[],[]⟩ (tP v)=some ⟨⟨v.Lines.map fun l=>⟨l.Cells,false⟩,⟨v.At.Row,v.At.Col,false⟩,v.Auto⟩,[],[]⟩:=by
 have D0:Dn ⟨⟨bls W v.Lines.length,⟨0,0,false⟩,true⟩,[],[]⟩ (DL v.Lines W 0 0) true:=⟨rfl,⟨0,0,false⟩,by rw [I6 h]; rfl⟩;obtain ⟨m1,h1,D1⟩:=Dw (h.fl 0 0) D0 0;obtain ⟨m2,h2,D2⟩:=BJ h D1 _ (av _);have hF:=h.fl v.Lines.length 0;rw [KI] at D2 hF;unfold tP;rw [xI,xI,tq,h1,bsm,h2,bsm]
 cases v.Auto with
 | false=>
  rw [ab (by simp),CD,bsm,tq,hr,hk,An hF D2 hr2 hk2];rfl
 | true=>
  obtain ⟨m3,h3,D3⟩:=Dw hF D2 1;rw [ae rfl,tq,h3,bsm,CD,bsm,tq,hr,hk,An hF D3 hr2 hk2];rfl
end Go.Proofs.YtkgjnbiiiifoaaaGreatDoor
namespace Go.Proofs.YtkgjnbiiiifoaaaGreatDoor
open Go Go.Lt
theorem VwR.bare {v:aH}(h:VwR v):VwR (bare v):=by
 refine ⟨by simpa [Go.Proofs.YtkgjnbiiiifoaaaGreatDoor.bare] using h.1,fun l hl=>?_⟩;obtain ⟨x,hx,rfl⟩:=List.mem_map.1 hl;exact h.2 x hx
def Dop (o:aJ):Prop:=w40 o=0/\Bts o.Bytes/\o.Bytes.length<=9223372036854775807
theorem tw (k a b:Int) (h:k=2\/k=12):Dop ⟨k,a,b,[]⟩:=by
 refine ⟨?_,fun x hx=>(by cases hx),by simp⟩;unfold w40 w38;simp only;rw [ab (by omega),ab (by omega),ab (by omega)]
theorem GH {t:List Int}(h1:t.length<=16) (h2:t.all vld=true):Dop ⟨0,0,0,t.flatMap frm⟩:=by
 refine ⟨by unfold w40; rw [ae (.inl rfl)],fun x hx=>?_,?_⟩
 ·obtain ⟨r,hr,hx⟩:=List.mem_flatMap.1 hx;have:=IA (List.all_eq_true.1 h2 r hr) x hx;exact this
 ·have:=BE t;simp only;omega
theorem IR {r k:Int}{c:aa}(h:rgt c=true):∀o∈cop r k c,Dop o:=fun o ho=>by
 unfold cop at ho;split at ho
 ·cases ho
 ·rename_i q
  rcases mL h with ⟨_,e⟩|⟨_,e⟩|⟨_,_,h2,h3⟩
  ·exact absurd (by rw [e]; rfl) q
  ·exact absurd (by rw [e]; rfl) q
  ·rcases List.mem_cons.1 ho with e|ho
   ·subst e; exact tw _ _ _ (.inl rfl)
   ·rw [List.mem_singleton.1 ho];exact GH h2 h3
theorem Ga {ls:List ah}(h:∀l∈ls,Snd l.Cells) (n:Nat):∀o∈yE ls n,Dop o:=fun o ho=>by
 unfold yE at ho;obtain ⟨i,_,ho⟩:=List.mem_flatMap.1 ho;split at ho
 ·rename_i l hl
  have hm:=qy hl;unfold lop at ho;obtain ⟨j,_,ho⟩:=List.mem_flatMap.1 ho;split at ho
  ·rename_i c hc
   exact IR (xe (h l hm) c (qy hc)) o ho
  ·cases ho
 ·cases ho
theorem Ii {v:aH}(h:∀l∈v.Lines,Snd l.Cells):∀o∈tP v,Dop o:=fun o ho=>by
 unfold tP at ho;rcases List.mem_append.1 ho with ho|ho
 ·rcases List.mem_append.1 ho with ho|ho
  ·rcases List.mem_cons.1 ho with e|ho
   ·subst e; exact tw _ _ _ (.inr rfl)
   ·exact Ga h _ o ho
  ·split at ho
   ·rw [List.mem_singleton.1 ho]; exact tw _ _ _ (.inr rfl)
   ·cases ho
 ·rw [List.mem_singleton.1 ho]; exact tw _ _ _ (.inl rfl)
theorem D4 {v:aH}(P:zc v) (hL:v.Lines.length<=100) (hc:∀l∈v.Lines,l.Cells.length<=400) (s:Sto):
  ∃s1 x s2,ji s v.Wide v.High=some (s1,x)/\dJ s1 x (tP v)=some (s2,Er.nil)/\dh s2 x=some (bare v):=by
 have Q:=P.1;obtain ⟨W,hW⟩:∃W:Nat,v.Wide=(W:Int):=⟨v.Wide.toNat,by have:=Q.w1; omega⟩;obtain ⟨r,hr⟩:∃r:Nat,v.At.Row=(r:Int):=⟨v.At.Row.toNat,by have:=Q.cur.1.1; omega⟩;obtain ⟨k,hk⟩:∃k:Nat,v.At.Col=(k:Int):=⟨v.At.Col.toNat,by have:=Q.cur.2.1.1; omega⟩;have w1:=Q.w1; have w2:=Q.w2; have h1:=Q.h1; have h2:=Q.h2; have hh:=Q.high;have c1:=Q.cur.1.2; have c2:=Q.cur.2.1.2;have ln:Lns v.Lines W:=⟨fun l hl=>⟨by have:=(Q.lines l hl).1; omega,(Q.lines l hl).2,P.2 l hl⟩,by omega,by omega,by omega,by omega⟩;obtain ⟨s1,n1,S1⟩:=xx s v.Wide v.High;have e1:sd v.Wide=W:=by rw [hW]; exact zj (by omega) (by omega)
 have e2:sd v.High=v.Lines.length:=by rw [hh]; exact zj (by omega) (by omega)
 rw [e1,e2] at S1;have hd:=Ii (v:=v) fun l hl=>(Q.lines l hl).2;have hlen:=Ih (v:=v);have hcn:=xn v.Lines hc v.Lines.length (av _);obtain ⟨s2,e,m',q',r1,r2,S2,F⟩:=xw S1 (tP v) (by omega) fun o ho=>⟨(hd o ho).2.1,(hd o ho).2.2⟩;rw [Lu ln hr hk (by omega) (by omega)] at r2;obtain rfl:=aL r2;have he:e=Er.nil:=by
  rcases F with ⟨q,_⟩|⟨j,o,q,_⟩
  ·exact q
  ·exact absurd ((hd o (qy q.2.1)).1) q.2.2.1
 subst he;have hq:q'=⟨v.Lines.map fun l=>⟨l.Cells,false⟩,⟨v.At.Row,v.At.Col,false⟩,v.Auto⟩:=by
  obtain ⟨g,W',H,ks,op,Fd'⟩:=S2.fd;have:=Fd'.l;exact (aL this).symm
 have hv:=wF S2;refine ⟨s1,_,s2,n1,r1,?_⟩;rw [hv,hq]
 congr 1
 unfold vw bare;have h0:0<v.Lines.length:=by omega
 have hw:=(ln.ok _ (ay h0)).1;simp only [dF];rw [<-hh]
 congr 1
 rw [hW];simp [List.getD,af h0,hw]
end Go.Proofs.YtkgjnbiiiifoaaaGreatDoor
namespace Go.Proofs.YtkgjnbiiiifoaaaGreatDoor
open Go Go.Lt
set_option maxRecDepth 100000
theorem Jx:(eR ⟨[],[],[],[],[],[],[],[]⟩).map (fun q=>q.2)=some true:=by kernel_rfl
theorem Jw:((eR ⟨[],[],[],[],[],[],[],[]⟩).bind fun q=>eR q.1).map (fun q=>q.2)=some true:=by kernel_rfl
theorem yC (d:dZ) (l:List aJ) (hl:l.length<=9223372036854775807) (hb:Obs l) (hs:∀o∈l,o.Bytes.length<=4611686018427387904):∃st,fv ⟨[],[],[],[],[],[],[],[]⟩ d l=some (st,true):=by
 unfold fv;obtain ⟨s1,s2,h1,h2⟩:=JW Jx Jw;obtain ⟨t,ht,ht2⟩:=EE l hl hs;rw [h1];simp only [bsm,cP,dR,ht];by_cases hg:t=true
 ·rw [ae hg,h2];exact ⟨_,rfl⟩
 rw [ab hg];unfold jB;obtain ⟨s3,h3,S3⟩:=xx s1 (w64 (1+(w64 ((IntKind.u64.wrap d.W).tmod 10)))) (w64 (1+(w64 ((IntKind.u64.wrap d.H).tmod 6))));obtain ⟨s4,e,m1,q1,a1,a2,S4,a4⟩:=xw S3 l hl hb;rw [h3];simp only [bsm,a1,wF S4];obtain ⟨W,w1,w2,n1,n2,hk,hwd,_⟩:=S4.ok;have hh:(vw q1).High=(q1.L.length:Int):=rfl;have hL0:(vw q1).Lines=q1.L:=rfl;generalize hv:vw q1=v at *;unfold jA;rw [aX,bsm,bsm];by_cases hsm:(decide (v.Wide<=60) && decide (v.High<=60))=false
 ·rw [hsm];exact ⟨_,rfl⟩
 rw [Bool.not_eq_false] at hsm;rw [hsm,ab (by simp)];simp only [ao,am] at hsm;have hL:v.Lines.length<=100:=by rw [hL0]; omega
 have hcW:∀x∈v.Lines,x.Cells.length=W:=fun x hx=>(hk x (by rw [<-hL0]; exact hx)).2;have hc:∀x∈v.Lines,x.Cells.length<=400:=fun x hx=>by have:=hcW x hx; omega
 obtain ⟨b2,c1,c2⟩:=Ef v hL hc;have hbr:=Cw v (by omega);have hR:VwR (bare v):=by
  refine VwR.bare ⟨by omega,fun x hx=>⟨by have:=hc x hx; omega,fun c hcm=>?_⟩⟩;have hsn:=(hk x (by rw [<-hL0]; exact hx)).1;obtain ⟨i,hi,rfl⟩:=List.mem_iff_getElem.1 hcm;rcases mL (hsn i hi).1 with ⟨_,a⟩|⟨_,a⟩|⟨_,_,a,_⟩
  ·rw [a]; simp
  ·rw [a]; simp
  ·omega
 by_cases P:zc v
 ·obtain rfl:=c2.2 P;rw [JV P hL hc,bsm,c1,bsm];simp only [lu,cP,dR,bsm,aj,aU];obtain ⟨s5,x,s6,r1,r2,r3⟩:=D4 P hL hc s4;rw [r1,bsm];simp only;rw [r2,bsm];simp only [Er.isNil,jf];rw [r3,bsm,hbr,bsm,HH hR,bsm,bsm];exact ⟨_,rfl⟩
 ·have hb2:b2=false:=by
   cases b2 with
   | false=>rfl
   | true=>exact absurd (c2.1 rfl) P
  subst hb2;rw [JU P hL hc,bsm,c1,bsm];simp only [lu,cP,eK,dR,bsm,bA];exact ⟨_,rfl⟩
end Go.Proofs.YtkgjnbiiiifoaaaGreatDoor
