/- Parts of the proofs of MirrorRuns: the walk through the code, and plain Lean. No condition. -/
import Derived.Test.YtclmdpamofdoiaaGreatDoorMrE
import Derived.Test.YtclmdpamofdoiaaGreatDoorMrB
import Derived.Test.YtclmdpamofdoiaaGreatDoorMrC
import Derived.Test.YtclmdpamofdoiaaGreatDoorMrD
import Derived.KernelRfl
import Derived.Test.YtclmdpamofdoiaaGreatDoorMrA
set_option linter.unusedVariables false
set_option linter.unusedSimpArgs false
namespace Go.Proofs.YtclmdpamofdoiaaGreatDoor
open Go Go.Lt
variable {s C:Sto}{k g W j:Nat}{w:Bool}{q:aa}{ks:List Nat}
def Sto.sc (s:Sto) (j:Nat) (x:bp):Sto:={ s with widen_Cluster:=s.widen_Cluster.set j x}
theorem vk {x:bp}(h:j<s.widen_Cluster.length):s.set_widen_Cluster j x=some (s.sc j x):=by
 unfold Sto.set_widen_Cluster;rw [af h];rfl
theorem rY {x:bp}(h:j<s.widen_Cluster.length):(s.sc j x).widen_Cluster[j]? = some x:=by simp [Sto.sc,h]
theorem yh (s:Sto) (j:Nat) (x y:bp):(s.sc j x).sc j y=s.sc j y:=by simp [Sto.sc]
theorem Gw.sc (h:Gw s g ks W) (j:Nat) (x:bp):Gw (s.sc j x) g ks W:=⟨h.g,h.r,h.h1,h.h2,h.w1,h.w2⟩
theorem Gw.addc (h:Gw s g ks W) (x:bp):Gw (s.add_widen_Cluster x) g ks W:=⟨h.g,h.r,h.h1,h.h2,h.w1,h.w2⟩
theorem Pv.sc (h:Pv s s k g W q ks) (j:Nat) (x:bp):Pv (s.sc j x) (s.sc j x) k g W q ks:=
 ⟨h.p,h.g.sc j x,h.nd,h.l,rfl,h.f.rgp ⟨rfl,rfl,rfl⟩ ⟨rfl,rfl,rfl⟩⟩
theorem Pv.addc (h:Pv s s k g W q ks) (x:bp):Pv (s.add_widen_Cluster x) (s.add_widen_Cluster x) k g W q ks:=
 ⟨h.p,h.g.addc x,h.nd,h.l,rfl,h.f.rgp ⟨rfl,rfl,rfl⟩ ⟨rfl,rfl,rfl⟩⟩
theorem vB {a b:Sto}(h:a.oth=b.oth):a.widen_Cluster=b.widen_Cluster:=by
 have:=eZ Sto.widen_Cluster h;exact this
structure Wc (s:Sto) (j:Nat) (c:ai) (y:ba) (t:List Int) (n:Int):Prop where
 x:∃b,s.widen_Cluster[j]? = some ⟨c,n,b,y⟩/\Cv b t
theorem Wc.lt {c:ai}{y:ba}{t:List Int}{n:Int}(h:Wc s j c y t n):j<s.widen_Cluster.length:=by
 obtain ⟨b,h,_⟩:=h.x;exact cY h
theorem Fv (r:Int):((fO r).bind fun x_6=>if (!x_6)=true then (some 65533:Option Int) else (some r:Option Int))=some (gK r):=by
 rw [vm];unfold gK
 cases vld r <;> rfl
theorem E3 {c:ai}{y:ba}{t:List Int}{n:Int}(h:Wc s j c y t n) (ht:t.length<16) (r:Int) (x:ax):
  ∃b',fV s (some j) r x=some (s.sc j ⟨c,n,b',gz y (gK r) x⟩,wz (gz y (gK r) x))/\Cv b' (t++ [gK r]):=by
 have hj:=h.lt;obtain ⟨b,hb,hv⟩:=h.x;obtain ⟨b',h1,h2⟩:=EI hv ht (gK r);refine ⟨b',?_,h2⟩;unfold fV;rw [Fv];simp only [bsm,hb,h1];rw [vk hj];simp only [bsm,xl];rw [vk (by simp [Sto.sc]; exact hj),yh];rfl
theorem Gv (t:List Int) (h:2<=W):cl2 2 t W=(2,t):=by
 unfold cl2;rw [ae (by omega)];rfl
theorem Co (t:List Int) (h:1<=W):cl2 1 t W=(1,t):=by
 unfold cl2;rw [ae (by omega)];rfl
theorem Cp (t:List Int):cl2 2 t 1=(1,[65533]):=by
 unfold cl2;rw [af (by decide)]
structure On (C s:Sto) (k g W H j:Nat) (q0:aa) (y:ba) (t:List Int) (q:aa) (c:ai) (ks:List Nat):Prop where
 v:Pv s s k g W q ks
 f:Fr C s k g ks
 w:Wc s j c y t (wz y)
 n:ks.length=H
 p:be q0 (wz y) t=some (q,c)
theorem EW {q0:aa}(h:Pv C s k g W q0 ks) (r:Int) (x:ax):∃s' q' c ks',mp s (some k) r x=some (s',some s.widen_Cluster.length)/\
  On C s' k g W ks.length s.widen_Cluster.length q0 (gz ⟨false,false,false⟩ (gK r) x) [gK r] q' c ks'/\∃z,s'.oth=(s.add_widen_Cluster z).oth:=by
 unfold mp;simp only [bS,ig,bsm,h.p,ak,aY];have h0:Wc (s.add_widen_Cluster ⟨⟨0,0,false⟩,0,⟨(0,0,0,0,0,0,0,0,0,0,0,0,0,0,0,0),0⟩,⟨false,false,false⟩⟩) s.widen_Cluster.length ⟨0,0,false⟩ ⟨false,false,false⟩ [] 0:=
  ⟨⟨⟨(0,0,0,0,0,0,0,0,0,0,0,0,0,0,0,0),0⟩,by simp [Sto.add_widen_Cluster],⟨rfl,by simp,rfl⟩⟩⟩
 obtain ⟨b,h1,h2⟩:=E3 h0 (by simp) r x;have hlt:=h0.lt;rw [h1];have hv:=(h.self.addc ⟨⟨0,0,false⟩,0,⟨(0,0,0,0,0,0,0,0,0,0,0,0,0,0,0,0),0⟩,⟨false,false,false⟩⟩).sc s.widen_Cluster.length ⟨⟨0,0,false⟩,0,b,gz ⟨false,false,false⟩ (gK r) x⟩;have hR:Rgp s (s.add_widen_Cluster ⟨⟨0,0,false⟩,0,⟨(0,0,0,0,0,0,0,0,0,0,0,0,0,0,0,0),0⟩,⟨false,false,false⟩⟩):=⟨rfl,rfl,rfl⟩;have hA:∀z,((s.add_widen_Cluster ⟨⟨0,0,false⟩,0,⟨(0,0,0,0,0,0,0,0,0,0,0,0,0,0,0,0),0⟩,⟨false,false,false⟩⟩).sc s.widen_Cluster.length z)=s.add_widen_Cluster z:=fun z=>by
  simp [Sto.sc,Sto.add_widen_Cluster]
 generalize hs1:s.add_widen_Cluster ⟨⟨0,0,false⟩,0,⟨(0,0,0,0,0,0,0,0,0,0,0,0,0,0,0,0),0⟩,⟨false,false,false⟩⟩=s1 at *;simp only [bsm];rw [rY hlt];simp only [bsm];rw [vk (by simp [Sto.sc]; exact hlt),yh];simp only [bsm];rw [zm h2];simp only [bsm,aW];have hv2:=hv.sc s.widen_Cluster.length ⟨⟨0,0,false⟩,wz (gz ⟨false,false,false⟩ (gK r) x),b,gz ⟨false,false,false⟩ (gK r) x⟩;simp only [yh] at hv2;obtain ⟨s3,q3,ks3,i,a,p1,p2,p3,p4,p5,p6,p7,_⟩:=wV hv2 (wz (gz ⟨false,false,false⟩ (gK r) x)) [gK r] (by simp);rw [p2];have hcl:s3.widen_Cluster=(s1.sc s.widen_Cluster.length ⟨⟨0,0,false⟩,wz (gz ⟨false,false,false⟩ (gK r) x),b,gz ⟨false,false,false⟩ (gK r) x⟩).widen_Cluster:=vB p4.o;have hg3:s3.widen_Cluster[s.widen_Cluster.length]? = some ⟨⟨0,0,false⟩,wz (gz ⟨false,false,false⟩ (gK r) x),b,gz ⟨false,false,false⟩ (gK r) x⟩:=by
  rw [hcl];exact rY hlt
 simp only [bsm];rw [hg3];simp only [bsm];rw [vk (cY hg3)];refine ⟨_,q3,_,ks3,rfl,⟨p4.self.sc _ _,?_,⟨_,rY (cY hg3),by simpa using h2⟩,p5,p3⟩,⟨⟨(i:Int),(a:Int),false⟩,wz (gz ⟨false,false,false⟩ (gK r) x),b,gz ⟨false,false,false⟩ (gK r) x⟩,?_⟩
 ·exact (h.f.trans h.oG h.oR (p4.f.rgp (C':=s) ⟨hR.symm.r,hR.symm.g,hR.symm.p⟩ (Rgp.self _))).rgp (Rgp.self _) ⟨rfl,rfl,rfl⟩
 ·rw [<-hA];have:=eZ (fun y:Sto=>y.sc s.widen_Cluster.length ⟨⟨(i:Int),(a:Int),false⟩,wz (gz ⟨false,false,false⟩ (gK r) x),b,gz ⟨false,false,false⟩ (gK r) x⟩) p4.o;refine this.trans ?_;show (((s1.sc _ _).sc _ _).oth)=_;rw [yh]
theorem zH (y:ba):(y.wide=false/\wz y=1)\/(y.wide=true/\wz y=2):=by
 unfold wz;cases y.wide
 ·exact .inl ⟨rfl,rfl⟩
 ·exact .inr ⟨rfl,rfl⟩
theorem Cg {y:ba}(h:y.wide=true) (r:Int) (x:ax):(gz y r x).wide=true:=by
 unfold gz;simp [h]
theorem Gx (p1:Int) (t t':List Int) (W:Nat):(cl2 p1 t W).1=(cl2 p1 t' W).1:=by
 unfold cl2;split <;> rfl
theorem C6 {q0:aa}{y:ba}{t:List Int}{c:ai}{H:Nat}(h:On C s k g W H j q0 y t q c ks) (ht:t.length=16) (r:Int) (x:ax):
  ei s (some j) (some k) r x=some (s,false):=by
 obtain ⟨b,hb,hv⟩:=h.w.x;unfold ei;simp only [bS,ig,bsm,h.v.p,hb,wF hv,ht];rfl
theorem FZ {C0 s0:Sto}{ks0:List Nat}{q0:aa}{H:Nat}(h0:Pv C0 s0 k g W q0 ks0) (hH:ks0.length=H){y:ba}{t:List Int}{c:ai}(h:On C s k g W H j q0 y t q c ks) (ht1:1<=t.length) (ht:t.length<16) (hvt:∀x∈t,vld x=true) (r:Int) (x:ax):
  ∃s' q' c' ks',ei s (some j) (some k) r x=some (s',true)/\On C s' k g W H j q0 (gz y (gK r) x) (t++ [gK r]) q' c' ks'/\∃z,s'.oth=(s.sc j z).oth:=by
 have hj:=h.w.lt;obtain ⟨b',e1,e2⟩:=E3 h.w ht r x;obtain ⟨b,hb,hv⟩:=h.w.x;have w1:=h0.g.w1;have w2:=h0.g.w2;unfold ei;have hfull:decide (t.length=16)=false:=by simp; omega
 simp only [bS,ig,bsm,h.v.p,hb,wF hv,hfull,ak,aY,e1];have htl:(t++ [gK r]).length<=1000000:=by simp; omega
 generalize hy':gz y (gK r) x=y' at *;rw [rY hj];simp only [bsm];rw [vk (by simp [Sto.sc]; exact hj),yh];simp only [bsm];have hv2:=h.v.sc j ⟨c,wz y',b',y'⟩;have hfr:Fr C (s.sc j ⟨c,wz y',b',y'⟩) k g ks:=h.f.rgp (Rgp.self _) ⟨rfl,rfl,rfl⟩;by_cases hw:wz y'=wz y
 ·rw [ae (by simp [hw])];simp only [hv2.p,bsm];rw [jE hv2.g];simp only [bsm];obtain ⟨hdd,hdw⟩:=EL (wz y) t w1;obtain ⟨L2,i,a,pd,r1,r2,r3,r4,r5⟩:=D1 h0 hdd hdw;have hq:=ll hdd h0 r1 r2 r3 r4 r5 (wz y) t (by omega) rfl;have hq':=ll hdd h0 r1 r2 r3 r4 r5 (wz y) (t++ [gK r]) htl (Gx _ _ _ _);rw [h.p] at hq;simp only [aV,iP] at hq;obtain ⟨hq1,rfl⟩:=hq;by_cases hle:wz y'<=(W:Int)
  ·rw [af (by simpa using hle)];have hcl:∀t2:List Int,cl2 (wz y) t2 W=((wz y).toNat,t2):=fun t2=>by
    rw [hw] at hle;rcases zH y with ⟨_,q1⟩|⟨_,q1⟩
    ·rw [q1]; exact Co t2 w1
    ·rw [q1]; exact Gv t2 (by omega)
   rw [hcl] at hq1 r3 hdd hdw r1 hq';rw [hcl] at hq';simp only at hq1 r3 hdd hdw r1 hq';generalize (wz y).toNat=d at *;have hik:i<ks.length:=by rw [h.n,<-hH]; exact r2
   rw [fL hv2.g hik];simp only [bsm];have hfx:fx t=t:=I9 hvt (by omega);obtain ⟨⟨rc,rw_⟩,hr0,hsn,hlw⟩:=h.v.g.at hik;simp only at hsn hlw;have hlt:i<L2.length:=by rw [r4]; exact r2
   have hat:=h.v.at hik;rw [oX hr0] at hat;have hqL:q.L=L2.set i ⟨pl (L2.getD i dl).Cells a (eH d (fx t)),pw (L2.getD i dl).Cells (L2.getD i dl).Wrap a d⟩:=by rw [hq1]; rfl
   have hgi:q.L[i]'(by rw [h.v.len]; exact hik)=⟨pl (L2.getD i dl).Cells a (eH d (fx t)),pw (L2.getD i dl).Cells (L2.getD i dl).Wrap a d⟩:=by
    have:q.L[i]? = some ⟨pl (L2.getD i dl).Cells a (eH d (fx t)),pw (L2.getD i dl).Cells (L2.getD i dl).Wrap a d⟩:=by rw [hqL,bB hlt]
    rw [ag (by rw [h.v.len]; exact hik)] at this;exact bi this
   rw [hgi] at hat;simp only [aj.mk.injEq] at hat;obtain ⟨hrc,hrw⟩:=hat;subst hrc hrw;have hcells:(L2.getD i dl).Cells.length=W:=by
    rw [gdl hlt];exact (r5 _ (aF hlt)).2
   have hq1A:q.At=ca ⟨(i:Int),(a:Int),false⟩ d W q0.Auto/\q.Auto=q0.Auto:=by rw [hq1]; exact ⟨rfl,rfl⟩
   generalize hl0:(L2.getD i dl).Cells=l0 at *;generalize hw0:(L2.getD i dl).Wrap=w0 at *;rw [hfx] at hr0 hsn hqL hlw hgi;have hr0':(s.sc j ⟨⟨(i:Int),(a:Int),false⟩,wz y',b',y'⟩).row_Row[ks[i]]? = some ⟨pl l0 a (eH d t),pw l0 w0 a d⟩:=hr0;have hst:=pC d hdd t;have hst2:=pC d hdd (fx (t++ [r]));rw [C4 hdd hr0' hsn (by omega) (by omega) ht1 (by omega) r];simp only [bsm];have o1:=yW (l:=l0) (p:=eH d t) (p':=eH d (fx (t++ [r]))) (aq a) (by omega) (by omega);have o2:=B5 (l:=l0) (w:=w0) (p:=eH d t) (p':=eH d (fx (t++ [r]))) (aq a) (by omega) (by omega);rw [hst,hst2] at o2;have hsn2:Snd (pl l0 a (eH d (fx (t++ [r])))):=by
    rw [<-o1];exact hsn.paint (Bf _ _) (by rw [kp]; omega)
   have hv4:=hv2.row hik (r:=⟨pl l0 a (eH d (fx (t++ [r]))),pw (pl l0 a (eH d t)) (pw l0 w0 a d) a d⟩) hsn2 (by simp only [kp]; exact hcells);refine ⟨_,_,_,ks,rfl,⟨hv4.self,hfr.sr (aF hik) _,⟨b',rY hj,e2⟩,h.n,?_⟩,_,rfl⟩;rw [hw,hq'];have hfx2:=EA (t:=t) (by omega) r;rw [o2,hqL,hq1A.1,hq1A.2,List.set_set,<-hfx2];unfold CX;rw [hl0,hw0]
  ·rw [ae (by simpa using hle)];have hW:W=1:=by
    rcases zH y' with ⟨_,q1⟩|⟨_,q1⟩ <;> omega
   refine ⟨_,q,_,ks,rfl,⟨hv2,hfr,⟨b',rY hj,e2⟩,h.n,?_⟩,_,rfl⟩;rw [hw,hq'];have h2:wz y=2:=by
    rcases zH y with ⟨_,q1⟩|⟨_,q1⟩
    ·rw [hw,q1] at hle; omega
    ·exact q1
   rw [hq1,h2,hW,Cp,Cp]
 ·rw [af (by simpa using hw)];have hy1:wz y=1/\wz y'=2:=by
   rcases zH y with ⟨_,q1⟩|⟨q1,q2⟩
   ·rcases zH y' with ⟨_,q3⟩|⟨_,q3⟩
    ·rw [q1,q3] at hw; exact absurd rfl hw
    ·exact ⟨q1,q3⟩
   ·have:=Cg q1 (gK r) x;rw [hy'] at this;unfold wz at hw;rw [this,q1] at hw;exact absurd rfl hw
  simp only [hv2.p,bsm];rw [jJ (cY hv2.p)];simp only [bsm];have hv3:=hv2.set c q.Auto;have hc3:((s.sc j ⟨c,wz y',b',y'⟩).sp k ⟨some g,c,q.Auto⟩).widen_Cluster[j]? = some ⟨c,wz y',b',y'⟩:=rY hj;rw [hc3];simp only [bsm];rw [zm e2];simp only [bsm];obtain ⟨s4,q4,ks4,i,a,p1,p2,p3,p4,p5,p6,p7,_⟩:=wV hv3 (wz y') (t++ [gK r]) htl;rw [p2];simp only [bsm];have hc4:s4.widen_Cluster[j]? = some ⟨c,wz y',b',y'⟩:=by
   rw [vB p4.o];exact hc3
  rw [hc4];simp only [bsm];rw [vk (cY hc4)];refine ⟨_,q4,_,ks4,rfl,⟨p4.self.sc _ _,?_,⟨b',rY (cY hc4),e2⟩,p5.trans h.n,?_⟩,⟨⟨(i:Int),(a:Int),false⟩,wz y',b',y'⟩,?_⟩
  ·have h3:=p4.f;have:=h.f.trans h.v.oG h.v.oR (h3.rgp (C':=s) ⟨rfl,rfl,rfl⟩ (Rgp.self _));exact this.rgp (Rgp.self _) ⟨rfl,rfl,rfl⟩
  ·rw [<-p3];exact (CY h0 (by omega) htl (by rw [hy1.1,Co _ w1]) h.p h.v (h.n.trans hH.symm)).symm
  ·have:=eZ (fun y:Sto=>y.sc j ⟨⟨(i:Int),(a:Int),false⟩,wz y',b',y'⟩) p4.o;refine this.trans ?_;show (((s.sc _ _).sc _ _).oth)=_;rw [yh]
def gf (t:List Int) (x:List ax):ba:=(t.zip x).foldl (fun y p=>gz y p.1 p.2) ⟨false,false,false⟩
theorem zF {α β:Type}:∀(t:List α) (x:List β) (r:α) (h:t.length<x.length),(t++ [r]).zip x=t.zip x++ [(r,x[t.length])]
 | [],[],_,h=>by simp at h
 | [],b::x,r,_=>by simp
 | a::t,[],_,h=>by simp at h
 | a::t,b::x,r,h=>by
  have:=zF t x r (by simpa using h);simp only [bP,zB,this,aD,mi]
theorem wB {t:List Int}{x:List ax}(h:t.length<x.length) (r:Int):gf (t++ [r]) x=gz (gf t x) r x[t.length]:=by
 unfold gf;rw [zF t x r h,kS];rfl
theorem zE {α β:Type}:∀(t:List α) (x:List β) (n:Nat),t.length<=n->t.zip (x.take n)=t.zip x
 | [],_,_,_=>rfl
 | _::_,[],_,_=>by simp
 | _::_,_::_,0,h=>by simp at h
 | a::t,b::x,n+1,h=>by
  rw [cx,zB,zB,zE t x n (by simpa using h)]
theorem Ge (t:List Int) (x:List ax){n:Nat}(h:t.length<=n):gf t (x.take n)=gf t x:=by
 unfold gf;rw [zE _ _ _ h]
theorem Bq (b:Int) (zs:List Int) (hz:zs.length<=1000):∃t,cH (σ:=Int) (τ:=Int ⊕ Unit) (((zs.length:Int)-0).toNat+1) (fun s_9=>
 if decide (s_9<(zs.length:Int)) then
 (idx zs s_9).bind fun x_19=>
 if (b==x_19)=true then
 some (.inr (.inl 0))
 else
 some (.inl ((w64 (s_9+1))))
 else
 some (.inr (.inr ()))) 0=some t/\(match t with|.inl n=>n=0/\b∈zs|.inr _=>b∉zs):=by
 refine eV (n:=zs.length) (fun i s=>s=(i:Int)/\∀k (h:k<zs.length),k<i->zs[k]≠b) (fun t:Int ⊕ Unit=>match t with|.inl n=>n=0/\b∈zs|.inr _=>b∉zs) (fun i s hi he=>?_) (fun s he=>?_) ⟨rfl,fun k h hk=>by omega⟩ (by omega)
 ·obtain ⟨e,hI⟩:=he;subst e;rw [af (dlt hi),bj hi,dm hi (by omega)];simp only [bsm];by_cases hx:b=zs[i]
  ·rw [af (by simpa using hx)];exact .inr ⟨_,rfl,rfl,hx▸ aF hi⟩
  ·rw [ae (by simpa using hx)];refine .inl ⟨_,rfl,rfl,fun k h hk=>?_⟩;by_cases hki:k=i
   ·subst hki; exact fun e=>hx e.symm
   ·exact hI k h (by omega)
 ·obtain ⟨e,hI⟩:=he;subst e;refine ⟨.inr (),by rw [ae (by simp)],fun hb=>?_⟩;obtain ⟨i,hi,e⟩:=List.mem_iff_getElem.1 hb;exact hI i hi hi e
theorem DZ (x:ax):∃n,iV x=some n/\(n==2)=b2 x:=by
 unfold iV;obtain ⟨t,h1,h2⟩:=Bq x.Break [1,2,3,4,5,10,11] (by decide);rw [h1];have hz:zb x.Break=true↔x.Break∈([1,2,3,4,5,10,11]:List Int):=by simp [zb]; omega
 unfold b2
 cases t with
 | inl n=>
  obtain ⟨rfl,hm⟩:=h2;exact ⟨0,rfl,by rw [hz.2 hm]; rfl⟩
 | inr u=>
  have hf:zb x.Break=false:=by rw [<-vg,hz]; exact h2
  simp only [bu,bsm,hf]
  cases h:(x.East==1 || x.East==2) with
  | true=>exact ⟨2,by simp,rfl⟩
  | false=>exact ⟨1,by simp,rfl⟩
theorem IE (t:List Int) (x:List ax) (h:t.length<=x.length) (ht:t.length<=1000000):iA t x=some (wz (gf t x)):=by
 unfold iA;have key:∀i,i<=t.length->(gf (t.take i) x).some=decide (0<i)/\(∀(h1:0<i) (h2:i-1<x.length),(gf (t.take i) x).pict=x[i-1].Pict):=fun i hi=>by
  cases i with
  | zero=>exact ⟨rfl,fun h=>absurd h (by decide)⟩
  | succ i=>
   have hl:(t.take i).length=i:=by rw [az]; omega
   rw [an (by omega),wB (by rw [hl]; omega)];exact ⟨by simp [gz],fun _ _=>by simp [gz,hl]⟩
 have mono:∀i,i<=t.length->(gf (t.take i) x).wide=true->(gf t x).wide=true:=fun i hi hw=>by
  have:∀m,i<=m->m<=t.length->(gf (t.take m) x).wide=true:=by
   intro m
   induction m with
   | zero=>intro h1 _; rw [show i=0 by omega] at hw; exact hw
   | succ m ih=>
    intro h1 h2;by_cases e:i=m+1
    ·rw [<-e]; exact hw
    ·rw [an (by omega),wB (by rw [az]; omega)];exact Cg (ih (by omega) (by omega)) _ _
  have:=this t.length hi (aq _)
  rwa [aB (aq _)] at this
 refine iO (n:=t.length) (fun i s=>s=(i:Int)/\(gf (t.take i) x).wide=false) (fun u=>match u with|.inl n=>n=2/\(gf t x).wide=true|.inr _=>(gf t x).wide=false) (fun i s hi ⟨e,hI⟩=>?_) (fun s ⟨e,hI⟩=>?_) ⟨rfl,rfl⟩ (by omega) (fun u hu=>?_)
 ·subst e;have e5:=dm hi (by omega);have hx:i<x.length:=by omega
  obtain ⟨n,h1,h2⟩:=DZ x[i];rw [af (dlt hi),bj hx];simp only [bsm,h1,h2,e5,bj hi];have hl:(t.take i).length=i:=by rw [az]; omega
  have hs:(gf (t.take (i+1)) x).wide=(b2 x[i] || (decide (0<i) && ((t[i]==65039 && (gf (t.take i) x).pict) || x[i].Pict || x[i].Break==6))):=by
   rw [an hi,wB (by rw [hl]; omega)];simp only [gz,hI,jT,(key i (by omega)).1,hl]
  have hd:∀(A:Option Bool),(∀(h0:0<i),A=some ((t[i]==65039 && x[i-1].Pict) || x[i].Pict || x[i].Break==6))->
    (orE (b2 x[i]) ((bL (decide ((i:Int)>0)) A).bind fun d_21=>some d_21))=some (gf (t.take (i+1)) x).wide:=fun A hA=>by
   rw [hs];by_cases h0:0<i
   ·rw [hA h0,show decide ((i:Int)>0)=true by simp; omega,ip,show decide (0<i)=true by simpa using h0,(key i (by omega)).2 h0 (by omega)];simp only [bsm,bu,dO]
   ·rw [show decide ((i:Int)>0)=false by simp; omega,iu,show decide (0<i)=false by simpa using h0];simp only [bsm,bu,nE]
  rw [hd _ (fun h0=>by
   rw [show w64 ((i:Int)-1)=((i-1:Nat):Int) by rw [aJ (by omega)]; omega,bj (show i-1<x.length by omega)];simp only [bsm,bb,bu])]
  simp only [bsm]
  cases hw:(gf (t.take (i+1)) x).wide with
  | true=>exact .inr ⟨.inl 2,rfl,rfl,mono (i+1) (by omega) hw⟩
  | false=>exact .inl ⟨_,rfl,rfl,rfl⟩
 ·subst e;rw [aB (aq _)] at hI;exact ⟨.inr (),by rw [ae (by simp)],hI⟩
 ·unfold wz
  cases u with
  | inl n=>
   obtain ⟨rfl,hw⟩:=hu;rw [hw];rfl
  | inr u=>
   simp only at hu;rw [hu];rfl
end Go.Proofs.YtclmdpamofdoiaaGreatDoor
namespace Go.Proofs.YtclmdpamofdoiaaGreatDoor
open Go Go.Lt
variable {s C:Sto}{g k W:Nat}{ks:List Nat}{q:aa}
def bls (W H:Nat):List aj:=List.replicate H ⟨List.replicate W bl,false⟩
theorem ET {W H:Nat}(w1:1<=W) (w2:W<=1024) (h1:1<=H):∀i (h:i<(bls W H).length),1<=(bls W H)[i].Cells.length/\(bls W H)[i].Cells.length<=1024/\Snd (bls W H)[i].Cells/\(bls W H)[i].Cells.length=((bls W H)[0]'(by omega)).Cells.length:=fun i h=>by
 have e:∀j (hj:j<(bls W H).length),(bls W H)[j]=⟨List.replicate W bl,false⟩:=fun j hj=>by
  unfold bls;exact jR _
 rw [e i h,e 0 (by omega)];simp only [mL];exact ⟨w1,w2,vi W,trivial⟩
theorem AA (n m:Int):nU s n m=some ((s.addr ((bls (sd n) (sd m)).map lr)).add_grid_Grid ⟨(List.range' s.row_Row.length (sd m)).map some⟩,some s.grid_Grid.length):=by
 have hsd:=uC m;have hL:∀i,((bls (sd n) (sd m)).map lr).take i=List.replicate (min i (sd m)) ⟨List.replicate (sd n) bl,false⟩:=fun i=>by
  unfold bls;rw [List.map_replicate,List.take_replicate];rfl
 have hlen:((bls (sd n) (sd m)).map lr).length=sd m:=by simp [bls]
 have hH:aK 1 (aE m 1024)=(sd m:Int):=by
  rw [dL,fK];unfold sd;omega
 unfold nU;rw [hH];simp only [bsm];obtain ⟨t,h3,h4⟩:=eV (σ:=Int×Sto) (τ:=Sto) (n:=sd m) (fuel:=(((sd m:Nat):Int)-0).toNat+1) (s:=(0,s.add_grid_Grid (⟨([]:List (Option Nat))⟩:ck)))
  (fun i q=>q=((i:Int),(s.addr (((bls (sd n) (sd m)).map lr).take i)).add_grid_Grid ⟨(List.range' s.row_Row.length i).map some⟩))
  (fun t=>t=(s.addr ((bls (sd n) (sd m)).map lr)).add_grid_Grid ⟨(List.range' s.row_Row.length (sd m)).map some⟩)
  (step:=fun s_12=>
 if decide (s_12.1<((sd m:Nat):Int)) then
 (s_12.2.grid_Grid[s.grid_Grid.length]?).bind fun o_19=>
 (lO s_12.2 n).bind fun x_21=>
 (app o_19.rows ([x_21.2]:List (Option Nat))).bind fun x_23=>
 (x_21.1.set_grid_Grid s.grid_Grid.length (⟨x_23⟩:ck)).bind fun s_26001=>
 some (.inl ((w64 (s_12.1+1)),s_26001))
 else
 some (.inr s_12.2))
  (fun i q hi e=>by
   subst e;refine .inl ⟨_,?_,rfl⟩;have e5:w64 ((i:Int)+1)=((i+1:Nat):Int):=by rw [aJ (by omega)]; simp
   have hd:decide ((i:Int)<((sd m:Nat):Int))=true:=by simp; exact hi
   have hg:((s.addr (((bls (sd n) (sd m)).map lr).take i)).add_grid_Grid ⟨(List.range' s.row_Row.length i).map some⟩).grid_Grid[s.grid_Grid.length]? = some ⟨(List.range' s.row_Row.length i).map some⟩:=by
    simp [Sto.add_grid_Grid,Sto.addr]
   simp only [hd,bA];rw [hg,yT];simp only [bsm];rw [cO (by simp; omega)];simp only [bsm];have hlt:s.grid_Grid.length<(((s.addr (((bls (sd n) (sd m)).map lr).take i)).add_grid_Grid ⟨(List.range' s.row_Row.length i).map some⟩).add_row_Row ⟨List.replicate (sd n) bl,false⟩).grid_Grid.length:=by
    simp [Sto.add_grid_Grid,Sto.addr,Sto.add_row_Row]
   rw [zS hlt,e5];simp only [bsm]
   congr 4
   refine Hb ?_ ?_ rfl
   ·simp only [Sto.sg,Sto.add_grid_Grid,Sto.add_row_Row,Sto.addr];rw [hL,hL,cL (by omega),cL (by omega),xG,aL]
   ·simp only [Sto.sg,Sto.add_grid_Grid,Sto.add_row_Row,Sto.addr];rw [iF _ _ (aq _),dG,sY,JP,bC,hL,cL (by omega)];simp)
  (fun q e=>⟨q.2,by subst e; simp,by subst e; simp only; rw [aB (by omega)]⟩)
  (by simp [A1]) (by omega)
 subst h4;rw [h3];rfl
theorem Fr.of_grid (xs:List br) (x:ck){n:Nat}(hn:n=s.grid_Grid.length){m:Nat}:Fr s ((s.addr xs).add_grid_Grid x) k n (List.range' s.row_Row.length m):=by
 subst hn;refine Fr.new (aq _) ?_ ?_ (fun _ _=>rfl) (fun j hj=>?_) (fun j hj=>?_) (aq _) (fun r hr=>(List.mem_range'_1.1 hr).1)
 ·simp [Sto.add_grid_Grid,Sto.addr]
 ·simp [Sto.add_grid_Grid,Sto.addr]
 ·simp only [Sto.add_grid_Grid,Sto.addr]; exact aG hj
 ·simp only [Sto.add_grid_Grid,Sto.addr]; exact aG hj
theorem Gw.addp (h:Gw s g ks W) (x:bv):Gw (s.add_place_Pen x) g ks W:=⟨h.g,h.r,h.h1,h.h2,h.w1,h.w2⟩
theorem yp (n m:Int):∃s' ks,mR s n m=some (s',some s.place_Pen.length)/\Pv s s' s.place_Pen.length s.grid_Grid.length (sd n) ⟨bls (sd n) (sd m),⟨0,0,false⟩,true⟩ ks:=by
 have h1:=uC n;have h2:=uC m;have hb:(bls (sd n) (sd m)).length=sd m:=by simp [bls]
 have h0:((bls (sd n) (sd m))[0]'(by omega)).Cells.length=sd n:=by simp [bls]
 obtain ⟨g1,g2⟩:=GW (s:=s) (L:=bls (sd n) (sd m)) (by omega) (by omega) (ET h1.1 h1.2 h2.1);rw [h0] at g1;rw [hb] at g1 g2;unfold mR;rw [AA];refine ⟨_,_,rfl,⟨?_,g1.addp _,?_,?_,rfl,(Fr.of_grid _ _ rfl).addp _⟩⟩
 ·simp [Sto.add_place_Pen,Sto.add_grid_Grid,Sto.addr]
 ·exact J0
 ·exact g2
theorem CU {W H:Nat}(w2:W<=1024) (h2:H<=1024):iy W H=some (bls W H):=by
 unfold iy;obtain ⟨t,h3,h4⟩:=eV (σ:=(List aj)×Int) (τ:=(List aj)) (n:=H) (fuel:=((H:Int)-0).toNat+1) (s:=(([]:List aj),0))
  (fun i q=>q=(bls W i,(i:Int))) (fun t=>t=bls W H)
  (step:=fun s_7=>
 if decide (s_7.2<(H:Int)) then
 (rep (W:Int) (⟨0,([]:List Int)⟩:ab)).bind fun x_14=>
 (app s_7.1 ([(⟨x_14,false⟩:aj)]:List aj)).bind fun x_17=>
 some (.inl (x_17,(w64 (s_7.2+1))))
 else
 some (.inr s_7.1))
  (fun i q hi e=>by
   subst e;refine .inl ⟨_,?_,rfl⟩;have e5:w64 ((i:Int)+1)=((i+1:Nat):Int):=by rw [aJ (by omega)]; simp
   have hd:decide ((i:Int)<(H:Int))=true:=by simp; exact hi
   simp only [hd,bA,e5];rw [pJ _ (by omega)];simp only [bsm];rw [cO (by simp [bls]; omega)];simp only [bsm];unfold bls;rw [xG];rfl)
  (fun q e=>⟨_,by subst e; simp,rfl⟩)
  rfl (by omega)
 subst h4;rw [h3];rfl
def sil (r:Int):Bool:=(decide (0<=r) && decide (r<32)) || (decide (127<=r) && decide (r<=159))
theorem Bg (r:Int):jc r=some (sil r):=by
 simp only [jc,bb,bu,bsm,sil,Bz]
theorem nR (r:Int):dF r=some (sil r):=by
 simp only [dF,bb,bu,bsm,sil,Bz,aV];rw [cu];simp;omega
theorem yk (r:Int) (h:r≠13/\r≠10/\r≠8):cN q r=some (q,sil r):=by
 unfold cN;rw [ae (by simpa using h.1)];simp only [bsm];rw [ae (by simpa using h.2.1)];simp only [bsm];rw [ae (by simpa using h.2.2)];simp only [bsm];rw [nR];rfl
theorem zk (h:Pv C s k g W q ks) (r:Int):∃s' q' ks',oV s (some k) r=some (s',sil r)/\cN q r=some (q',sil r)/\Pv C s' k g W q' ks'/\ks'.length=ks.length/\(Hd q.At W ks.length->Hd q'.At W ks.length):=by
 have w1:=h.g.w1;have w2:=h.g.w2;unfold oV;rw [Bg];simp only [bsm,bS,ig,h.p];by_cases hs:sil r=true
 ·rw [hs];simp only [dA,ak,aY];rw [jE h.g,eM h.g];simp only [bsm];rw [qr _ h.g.w1 h.g.w2 h.g.h1 h.g.h2];have hd:=uK q.At h.g.w1 h.g.h1;have hh:=qb h;by_cases h13:r=13
  ·subst h13;simp only [bsm,uY,bA,dJ];rw [jJ (cY h.p)];refine ⟨_,_,ks,rfl,?_,h.set ⟨(hc q.At W ks.length).Row,0,false⟩ q.Auto,rfl,fun _=>⟨hd.rr,by simp only; omega,fun e=>by cases e⟩⟩;unfold cN;rw [hh,nR,hs];rfl
  by_cases h10:r=10
  ·subst h10;obtain ⟨s',q',ks',a1,a2,v,hn,hnd,_⟩:=xc h;simp only [bsm];rw [ae (by decide),af (by decide),a1];refine ⟨s',q',ks',rfl,?_,v,hn,fun _=>hnd⟩;unfold cN;rw [ae (by decide)];simp only [bsm];rw [af (by decide),show (⟨q.L,⟨q.At.Row,q.At.Col,q.At.Pending⟩,q.Auto⟩:aa)=q from rfl,a2];simp only [bsm];rw [ae (by decide),nR,hs];rfl
  by_cases h8:r=8
  ·subst h8;have hcc:=hd.cc;have hb:mx (hc q.At W ks.length)=some ⟨(hc q.At W ks.length).Row,max 0 ((hc q.At W ks.length).Col-1),false⟩:=by
    unfold mx;by_cases h0:(hc q.At W ks.length).Col>0
    ·rw [af (by simpa using h0),aJ (by omega)];simp only [bsm,aV,ai.mk.injEq,wL,xF];omega
    ·rw [ae (by simpa using h0)];simp only [bsm,aV,ai.mk.injEq,wL,xF];omega
   simp only [bsm];rw [ae (by decide),ae (by decide),af (by decide),hb];simp only [bsm];rw [jJ (cY h.p)];refine ⟨_,_,ks,rfl,?_,h.set ⟨(hc q.At W ks.length).Row,max 0 ((hc q.At W ks.length).Col-1),false⟩ q.Auto,rfl,fun _=>⟨hd.rr,by simp only; omega,fun e=>by cases e⟩⟩;unfold cN;rw [ae (by decide)];simp only [bsm];rw [ae (by decide)];simp only [bsm];rw [af (by decide),show (⟨q.L,⟨q.At.Row,q.At.Col,q.At.Pending⟩,q.Auto⟩:aa)=q from rfl,hh];simp only [bsm];rw [nR,hs,aJ (by omega),fK];rfl
  ·simp only [bsm];rw [ae (by simpa using h13),ae (by simpa using h10),ae (by simpa using h8)];exact ⟨s,q,ks,rfl,by rw [yk r ⟨h13,h10,h8⟩,hs],h,rfl,id⟩
 ·have hf:sil r=false:=by simpa using hs
  rw [hf];simp only [fe,bA];have hn:r≠13/\r≠10/\r≠8:=by
   refine ⟨?_,?_,?_⟩ <;> (rintro rfl; revert hf; decide)
  exact ⟨s,q,ks,rfl,by rw [yk r hn,hf],h,rfl,id⟩
end Go.Proofs.YtclmdpamofdoiaaGreatDoor
namespace Go.Proofs.YtclmdpamofdoiaaGreatDoor
open Go Go.Lt
def pj (a b:Int):Int:=(dW a b).getD 0
def clz (a:Int):Int:=if a<0\/13<a then 0 else a
def pjT (i j:Nat):Bool:=match dW i j,dr i j with
 | some x,some y=>x==y && (x != 2 || ((i==6)==(j==6))) && (x==0 || !(i==1 || i==2 || i==3 || j==1 || j==2 || j==3) || (i==1 && j==2))
 | _,_=>false
theorem Hw:((List.range 14).all fun i=>(List.range 14).all fun j=>pjT i j)=true:=by kernel_rfl
theorem zl (a:Int):∃i:Nat,clz a=(i:Int)/\i<14/\(0<i->a=(i:Int)):=by
 unfold clz;split
 ·exact ⟨0,rfl,by omega,fun h=>by omega⟩
 ·exact ⟨a.toNat,by omega,by omega,fun _=>by omega⟩
theorem om (a:Int):jP a=some (clz a):=by
 unfold jP clz;simp only [bu,bsm];by_cases h:a<0\/13<a
 ·rw [af (by simp only [aC,am]; omega),af h]
 ·rw [ae (by simp only [aC,am]; omega),ae h]
theorem wC (a:Int):clz (clz a)=clz a:=by
 unfold clz
 repeat' split
 all_goals omega
theorem yu (a b:Int):dW a b=dW (clz a) (clz b):=by
 unfold dW;rw [om,om,om,om,wC,wC]
theorem CV (a b:Int):dr a b=dr (clz a) (clz b):=by
 have h:∀(a:Int),((orE (decide (a<0)) (some (decide (a>13)))).bind fun d_6=>if d_6 then (some 0:Option Int) else (some a:Option Int))=some (clz a):=fun a=>by
  have:=om a;unfold jP at this;exact this
 unfold dr;rw [h,h,h,h,wC,wC]
theorem wX (a b:Int):∃x,dW a b=some x/\dr a b=some x/\pj a b=x/\(x=2->(a=6↔b=6))/\(x≠0->(a=1\/a=2\/a=3\/b=1\/b=2\/b=3)->a=1/\b=2):=by
 obtain ⟨i,hi,i14,i0⟩:=zl a;obtain ⟨j,hj,j14,j0⟩:=zl b;have h:=List.all_eq_true.1 (List.all_eq_true.1 Hw i (List.mem_range.2 i14)) j (List.mem_range.2 j14);have ia:∀n:Nat,0<n->n<14->(a=(n:Int)↔i=n):=fun n h0 h1=>by
  constructor
  ·intro e
   unfold clz at hi;split at hi <;> omega
  ·intro e; subst e; exact i0 h0
 have jb:∀n:Nat,0<n->n<14->(b=(n:Int)↔j=n):=fun n h0 h1=>by
  constructor
  ·intro e
   unfold clz at hj;split at hj <;> omega
  ·intro e; subst e; exact j0 h0
 have a1:=ia 1 (by omega) (by omega);have a2:=ia 2 (by omega) (by omega);have a3:=ia 3 (by omega) (by omega);have a6:=ia 6 (by omega) (by omega);have b1:=jb 1 (by omega) (by omega);have b2:=jb 2 (by omega) (by omega);have b3:=jb 3 (by omega) (by omega);have b6:=jb 6 (by omega) (by omega);unfold pj;rw [yu,CV,hi,hj];unfold pjT at h;split at h
 ·rename_i x y e1 e2
  simp only [aA,aC,aQ,nv,vT,dP,xH,fG] at h;obtain ⟨⟨hxy,h2⟩,h3⟩:=h;subst hxy;refine ⟨x,e1,e2,by rw [e1]; rfl,fun hx=>?_,fun hx hc=>?_⟩
  ·rcases h2 with q|q
   ·exact absurd hx q
   ·have q1:(i==6)=(j==6):=q
    rw [cu,aQ,aQ] at q1;omega
  ·rcases h3 with (q|q)|q
   ·exact absurd q hx
   ·exfalso
    omega
   ·omega
 ·cases h
theorem FI (a b:Int):dW a b=some (pj a b):=by
 obtain ⟨x,h1,_,h3,_⟩:=wX a b;rw [h1,h3]
theorem Hu (a b:Int):dr a b=some (pj a b):=by
 obtain ⟨x,_,h2,h3,_⟩:=wX a b;rw [h2,h3]
theorem Ht (a b:Int) (h:pj a b=2):a=6↔b=6:=by
 obtain ⟨x,_,_,h3,h4,_⟩:=wX a b;exact h4 (by omega)
def sgB (s:Sg):bD:=⟨s.some,s.last,s.pict,s.conj,s.odd⟩
theorem zT (s:Sg) (p:ax):cU (sgB s) p=some (sgB (sgN s p),sgJ pj s p):=by
 have hj:dq (sgB s) p=some (sgJ pj s p):=by
  unfold dq sgB sgJ;simp only [bb,bsm,FI]
  cases s.some with
  | false=>rfl
  | true=>
   simp only [dA,ak,aY,dO]
   cases h1:(p.Conj==1 && s.conj==2) with
   | true=>rfl
   | false=>
    simp only [ak,aY,bsm,jT]
    cases h2:(p.Pict && s.pict==2) with
    | true=>rfl
    | false=>
     simp only [ak,aY,jT];by_cases h3:pj s.last p.Break=1
     ·rw [af (by simpa using h3),h3]
      rfl
     ·rw [ae (by simpa using h3),show (pj s.last p.Break==1)=false by simpa using h3,jT]
      by_cases h4:pj s.last p.Break=2
      ·rw [af (by simpa using h4),h4]
       rfl
      ·rw [ae (by simpa using h4),show (pj s.last p.Break==2)=false by simpa using h4]
       rfl
 have hp:da (sgB s) p=some (nxP s.pict p):=by
  unfold da sgB nxP;simp only [bb,bsm];by_cases h1:p.Pict=true
  ·rw [af h1,af h1]
  ·rw [ae h1,ae h1]
   by_cases h2:s.pict=1/\p.Break=4
   ·rw [af (by simpa using h2),af h2]
   ·rw [ae (by simpa using h2),ae h2]
    by_cases h3:s.pict=1/\p.Break=5
    ·rw [af (by simpa using h3),af h3]
    ·rw [ae (by simpa using h3),ae h3]
 have hc:cW (sgB s) p=some (nxC s.conj p):=by
  unfold cW sgB nxC;simp only [aQ]
  repeat' split
  all_goals rfl
 unfold cU;simp only [ak,aY];rw [hj,hp,hc];simp only [bsm,bb];rfl
theorem ye (d:bD):dV d=some (sgB sg0):=rfl
theorem rU {α:Type}{l:List α}{k:Nat}(h:k<l.length):(l.take (k+1)).reverse=l[k]::(l.take k).reverse:=by
 rw [an h,List.reverse_append];rfl
theorem Gy (x:ax) (l:List ax) (n:Nat):cj (x::l) n=if x.Conj=1 then decide (0<n) else if x.Conj=2 then cj l (n+1) else if x.Conj=3 then cj l n else false:=rfl
theorem FH (x:ax) (l:List ax):pk (x::l)=if x.Pict then true else if x.Break=4 then pk l else false:=rfl
theorem FB (x:ax) (l:List ax):ri (x::l)=if x.Break=6 then ri l+1 else 0:=rfl
theorem Bs {P:List ax}(hP:P.length<=1000000){i:Nat}(hi:i<P.length):eX P i=some (P[i].Conj==1 && cj (P.take i).reverse 0):=by
 unfold eX;rw [bj hi];simp only [bsm];by_cases h1:P[i].Conj=1
 ·rw [ae (by simpa using h1),show (P[i].Conj==1)=true by simpa using h1,dO]
  have e1:w64 ((i:Int)-1)=(i:Int)-1:=aJ (by omega);rw [e1];refine yx (fun s=>∃k n:Nat,s=((n:Int),(k:Int)-1)/\k<=i/\n+k<=i/\cj (P.take k).reverse n=cj (P.take i).reverse 0) (fun s=>(s.2+1).toNat) (fun u=>(match u with|.inl b=>b|.inr _=>false)=cj (P.take i).reverse 0) (fun s hs=>?_) ⟨i,0,rfl,aq _,by omega,rfl⟩ (by simp only; omega) (fun u hu=>?_)
  ·obtain ⟨k,n,rfl,hk,hn,hI⟩:=hs
   simp only
   cases k with
   | zero=>
    rw [ae (by simp)];exact .inr ⟨_,rfl,by rw [<-hI]; rfl⟩
   | succ k=>
    have e2:((k+1:Nat):Int)-1=(k:Int):=by omega
    have hkl:k<P.length:=by omega
    rw [rU hkl] at hI;rw [Gy] at hI;rw [e2,af (by simp),bj hkl];simp only [bsm];by_cases c1:P[k].Conj=1
    ·rw [af (by simpa using c1)]
     rw [af c1] at hI;exact .inr ⟨_,rfl,by rw [<-hI]; simp⟩
    ·rw [ae (by simpa using c1)]
     rw [ae c1] at hI;have e3:w64 ((k:Int)-1)=(k:Int)-1:=aJ (by omega);have e4:w64 ((n:Int)+1)=((n+1:Nat):Int):=by rw [aJ (by omega)]; simp
     simp only [bb,bsm,e3,e4];by_cases c2:P[k].Conj=2
     ·rw [af (by simpa using c2)]
      simp only [bsm];rw [ae (by simp [c2])];rw [af c2] at hI;exact .inl ⟨_,rfl,⟨k,n+1,rfl,by omega,by omega,hI⟩,by simp only; omega⟩
     ·rw [ae (by simpa using c2)]
      rw [ae c2] at hI;simp only [bsm];by_cases c3:P[k].Conj=3
      ·rw [ae (by simp [c3])]
       rw [af c3] at hI;exact .inl ⟨_,rfl,⟨k,n,rfl,by omega,by omega,hI⟩,by simp only; omega⟩
      ·rw [af (by simp [c2,c3])]
       rw [ae c3] at hI;exact .inr ⟨_,rfl,by rw [<-hI]⟩
  ·cases u with
   | inl b=>simp only at hu|-; rw [hu]
   | inr u=>simp only at hu|-; rw [hu]
 ·rw [af (by simpa using h1),show (P[i].Conj==1)=false by simpa using h1]
  rfl
theorem Br {P:List ax}(hP:P.length<=1000000){i:Nat}(hi:i<P.length) (h0:1<=i):fC P i=some (P[i].Pict && (!(P[i-1]'(by omega)).Pict && (P[i-1]'(by omega)).Break==5 && pk (P.take (i-1)).reverse)):=by
 have e1:w64 ((i:Int)-1)=((i-1:Nat):Int):=by rw [aJ (by omega)]; omega
 unfold fC;rw [bj hi,e1,bj (show i-1<P.length by omega)];simp only [bsm,bu];by_cases hc:P[i].Pict=true/\2<=i/\(P[i-1]'(by omega)).Break=5/\(P[i-1]'(by omega)).Pict=false
 ·obtain ⟨c1,c2,c3,c4⟩:=hc
  rw [ae (by rw [c1,c3,c4]; simp; omega),c1,c3,c4];simp only [fe,uY,dO];have e2:w64 ((i:Int)-2)=((i-1:Nat):Int)-1:=by rw [aJ (by omega)]; omega
  rw [e2];refine yx (fun s=>∃k:Nat,s=(k:Int)-1/\k<=i-1/\pk (P.take k).reverse=pk (P.take (i-1)).reverse) (fun s=>(s+1).toNat) (fun u=>(match u with|.inl b=>b|.inr _=>false)=pk (P.take (i-1)).reverse) (fun s hs=>?_) ⟨i-1,rfl,aq _,rfl⟩ (by omega) (fun u hu=>?_)
  ·obtain ⟨k,rfl,hk,hI⟩:=hs
   cases k with
   | zero=>
    rw [ae (by simp)];exact .inr ⟨_,rfl,by rw [<-hI]; rfl⟩
   | succ k=>
    have e2:((k+1:Nat):Int)-1=(k:Int):=by omega
    have hkl:k<P.length:=by omega
    rw [rU hkl] at hI;rw [FH] at hI;rw [e2,af (by simp),bj hkl];simp only [bsm];by_cases d1:P[k].Pict=true
    ·rw [af d1]
     rw [af d1] at hI;exact .inr ⟨_,rfl,by rw [<-hI]⟩
    ·rw [ae d1]
     rw [ae d1] at hI;by_cases d2:P[k].Break=4
     ·rw [ae (by simpa using d2),aJ (by omega)]
      rw [af d2] at hI;exact .inl ⟨_,rfl,⟨k,rfl,by omega,hI⟩,by omega⟩
     ·rw [af (by simpa using d2)]
      rw [ae d2] at hI;exact .inr ⟨_,rfl,by rw [<-hI]⟩
  ·cases u with
   | inl b=>simp only at hu|-; rw [hu]
   | inr u=>simp only at hu|-; rw [hu]
 ·rw [af ?_]
  ·congr 1
   rw [eq_comm,tY];intro hh;simp only [aA,dP,aQ] at hh;obtain ⟨g1,⟨g2,g3⟩,g4⟩:=hh;by_cases h2:2<=i
   ·exact hc ⟨g1,h2,g3,g2⟩
   ·rw [show i-1=0 by omega] at g4
    simp [pk] at g4
  ·simp only [aC,dP,am,nv,vT]
   by_cases g1:P[i].Pict=true
   ·by_cases g2:2<=i
    ·by_cases g3:(P[i-1]'(by omega)).Break=5
     ·right
      cases g4:(P[i-1]'(by omega)).Pict with
      | true=>rfl
      | false=>exact absurd ⟨g1,g2,g3,g4⟩ hc
     ·exact .inl (.inr g3)
    ·exact .inl (.inl (.inr (by omega)))
   ·exact .inl (.inl (.inl (by simpa using g1)))
theorem D0 {P:List ax}(hP:P.length<=1000000){i:Nat}(hi:i<P.length):(cH (σ:=Int×Int) (τ:=Int) (((w64 ((i:Int)-1))-0).toNat+2) (fun s_62=>
 (bL (decide (s_62.2>=0)) ((idx P s_62.2).bind fun x_69=>
 some (x_69.Break==6))).bind fun d_65=>
 if d_65 then
 some (.inl ((w64 (s_62.1+1)),(w64 (s_62.2-1))))
 else
 some (.inr s_62.1)) (0,(w64 ((i:Int)-1))))=some (ri (P.take i).reverse:Int):=by
  have e1:w64 ((i:Int)-1)=(i:Int)-1:=aJ (by omega);rw [e1];obtain ⟨t,h1,h2⟩:=mo (σ:=Int×Int) (τ:=Int) (step:=fun s_62=>
 (bL (decide (s_62.2>=0)) ((idx P s_62.2).bind fun x_69=>
 some (x_69.Break==6))).bind fun d_65=>
 if d_65 then
 some (.inl ((w64 (s_62.1+1)),(w64 (s_62.2-1))))
 else
 some (.inr s_62.1)) (fun s=>∃k n:Nat,s=((n:Int),(k:Int)-1)/\k<=i/\n+k<=i/\n+ri (P.take k).reverse=ri (P.take i).reverse) (fun s=>(s.2+1).toNat) (fun t=>t=(ri (P.take i).reverse:Int)) (fun s hs=>by
   obtain ⟨k,n,rfl,hk,hn,hI⟩:=hs;simp only
   cases k with
   | zero=>
    rw [show decide (((0:Nat):Int)-1>=0)=false by simp,iu];exact .inr ⟨_,rfl,by rw [<-hI]; simp [ri]⟩
   | succ k=>
    have e2:((k+1:Nat):Int)-1=(k:Int):=by omega
    have hkl:k<P.length:=by omega
    rw [rU hkl] at hI;rw [FB] at hI;rw [e2,show decide ((k:Int)>=0)=true by simp,ip,bj hkl];simp only [bsm];by_cases c1:P[k].Break=6
    ·rw [af (by simpa using c1),aJ (by omega),aJ (by omega)]
     rw [af c1] at hI;exact .inl ⟨_,rfl,⟨k,n+1,by simp,by omega,by omega,by omega⟩,by simp only; omega⟩
    ·rw [ae (by simpa using c1)]
     rw [ae c1] at hI;exact .inr ⟨_,rfl,by rw [<-hI]; simp⟩) ((((i:Int)-1)-0).toNat+2) (0,(i:Int)-1) ⟨i,0,rfl,aq _,by omega,by omega⟩ (by simp only; omega)
  rw [h1,h2]
theorem Ag {P:List ax}(hP:P.length<=1000000){i:Nat}(hi:i<P.length):eQ P i=some (rj pj (P.take i).reverse P[i]):=by
 unfold eQ;simp only [bu,bsm];by_cases h0:i=0
 ·subst h0
  rw [af (by simp)];rfl
 ·obtain ⟨j,rfl⟩:∃j,i=j+1:=⟨i-1,by omega⟩
  rw [ae (by simp; omega)];have e1:w64 (((j+1:Nat):Int)-1)=(j:Int):=by rw [aJ (by omega)]; omega
  have hj:j<P.length:=by omega
  have hp:=Br hP hi (by omega);simp only [zA] at hp;have hr:=D0 hP hi;rw [e1] at hr|-;rw [bj hj,bj hi];simp only [bsm,Hu,Bs hP hi,hp];simp only [bu,bsm];rw [rU hj];unfold rj;simp only;rw [rU hj] at hr;generalize hA:(pj P[j].Break P[j+1].Break==1 || (P[j+1].Conj==1 && cj (P[j]::(P.take j).reverse) 0) || (P[j+1].Pict && (!P[j].Pict && P[j].Break==5 && pk (P.take j).reverse)))=A
  cases A with
  | true=>simp
  | false=>
   simp only [ak,aY,jT];by_cases hc:pj P[j].Break P[j+1].Break=2/\P[j+1].Break=6
   ·have b1:(pj P[j].Break P[j+1].Break==2)=true:=by rw [aQ]; exact hc.1
    have b2:(P[j+1].Break==6)=true:=by rw [aQ]; exact hc.2
    have b3:(pj P[j].Break P[j+1].Break != 2)=false:=by rw [bne,b1]; rfl
    have b4:(P[j+1].Break != 6)=false:=by rw [bne,b2]; rfl
    rw [ae (by rw [b3,b4]; simp),hr];simp only [bsm,b1,b2,dO,aV];rw [cu,aQ,aQ,Fc (by omega)];omega
   ·rw [af (by simp only [aC,nv,vT]; omega)]
    congr 1
    rw [eq_comm,tY];simp only [vT,aA,aQ];exact fun h=>hc ⟨h.1.1,h.1.2⟩
def R32 (l:List Int):Prop:=∀x∈l,r32 x
theorem wW (l:List Int) (h:R32 l) (hl:l.length<=1000000):(cH (σ:=(List ax)×Int) (τ:=(List ax)) (((l.length:Int)-0).toNat+1) (fun s_7=>
 if decide (s_7.2<(l.length:Int)) then
 (idx l s_7.2).bind fun x_16=>
 (eq x_16).bind fun x_18=>
 (app s_7.1 ([x_18]:List ax)).bind fun x_20=>
 some (.inl (x_20,(w64 (s_7.2+1))))
 else
 some (.inr s_7.1)) (([]:List ax),0))=some (l.map pr):=by
  obtain ⟨t,h1,h2⟩:=eV (σ:=(List ax)×Int) (τ:=(List ax)) (n:=l.length) (fuel:=((l.length:Int)-0).toNat+1) (s:=(([]:List ax),0))
   (fun i s=>s=((l.take i).map pr,(i:Int))) (fun t=>t=l.map pr) (step:=fun s_7=>
 if decide (s_7.2<(l.length:Int)) then
 (idx l s_7.2).bind fun x_16=>
 (eq x_16).bind fun x_18=>
 (app s_7.1 ([x_18]:List ax)).bind fun x_20=>
 some (.inl (x_20,(w64 (s_7.2+1))))
 else
 some (.inr s_7.1))
   (fun i s hi e=>by
    subst e;simp only;rw [af (dlt hi),bj hi,dm hi (by omega)];simp only [bsm];rw [IJ _ (h _ (aF hi))];simp only [bsm];rw [cO (by simp; omega)];refine .inl ⟨_,rfl,?_⟩;rw [an hi,bC];rfl)
   (fun s e=>by subst e; exact ⟨_,by simp only; rw [ae (by simp)],by rw [aB (aq _)]⟩)
   rfl (by omega)
  rw [h1,h2]
theorem D3 (l:List Int) (h:R32 l) (hl:l.length<=1000000):gn l=some (l.map pr):=by
 unfold gn;rw [wW l h hl];rfl
theorem Ep {l:List Int}(hl:l.length<=1000000){i:Nat}(hi:i<l.length):eQ (l.map pr) i=some (jn pj pr (l.take i) l[i]):=by
 rw [Ag (by simpa using hl) (by simpa using hi)];unfold jn;rw [Hj pj Ht,eB,GI]
theorem Cz (l:List Int) (h:R32 l) (hl:l.length<=1000000):fS l=some ((sts pj pr l).map fun n:Nat=>(n:Int)):=by
 unfold fS;rw [D3 l h hl];simp only [bsm,cC];have hsl:∀l:List Int,(sts pj pr l).length<=l.length:=fun l=>by
  unfold sts;exact dY (wt _ _) (by simp)
 refine iO (n:=l.length) (fun i s=>s=((sts pj pr (l.take i)).map fun n:Nat=>(n:Int),(i:Int))) (fun u=>u=(sts pj pr l).map fun n:Nat=>(n:Int)) (fun i s hi e=>?_) (fun s e=>?_) rfl (by omega) (fun u hu=>by rw [hu])
 ·subst e
  simp only;rw [af (dlt hi),Ep hl hi,dm hi (by omega)];simp only [bsm];rw [an hi,wM];have hle:=hsl (l.take i);rw [az] at hle
  cases jn pj pr (l.take i) l[i] with
  | true=>
   simp only [dA,ak,aY,bsm,bA,cM];exact .inl ⟨_,rfl,rfl⟩
  | false=>
   simp only [fe,bA,ak,aY];rw [cO (by simp; omega)];refine .inl ⟨_,rfl,?_⟩;rw [bC,az,cL (vP hi)];rfl
 ·subst e
  exact ⟨_,by simp only; rw [ae (by simp)],by rw [aB (aq _)]⟩
theorem Fk (l:List Int):(sts pj pr l++ [l.length]).Pairwise (· < ·):=by
 rw [List.pairwise_append];refine ⟨?_,by simp,fun a ha b hb=>?_⟩
 ·unfold sts
  exact List.Pairwise.filter _ List.pairwise_lt_range
 ·rw [List.mem_singleton.1 hb]
  exact Be ha
theorem AM (l:List Int) (h:R32 l) (hl:l.length<=1000000):eW l=some (cls pj pr l):=by
 have hsl:(sts pj pr l).length<=l.length:=by
  unfold sts;exact dY (wt _ _) (by simp)
 unfold eW;rw [Cz l h hl];simp only [bsm];rw [cO (by simp; omega)];simp only [bsm];have e0:((sts pj pr l).map fun n:Nat=>(n:Int))++ [(l.length:Int)]=(sts pj pr l++ [l.length]).map fun n:Nat=>(n:Int):=by rw [bC]; rfl
 rw [e0,<-FL (pj:=pj) (pr:=pr) l];have hinc:=Fk l;have hAl:(sts pj pr l++ [l.length]).length=(sts pj pr l).length+1:=by simp
 have hle:∀a∈sts pj pr l++ [l.length],a<=l.length:=fun a ha=>by
  rcases List.mem_append.1 ha with ha|ha
  ·exact vP (Be ha)
  ·rw [List.mem_singleton.1 ha]; exact aq _
 generalize sts pj pr l++ [l.length]=A at *;simp only [cC];have e1:w64 (0+1)=1:=rfl;rw [e1];refine iO (n:=A.length-1) (fun i s=>s=((List.range i).map (fun i=>slx l (A.getD i 0) (A.getD (i+1) 0)),(i:Int))) (fun u=>u=pcs l A) (fun i s hi e=>?_) (fun s e=>?_) rfl (by omega) (fun u hu=>by rw [hu])
 ·subst e
  have hi1:i+1<A.length:=by omega
  simp only;rw [dm (show i<A.length by omega) (by omega),af (by simp; omega)];rw [bj (show i<(A.map fun n:Nat=>(n:Int)).length by simp; omega),bj (show i+1<(A.map fun n:Nat=>(n:Int)).length by simp; omega)];simp only [bsm,eB];have hlt:=List.pairwise_iff_getElem.1 hinc i (i+1) (by omega) hi1 (by omega);have hb:=hle _ (aF hi1);rw [mI (by omega) hb];simp only [bsm];rw [cO (by simp; omega),aW];simp only [bsm];rw [cO (by simp; omega)];refine .inl ⟨_,rfl,?_⟩;rw [qP,bC];simp only [pU,A5,iP,xF]
  congr 2
  unfold slx;have g:∀j (h:j<A.length),A.getD j 0=A[j]:=fun j h=>by rw [aw,ag h]; rfl
  rw [g i (by omega),g (i+1) hi1]
 ·subst e
  refine ⟨_,?_,rfl⟩;simp only;rw [aJ (by omega),ae (by simp; omega)];rfl
def IB (n:Nat):Bool:= !sil n || (((pr n).Break==1 || (pr n).Break==2 || (pr n).Break==3) && !(pr n).Pict && (pr n).Conj==0)
theorem Fs:(List.range 160).all IB=true:=by kernel_rfl
theorem HP:gT.all (fun x=> !(x.2.2==1 || x.2.2==2) || (decide (0<=x.1) && decide (x.2.1<=31)))=true:=by kernel_rfl
theorem Hf {r:Int}(h:sil r=true):0<=r/\r<160:=by
 unfold sil at h;simp only [aC,aA,am] at h;omega
theorem DG:Sil pj pr sil:=by
 refine ⟨fun r hr=>?_,fun a b ha hne=>?_,fun a b hb hne=>?_,fun r hr=>?_⟩
 ·obtain ⟨h1,h2⟩:=Hf hr
  have:=List.all_eq_true.1 Fs r.toNat (List.mem_range.2 (by omega));unfold IB at this;rw [ra h1,hr] at this;simp only [dA,jT,aA,aC,aQ,dP] at this;obtain ⟨⟨q1,q2⟩,q3⟩:=this;exact ⟨by rcases q1 with (q|q)|q <;> simp [q],q2,q3⟩
 ·obtain ⟨x,_,_,h3,_,h5⟩:=wX a b
  exact h5 (by omega) (by omega)
 ·obtain ⟨x,_,_,h3,_,h5⟩:=wX a b
  exact h5 (by omega) (by omega)
 ·have e:(pr r).Break=(lk gT r).getD (hcl r):=rfl
  rw [e] at hr;have hh:hcl r=9\/hcl r=10\/hcl r=11\/hcl r=0\/hcl r=12\/hcl r=13:=by
   unfold hcl
   repeat' split
   all_goals simp
  cases hx:fnd (fun x:Int×Int×Int=>x.1) (fun x=>x.2.1) gT r with
  | none=>
   unfold lk at hr;rw [hx] at hr;simp only [Kg,Option.getD_none] at hr;omega
  | some x=>
   unfold lk at hr;rw [hx] at hr;simp only [ga,nH] at hr;obtain ⟨m1,m2⟩:=uO hx;have:=List.all_eq_true.1 HP x m1;rw [nY] at m2;simp only [aC,dP,xH,fG,aA,am] at this;unfold sil;simp only [aC,aA,am];omega
def fo {α β:Type}(f:β->α->Option β):β->List α->Option β
 | b,[]=>some b
 | b,a::l=>(f b a).bind fun b'=>fo f b' l
theorem BA {α β:Type}(f:β->α->Option β) (b:β) (l m:List α):fo f b (l++m)=(fo f b l).bind fun b'=>fo f b' m:=by
 induction l generalizing b with
 | nil=>rfl
 | cons a l ih=>
  show (f b a).bind (fun b'=>fo f b' (l++m))=((f b a).bind fun b'=>fo f b' l).bind fun b'=>fo f b' m;rw [JW]
  congr 1
  funext b'
  exact ih b'
theorem nZ {α β:Type}(f:β->α->Option β) (b:β) (l:List α) (a:α):fo f b (l++ [a])=(fo f b l).bind fun b'=>f b' a:=by
 rw [BA]
 congr 1
 funext b'
 show (f b' a).bind (fun b'=>some b')=f b' a
 cases f b' a <;> rfl
theorem Gg {α β:Type}{f:β->α->Option β}{b:β}{l:List α}{r:β}(h:fo f b l=some r) (i:Nat):∃q,fo f b (l.take i)=some q:=by
 rw [<-fI i l,BA] at h
 cases hq:fo f b (l.take i) with
 | none=>rw [hq] at h; cases h
 | some q=>exact ⟨q,rfl⟩
theorem Ck {α β:Type}{f:β->α->Option β}{b:β}{l:List α}{r q:β}(h:fo f b l=some r){i:Nat}(hi:i<l.length) (hq:fo f b (l.take i)=some q):∃q',f q l[i]=some q'/\fo f b (l.take (i+1))=some q':=by
 obtain ⟨q',e⟩:=Gg h (i+1);refine ⟨q',?_,e⟩;rw [an hi,nZ,hq] at e;exact e
def xm (q:aa) (r:Int):Option aa:=(cN q r).map (·.1)
def w16 (c:List Int):Int:=wz (gf (c.take 16) ((c.take 16).map pr))
def oL (q:aa) (c:List Int):Option aa:=
 if sil (c.headD 0)=true then fo xm q c else (be q (w16 c) (c.take 16)).map (·.1)
theorem sn {q:aa}{a:Int}{t:List Int}(h:sil a=true):oL q (a::t)=fo xm q (a::t):=by
 unfold oL;rw [af (show sil ((a::t).headD 0)=true from h)]
theorem uI {q:aa}{a:Int}{t:List Int}(h:sil a=false):oL q (a::t)=(be q (w16 (a::t)) ((a::t).take 16)).map (·.1):=by
 unfold oL;rw [ae (show ¬sil ((a::t).headD 0)=true by rw [oI,h]; simp)]
theorem AF (c:List Int) (hl:c.length<=1000000):eP c=some (c.take 16):=by
 unfold eP;have hmin:aE (c.length:Int) 16=((min c.length 16:Nat):Int):=by rw [dL]; omega
 have:=mI (xs:=c) (i:=0) (j:=min c.length 16) (bT _) (by omega);rw [show ((0:Nat):Int)=0 from rfl] at this;rw [hmin,this];simp only [bsm,fU,mf];rw [cO (by simp; omega),aW];simp only [bsm];rw [show c.take (min c.length 16)=c.take 16 by rw [List.take_eq_take_iff]; omega]
theorem Fi (c:List Int) (h:R32 c) (hl:c.length<=1000000) (hne:c≠ []):gZ c=some (if sil (c.headD 0)=true then 0 else w16 c):=by
 cases c with
 | nil=>exact absurd rfl hne
 | cons a t=>
  unfold gZ;rw [show idx (a::t) 0=some a from rfl];simp only [bsm,nR];by_cases hs:sil a=true
  ·rw [af hs,af (show sil ((a::t).headD 0)=true from hs)]
  ·rw [ae hs,ae (show ¬sil ((a::t).headD 0)=true from hs),AF _ hl]
   simp only [bsm];have ht:((a::t).take 16).length<=16:=by rw [az]; omega
   have hr:R32 ((a::t).take 16):=fun x hx=>h x (cq hx);unfold kw;rw [wW _ hr (by omega)];simp only [bsm];rw [IE _ _ (by simp) (by omega)];rfl
theorem HH {p q:aa}{l:List Int}(h:R32 l) (hl:l.length<=1000000) (hq:fo oL p (cls pj pr l)=some q):iv p l=some q:=by
  obtain ⟨hf,hne,_⟩:=lC (pj:=pj) (pr:=pr) l;have hmem:∀c∈(cls pj pr l),∀x∈c,x∈l:=fun c hc x hx=>by rw [<-hf]; exact List.mem_flatten.2 ⟨c,hc,hx⟩
  have hcl:∀c∈(cls pj pr l),c.length<=l.length:=fun c hc=>by
   obtain ⟨i,hi,rfl⟩:=List.mem_iff_getElem.1 hc;have e:(cls pj pr l).flatten=((cls pj pr l).take i).flatten++((cls pj pr l)[i]++((cls pj pr l).drop (i+1)).flatten):=by
    rw [<-kT,<-qZ,<-fE hi,fI]
   have:=eZ List.length e;rw [hf] at this;simp only [ao] at this;omega
  have hcn:(cls pj pr l).length<=l.length:=by
   have key:∀cs:List (List Int),(∀c∈cs,c≠ [])->cs.length<=cs.flatten.length:=by
    intro cs
    induction cs with
    | nil=>intro _; simp
    | cons c cs ih=>
     intro h;have h1:=ih fun d hd=>h d (jf _ hd);have h2:1<=c.length:=by
      cases c with
      | nil=>exact absurd rfl (h [] (by simp))
      | cons _ _=>simp
     simp only [kT,aD,ao];omega
   have:=key (cls pj pr l) hne;rw [hf] at this;exact this
  unfold iv;rw [AM l h hl];simp only [bsm];generalize (cls pj pr l)=cs at *;refine iO (n:=cs.length) (fun i st=>∃qi,fo oL p (cs.take i)=some qi/\st=((i:Int),qi.L,qi.At.Row,qi.At.Col,qi.At.Pending,qi.Auto)) (fun u=>u=(q.L,q.At.Row,q.At.Col,q.At.Pending,q.Auto)) (fun i st hi hI=>?_) (fun st hI=>?_) ⟨p,rfl,rfl⟩ (by omega) (fun u hu=>by rw [hu])
  ·obtain ⟨qi,hqi,rfl⟩:=hI
   obtain ⟨q',h1,h2⟩:=Ck hq hi hqi;have hci:=aF hi;have hcne:=hne _ hci;have hcL:=hcl _ hci;simp only;rw [af (dlt hi),bj hi,dm hi (by omega)];simp only [bsm];refine .inl ⟨((i+1:Nat),q'.L,q'.At.Row,q'.At.Col,q'.At.Pending,q'.Auto),?_,q',h2,rfl⟩;generalize cs[i]=c at *
   cases c with
   | nil=>exact absurd rfl hcne
   | cons a t=>
    rw [show idx (a::t) 0=some a from rfl];simp only [bsm,nR];have hR:R32 (a::t):=fun x hx=>h x (hmem _ hci x hx)
    cases hs:sil a with
    | false=>
     rw [uI hs] at h1;simp only [fe,bA];rw [Fi _ hR (by omega) (by simp),AF _ (by omega)];simp only [bsm];rw [ae (show ¬sil ((a::t).headD 0)=true by rw [oI,hs]; simp)];rw [mc] at h1;obtain ⟨z,hz,rfl⟩:=h1;rw [show (⟨qi.L,⟨qi.At.Row,qi.At.Col,qi.At.Pending⟩,qi.Auto⟩:aa)=qi from rfl,hz];rfl
    | true=>
     rw [sn hs] at h1;simp only [dA,ak,aY];generalize hcc:a::t=c at *;obtain ⟨u,e1,e2⟩:=eV (σ:=Int×(List aj)×Int×Int×Bool×Bool) (τ:=((List aj)×Int×Int×Bool×Bool)) (n:=c.length) (fuel:=((c.length:Int)-0).toNat+1) (s:=(0,qi.L,qi.At.Row,qi.At.Col,qi.At.Pending,qi.Auto))
      (fun k st=>∃qk,fo xm qi (c.take k)=some qk/\st=((k:Int),qk.L,qk.At.Row,qk.At.Col,qk.At.Pending,qk.Auto)) (fun u=>u=(q'.L,q'.At.Row,q'.At.Col,q'.At.Pending,q'.Auto))
      (step:=fun s_45=>
 (some c).bind fun x_49=>
 if decide (s_45.1<(x_49.length:Int)) then
 (some c).bind fun x_57=>
 (idx x_57 s_45.1).bind fun x_60=>
 (cN (⟨s_45.2.1,(⟨s_45.2.2.1,s_45.2.2.2.1,s_45.2.2.2.2.1⟩:ai),s_45.2.2.2.2.2⟩:aa) x_60).bind fun x_62=>
 some (.inl ((w64 (s_45.1+1)),x_62.1.L,x_62.1.At.Row,x_62.1.At.Col,x_62.1.At.Pending,x_62.1.Auto))
 else
 some (.inr (s_45.2.1,s_45.2.2.1,s_45.2.2.2.1,s_45.2.2.2.2.1,s_45.2.2.2.2.2)))
      (fun k st hk hI=>by
       obtain ⟨qk,g1,rfl⟩:=hI;obtain ⟨qn,g2,g3⟩:=Ck h1 hk g1;unfold xm at g2;rw [mc] at g2;obtain ⟨z,hz,rfl⟩:=g2;simp only [bsm];rw [af (dlt hk),bj hk,dm hk (by omega)];simp only [bsm];rw [show (⟨qk.L,⟨qk.At.Row,qk.At.Col,qk.At.Pending⟩,qk.Auto⟩:aa)=qk from rfl,hz];exact .inl ⟨_,rfl,_,g3,rfl⟩)
      (fun st hI=>by
       obtain ⟨qk,g1,rfl⟩:=hI;rw [aB (aq _),h1] at g1;cases g1;simp only [bsm];exact ⟨_,by rw [ae (by simp)],rfl⟩)
      ⟨qi,rfl,rfl⟩ (by omega)
     subst e2;simp only [bsm] at e1|-;rw [e1];rfl
  ·obtain ⟨qi,hqi,rfl⟩:=hI
   rw [aB (aq _),hq] at hqi;cases hqi;exact ⟨_,by simp only; rw [ae (by simp)],rfl⟩
def pjE (i j:Nat):Bool:=(i==1 || i==2 || i==3) || (match dW i j with|some x=>x==1|none=>false)
theorem FJ:((List.range 14).all fun i=>([4,5]:List Nat).all fun j=>pjE i j)=true:=by kernel_rfl
def ctl (a:Int):Prop:=a=1\/a=2\/a=3
theorem Hv {a b:Int}(ha:¬ctl a) (hb:b=4\/b=5):pj a b=1:=by
 obtain ⟨i,hi,i14,_⟩:=zl a;have hi2:¬(i=1\/i=2\/i=3):=by
  unfold ctl at ha;unfold clz at hi;split at hi <;> omega
 obtain ⟨j,hj,hj2⟩:∃j:Nat,clz b=(j:Int)/\(j=4\/j=5):=by
  rcases hb with rfl|rfl
  ·exact ⟨4,rfl,.inl rfl⟩
  ·exact ⟨5,rfl,.inr rfl⟩
 have h:=List.all_eq_true.1 (List.all_eq_true.1 FJ i (List.mem_range.2 i14)) j (by rcases hj2 with rfl|rfl <;> simp);unfold pj;rw [yu,hi,hj];unfold pjE at h
 cases e:dW (i:Int) (j:Int) with
 | none=>rw [e] at h; simp at h; omega
 | some x=>rw [e] at h; simp at h; simp; omega
theorem IQ:pj 6 6=2:=by
 have:dW 6 6=some 2:=by kernel_rfl
 unfold pj;rw [this];rfl
def okp (p:ax):Prop:=(p.Pict=true->¬ctl p.Break)/\(p.Conj=1->¬ctl p.Break)/\(p.Conj=2\/p.Conj=3->p.Break=4\/p.Break=5)
def I8:List (Int×Int×Int):=gT.filter fun g=>g.2.2==1 || g.2.2==2 || g.2.2==3
def I7:List (Int×Int×Int):=gT.filter fun g=>g.2.2==4 || g.2.2==5
def HC (a b:Int):Bool:=I8.all fun g=>decide (b<g.1) || decide (g.2.1<a)
def cov (G:List (Int×Int×Int)) (a b:Int):Bool:=decide (b<G.foldl (fun cur g=>if g.1<=cur/\cur<=g.2.1 then g.2.1+1 else cur) a)
theorem Hy:pT.all (fun x=>HC x.1 x.2)=true:=by kernel_rfl
theorem Ib:cT.all (fun x=>x.2.2 != 1 || HC x.1 x.2.1)=true:=by kernel_rfl
theorem Ie:cT.all (fun x=>x.2.2==1 || cov I7 x.1 x.2.1)=true:=by kernel_rfl
theorem Bu {T:List (Int×Int×Int)}{r v:Int}(h:lk T r=some v):∃x∈T,x.1<=r/\r<=x.2.1/\x.2.2=v:=by
 unfold lk at h;obtain ⟨x,hx,rfl⟩:=Option.map_eq_some_iff.1 h;obtain ⟨h1,h2⟩:=uO hx;exact ⟨x,h1,(nY.1 h2).1,(nY.1 h2).2,rfl⟩
theorem F8 (r:Int):¬ctl (hcl r):=by
 unfold hcl ctl
 repeat' split
 all_goals omega
theorem B8 {a b r:Int}(h:HC a b=true) (h1:a<=r) (h2:r<=b):¬ctl ((lk gT r).getD (hcl r)):=by
 intro hc
 cases e:lk gT r with
 | none=>rw [e] at hc; exact F8 r hc
 | some v=>
  rw [e] at hc;obtain ⟨x,hx,k1,k2,k3⟩:=Bu e;have hc:ctl v:=hc;have hm:x∈I8:=List.mem_filter.2 ⟨hx,by unfold ctl at hc; simp only [aC,aQ]; omega⟩;have:=List.all_eq_true.1 h x hm;simp only [aC,am] at this;omega
theorem HX (G:List (Int×Int×Int)):∀(a cur r:Int),a<=r->r<G.foldl (fun cur g=>if g.1<=cur/\cur<=g.2.1 then g.2.1+1 else cur) cur->cur<=r->∃g∈G,g.1<=r/\r<=g.2.1:=by
 induction G with
 | nil=>intro a cur r _ h1 h2; simp only [List.foldl_nil] at h1; omega
 | cons g G ih=>
  intro a cur r h0 h1 h2;rw [Dt] at h1;by_cases hr:g.1<=r/\r<=g.2.1
  ·exact ⟨g,.head _,hr⟩
  ·split at h1
   ·rename_i hg
    obtain ⟨x,hx,hx2⟩:=ih a (g.2.1+1) r h0 h1 (by omega);exact ⟨x,.tail _ hx,hx2⟩
   ·obtain ⟨x,hx,hx2⟩:=ih a cur r h0 h1 h2;exact ⟨x,.tail _ hx,hx2⟩
theorem D4 (r:Int):okp (pr r):=by
 refine ⟨fun hp=>?_,fun hc=>?_,fun hc=>?_⟩
 ·have hp:pic r=true:=hp;unfold pic at hp;obtain ⟨x,hx⟩:=Option.isSome_iff_exists.1 hp;obtain ⟨h1,h2⟩:=uO hx;exact B8 (List.all_eq_true.1 Hy x h1) (nY.1 h2).1 (nY.1 h2).2
 ·have hc:(lk cT r).getD 0=1:=hc
  cases e:lk cT r with
  | none=>rw [e] at hc; simp at hc
  | some v=>
   rw [e] at hc;have hc:v=1:=hc;obtain ⟨x,hx,k1,k2,k3⟩:=Bu e;have:=List.all_eq_true.1 Ib x hx;simp only [aC,nv,vT] at this;rcases this with q|q
   ·omega
   ·exact B8 q k1 k2
 ·have hc:(lk cT r).getD 0=2\/(lk cT r).getD 0=3:=hc
  cases e:lk cT r with
  | none=>rw [e] at hc; simp at hc
  | some v=>
   rw [e] at hc;have hc:v=2\/v=3:=hc;obtain ⟨x,hx,k1,k2,k3⟩:=Bu e;have:=List.all_eq_true.1 Ie x hx;simp only [aC,aQ] at this;rcases this with q|q
   ·omega
   ·unfold cov at q;obtain ⟨g,hg,g1,g2⟩:=HX I7 x.1 x.1 r k1 (Int.lt_of_le_of_lt k2 (tN q)) k1;obtain ⟨hg,hv⟩:=List.mem_filter.1 hg;have hl:lk gT r=some g.2.2:=by
     unfold lk;rw [BB Gf hg (nY.2 ⟨g1,g2⟩)];rfl
    have hb:(pr r).Break=g.2.2:=by
     show (lk gT r).getD (hcl r)=_;rw [hl]; rfl
    rw [hb];simpa using hv
def JnS (s:Sg):Prop:=(s.pict=1\/s.conj≠0)->s.some=true/\¬ctl s.last
theorem JR:JnS sg0:=by intro h; simp [sg0] at h
theorem Fb {s:Sg}(h:JnS s){p:ax}(hp:okp p):JnS (sgN s p):=by
 intro hh;refine ⟨rfl,?_⟩;show ¬ctl p.Break;obtain ⟨p1,p2,p3⟩:=hp;have hx:∀{b:Int},b=4\/b=5->¬ctl b:=fun hb=>by unfold ctl; omega
 rcases hh with hh|hh
 ·have hh:nxP s.pict p=1:=hh;unfold nxP at hh;split at hh
  ·rename_i q; exact p1 q
  ·split at hh
   ·rename_i q; exact hx (.inl q.2)
   ·split at hh <;> omega
 ·have hh:nxC s.conj p≠0:=hh;unfold nxC at hh;split at hh
  ·rename_i q; exact p2 q
  ·split at hh
   ·omega
   ·split at hh
    ·rename_i q; exact hx (p3 (.inl q))
    ·split at hh
     ·rename_i q; exact hx (p3 (.inr q))
     ·omega
theorem Ft {s:Sg}(h:JnS s){p:ax}(hp:okp p) (hj:sgJ pj s p=false):sgN s p=sgN sg0 p:=by
 have e0:(s.pict=1\/s.conj≠0)->¬(p.Break=4\/p.Break=5):=fun q hb=>by
  obtain ⟨h1,h2⟩:=h q;unfold sgJ at hj;rw [h1,Hv h2 hb] at hj;simp at hj
 have e1:nxP s.pict p=nxP sg0.pict p:=by
  unfold nxP;split
  ·rfl
  ·have:¬(s.pict=1/\p.Break=4):=fun q=>e0 (.inl q.1) (.inl q.2);have h2:¬(s.pict=1/\p.Break=5):=fun q=>e0 (.inl q.1) (.inr q.2);rw [ae this,ae h2,ae (by simp [sg0]),ae (by simp [sg0])]
 have e2:nxC s.conj p=nxC sg0.conj p:=by
  unfold nxC;split
  ·rfl
  ·rw [af (show sg0.conj=0 from rfl)];split
   ·rfl
   ·rename_i q
    have hn:=e0 (.inr q);rw [ae (fun q2=>hn (hp.2.2 (.inl q2))),ae (fun q2=>hn (hp.2.2 (.inr q2)))]
 have e3:(p.Break==6 && !(s.some && s.last==6 && s.odd))=(p.Break==6 && !(sg0.some && sg0.last==6 && sg0.odd)):=by
  have:(sg0.some && sg0.last==6 && sg0.odd)=false:=rfl;rw [this];by_cases hb:p.Break=6
  ·have:(s.some && s.last==6 && s.odd)=false:=by
    rw [tY];intro q;simp only [aA,aQ] at q;unfold sgJ at hj;rw [q.1.1,q.1.2,q.2,hb,IQ] at hj;simp at hj
   rw [this]
  ·have:(p.Break==6)=false:=by simpa using hb
   rw [this]; rfl
 unfold sgN;rw [e1,e2,e3]
theorem Iz:dB=cU:=rfl
theorem CH (s:Sg) (p:ax):dB (sgB s) p=some (sgB (sgN s p),sgJ pj s p):=by
 rw [Iz];exact zT s p
theorem HY (l:List Int):JnS (sgF (l.map pr))/\∀cs0 cl,cls pj pr l=cs0++ [cl]->sgF (l.map pr)=sgF (cl.map pr)/\cls pj pr cl= [cl]:=by
 refine pW (P:=fun l=>JnS (sgF (l.map pr))/\∀cs0 cl,cls pj pr l=cs0++ [cl]->sgF (l.map pr)=sgF (cl.map pr)/\cls pj pr cl= [cl]) ⟨JR,fun cs0 cl h=>?_⟩ (fun l r ih=>?_) l
 ·rw [wD] at h;simp at h
 ·obtain ⟨ij,ih⟩:=ih;have e:sgF ((l++ [r]).map pr)=sgN (sgF (l.map pr)) (pr r):=by rw [bC,mg,pX]
  refine ⟨by rw [e]; exact Fb ij (D4 r),fun cs0 cl h=>?_⟩;rw [nh] at h;split at h
  ·rename_i hj
   obtain ⟨l0,x,rfl⟩:=gw (vV pj pr hj);obtain ⟨c0,c,ec⟩:=gw ((lC (pj:=pj) (pr:=pr) (l0++ [x])).2.2 (by simp));obtain ⟨i1,i2⟩:=ih c0 c ec;rw [ec,lV] at h;obtain ⟨rfl,h2⟩:=Kb h rfl;obtain rfl:=List.cons.inj h2 |>.1;have hjc:jn pj pr c r=true:=by
    unfold jn at hj|-;rw [<-i1];exact hj
   refine ⟨by rw [e,i1,bC,mg,pX],?_⟩;rw [nh,af hjc,i2];rfl
  ·rename_i hj
   obtain ⟨rfl,h2⟩:=Kb h rfl;obtain rfl:=List.cons.inj h2 |>.1;have hs:sgJ pj (sgF (l.map pr)) (pr r)=false:=by simpa [jn] using hj
   exact ⟨by rw [e,Ft ij (D4 r) hs]; rfl,rfl⟩
theorem Gu {l c:List Int}(h:c∈cls pj pr l):cls pj pr c= [c]:=by
 revert h
 refine pW (P:=fun l=>c∈cls pj pr l->cls pj pr c= [c]) (fun h=>by rw [wD] at h; cases h) (fun l r ih h=>?_) l;have hst:=(HY (l++ [r])).2;rw [nh] at h hst;split at h
 ·rename_i hj
  rw [af hj] at hst;obtain ⟨l0,x,rfl⟩:=gw (vV pj pr hj);obtain ⟨c0,d,ec⟩:=gw ((lC (pj:=pj) (pr:=pr) (l0++ [x])).2.2 (by simp));rw [ec,lV] at h hst;rcases List.mem_append.1 h with h|h
  ·exact ih (by rw [ec]; exact fc _ h)
  ·rw [List.mem_singleton.1 h];exact (hst _ _ rfl).2
 ·rename_i hj
  rw [ae hj] at hst;rcases List.mem_append.1 h with h|h
  ·exact ih h
  ·rw [List.mem_singleton.1 h];exact (hst _ _ rfl).2
theorem Gt {l:List Int}{i:Nat}{cs0:List (List Int)}{cl:List Int}(h:cls pj pr (l.take i)=cs0++ [cl]):∀d,i+d<=l.length->∃t x,cls pj pr (l.take (i+d))=cs0++(t++ [x]):=by
 intro d
 induction d with
 | zero=>exact fun _=>⟨[],cl,h⟩
 | succ d ih=>
  intro hd;obtain ⟨t,x,e⟩:=ih (by omega);rw [show i+(d+1)=i+d+1 by omega,an (by omega),nh];split
  ·exact ⟨t,x++ [l[i+d]],by rw [e,<-aL,lV,aL]⟩
  ·exact ⟨t++ [x],[l[i+d]],by rw [e,aL,aL]⟩
theorem EZ {σ:Type}{y:σ->Int->List Int->Option (σ×Bool)}(l:List Int) (h:R32 l) (hl:l.length<=1000000){s0 s1:σ}(f:σ->List Int->Option σ)
  (hy:∀s c (i:Int) s',c∈cls pj pr l->f s c=some s'->y s i c=some (s',true)) (hf:fo f s0 (cls pj pr l)=some s1):kh y l s0=some s1:=by
 have hsl:∀k m:Nat,k<=m->m<=l.length->slc l (k:Int) (m:Int)=some ((l.drop k).take (m-k)):=fun k m h1 h2=>mI h1 h2;have hsn:∀(k i:Nat) (hi:i<l.length),k<=i->(l.drop k).take (i+1-k)=(l.drop k).take (i-k)++ [l[i]]:=fun k i hi hk=>by
  have e:i+1-k=(i-k)+1:=by omega
  have hd:i-k<(l.drop k).length:=by rw [bm]; omega
  rw [e,an hd,J2]
  congr 3
  omega
 unfold kh;refine iO (n:=l.length) (fun i (a:bD×Int×Int×σ)=>∃(k:Nat) (s:σ),a=(sgB (sgF ((l.take i).map pr)),(k:Int),(i:Int),s)/\((i=0/\k=0/\s=s0)\/∃cs0,cls pj pr (l.take i)=cs0++ [(l.drop k).take (i-k)]/\k<i/\fo f s0 cs0=some s))
  (fun (u:σ ⊕ (Int×σ))=>∃(k:Nat) (s:σ),u= .inr ((k:Int),s)/\((l.length=0/\k=0/\s=s0)\/∃cs0,cls pj pr l=cs0++ [(l.drop k).take (l.length-k)]/\k<l.length/\fo f s0 cs0=some s)) (fun i a hi hI=>?_) (fun a hI=>?_) ⟨0,s0,rfl,.inl ⟨rfl,rfl,rfl⟩⟩ (by omega) (fun u hu=>?_)
 ·obtain ⟨k,s,rfl,hI⟩:=hI
  left
  simp only;have hst:=nh pj pr (l.take i) l[i];rw [<-an hi] at hst;have hsg:sgF ((l.take (i+1)).map pr)=sgN (sgF ((l.take i).map pr)) (pr l[i]):=by rw [an hi,bC,mg,pX]
  rw [af (dlt hi),dm hi (by omega),bj hi,bsm,Ba _ (h _ (aF hi)),bsm,CH,bsm,bu,bsm];have hjn:sgJ pj (sgF ((l.take i).map pr)) (pr l[i])=jn pj pr (l.take i) l[i]:=rfl;simp only;rw [hjn,<-hsg];rcases hI with ⟨rfl,rfl,rfl⟩|⟨cs0,hc,hk,hs⟩
  ·rw [af (by simp)];refine ⟨_,rfl,0,s,rfl,.inr ⟨[],?_,by omega,rfl⟩⟩;have hz:jn pj pr ([]:List Int) l[0]=false:=rfl;rw [hst,bN,hz,ae (by simp),hsn 0 0 hi (aq _)];rfl
  ·cases hj:jn pj pr (l.take i) l[i] with
   | true=>
    rw [af (by simp)];rw [hj,af rfl,hc,lV] at hst;exact ⟨_,rfl,k,s,rfl,.inr ⟨cs0,by rw [hst,hsn k i hi (by omega)],by omega,hs⟩⟩
   | false=>
    rw [ae (by simp; omega),hsl k i (by omega) (by omega),bsm];rw [hj,ae (by simp),hc] at hst;obtain ⟨t,x,ht⟩:=Gt hst (l.length-(i+1)) (by omega);rw [show i+1+(l.length-(i+1))=l.length by omega,dj] at ht;have hm:(l.drop k).take (i-k)∈cls pj pr l:=by rw [ht]; simp
    rw [ht,aL,BA,hs,bsm] at hf;have hf2:(f s ((l.drop k).take (i-k))).bind (fun b=>fo f b (t++ [x]))=some s1:=hf;obtain ⟨s',h1,_⟩:=Option.bind_eq_some_iff.1 hf2;rw [hy s _ (k:Int) s' hm h1,bsm,ae (by simp)];refine ⟨_,rfl,i,s',rfl,.inr ⟨cs0++ [(l.drop k).take (i-k)],?_,by omega,?_⟩⟩
    ·rw [hst,hsn i i hi (aq _),dG];rfl
    ·rw [nZ,hs,bsm,h1]
 ·obtain ⟨k,s,rfl,hI⟩:=hI;refine ⟨_,by simp only; rw [ae (by simp)],k,s,rfl,?_⟩;rw [dj] at hI;exact hI
 ·obtain ⟨k,s,rfl,hI⟩:=hu;simp only;rcases hI with ⟨h0,rfl,rfl⟩|⟨cs0,hc,hk,hs⟩
  ·rw [ae (by rw [am]; omega)];obtain rfl:=cS h0;exact hf
  ·rw [af (by rw [am]; omega),hsl k l.length (by omega) (aq _),bsm];have hm:(l.drop k).take (l.length-k)∈cls pj pr l:=by rw [hc]; simp
   rw [hc,nZ,hs,bsm] at hf;rw [hy s _ (k:Int) s1 hm hf,bsm]
end Go.Proofs.YtclmdpamofdoiaaGreatDoor
namespace Go.Proofs.YtclmdpamofdoiaaGreatDoor
def ld (b:Int):Int:=if b<128 then 1 else if 194<=b/\b<=223 then 2 else if 224<=b/\b<=239 then 3 else if 240<=b/\b<=244 then 4 else 0
def slo (b:Int):Int:=if b=224 then 160 else if b=240 then 144 else 128
def shi (b:Int):Int:=if b=237 then 159 else if b=244 then 143 else 191
theorem sm (b:Int):0<=ld b/\ld b<=4:=by
 unfold ld
 repeat' split
 all_goals omega
def bg:List Int->Int
 | [a]=>ld a
 | [a,b]=>if 2<=ld a/\slo a<=b/\b<=shi a then ld a else 0
 | [a,b,c]=>if 3<=ld a/\slo a<=b/\b<=shi a/\128<=c/\c<=191 then ld a else 0
 | [a,b,c,d]=>if ld a=4/\slo a<=b/\b<=shi a/\128<=c/\c<=191/\128<=d/\d<=191 then 4 else 0
 | _=>0
def b0 (a:Int):Int:=if ld a=2 then a-192 else if ld a=3 then a-224 else if ld a=4 then a-240 else a
def vl:List Int->Int
 | []=>0
 | a::l=>l.foldl (fun v x=>v*64+(x-128)) (b0 a)
def rs0 (b:Int):List Int×List Int:=if 1<ld b then ([],[b]) else if ld b=1 then ([b],[]) else ([65533],[])
def jS (h:List Int) (b:Int):List Int×List Int:=
 if h= [] then rs0 b else if (h.length:Int)+1<bg (h++ [b]) then ([],h++ [b]) else if 0<bg (h++ [b]) then ([vl (h++ [b])],[]) else (65533::(rs0 b).1,(rs0 b).2)
def aZ:List Int->List Int->List Int×List Int
 | h,[]=>([],h)
 | h,b::p=>((jS h b).1++(aZ (jS h b).2 p).1,(aZ (jS h b).2 p).2)
theorem nQ (h a b:List Int):aZ h (a++b)=((aZ h a).1++(aZ (aZ h a).2 b).1,(aZ (aZ h a).2 b).2):=by
 induction a generalizing h with
 | nil=>simp [aZ]
 | cons x a ih=>simp [aZ,ih]
theorem qB (h a:List Int) (x:Int):aZ h (a++ [x])=((aZ h a).1++(jS (aZ h a).2 x).1,(jS (aZ h a).2 x).2):=by
 rw [nQ];simp [aZ]
def Hh (h:List Int):Prop:=h= []\/(h.length:Int)<bg h
theorem Hh.step {h:List Int}(hh:Hh h) (b:Int):Hh (jS h b).2:=by
 unfold jS;have h0:Hh (rs0 b).2:=by
  unfold rs0;split
  ·rename_i q; exact .inr q
  ·split <;> exact .inl rfl
 split
 ·exact h0
 ·split
  ·rename_i q; exact .inr (by simp only [ao,aD,aI]; omega)
  ·split
   ·exact .inl rfl
   ·exact h0
theorem Hh.feed {h:List Int}(hh:Hh h) (p:List Int):Hh (aZ h p).2:=by
 induction p generalizing h with
 | nil=>exact hh
 | cons b p ih=>exact ih (hh.step b)
theorem Hh.len {h:List Int}(hh:Hh h):h.length<=3:=by
 rcases hh with rfl|hh
 ·simp
 ·match h,hh with
  | [],_=>simp
  | [_],_=>simp
  | [_,_],_=>simp
  | [_,_,_],_=>simp
  | [a,b,c,d],q=>simp only [bg,aD,aI] at q; split at q <;> omega
  | _::_::_::_::_::_,q=>simp only [bg,aD] at q; omega
theorem GB {l:List Int}(h:5<=l.length):bg l=0:=by
 match l,h with
 | [],h=>simp at h
 | [_],h=>simp at h
 | [_,_],h=>simp at h
 | [_,_,_],h=>simp at h
 | [_,_,_,_],h=>simp at h
 | _::_::_::_::_::_,_=>rfl
theorem Ig {h:List Int}{b:Int}(hne:h≠ []) (hb:0<bg (h++ [b])):bg h=bg (h++ [b]):=by
 match h,hne,hb with
 | [a],_,q=>simp only [bP,aW,bg] at q|-; split at q <;> rename_i g; rw [af g]; omega
 | [a,c],_,q=>
  simp only [bP,aW,bg] at q|-;split at q
  ·rename_i g; rw [af g,af ⟨by omega,g.2.1,g.2.2.1⟩]
  ·omega
 | [a,c,d],_,q=>
  simp only [bP,aW,bg] at q|-;split at q
  ·rename_i g; rw [af g,af ⟨by omega,g.2.1,g.2.2.1,g.2.2.2.1,g.2.2.2.2.1⟩]; exact g.1
  ·omega
 | a::c::d::e::t,_,q=>rw [GB (by simp)] at q; omega
theorem vE {c:List Int}(hc:c≠ []) (h:∀k,0<k->k<=c.length->(k:Int)<bg (c.take k)):aZ [] c=([],c):=by
 have key:∀n,n<=c.length->aZ [] (c.take n)=([],c.take n):=by
  intro n
  induction n with
  | zero=>intro _; rfl
  | succ n ih=>
   intro hn;have h1:=h (n+1) (by omega) hn;rw [an (by omega)] at h1|-;rw [qB,ih (by omega)];have h2:jS (c.take n) c[n]=([],c.take n++ [c[n]]):=by
    unfold jS;by_cases hz:c.take n= []
    ·rw [af hz,hz];rw [hz] at h1;simp only [aW,bg] at h1;have hn0:n=0:=by
      have:=eZ List.length hz;rw [az,aI] at this;omega
     subst hn0;unfold rs0;rw [af (by simpa using h1)];rfl
    ·have hl:(c.take n).length=n:=by rw [az]; omega
     rw [ae hz,af (by rw [hl]; omega)]
   rw [h2];rfl
 have:=key c.length (aq _)
 rwa [aB (aq _)] at this
structure GK (c:List Int) (k:Nat):Prop where
 le:k<=c.length
 lt:∀m,0<m->m<k->(m:Int)<bg (c.take m)
 z:k=0->bg (c.take 1)=0
 p:0<k->0<bg (c.take k)
 e:0<k->(k:Int)<bg (c.take k)->k=c.length\/bg (c.take (k+1))=0
theorem vp (b:Int):jS [] b=rs0 b:=by
 unfold jS;rw [af rfl]
theorem wS (b:Int) (p:List Int):aZ [] (b::p)=((rs0 b).1++(aZ (rs0 b).2 p).1,(aZ (rs0 b).2 p).2):=by
 rw [aZ,vp]
theorem qC {c:List Int}{k:Nat}(h:GK c k) (hk:0<k) (hw:bg (c.take k)=k):aZ [] c=(vl (c.take k)::(aZ [] (c.drop k)).1,(aZ [] (c.drop k)).2):=by
 have hle:=h.le
 conv=>lhs; rw [<-fI k c]
 rw [nQ]
 suffices e:aZ [] (c.take k)=([vl (c.take k)],[]) by
  rw [e];rfl
 obtain ⟨m,rfl⟩:∃m,k=m+1:=⟨k-1,by omega⟩;have ht:c.take (m+1)=c.take m++ [c[m]]:=an (by omega);rw [ht] at hw|-;rw [qB];have hl:(c.take m).length=m:=by rw [az]; omega
 by_cases hm:m=0
 ·subst hm;simp only [bN,aW] at hw|-;simp only [aZ,vp];unfold rs0;simp only [bg] at hw;rw [ae (by omega),af (by omega)];simp only [vl,List.foldl,b0];rw [ae (by omega),ae (by omega),ae (by omega)];rfl
 ·have hne:c.take m≠ []:=fun e=>by rw [e] at hl; simp at hl; omega
  rw [vE hne (fun n h0 hn=>by
   rw [fT,show min n m=n by rw [hl] at hn; omega];exact h.lt n h0 (by omega))]
  simp only;have h2:jS (c.take m) c[m]=([vl (c.take m++ [c[m]])],[]):=by
   unfold jS;rw [ae hne,ae (by rw [hl,hw]; simp),af (by rw [hw]; omega)]
  rw [h2];rfl
theorem vz {c:List Int}(hc:c≠ []) (h:bg (c.take 1)=0):aZ [] c=(65533::(aZ [] (c.drop 1)).1,(aZ [] (c.drop 1)).2):=by
 cases c with
 | nil=>exact absurd rfl hc
 | cons a c=>
  simp only [cx,bN,bg] at h;rw [wS];unfold rs0;rw [ae (by omega),ae (by omega)];rfl
theorem wZ {c:List Int}(h:GK c c.length) (hk:0<c.length) (hw:(c.length:Int)<bg c):aZ [] c=([],c):=by
 refine vE (fun e=>by rw [e] at hk; simp at hk) fun k h0 hn=>?_;by_cases hkk:k=c.length
 ·subst hkk;rw [aB (aq _)];exact hw
 ·exact h.lt k h0 (by omega)
theorem yr {c:List Int}{k:Nat}(h:GK c k) (hk:0<k) (hw:(k:Int)<bg (c.take k)) (hlt:k<c.length):aZ [] c=(65533::(aZ [] (c.drop k)).1,(aZ [] (c.drop k)).2):=by
 have hl:(c.take k).length=k:=by rw [az]; omega
 have hne:c.take k≠ []:=fun e=>by rw [e] at hl; simp at hl; omega
 have hz:bg (c.take (k+1))=0:=by
  rcases h.e hk hw with q|q
  ·omega
  ·exact q
 conv=>lhs; rw [<-fI k c]
 rw [nQ,vE hne (fun n h0 hn=>by
  rw [fT,show min n k=n by rw [hl] at hn; omega];by_cases hkk:n=k
  ·subst hkk; exact hw
  ·exact h.lt n h0 (by rw [hl] at hn; omega))]
 rw [fE hlt];simp only [aW];rw [an hlt] at hz;have h2:jS (c.take k) c[k]=(65533::(rs0 c[k]).1,(rs0 c[k]).2):=by
  unfold jS;rw [ae hne,ae (by rw [hz]; omega),ae (by rw [hz]; omega)]
 rw [wS,aZ,h2];rfl
end Go.Proofs.YtclmdpamofdoiaaGreatDoor
namespace Go.Proofs.YtclmdpamofdoiaaGreatDoor
open Go Go.Lt
def Byt (b:Int):Prop:=0<=b/\b<=255
def Bts (l:List Int):Prop:=∀x∈l,Byt x
theorem xb {b:Int}(h:Byt b):jK b=some (ld b):=by
 obtain ⟨h1,h2⟩:=h;unfold jK ld;simp only [bb,bsm,aA,am,Bz];have e1:w64 (0+1)=1:=rfl;have e2:w64 (1+1)=2:=rfl;have e3:w64 (2+1)=3:=rfl;have e4:w64 (3+1)=4:=rfl;rw [e1,e2,e3,e4]
 repeat' split
 all_goals first|rfl|omega
theorem xa {b:Int}(h:Byt b) (hl:2<=ld b):kf b=some (slo b,shi b):=by
 unfold kf slo shi;rw [xb h];simp only [bsm,aQ,am];rw [ae (by omega)];have e1:IntKind.u8.wrap (IntKind.u8.wrap (191-16)-32)=143:=by decide
 have e2:IntKind.u8.wrap (191-32)=159:=by decide
 rw [e1,e2];by_cases a1:b=224
 ·subst a1; rfl
 by_cases a2:b=240
 ·subst a2; rfl
 by_cases a3:b=244
 ·subst a3; rfl
 by_cases a4:b=237
 ·subst a4; rfl
 rw [ae a1,ae a2,ae a3,ae a4,ae a1,ae a2,ae a4,ae a3];rfl
def EV (n:Nat):Bool:=(lP n==if ld n=0 then some 0 else some (b0 n))
theorem EU:(List.range 256).all EV=true:=by kernel_rfl
theorem Am {b:Int}(h:Byt b) (hl:1<=ld b):lP b=some (b0 b):=by
 obtain ⟨h1,h2⟩:=h;have:=List.all_eq_true.1 EU b.toNat (List.mem_range.2 (by omega));unfold EV at this;rw [aQ,ra h1,ae (by omega)] at this;exact this
def DE (n:Nat):Bool:=(ko .u8 n 63==if 128<=n/\n<=191 then (n:Int)-128 else ko .u8 n 63)
theorem DD:(List.range 256).all DE=true:=by kernel_rfl
theorem zN {b:Int}(h1:128<=b) (h2:b<=191):ko .u8 b 63=b-128:=by
 have:=List.all_eq_true.1 DD b.toNat (List.mem_range.2 (by omega));unfold DE at this;rw [aQ,ra (by omega),af (by omega)] at this;exact this
theorem D8 {x y:Nat}(hx:x<1000000000) (hy:y<64):qF .i64 ((x:Int)*64) (y:Int)=((x*64+y:Nat):Int):=by
 have e1:BitVec.ofInt 64 ((x:Int)*64)=BitVec.ofNat 64 (x*64):=by
  rw [show ((x:Int)*64)=((x*64:Nat):Int) by simp,Js]
 have e2:BitVec.ofInt 64 (y:Int)=BitVec.ofNat 64 y:=Js _ _;have e3:(x*64) ||| y=x*64+y:=by
  have:=Nat.shiftLeft_add_eq_or_of_lt (show y<2 ^ 6 by omega) x;rw [Nat.shiftLeft_eq] at this;exact this.symm
 unfold qF;rw [show IntKind.i64.bits=64 from rfl,e1,e2,BitVec.toNat_or,JU,JU,BO (by omega),BO (by omega),e3];exact aJ (by omega)
def Dv (d:bG) (h:List Int):Prop:=
 Hh h/\Bts h/\d=(match h with|[]=>⟨0,0,0,0,0⟩|[a]=>⟨1,ld a-1,slo a,shi a,b0 a⟩|a::b::t=>⟨(h.length:Int),bg h-(h.length:Int),128,191,vl h⟩)
theorem yB {b:Int}(h:Byt b):∃d',cG ⟨0,0,0,0,0⟩ b=some (d',(rs0 b).1)/\Dv d' (rs0 b).2:=by
 have hb:=h;obtain ⟨h1,h2⟩:=hb;unfold cG rs0;rw [xb h];simp only [bsm,aQ];have hin:=sm b;by_cases e0:ld b=0
 ·rw [af e0,ae (by omega),ae (by omega)];exact ⟨_,rfl,.inl rfl,fun x hx=>by simp at hx,rfl⟩
 ·rw [ae e0];by_cases e1:ld b=1
  ·rw [af e1,ae (by omega),af e1,wI (by omega)];exact ⟨_,rfl,.inl rfl,fun x hx=>by simp at hx,rfl⟩
  ·rw [ae e1,af (by omega),Am h (by omega),xa h (by omega)];simp only [bsm];rw [aJ (by omega)];refine ⟨_,rfl,.inr ?_,fun x hx=>?_,rfl⟩
   ·simp only [aD,aI,bg]; omega
   ·rw [List.mem_singleton.1 hx]; exact h
theorem yI {h:List Int}(hne:h≠ []) (b:Int):vl (h++ [b])=vl h*64+(b-128):=by
 cases h with
 | nil=>exact absurd rfl hne
 | cons a t=>simp [vl,kS]
theorem EY {a:Int}(h:Byt a) (hl:2<=ld a):0<=b0 a/\b0 a<=31:=by
 obtain ⟨h1,h2⟩:=h;unfold b0;unfold ld at hl;unfold ld
 repeat' split at hl
 all_goals (repeat' split)
 all_goals omega
theorem Dy {h:List Int}(hh:Hh h) (hb:Bts h) (hne:h≠ []):0<=vl h/\vl h<=131071:=by
 rcases hh with rfl|hh
 ·exact absurd rfl hne
 ·match h,hh with
  | [],_=>exact absurd rfl hne
  | [a],q=>
   have ha:=hb a (by simp);simp only [bg,aD,aI] at q;have:=EY ha (by omega);simp only [vl,List.foldl];omega
  | [a,b],q=>
   have ha:=hb a (by simp);simp only [bg,aD,aI] at q;split at q
   ·rename_i g
    have:=EY ha (by omega);have hs:128<=b/\b<=191:=by
     have:=g.2;unfold slo shi at this
     repeat' split at this
     all_goals omega
    simp only [vl,List.foldl];omega
   ·omega
  | [a,b,c],q=>
   have ha:=hb a (by simp);simp only [bg,aD,aI] at q;split at q
   ·rename_i g
    have:=EY ha (by omega);have hs:128<=b/\b<=191:=by
     have:=g.2;unfold slo shi at this
     repeat' split at this
     all_goals omega
    simp only [vl,List.foldl];omega
   ·omega
  | [a,b,c,d],q=>simp only [bg,aD,aI] at q; split at q <;> omega
  | _::_::_::_::_::_,q=>simp only [bg,aD] at q; omega
theorem Ao {h:List Int}(hh:(h.length:Int)<bg h) (hne:h≠ []) (b:Int):∃lo hi,(match h with|[a]=>(slo a,shi a)|_=>(128,191))=(lo,hi)/\128<=lo/\hi<=191/\
  ((lo<=b/\b<=hi)->bg (h++ [b])=bg h)/\(¬(lo<=b/\b<=hi)->bg (h++ [b])=0):=by
 match h,hh with
 | [],_=>exact absurd rfl hne
 | [a],q=>
  simp only [bg,aD,aI] at q;refine ⟨slo a,shi a,rfl,by unfold slo; repeat' split; all_goals omega,by unfold shi; repeat' split; all_goals omega,fun g=>?_,fun g=>?_⟩
  ·simp only [bP,aW,bg];rw [af ⟨by omega,g.1,g.2⟩]
  ·simp only [bP,aW,bg];rw [ae (fun c=>g c.2)]
 | [a,c],q=>
  simp only [bg,aD,aI] at q;refine ⟨128,191,rfl,by omega,by omega,fun g=>?_,fun g=>?_⟩
  ·simp only [bP,aW,bg];split at q
   ·rename_i r
    rw [af ⟨by omega,r.2.1,r.2.2,g.1,g.2⟩,af r]
   ·omega
  ·simp only [bP,aW,bg];rw [ae (fun r=>g r.2.2.2)]
 | [a,c,d],q=>
  have hl:=sm a;simp only [bg,aD,aI] at q;refine ⟨128,191,rfl,by omega,by omega,fun g=>?_,fun g=>?_⟩
  ·simp only [bP,aW,bg];split at q
   ·rename_i r
    rw [af ⟨by omega,r.2.1,r.2.2.1,r.2.2.2.1,r.2.2.2.2,g.1,g.2⟩,af r];omega
   ·omega
  ·simp only [bP,aW,bg];rw [ae (fun r=>g r.2.2.2.2.2)]
 | [a,b,c,d],q=>simp only [bg,aD,aI] at q; split at q <;> omega
 | _::_::_::_::_::_,q=>simp only [bg,aD] at q; omega
theorem Dv.shape {d:bG}{h:List Int}(v:Dv d h) (hne:h≠ []):∃lo hi,(match h with|[a]=>(slo a,shi a)|_=>(128,191))=(lo,hi)/\d=⟨(h.length:Int),bg h-(h.length:Int),lo,hi,vl h⟩:=by
 obtain ⟨_,_,e⟩:=v
 match h,e with
 | [],_=>exact absurd rfl hne
 | [a],e=>exact ⟨_,_,rfl,e⟩
 | a::b::t,e=>exact ⟨_,_,rfl,e⟩
theorem EE {d:bG}{h:List Int}(v:Dv d h){b:Int}(hb:Byt b):∃d',dp d b=some (d',(jS h b).1)/\Dv d' (jS h b).2:=by
 have v0:=v;obtain ⟨hh,hbs,e⟩:=v;unfold dp jS;simp only [ak,aY];by_cases hne:h= []
 ·subst hne;simp only at e;subst e;obtain ⟨d',a1,a2⟩:=yB hb;simp only [uY,eq_self,bA,a1,bsm];exact ⟨d',rfl,a2⟩
 ·obtain ⟨lo,hi,e1,e2⟩:=v0.shape hne;have hlt:(h.length:Int)<bg h:=by
   rcases hh with q|q
   ·exact absurd q hne
   ·exact q
  obtain ⟨lo',hi',f1,f2,f3,f4,f5⟩:=Ao hlt hne b;rw [e1] at f1;cases f1;subst e2;have hlen:0<h.length:=by
   cases h with
   | nil=>exact absurd rfl hne
   | cons _ _=>simp
  have hl3:=hh.len;rw [ae hne];simp only [aQ];rw [ae (by omega)];simp only [bu,bsm,aC,am,gt_iff_lt];by_cases hr:lo<=b/\b<=hi
  ·have hbg:=f4 hr;have hvl:=Dy hh hbs hne;have hbgl:bg h<=4:=by
    match h,hlen with
    | [a],_=>simp only [bg]; exact (sm a).2
    | [a,b],_=>simp only [bg]; split <;> first|exact (sm a).2|omega
    | [a,b,c],_=>simp only [bg]; split <;> first|exact (sm a).2|omega
    | a::b::c::x::t,_=>simp at hl3
   have hbits:qF .i64 (w64 (vl h*2 ^ 6)) (w64 (ko .u8 b 63))=vl h*64+(b-128):=by
    obtain ⟨x,hx⟩:∃x:Nat,vl h=(x:Int):=⟨(vl h).toNat,by omega⟩;obtain ⟨y,hy⟩:∃y:Nat,b-128=(y:Int):=⟨(b-128).toNat,by omega⟩;rw [zN (by omega) (by omega),hx,hy,show ((x:Int)*2 ^ 6)=(x:Int)*64 from rfl,aJ (by omega),aJ (by omega),D8 (by omega) (by omega)];simp
   have hbs':Bts (h++ [b]):=fun x hx=>by
    rcases List.mem_append.1 hx with hx|hx
    ·exact hbs x hx
    ·rw [List.mem_singleton.1 hx]; exact hb
   have hsn:=yI hne b;rw [ae (by omega),aJ (by omega),aJ (by omega),hbits,<-hsn];by_cases hm:(h.length:Int)+1<bg h
   ·rw [af (by omega),af (by rw [hbg]; omega)];refine ⟨_,rfl,.inr (by rw [hbg]; simp; omega),hbs',?_⟩;simp only [hbg]
    match h,hlen with
    | a::t,_=>
     cases t with
     | nil=>simp only [bP,aW,aD,aI,bG.mk.injEq,xF,wL]; omega
     | cons b2 t=>simp only [bP,aD,ao,aI,bG.mk.injEq,xF,wL]; omega
   ·rw [ae (by omega),ae (by rw [hbg]; omega),af (by rw [hbg]; omega),wI (by rw [hsn]; omega)];exact ⟨_,rfl,.inl rfl,fun x hx=>by simp at hx,rfl⟩
  ·have hz:=f5 hr;rw [af (by omega),ae (by rw [hz]; omega),ae (by rw [hz]; omega)];have hfl:bR ⟨(h.length:Int),bg h-(h.length:Int),lo,hi,vl h⟩=some (⟨0,0,0,0,0⟩,[65533]):=by
    unfold bR cJ;simp only [ak,aY,bsm,aQ];rw [ae (by omega)]
   rw [hfl];simp only [bsm];obtain ⟨d',a1,a2⟩:=yB hb;rw [a1];simp only [bsm];have hrl:(rs0 b).1.length<=1:=by
    unfold rs0;split
    ·simp
    ·split <;> simp
   rw [cO (by simp; omega)];exact ⟨d',rfl,a2⟩
theorem EF {d:bG}{h:List Int}(v:Dv d h):cJ d=some (h.length:Int):=by
 unfold cJ;simp only [ak,aY];by_cases hne:h= []
 ·subst hne;obtain ⟨_,_,e⟩:=v;simp only at e;rw [e];rfl
 ·obtain ⟨lo,hi,_,e⟩:=v.shape hne;rw [e]
theorem Dh {d:bG}{h:List Int}(v:Dv d h):bR d=some (⟨0,0,0,0,0⟩,if h= [] then [] else [65533]):=by
 unfold bR;rw [EF v];simp only [bsm,aQ];by_cases hne:h= []
 ·subst hne;obtain ⟨_,_,e⟩:=v;simp only at e;rw [af (by simp),af rfl,e]
 ·rw [ae (fun e=>hne (cS (by omega))),ae hne]
theorem Dv.zero:Dv ⟨0,0,0,0,0⟩ []:=⟨.inl rfl,fun x hx=>by simp at hx,rfl⟩
theorem Es {σ τ:Type}(n:Nat) (f:σ->Option (σ ⊕ τ)) (s:σ):cH (n+1) f s=(f s).bind fun x=>match x with|.inl s'=>cH n f s'|.inr t=>some t:=rfl
def lp:List Int->Nat->Int->Int->Bool ⊕ (Int×Int)
 | _,0,lo,hi=> .inr (lo,hi)
 | x::xs,k+1,lo,hi=>if 128<=x/\x<=191 then lp xs k (lo*64+(x-128)) (hi*64+(x-128)) else .inl false
 | [],k+1,lo,hi=>lp [] k (lo*64) (hi*64+63)
def bd (k:Nat):Int:=if k=3 then 127 else if k=2 then 8191 else if k=1 then 524287 else 33554431
def mk (n:Nat):Int:=if n=2 then 192 else if n=3 then 224 else if n=4 then 240 else 0
def sz (n:Nat):Int:=if n=1 then 128 else if n=2 then 32 else if n=3 then 16 else if n=4 then 8 else 0
def fr (n:Nat):Int:=if n=2 then 128 else if n=3 then 2048 else if n=4 then 65536 else 0
def to (n:Nat):Int:=if n=1 then 127 else if n=2 then 2047 else if n=3 then 65535 else if n=4 then 1114111 else 0
theorem GU {n:Nat}(h1:1<=n) (h2:n<=4):idx ([0,0,192,224,240]:List Int) n=some (mk n)/\idx ([0,128,32,16,8]:List Int) n=some (sz n)/\idx ([0,0,128,2048,65536]:List Int) n=some (fr n)/\idx ([0,127,2047,65535,1114111]:List Int) n=some (to n):=by
 have:n=1\/n=2\/n=3\/n=4:=by omega
 rcases this with rfl|rfl|rfl|rfl <;> exact ⟨rfl,rfl,rfl,rfl⟩
def sst (p:List Int) (n:Nat):Int×Int×Int->Option ((Int×Int×Int) ⊕ (Bool ⊕ (Int×Int))):=fun s_40=>
 if decide (s_40.2.2<(n:Int)) then
 if decide (s_40.2.2<(p.length:Int)) then
 (idx p s_40.2.2).bind fun x_62=>
 (orE (decide ((w64 ((w64 x_62)-128))<0)) (some (decide ((w64 ((w64 x_62)-128))>63)))).bind fun d_70=>
 if d_70 then
 some (.inr (.inl false))
 else
 some (.inl ((w64 ((w64 (s_40.1*64))+(w64 ((w64 x_62)-128)))),(w64 ((w64 ((w64 ((w64 (s_40.2.1*64))+63))-63))+(w64 ((w64 x_62)-128)))),(w64 (s_40.2.2+1))))
 else
 some (.inl ((w64 (s_40.1*64)),(w64 ((w64 (s_40.2.1*64))+63)),(w64 (s_40.2.2+1))))
 else
 some (.inr (.inr (s_40.1,s_40.2.1)))
theorem CA (p:List Int) (hp:Bts p) (n:Nat) (hn:n<=4):∀(k:Nat) (i:Nat) (lo hi:Int),k<=3->1<=i->i+k=n->0<=lo->lo<=bd k->0<=hi->hi<=bd k->cH (σ:=Int×Int×Int) (τ:=Bool ⊕ (Int×Int)) (k+1) (sst p n) (lo,hi,(i:Int))=some (lp (p.drop i) k lo hi):=by
 intro k
 induction k with
 | zero=>
  intro i lo hi _ _ hik _ _ _ _;rw [Es];have e:sst p n (lo,hi,(i:Int))=some (.inr (.inr (lo,hi))):=by
   unfold sst;simp only;rw [ae (by simp; omega)]
  rw [e]
  cases p.drop i <;> rfl
 | succ k ih=>
  intro i lo hi hk h1 hik a1 a2 a3 a4;have hb:(bd (k+1)+1)*64<=bd k+1:=by
   have:k=0\/k=1\/k=2:=by omega
   rcases this with rfl|rfl|rfl <;> decide
  have hb2:bd k<=33554431:=by unfold bd; repeat' split; all_goals omega
  rw [Es];by_cases hi':i<p.length
  ·rw [fE hi'];have hx:=hp _ (aF hi');obtain ⟨x1,x2⟩:=hx;unfold lp;have e:sst p n (lo,hi,(i:Int))=if 128<=p[i]/\p[i]<=191 then some (.inl (lo*64+(p[i]-128),hi*64+(p[i]-128),((i+1:Nat):Int))) else some (.inr (.inl false)):=by
    unfold sst;simp only;rw [af (by simp; omega),dm (show i<n by omega) (by omega),af (dlt hi'),bj hi'];simp only [bsm,bu,aC,am];rw [aJ (n:=p[i]) (by omega),aJ (n:=p[i]-128) (by omega)];by_cases hr:128<=p[i]/\p[i]<=191
    ·rw [ae (by omega),af hr];rw [aJ (n:=lo*64) (by omega),aJ (n:=hi*64) (by omega),aJ (n:=hi*64+63) (by omega),aJ (n:=hi*64+63-63) (by omega),aJ (n:=lo*64+(p[i]-128)) (by omega),aJ (n:=hi*64+63-63+(p[i]-128)) (by omega),show hi*64+63-63+(p[i]-128)=hi*64+(p[i]-128) by omega]
    ·rw [af (by omega),ae hr]
   rw [e];by_cases hr:128<=p[i]/\p[i]<=191
   ·rw [af hr,af hr];exact ih (i+1) (lo*64+(p[i]-128)) (hi*64+(p[i]-128)) (by omega) (by omega) (by omega) (by omega) (by omega) (by omega) (by omega)
   ·rw [ae hr,ae hr];rfl
  ·rw [dy (by omega)];unfold lp;have e:sst p n (lo,hi,(i:Int))=some (.inl (lo*64,hi*64+63,((i+1:Nat):Int))):=by
    unfold sst;simp only;rw [af (by simp; omega),dm (show i<n by omega) (by omega),ae (by simp; omega)];rw [aJ (n:=lo*64) (by omega),aJ (n:=hi*64) (by omega),aJ (n:=hi*64+63) (by omega)]
   rw [e];have:=ih (i+1) (lo*64) (hi*64+63) (by omega) (by omega) (by omega) (by omega) (by omega) (by omega) (by omega);rw [dy (by omega)] at this;exact this
def CF (n:Nat) (z:Bool ⊕ (Int×Int)):Bool:=match z with|.inl b=>b|.inr (lo,hi)=>decide (max lo (fr n)<=min hi (to n)) && (decide (max lo (fr n)<55296) || decide (min hi (to n)>57343))
def smf (a:Int) (t:List Int) (n:Nat):Bool:=if a-mk n<0\/sz n<=a-mk n then false else CF n (lp t (n-1) (a-mk n) (a-mk n))
theorem Fo {a:Int}{t:List Int}(hp:Bts (a::t)){n:Nat}(h1:1<=n) (h2:n<=4):fD (a::t) n=some (smf a t n):=by
 obtain ⟨a1,a2⟩:=hp a (by simp);obtain ⟨m1,m2,m3,m4⟩:=GU h1 h2;have hm:0<=mk n/\mk n<=240:=by unfold mk; repeat' split; all_goals omega
 have hsz:sz n<=bd (n-1)+1:=by
  have:n=1\/n=2\/n=3\/n=4:=by omega
  rcases this with rfl|rfl|rfl|rfl <;> decide
 unfold fD smf;rw [m1,m2,m3,m4,show idx (a::t) 0=some a from rfl];simp only [bsm];rw [aJ (n:=a) (by omega),aJ (n:=a-mk n) (by omega),bu];simp only [bsm];by_cases hA:a-mk n<0\/sz n<=a-mk n
 ·rw [af (by simp only [aC,am]; omega),af hA]
 ·rw [ae (by simp only [aC,am]; omega),ae hA,show ((n:Int)-1).toNat+1=(n-1)+1 by omega];have:=CA (a::t) hp n h2 (n-1) 1 (a-mk n) (a-mk n) (by omega) (by omega) (by omega) (by omega) (by omega) (by omega) (by omega);unfold sst at this;simp only [Int.natCast_one,Ju,fU] at this;rw [this];simp only [bsm]
  cases lp t (n-1) (a-mk n) (a-mk n) with
  | inl b=>rfl
  | inr z=>simp only [fK,dL,bb,bu,bsm,CF]
theorem qc (a:Int):(ld a=1/\a<128)\/(ld a=2/\194<=a/\a<=223)\/(ld a=3/\224<=a/\a<=239)\/(ld a=4/\240<=a/\a<=244)\/(ld a=0/\128<=a/\¬(194<=a/\a<=244)):=by
 unfold ld
 repeat' split
 all_goals omega
theorem He {a:Int}{t:List Int}(hp:Bts (a::t)){n:Nat}(h1:1<=n) (h2:n<=4) (h3:t.length+1<=n):smf a t n=true↔bg (a::t)=(n:Int):=by
 have hl:=qc a;obtain ⟨a1,a2⟩:=hp a (by simp);have:n=1\/n=2\/n=3\/n=4:=by omega
 match t,hp,h3 with
 | [],_,_=>
  rcases this with rfl|rfl|rfl|rfl <;>
   simp only [smf,lp,CF,bg,mk,sz,fr,to,Nat.reduceEqDiff,bA,aY,Nat.reduceSub,aA,aC,am] <;> split <;>
   simp only [aA,aC,am,ak,mG] <;> omega
 | [b],hp,h3=>
  obtain ⟨b1,b2⟩:=hp b (by simp);simp only [aD,aI] at h3;have hs:slo a=(if a=224 then 160 else if a=240 then 144 else 128)/\shi a=(if a=237 then 159 else if a=244 then 143 else 191):=⟨rfl,rfl⟩;have hs1:(a=224/\slo a=160)\/(a=240/\slo a=144)\/(a≠224/\a≠240/\slo a=128):=by rw [hs.1]; repeat' split; all_goals omega
  have hs2:(a=237/\shi a=159)\/(a=244/\shi a=143)\/(a≠237/\a≠244/\shi a=191):=by rw [hs.2]; repeat' split; all_goals omega
  clear hs
  have hbg:bg [a,b]=if 2<=ld a/\slo a<=b/\b<=shi a then ld a else 0:=rfl;rw [hbg];rcases this with rfl|rfl|rfl|rfl
  ·omega
  all_goals
   simp only [smf,lp,CF,mk,sz,fr,to,Nat.reduceEqDiff,bA,aY,Nat.reduceSub];split
   ·split <;> simp only [ak,mG] <;> omega
   ·by_cases hb:128<=b/\b<=191
    ·simp only [af hb,aA,aC,am];split <;> omega
    ·simp only [ae hb];split <;> simp only [ak,mG] <;> omega
 | [b,c],hp,h3=>
  obtain ⟨b1,b2⟩:=hp b (by simp);obtain ⟨c1,c2⟩:=hp c (by simp);simp only [aD,aI] at h3;have hs:slo a=(if a=224 then 160 else if a=240 then 144 else 128)/\shi a=(if a=237 then 159 else if a=244 then 143 else 191):=⟨rfl,rfl⟩;have hs1:(a=224/\slo a=160)\/(a=240/\slo a=144)\/(a≠224/\a≠240/\slo a=128):=by rw [hs.1]; repeat' split; all_goals omega
  have hs2:(a=237/\shi a=159)\/(a=244/\shi a=143)\/(a≠237/\a≠244/\shi a=191):=by rw [hs.2]; repeat' split; all_goals omega
  clear hs
  have hbg:bg [a,b,c]=if 3<=ld a/\slo a<=b/\b<=shi a/\128<=c/\c<=191 then ld a else 0:=rfl;rw [hbg];rcases this with rfl|rfl|rfl|rfl
  ·omega
  ·omega
  all_goals
   simp only [smf,lp,CF,mk,sz,fr,to,Nat.reduceEqDiff,bA,aY,Nat.reduceSub];split
   ·split <;> simp only [ak,mG] <;> omega
   ·by_cases hb:128<=b/\b<=191
    ·by_cases hc:128<=c/\c<=191
     ·simp only [af hb,af hc,aA,aC,am];split <;> omega
     ·simp only [af hb,ae hc];split <;> simp only [ak,mG] <;> omega
    ·simp only [ae hb];split <;> simp only [ak,mG] <;> omega
 | [b,c,d],hp,h3=>
  obtain ⟨b1,b2⟩:=hp b (by simp);obtain ⟨c1,c2⟩:=hp c (by simp);obtain ⟨d1,d2⟩:=hp d (by simp);simp only [aD,aI] at h3;have hs:slo a=(if a=224 then 160 else if a=240 then 144 else 128)/\shi a=(if a=237 then 159 else if a=244 then 143 else 191):=⟨rfl,rfl⟩;have hs1:(a=224/\slo a=160)\/(a=240/\slo a=144)\/(a≠224/\a≠240/\slo a=128):=by rw [hs.1]; repeat' split; all_goals omega
  have hs2:(a=237/\shi a=159)\/(a=244/\shi a=143)\/(a≠237/\a≠244/\shi a=191):=by rw [hs.2]; repeat' split; all_goals omega
  clear hs
  have hbg:bg [a,b,c,d]=if ld a=4/\slo a<=b/\b<=shi a/\128<=c/\c<=191/\128<=d/\d<=191 then 4 else 0:=rfl;rw [hbg];rcases this with rfl|rfl|rfl|rfl
  ·omega
  ·omega
  ·omega
  ·simp only [smf,lp,CF,mk,sz,fr,to,Nat.reduceEqDiff,bA,aY,Nat.reduceSub];split
   ·split <;> simp only [ak,mG] <;> omega
   ·by_cases hb:128<=b/\b<=191
    ·by_cases hc:128<=c/\c<=191
     ·by_cases hd:128<=d/\d<=191
      ·simp only [af hb,af hc,af hd,aA,aC,am];split <;> omega
      ·simp only [af hb,af hc,ae hd];split <;> simp only [ak,mG] <;> omega
     ·simp only [af hb,ae hc];split <;> simp only [ak,mG] <;> omega
    ·simp only [ae hb];split <;> simp only [ak,mG] <;> omega
 | _::_::_::_::_,_,h3=>simp at h3; omega
theorem yG {p:List Int}(h:0<bg p):(p.length:Int)<=bg p:=by
 match p,h with
 | [],h=>simp [bg] at h
 | [a],h=>simp only [bg,aD,aI] at h|-; omega
 | [a,b],h=>simp only [bg,aD,aI] at h|-; split at h <;> rename_i g; rw [af g]; omega; omega
 | [a,b,c],h=>simp only [bg,aD,aI] at h|-; split at h <;> rename_i g; rw [af g]; omega; omega
 | [a,b,c,d],h=>simp only [bg,aD,aI] at h|-; split at h <;> rename_i g; rw [af g]; omega; omega
 | _::_::_::_::_::_,h=>simp [bg] at h
theorem yF (p:List Int):0<=bg p/\bg p<=4:=by
 match p with
 | []=>simp [bg]
 | [a]=>exact sm a
 | [a,b]=>simp only [bg]; split <;> first|exact sm a|omega
 | [a,b,c]=>simp only [bg]; split <;> first|exact sm a|omega
 | [a,b,c,d]=>simp only [bg]; split <;> omega
 | _::_::_::_::_::_=>simp [bg]
theorem tu {p:List Int}(hp:Bts p) (hl:p.length<=1000000):bV p=some (bg p):=by
 have hb:=yF p;unfold bV;refine iO (n:=4) (fun i s=>s=((i+1:Nat):Int)/\∀m:Nat,1<=m->m<=i->bg p≠(m:Int)) (fun u=>match u with|.inl n=>n=bg p|.inr _=>bg p=0) (fun i s hi hI=>?_) (fun s hI=>?_) ⟨rfl,fun m h1 h2=>by omega⟩ (by decide) (fun u hu=>?_)
 ·obtain ⟨e,hI⟩:=hI;subst e;rw [af (by simp; omega)];simp only [bb,bsm];have key:∃t:Bool,(bL (decide ((p.length:Int)>=1) && decide ((p.length:Int)<=((i+1:Nat):Int))) ((fD p ((i+1:Nat):Int)).bind fun x_22=>some x_22))=some t/\(t=true↔bg p=((i+1:Nat):Int)):=by
   by_cases hc:1<=p.length/\p.length<=i+1
   ·rw [show (decide ((p.length:Int)>=1) && decide ((p.length:Int)<=((i+1:Nat):Int)))=true by simp; omega,ip]
    cases p with
    | nil=>simp at hc
    | cons a t=>
     rw [Fo hp (by omega) (by omega)];exact ⟨_,rfl,He hp (by omega) (by omega) (by simpa using hc.2)⟩
   ·rw [show (decide ((p.length:Int)>=1) && decide ((p.length:Int)<=((i+1:Nat):Int)))=false by simp; omega,iu];refine ⟨false,rfl,?_⟩;simp only [ak,mG];intro e;have:=yG (p:=p) (by omega);have h1:1<=p.length:=by
     cases p with
     | nil=>simp [bg] at e; omega
     | cons _ _=>simp
    omega
  obtain ⟨t,h1,h2⟩:=key;rw [h1];simp only [bsm]
  cases t with
  | true=>exact .inr ⟨_,rfl,(h2.1 rfl).symm⟩
  | false=>
   refine .inl ⟨_,rfl,by rw [aJ (by omega)]; simp,fun m m1 m2=>?_⟩;by_cases hm:m<=i
   ·exact hI m m1 hm
   ·obtain rfl:m=i+1:=by omega
    exact fun e=>by have:=h2.2 e; cases this
 ·obtain ⟨e,hI⟩:=hI;subst e;refine ⟨.inr (),rfl,?_⟩;have e1:=hI 1 (by omega) (by omega);have e2:=hI 2 (by omega) (by omega);have e3:=hI 3 (by omega) (by omega);have e4:=hI 4 (by omega) (by omega);simp only;omega
 ·cases u with
  | inl n=>simp only at hu; rw [hu]
  | inr u=>simp only at hu; rw [hu]
theorem wG {p:List Int}(h:0<bg p){i:Nat}(h1:1<=i) (h2:i<=p.length):bg (p.take i)=bg p:=by
 have key:∀d,d+1<=p.length->bg (p.take (p.length-d))=bg p:=by
  intro d
  induction d with
  | zero=>intro _; rw [mf,aB (aq _)]
  | succ d ih=>
   intro hd;have e:=ih (by omega);rw [show p.length-d=(p.length-(d+1))+1 by omega,an (show p.length-(d+1)<p.length by omega)] at e;have hne:p.take (p.length-(d+1))≠ []:=fun q=>by
    have:=eZ List.length q;rw [az,aI] at this;omega
   rw [Ig hne (by rw [e]; exact h),e]
 have:=key (p.length-i) (by omega)
 rwa [show p.length-(p.length-i)=i by omega] at this
theorem wJ {p:List Int}(hp:Bts p) (hb:bg p=(p.length:Int)) (hne:p≠ []):eU p=some (vl p)/\0<=vl p/\vl p<=2000000000:=by
 have h4:=yF p;have hlen:1<=p.length:=by
  cases p with
  | nil=>exact absurd rfl hne
  | cons _ _=>simp
 have hbd:∀i,1<=i->i<p.length->0<=vl (p.take i)/\vl (p.take i)<=131071:=fun i h1 h2=>by
  have hl:(p.take i).length=i:=by rw [az]; omega
  refine Dy (.inr ?_) (fun x hx=>hp x (cq hx)) (fun e=>by rw [e] at hl; simp at hl; omega);rw [hl,wG (by omega) h1 (by omega)];omega
 have hstep:∀i,1<=i->(h:i<p.length)->vl (p.take (i+1))=vl (p.take i)*64+(p[i]-128):=fun i h1 h=>by
  rw [an h,yI];intro e;have:=eZ List.length e;rw [az,aI] at this;omega
 have h0:∀a t,p=a::t->vl (p.take 1)=a-mk p.length:=fun a t e=>by
  have hk:ld a=(p.length:Int):=by
   have:=wG (p:=p) (by omega) (i:=1) (by omega) (by omega);rw [e,cx,bN] at this;rw [<-hb,e,<-this];rfl
  rw [e,cx,bN,<-e];simp only [vl,List.foldl];unfold b0 mk
  repeat' split
  all_goals omega
 have hfin:0<=vl p/\vl p<=2000000000:=by
  by_cases h1:p.length=1
  ·obtain ⟨a,rfl⟩:∃a,p= [a]:=by
    match p,h1 with
    | [a],_=>exact ⟨a,rfl⟩
   have:=hp a (by simp);obtain ⟨a1,a2⟩:=this;simp only [bg,aD,aI] at hb;simp only [vl,List.foldl];unfold b0
   repeat' split
   all_goals omega
  ·have e:=hstep (p.length-1) (by omega) (by omega);rw [show p.length-1+1=p.length by omega,aB (aq _)] at e;have b:=hbd (p.length-1) (by omega) (by omega);have hx:=hp _ (aF (show p.length-1<p.length by omega));obtain ⟨x1,x2⟩:=hx;have ht:128<=p[p.length-1]:=by
    have e2:p=p.take (p.length-1)++ [p[p.length-1]'(by omega)]:=by
     rw [<-an (by omega),show p.length-1+1=p.length by omega,aB (aq _)]
    have hl:(p.take (p.length-1)).length=p.length-1:=by rw [az]; omega
    obtain ⟨lo,hi,_,f2,f3,f4,f5⟩:=Ao (h:=p.take (p.length-1)) (by rw [hl,wG (by omega) (by omega) (by omega)]; omega) (fun q=>by rw [q] at hl; simp at hl; omega) (p[p.length-1]'(by omega));by_cases hr:lo<=p[p.length-1]'(by omega)/\p[p.length-1]'(by omega)<=hi
    ·omega
    ·have:=f5 hr;rw [<-e2] at this;omega
   omega
 refine ⟨?_,hfin⟩;obtain ⟨m1,_,_,_⟩:=GU (n:=p.length) hlen (by omega)
 cases hpe:p with
 | nil=>exact absurd hpe hne
 | cons a t=>
  rw [<-hpe];have hmk:0<=mk p.length/\mk p.length<=240:=by unfold mk; repeat' split; all_goals omega
  have ha:=hp a (by rw [hpe]; simp);obtain ⟨a1,a2⟩:=ha;have hi0:idx p 0=some a:=by rw [hpe]; rfl
  unfold eU;rw [m1,hi0];simp only [bsm];rw [aJ (n:=a) (by omega),aJ (n:=a-mk p.length) (by omega)];refine iO (n:=p.length-1) (fun i s=>s=(vl (p.take (i+1)),((i+1:Nat):Int))) (fun u=>u=vl p) (fun i s hi e=>?_) (fun s e=>?_) (by rw [h0 a t hpe]; rfl) (by omega) (fun u hu=>?_)
  ·subst e;have hx:=hp _ (aF (show i+1<p.length by omega));obtain ⟨x1,x2⟩:=hx;have hv:=hbd (i+1) (by omega) (by omega);simp only;rw [af (by simp; omega),bj (show i+1<p.length by omega)];simp only [bsm];rw [aJ (n:=p[i+1]) (by omega),aJ (n:=vl (p.take (i+1))*64) (by omega),aJ (n:=vl (p.take (i+1))*64+p[i+1]) (by omega),aJ (n:=vl (p.take (i+1))*64+p[i+1]-128) (by omega),dm (show i+1<p.length by omega) (by omega)];refine .inl ⟨_,rfl,?_⟩;rw [hstep (i+1) (by omega) (by omega)]
   congr 1
   omega
  ·subst e;refine ⟨_,by simp only; rw [ae (by simp; omega)],?_⟩;rw [show p.length-1+1=p.length by omega,aB (aq _)]
  ·subst hu;rw [wI (by omega)]
theorem Bts.snoc {h:List Int}(hb:Bts h){b:Int}(h1:Byt b):Bts (h++ [b]):=fun x hx=>by
 rcases List.mem_append.1 hx with hx|hx
 ·exact hb x hx
 ·rw [List.mem_singleton.1 hx]; exact h1
theorem xZ {b:Int}(h:Byt b):dZ [] b=some (rs0 b):=by
 have hb1:Bts ([]++ [b]):=Bts.snoc (fun x hx=>by simp at hx) h;have hl:=sm b;unfold dZ;rw [cO (by simp)];simp only [bsm];rw [cO (by simp)];simp only [bsm];rw [tu (by simpa using hb1) (by simp)];simp only [bsm,bb,aW,bg,aD,aI];unfold rs0;by_cases h1:1<ld b
 ·rw [af (by simp; omega),af h1]
 ·rw [ae (by simp; omega),ae h1];by_cases h2:ld b=1
  ·rw [af (by simp; omega),af h2,(wJ (p:=[b]) (by simpa using hb1) (by simpa [bg] using h2) (by simp)).1];simp only [bsm,vl,List.foldl,b0];rw [ae (by omega),ae (by omega),ae (by omega)]
  ·rw [ae (by simp; omega),ae h2];simp
theorem Fl {h:List Int}(hh:Hh h) (hb:Bts h){b:Int}(h1:Byt b):hU h b=some (jS h b):=by
 have hb1:=hb.snoc h1;have h3:=hh.len;unfold hU;rw [cO (by simp; omega),aW];simp only [bsm];rw [cO (by simp; omega)];simp only [bsm];rw [tu hb1 (by simp; omega)];simp only [bsm,bb];by_cases hne:h= []
 ·subst hne;have:=xZ h1;unfold dZ at this;rw [vp,<-this,cO (by simp)];simp only [bsm];rw [cO (by simp)];simp only [bsm];rw [tu (by simpa using hb1) (by simp)];simp only [bsm,bb,aW,aI];rfl
 ·unfold jS;rw [ae hne];have hl:(h++ [b]).length=h.length+1:=by simp
  rw [hl];by_cases g1:(h.length:Int)+1<bg (h++ [b])
  ·rw [af (by simp; omega),af g1]
  ·rw [ae (by simp; omega),ae g1];by_cases g2:0<bg (h++ [b])
   ·rw [af (by simpa using g2),af g2];have hw:bg (h++ [b])=((h++ [b]).length:Int):=by
     have:=yG g2;rw [hl] at this|-;omega
    rw [(wJ hb1 hw (by simp)).1];rfl
   ·rw [ae (by simpa using g2),ae g2,ae (by simp; exact hne),xZ h1];have hrl:(rs0 b).1.length<=1:=by
     unfold rs0;split
     ·simp
     ·split <;> simp
    simp only [bsm];rw [cO (by simp; omega)];rfl
theorem vq (h:List Int) (b:Int):(jS h b).1.length<=2:=by
 have hrl:(rs0 b).1.length<=1:=by
  unfold rs0;split
  ·simp
  ·split <;> simp
 unfold jS;split
 ·omega
 ·split
  ·simp
  ·split
   ·simp
   ·simp; omega
theorem tf (h p:List Int):(aZ h p).1.length<=2*p.length:=by
 induction p generalizing h with
 | nil=>simp [aZ]
 | cons b p ih=>
  have:=ih (jS h b).2;have h2:=vq h b;simp only [aZ,ao,aD];omega
theorem yj {h:List Int}(hb:Bts h){b:Int}(h1:Byt b):Bts (jS h b).2:=by
 have h0:Bts (rs0 b).2:=by
  unfold rs0;split
  ·intro x hx; rw [List.mem_singleton.1 hx]; exact h1
  ·split <;> (intro x hx; simp at hx)
 unfold jS;split
 ·exact h0
 ·split
  ·exact hb.snoc h1
  ·split
   ·intro x hx; simp at hx
   ·exact h0
theorem tg {h p:List Int}(hb:Bts h) (hp:Bts p):Bts (aZ h p).2:=by
 induction p generalizing h with
 | nil=>exact hb
 | cons b p ih=>exact ih (yj hb (hp b (by simp))) (fun x hx=>hp x (jf _ hx))
theorem Cl {h p:List Int}(hh:Hh h) (hb:Bts h) (hp:Bts p) (hl:p.length<=1000000):eu h p=some (aZ h p):=by
 unfold eu;refine iO (n:=p.length) (fun i s=>s=((aZ h (p.take i)).2,(aZ h (p.take i)).1,(i:Int))) (fun u=>u=((aZ h p).2,(aZ h p).1)) (fun i s hi e=>?_) (fun s e=>?_) rfl (by omega) (fun u hu=>?_)
 ·subst e;have hpt:Bts (p.take i):=fun x hx=>hp x (cq hx);simp only;rw [af (dlt hi),bj hi,dm hi (by omega)];simp only [bsm];rw [Fl (hh.feed _) (tg hb hpt) (hp _ (aF hi))];simp only [bsm];have h1:=tf h (p.take i);have h2:=vq (aZ h (p.take i)).2 p[i];rw [az] at h1;rw [cO (by omega)];refine .inl ⟨_,rfl,?_⟩;rw [an hi,qB]
 ·subst e;refine ⟨_,by simp only; rw [ae (by simp)],?_⟩;rw [aB (aq _)]
 ·subst hu;rfl
theorem Hh.nil:Hh []:= .inl rfl
theorem Bts.nil:Bts []:=fun x hx=>by simp at hx
def rd (c:List Int):List Int:=(aZ [] c).1++(if (aZ [] c).2= [] then [] else [65533])
theorem GK.take {c:List Int}{k:Nat}(h:GK c k):GK (c.take k) k:=by
 have hle:=h.le;refine ⟨by rw [az]; omega,fun m h1 h2=>?_,fun hk=>?_,fun hk=>?_,fun hk _=> .inl (by rw [az]; omega)⟩
 ·rw [fT,cL (by omega)]
  exact h.lt m h1 h2
 ·subst hk
  simp [bg]
 ·rw [fT,Nat.min_self]
  exact h.p hk
theorem yt {c:List Int}{k:Nat}(h:GK c k) (hk:0<k):(bg (c.take k)=k/\aZ [] (c.take k)=([vl (c.take k)],[]))\/((k:Int)<bg (c.take k)/\aZ [] (c.take k)=([],c.take k)):=by
 have hle:=h.le;have hl:(c.take k).length=k:=by rw [az]; omega
 have hp:=h.p hk;have hge:=yG hp;rw [hl] at hge;have ht:=h.take;have htt:(c.take k).take k=c.take k:=by rw [fT,Nat.min_self]
 by_cases hw:bg (c.take k)=k
 ·refine .inl ⟨hw,?_⟩
  have:=qC ht hk (by rw [htt]; exact hw);rw [htt,dy (by omega)] at this;exact this
 ·refine .inr ⟨by omega,?_⟩
  have ht':GK (c.take k) (c.take k).length:=by rw [hl]; exact ht
  exact wZ ht' (by omega) (by rw [hl]; omega)
theorem xY {c:List Int}{k:Nat}(h:GK c k) (hc:c≠ []):rd c=(if 0<k then (if bg (c.take k)=k then vl (c.take k) else 65533) else 65533)::rd (c.drop (max k 1)):=by
 by_cases hk:0<k
 ·rw [af hk,show max k 1=k by omega]
  rcases yt h hk with ⟨hw,_⟩|⟨hw,_⟩
  ·rw [af hw]
   have:=qC h hk hw;unfold rd;rw [this];rfl
  ·rw [ae (by omega)]
   by_cases hlt:k<c.length
   ·have:=yr h hk hw hlt
    unfold rd;rw [this];rfl
   ·have hkl:k=c.length:=by have:=h.le; omega
    subst hkl;rw [aB (aq _)] at hw;have:=wZ h hk hw;unfold rd;rw [this,ae hc,dy (aq _)];rfl
 ·rw [ae hk,show max k 1=1 by omega]
  have:=vz hc (h.z (by omega));unfold rd;rw [this];rfl
theorem C1 {p:List Int}(hp:Bts p) (hl:p.length<=1000000){a:Nat}(ha:a<p.length):∃k:Nat,GK (p.drop a) k/\cH (σ:=Int) (τ:=Int) (((p.length:Int)-(w64 ((a:Int)+0))).toNat+1) (fun s_15=>
 (bL (decide ((w64 ((a:Int)+s_15))<(p.length:Int))) ((slc p (a:Int) (w64 ((w64 ((a:Int)+s_15))+1))).bind fun x_30=>
 (bV x_30).bind fun x_31=>
 some (decide (x_31>0)))).bind fun d_22=>
 if d_22 then
 (slc p (a:Int) (w64 ((a:Int)+(w64 (s_15+1))))).bind fun x_43=>
 (bV x_43).bind fun x_44=>
 if (x_44==(w64 (s_15+1)))=true then
 some (.inr ((w64 (s_15+1))))
 else
 some (.inl ((w64 (s_15+1))))
 else
 some (.inr s_15)) 0=some (k:Int):=by
  have hcl:(p.drop a).length=p.length-a:=by simp
  have hbt:∀i,Bts ((p.drop a).take i):=fun i x hx=>hp x (fb (cq hx));obtain ⟨t,h1,h2⟩:=mo (σ:=Int) (τ:=Int) (step:=fun s_15=>
 (bL (decide ((w64 ((a:Int)+s_15))<(p.length:Int))) ((slc p (a:Int) (w64 ((w64 ((a:Int)+s_15))+1))).bind fun x_30=>
 (bV x_30).bind fun x_31=>
 some (decide (x_31>0)))).bind fun d_22=>
 if d_22 then
 (slc p (a:Int) (w64 ((a:Int)+(w64 (s_15+1))))).bind fun x_43=>
 (bV x_43).bind fun x_44=>
 if (x_44==(w64 (s_15+1)))=true then
 some (.inr ((w64 (s_15+1))))
 else
 some (.inl ((w64 (s_15+1))))
 else
 some (.inr s_15)) (fun s=>∃k:Nat,s=(k:Int)/\k<=p.length-a/\∀m,0<m->m<=k->(m:Int)<bg ((p.drop a).take m)) (fun s=>p.length-a-s.toNat) (fun t=>∃k:Nat,t=(k:Int)/\GK (p.drop a) k)
   (fun s hs=>by
    obtain ⟨k,rfl,hk,hI⟩:=hs;have e1:w64 ((a:Int)+(k:Int))=((a+k:Nat):Int):=by rw [aJ (by omega)]; simp
    have e2:w64 (((a+k:Nat):Int)+1)=((a+k+1:Nat):Int):=by rw [aJ (by omega)]; simp
    have e3:w64 ((k:Int)+1)=((k+1:Nat):Int):=by rw [aJ (by omega)]; simp
    have e4:w64 ((a:Int)+((k+1:Nat):Int))=((a+k+1:Nat):Int):=by rw [aJ (by omega)]; simp; omega
    simp only [e1,e2,e3,e4];by_cases hlt:k<p.length-a
    ·have hs:=mI (xs:=p) (i:=a) (j:=a+k+1) (by omega) (by omega)
     rw [show a+k+1-a=k+1 by omega] at hs;rw [show decide (((a+k:Nat):Int)<(p.length:Int))=true by simp; omega,ip,hs];simp only [bsm];rw [tu (hbt _) (by simp; omega)];simp only [bsm];have hge:0<bg ((p.drop a).take (k+1))->((k+1:Nat):Int)<=bg ((p.drop a).take (k+1)):=fun h=>by
      have:=yG h;rw [az,hcl] at this;omega
     by_cases hb:0<bg ((p.drop a).take (k+1))
     ·rw [af (by simpa using hb)]
      by_cases hw:bg ((p.drop a).take (k+1))=((k+1:Nat):Int)
      ·rw [af (by simpa using hw)]
       refine .inr ⟨_,rfl,k+1,rfl,by omega,fun m m1 m2=>hI m m1 (by omega),fun h=>by omega,fun _=>hb,fun _ h=>by omega⟩
      ·rw [ae (by simpa using hw)]
       refine .inl ⟨_,rfl,⟨k+1,rfl,by omega,fun m m1 m2=>?_⟩,by simp; omega⟩;by_cases hm:m<=k
       ·exact hI m m1 hm
       ·obtain rfl:m=k+1:=by omega
        have:=hge hb;omega
     ·rw [ae (by simpa using hb)]
      have hz:bg ((p.drop a).take (k+1))=0:=by have:=yF ((p.drop a).take (k+1)); omega
      refine .inr ⟨_,rfl,k,rfl,by omega,fun m m1 m2=>hI m m1 (by omega),fun h=>by subst h; exact hz,fun h=>by have:=hI k h (aq _); omega,fun _ _=> .inr hz⟩
    ·rw [show decide (((a+k:Nat):Int)<(p.length:Int))=false by simp; omega,iu]
     simp only [bsm,ak,aY];have hkk:k=(p.drop a).length:=by omega
     refine .inr ⟨_,rfl,k,rfl,by omega,fun m m1 m2=>hI m m1 (by omega),fun h=>by omega,fun h=>by have:=hI k h (aq _); omega,fun _ _=> .inl hkk⟩)
   (((p.length:Int)-(w64 ((a:Int)+0))).toNat+1) 0 ⟨0,rfl,bT _,fun m m1 m2=>by omega⟩ (by rw [aJ (by omega)]; omega)
  obtain ⟨k,rfl,hk⟩:=h2;exact ⟨k,hk,h1⟩
theorem zM:rd []= []:=rfl
theorem Ii {p:List Int}(hp:Bts p) (hl:p.length<=1000000):∃l,iB p=some l/\l.map (·.R)=rd p/\l.length<=p.length:=by
 unfold iB;refine vD (fun s=>∃a:Nat,s.2=(a:Int)/\a<=p.length/\s.1.length<=a/\s.1.map (·.R)++rd (p.drop a)=rd p) (fun s=>p.length-s.2.toNat) (fun t=>t.map (·.R)=rd p/\t.length<=p.length) (fun s hs=>?_) ⟨0,rfl,bT _,aq _,rfl⟩ (by simp) (fun t ht=>⟨t,rfl,ht⟩);obtain ⟨out,n⟩:=s;obtain ⟨a,e,ha,ho,hI⟩:=hs;simp only at e ho hI;subst e;simp only;by_cases hlt:a<p.length
 ·rw [af (dlt hlt)]
  obtain ⟨k,hk,hloop⟩:=C1 hp hl hlt;rw [hloop];simp only [bsm];have hcl:(p.drop a).length=p.length-a:=by simp
  have hkle:=hk.le;rw [hcl] at hkle;have htp:=xY hk (fun e=>by have:=eZ List.length e; rw [hcl] at this; simp at this; omega);have hz:∃kn bad,(if decide ((k:Int)>0) then
    (slc p (a:Int) (w64 ((a:Int)+(k:Int)))).bind fun x_66=>
    (eu ([]:List Int) x_66).bind fun x_67=>
    if ((x_67.2.length:Int)==0)=true then
    (idx x_67.1 0).bind fun x_89=>
    (some (x_89,(k:Int),(w64 ((a:Int)+(k:Int))),false):Option (Int×Int×Int×Bool))
    else
    (some (65533,(aK (k:Int) 1),(aE (w64 ((w64 ((a:Int)+(k:Int)))+1)) (p.length:Int)),true):Option (Int×Int×Int×Bool))
    else
    (some (65533,(aK (k:Int) 1),(w64 ((a:Int)+1)),true):Option (Int×Int×Int×Bool)))=some ((if 0<k then (if bg ((p.drop a).take k)=k then vl ((p.drop a).take k) else 65533) else 65533),((max k 1:Nat):Int),kn,bad):=by
   by_cases h0:0<k
   ·rw [af (by simpa using h0),af h0]
    have e1:w64 ((a:Int)+(k:Int))=((a+k:Nat):Int):=by rw [aJ (by omega)]; simp
    have hs:=mI (xs:=p) (i:=a) (j:=a+k) (by omega) (by omega);rw [show a+k-a=k by omega] at hs;rw [e1,hs];simp only [bsm];rw [Cl Hh.nil Bts.nil (fun x hx=>hp x (fb (cq hx))) (by simp; omega)];simp only [bsm];rcases yt hk h0 with ⟨hw,hf⟩|⟨hw,hf⟩
    ·rw [hf,af (by simp),af hw]
     exact ⟨_,_,by rw [show max k 1=k by omega]; rfl⟩
    ·rw [hf,ae (by simp; omega),ae (by omega)]
     exact ⟨_,_,by rw [fK,show max (k:Int) 1=((max k 1:Nat):Int) by omega]⟩
   ·rw [ae (by simpa using h0),ae h0]
    exact ⟨_,_,by rw [fK,show max (k:Int) 1=((max k 1:Nat):Int) by omega]⟩
  obtain ⟨kn,bad,hz⟩:=hz;rw [hz];simp only [bsm];rw [cO (by simp; omega)];simp only [bsm];have e5:w64 ((a:Int)+((max k 1:Nat):Int))=((a+max k 1:Nat):Int):=by rw [aJ (by omega)]; simp
  rw [e5];refine .inl ⟨_,rfl,⟨a+max k 1,rfl,by omega,by simp; omega,?_⟩,by simp only; omega⟩;simp only [bC,pU,A5,aL,bP,aW];rw [<-hI,htp,dd]
 ·rw [ae (by simp; omega)]
  refine .inr ⟨_,rfl,?_,by omega⟩;rw [dy (by omega),zM,cM] at hI;exact hI
end Go.Proofs.YtclmdpamofdoiaaGreatDoor
namespace Go.Proofs.YtclmdpamofdoiaaGreatDoor
open Go Go.Lt
variable {s C:Sto}{f k g W H:Nat}{q P:aa}{ks:List Nat}
def Sto.sf (s:Sto) (f:Nat) (x:bH):Sto:={ s with feed_Feeder:=s.feed_Feeder.set f x}
theorem rW {x:bH}(h:f<s.feed_Feeder.length):s.set_feed_Feeder f x=some (s.sf f x):=by
 unfold Sto.set_feed_Feeder;rw [af h];rfl
theorem vj {x:bH}(h:f<s.feed_Feeder.length):(s.sf f x).feed_Feeder[f]? = some x:=by simp [Sto.sf,h]
theorem GO (s:Sto) (f:Nat) (x y:bH):(s.sf f x).sf f y=s.sf f y:=by simp [Sto.sf]
theorem yO (s:Sto) (f:Nat) (x:bH):(s.sf f x).feed_Feeder.length=s.feed_Feeder.length:=by simp [Sto.sf]
theorem Pv.sf (h:Pv s s k g W q ks) (x:bH):Pv (s.sf f x) (s.sf f x) k g W q ks:=
 ⟨h.p,⟨h.g.g,h.g.r,h.g.h1,h.g.h2,h.g.w1,h.g.w2⟩,h.nd,h.l,rfl,h.f.rgp ⟨rfl,rfl,rfl⟩ ⟨rfl,rfl,rfl⟩⟩
theorem Wc.sf {j:Nat}{c:ai}{y:ba}{t:List Int}{n:Int}(h:Wc s j c y t n) (x:bH):Wc (s.sf f x) j c y t n:=⟨h.x⟩
def HA (C:Sto) (f j:Nat):Prop:=∃x,C.feed_Feeder[f]? = some x/\x.open_=some j
structure Fz (C s:Sto) (f:Nat) (op:Option Nat):Prop where
 fl:C.feed_Feeder.length<=s.feed_Feeder.length
 ff:∀j,j<C.feed_Feeder.length->j≠f->s.feed_Feeder[j]? = C.feed_Feeder[j]?
 wl:C.widen_Cluster.length<=s.widen_Cluster.length
 wc:∀j,j<C.widen_Cluster.length->¬HA C f j->s.widen_Cluster[j]? = C.widen_Cluster[j]?
 oc:∀j,op=some j->HA C f j\/C.widen_Cluster.length<=j
 sc:s.screen_Screen=C.screen_Screen
theorem qD {a b:Sto}(h:a.oth=b.oth):a.feed_Feeder=b.feed_Feeder:=by
 have:=eZ Sto.feed_Feeder h;exact this
theorem yY {a b:Sto}(h:a.oth=b.oth):a.screen_Screen=b.screen_Screen:=by
 have:=eZ Sto.screen_Screen h;exact this
theorem Fz.oth {s':Sto}{op:Option Nat}(h:Fz C s f op) (e:s'.oth=s.oth):Fz C s' f op:=by
 refine ⟨by rw [qD e]; exact h.fl,by rw [qD e]; exact h.ff,by rw [vB e]; exact h.wl,by rw [vB e]; exact h.wc,h.oc,by rw [yY e]; exact h.sc⟩
theorem Fz.sf {op:Option Nat}(h:Fz C s f op) (x:bH) (op':Option Nat) (ho:∀j,op'=some j->HA C f j\/C.widen_Cluster.length<=j):Fz C (s.sf f x) f op':=
 ⟨by rw [yO]; exact h.fl,fun j a b=>by simp only [Sto.sf]; rw [bh (vN b)]; exact h.ff j a b,h.wl,h.wc,ho,h.sc⟩
theorem Fz.more {op:Option Nat}(h:Fz C s f op){s':Sto}{z:bp}(e:s'.oth=(s.add_widen_Cluster z).oth):Fz C s' f op:=by
 have e1:s'.feed_Feeder=s.feed_Feeder:=(qD e).trans rfl;have e2:s'.widen_Cluster=s.widen_Cluster++ [z]:=(vB e).trans rfl;have e3:s'.screen_Screen=s.screen_Screen:=(yY e).trans rfl;have hl:=h.wl;exact ⟨by rw [e1]; exact h.fl,by rw [e1]; exact h.ff,by rw [e2,ao]; omega,fun j a b=>by rw [e2,aG (by omega)]; exact h.wc j a b,h.oc,by rw [e3]; exact h.sc⟩
theorem Fz.grow {j:Nat}(h:Fz C s f (some j)){s':Sto}{z:bp}(e:s'.oth=(s.sc j z).oth):Fz C s' f (some j):=by
 have e1:s'.feed_Feeder=s.feed_Feeder:=(qD e).trans rfl;have e2:s'.widen_Cluster=s.widen_Cluster.set j z:=(vB e).trans rfl;have e3:s'.screen_Screen=s.screen_Screen:=(yY e).trans rfl;refine ⟨by rw [e1]; exact h.fl,by rw [e1]; exact h.ff,by rw [e2,cz]; exact h.wl,fun i a b=>?_,h.oc,by rw [e3]; exact h.sc⟩;rw [e2,bh ?_]
 ·exact h.wc i a b
 ·rintro rfl;rcases h.oc j rfl with q|q
  ·exact b q
  ·omega
def Aq (G:List Int):Bool:=match G.getLast? with|none=>true|some x=>sil x
theorem mN (G:List Int) (r:Int):Aq (G++ [r])=sil r:=by simp [Aq]
def qz (G:List Int):Sg:=if Aq G=true then sg0 else sgF (G.map pr)
structure Op (s:Sto) (k g W H:Nat) (P:aa) (G:List Int) (q:aa) (j:Nat):Prop where
 x:∃q0 c C0 s0 ks0 cs0 cl,cls pj pr G=cs0++ [cl]/\cl≠ []/\sil (cl.headD 0)=false/\fo oL P cs0=some q0/\Pv C0 s0 k g W q0 ks0/\ks0.length=H/\
  Wc s j c (gf (cl.take 16) ((cl.take 16).map pr)) (cl.take 16) (w16 cl)/\be q0 (w16 cl) (cl.take 16)=some (q,c)
structure Fd (C s:Sto) (f k g W H:Nat) (P:aa) (G h:List Int) (q:aa) (ks:List Nat) (op:Option Nat):Prop where
 v:Pv s s k g W q ks
 fr:Fr C s k g ks
 fz:Fz C s f op
 n:ks.length=H
 hd:Hd q.At W H
 l:fo oL P (cls pj pr G)=some q
 gv:∀x∈G,vld x=true
 d:∃d,s.feed_Feeder[f]? = some ⟨some k,d,sgB (qz G),op⟩/\Dv d h
 o1:Aq G=true->op=none
 o2:Aq G=false->∃j,op=some j/\Op s k g W H P G q j
theorem A6 {x:Int}(h:vld x=true):r32 x:=by
 unfold vld at h;unfold r32;simp only [aA,am] at h;omega
theorem zj {q q':aa}{r:Int}{b:Bool}(h:cN q r=some (q',b)):xm q r=some q':=by
 unfold xm;rw [h];rfl
theorem wv (c:List Int):(c.take 16).length<=16:=by rw [az]; omega
theorem ss (t:List Int) (r:Int):gf (t++ [r]) ((t++ [r]).map pr)=gz (gf t (t.map pr)) r (pr r):=by
 rw [wB (by simp) r];have e:((t++ [r]).map pr).take t.length=t.map pr:=by simp
 rw [<-Ge t ((t++ [r]).map pr) (aq _),e];simp
theorem EB {r:Int}(h:vld r=true):gK r=r:=by unfold gK; rw [af h]
theorem D2 {C s:Sto}{k g W H:Nat}{q0 q:aa}{ks:List Nat}(h:Pv C s k g W q0 ks) (hn:ks.length=H){n:Int}{t:List Int}(ht:t.length<=1000000){c:ai}(hp:be q0 n t=some (q,c)):Hd q.At W H:=by
 obtain ⟨s',q',ks',i,a,_,_,a2,_,_,a5,_⟩:=wV h n t ht;rw [hp] at a2;cases a2;rw [<-hn];exact a5
theorem EH {G h:List Int}{op:Option Nat}(F:Fd C s f k g W H P G h q ks op){r:Int}(hr:vld r=true):∃s' q' ks' op',iC s (some f) r=some s'/\Fd C s' f k g W H P (G++ [r]) h q' ks' op':=by
 obtain ⟨d,hd,hdv⟩:=F.d;have hf:=cY hd;have hgv:∀x∈G++ [r],vld x=true:=fun x hx=>by
  rcases List.mem_append.1 hx with hx|hx
  ·exact F.gv x hx
  ·rw [List.mem_singleton.1 hx]; exact hr
 have hcs:=nh pj pr G r;unfold iC;rw [Bg];simp only [bsm]
 cases hs:sil r with
 | true=>
  simp only [bA];unfold dv;simp only [bS,fe,bA,bsm,hd];rw [rW hf];simp only [bsm,ye];rw [rW (by rw [yO]; exact hf),GO];simp only [bsm];rw [vj hf];simp only [bsm];obtain ⟨s',q',ks',a1,a2,a3,hks,hcd⟩:=zk (F.v.sf (f:=f) ⟨some k,d,sgB sg0,none⟩) r;rw [a1];have hdo:=zj a2;have hf1:Fr C (s.sf f ⟨some k,d,sgB sg0,none⟩) k g ks:=F.fr.rgp (Rgp.self _) ⟨rfl,rfl,rfl⟩;have hv1:=F.v.sf (f:=f) ⟨some k,d,sgB sg0,none⟩;refine ⟨s',q',ks',none,rfl,⟨a3.self,hf1.trans hv1.oG hv1.oR a3.f,(F.fz.sf ⟨some k,d,sgB sg0,none⟩ none (fun j e=>by cases e)).oth a3.o,by rw [hks]; exact F.n,by rw [<-F.n]; exact hcd (by rw [F.n]; exact F.hd),?_,hgv,⟨d,?_,hdv⟩,fun _=>rfl,fun e=>?_⟩⟩
  ·
   rw [hcs];split
   ·rename_i hj
    obtain ⟨l0,x,rfl,hx⟩:=DG.yes hs hj;obtain ⟨cs0,c,ec⟩:=gw ((lC (pj:=pj) (pr:=pr) (l0++ [x])).2.2 (by simp));obtain ⟨c',rfl⟩:=AN ec;rw [ec,lV];have hall:=DG.all (l0++ [x]) (c'++ [x]) (by rw [ec]; simp);have hal:∀y∈c'++ [x],sil y=true:=by
     rcases hall with q|q
     ·exact q
     ·have:=q x (by simp); rw [hx] at this; cases this
    have hl:=F.l;rw [ec,nZ] at hl;rw [nZ]
    cases hq0:fo oL P cs0 with
    | none=>rw [hq0] at hl; cases hl
    | some q0=>
     rw [hq0] at hl;simp only [bsm] at hl|-;obtain ⟨a,t,ea⟩:∃a t,c'++ [x]=a::t:=by
      cases h:c'++ [x] with
      | nil=>simp at h
      | cons a t=>exact ⟨a,t,rfl⟩
     have ha:sil a=true:=hal a (by rw [ea]; simp);rw [ea,sn ha] at hl;rw [ea,bP,sn ha,<-bP,nZ,hl];exact hdo
   ·rw [nZ,F.l];simp only [bsm];rw [sn hs];show (xm q r).bind (fun b=>some b)=_;rw [hdo];rfl
  ·have:qz (G++ [r])=sg0:=by unfold qz; rw [mN,af hs]
   rw [this,qD a3.o];exact vj hf
  ·rw [mN,hs] at e;cases e
 | false=>
  simp only [ak,aY];rw [Ba r (A6 hr)];simp only [bsm,hd];rw [zT];simp only [bsm];rw [rW hf];simp only [bsm];have hsj:sgJ pj (qz G) (pr r)=jn pj pr G r/\sgN (qz G) (pr r)=sgF ((G++ [r]).map pr):=by
   unfold qz;rw [bC,mg,pX]
   cases hL:Aq G with
   | false=>simp only [ak,aY]; exact ⟨rfl,trivial⟩
   | true=>
    simp only [bA];by_cases hG:G= []
    ·subst hG; exact ⟨rfl,rfl⟩
    ·obtain ⟨G0,x,rfl⟩:=gw hG;rw [mN] at hL;rw [DG.no G0 hL hs,DG.new G0 hL];exact ⟨rfl,rfl⟩
  rw [hsj.1,hsj.2];have hsg:qz (G++ [r])=sgF ((G++ [r]).map pr):=by unfold qz; rw [mN,hs]; rfl
  rw [<-hsg];have hv1:=F.v.sf (f:=f) ⟨some k,d,sgB (qz (G++ [r])),op⟩;have hf1:Fr C (s.sf f ⟨some k,d,sgB (qz (G++ [r])),op⟩) k g ks:=F.fr.rgp (Rgp.self _) ⟨rfl,rfl,rfl⟩;have hz1:=F.fz.sf ⟨some k,d,sgB (qz (G++ [r])),op⟩ op F.fz.oc;have hg1:(s.sf f ⟨some k,d,sgB (qz (G++ [r])),op⟩).feed_Feeder[f]? = some ⟨some k,d,sgB (qz (G++ [r])),op⟩:=vj hf;simp only [bb,bsm];rw [hg1];simp only [bsm];have hfix:=EB hr
  cases hj:jn pj pr G r with
  | true=>
   have hL:Aq G=false:=by
    cases hL:Aq G with
    | false=>rfl
    | true=>
     obtain ⟨G0,x,rfl⟩:=gw (vV pj pr hj);rw [mN] at hL;rw [DG.no G0 hL hs] at hj;cases hj
   obtain ⟨j,rfl,⟨q0,c,C0,s0,ks0,cs0,cl,ec,hcne,hcs0,hq0,hp0,hn0,hw,hput⟩⟩:=F.o2 hL;simp only [bS,fe,Bool.and_self,bA];have hcs2:cls pj pr (G++ [r])=cs0++ [cl++ [r]]:=by rw [hcs,af hj,ec,lV]
   have hclv:∀x∈cl.take 16,vld x=true:=fun x hx=>F.gv x (by
    rw [<-(lC (pj:=pj) (pr:=pr) G).1,ec];exact List.mem_flatten.2 ⟨cl,by simp,cq hx⟩)
   have hhd:sil ((cl++ [r]).headD 0)=false:=by
    cases cl with
    | nil=>exact absurd rfl hcne
    | cons a t=>exact hcs0
   have hw16:w16 cl=wz (gf (cl.take 16) ((cl.take 16).map pr)):=rfl;rw [hw16] at hw hput;have on:On C (s.sf f ⟨some k,d,sgB (qz (G++ [r])),some j⟩) k g W H j q0 (gf (cl.take 16) ((cl.take 16).map pr)) (cl.take 16) q c ks:=⟨hv1,hf1,hw.sf _,F.n,hput⟩;have hlayc:∀q2 c2,be q0 (w16 (cl++ [r])) ((cl++ [r]).take 16)=some (q2,c2)->fo oL P (cls pj pr (G++ [r]))=some q2:=fun q2 c2 e=>by
    rw [hcs2,nZ,hq0];simp only [bsm]
    cases hcc:cl++ [r] with
    | nil=>simp at hcc
    | cons a t=>
     rw [hcc] at e hhd;rw [uI (by simpa using hhd),e];rfl
   have hlen:cl.length<16\/16<=cl.length:=by omega
   have hcl1:1<=cl.length:=by
    cases cl with
    | nil=>exact absurd rfl hcne
    | cons _ _=>simp
   rcases hlen with hlt|hge
   ·have et:cl.take 16=cl:=aB (by omega);have et2:(cl++ [r]).take 16=cl++ [r]:=aB (by simp; omega);rw [et] at on hclv;obtain ⟨s',q',c',ks',b1,b2,z,b3⟩:=FZ hp0 hn0 on hcl1 hlt hclv r (pr r);rw [b1];simp only [bsm];rw [hfix,<-ss] at b2;have hw2:w16 (cl++ [r])=wz (gf (cl++ [r]) ((cl++ [r]).map pr)):=by unfold w16; rw [et2]
    refine ⟨s',q',ks',some j,rfl,⟨b2.v,b2.f,hz1.grow b3,b2.n,D2 hp0 hn0 (wv cl |> fun _=>by simp; omega) b2.p,hlayc q' c' (by rw [hw2,et2]; exact b2.p),hgv,⟨d,?_,hdv⟩,fun e=>?_,fun _=>⟨j,rfl,⟨q0,c',C0,s0,ks0,cs0,cl++ [r],hcs2,by simp,hhd,hq0,hp0,hn0,?_,by rw [hw2,et2]; exact b2.p⟩⟩⟩⟩
    ·rw [show s'.feed_Feeder=(s.sf f ⟨some k,d,sgB (qz (G++ [r])),some j⟩).feed_Feeder from (qD b3).trans rfl];exact hg1
    ·rw [mN,hs] at e; cases e
    ·rw [hw2,et2];exact b2.w
   ·have hfl:(cl.take 16).length=16:=by rw [az]; omega
    have et2:(cl++ [r]).take 16=cl.take 16:=cR hge;have hw2:w16 (cl++ [r])=w16 cl:=by unfold w16; rw [et2]
    rw [C6 on hfl r (pr r)];simp only [bsm];refine ⟨_,q,ks,some j,rfl,⟨hv1,hf1,hz1,F.n,F.hd,hlayc q c (by rw [hw2,et2]; exact hput),hgv,⟨d,hg1,hdv⟩,fun e=>?_,fun _=>⟨j,rfl,⟨q0,c,C0,s0,ks0,cs0,cl++ [r],hcs2,by simp,hhd,hq0,hp0,hn0,?_,by rw [hw2,et2]; exact hput⟩⟩⟩⟩
    ·rw [mN,hs] at e; cases e
    ·rw [hw2,et2];exact hw.sf _
  | false=>
   simp only [nE,ak,aY];obtain ⟨s2,q2,c2,ks2,b1,b2,z,b3⟩:=EW hv1 r (pr r);rw [b1];simp only [bsm];have e1:s2.feed_Feeder=(s.sf f ⟨some k,d,sgB (qz (G++ [r])),op⟩).feed_Feeder:=(qD b3).trans rfl;rw [e1,hg1];simp only [bsm];have hf2:f<s2.feed_Feeder.length:=by rw [e1,yO]; exact hf
   rw [rW hf2];rw [hfix] at b2;have hgf:gz ⟨false,false,false⟩ r (pr r)=gf [r] ([r].map pr):=by
    have:=ss [] r;simp only [aW] at this;rw [this];rfl
   rw [hgf] at b2;have hcs2:cls pj pr (G++ [r])=cls pj pr G++ [[r]]:=by rw [hcs,hj]; rfl
   have hlay:fo oL P (cls pj pr (G++ [r]))=some q2:=by
    rw [hcs2,nZ,F.l];simp only [bsm];rw [uI hs];show (be q (wz (gf [r] ([r].map pr))) [r]).map (·.1)=some q2;rw [b2.p];rfl
   refine ⟨_,q2,ks2,some (s.sf f ⟨some k,d,sgB (qz (G++ [r])),op⟩).widen_Cluster.length,rfl,⟨b2.v.sf _,?_,(hz1.more b3).sf _ _ (fun j e=>?_),b2.n.trans F.n,D2 F.v F.n (by simp) b2.p,hlay,hgv,⟨d,vj hf2,hdv⟩,fun e=>?_,fun _=>⟨_,rfl,⟨q,c2,_,_,ks,cls pj pr G,[r],hcs2,by simp,hs,F.l,F.v,F.n,b2.w.sf _,b2.p⟩⟩⟩⟩
   ·exact (hf1.trans hv1.oG hv1.oR b2.f).rgp (Rgp.self _) ⟨rfl,rfl,rfl⟩
   ·cases e;exact .inr hz1.wl
   ·rw [mN,hs] at e; cases e
end Go.Proofs.YtclmdpamofdoiaaGreatDoor
namespace Go.Proofs.YtclmdpamofdoiaaGreatDoor
open Go Go.Lt
theorem AD:dz=cm:=rfl
theorem Jj:dh=bq:=rfl
theorem G9:cZ=bI:=rfl
theorem Di (t:List Int) (h:R32 t) (hl:t.length<=1000000):ox t=some (wz (gf t (t.map pr))):=by
 unfold ox;refine iO (n:=t.length) (fun i (a:Int×Int×Bool×Bool×Bool)=>a=(wz (gf (t.take i) ((t.take i).map pr)),(i:Int),(gf (t.take i) ((t.take i).map pr)).some,(gf (t.take i) ((t.take i).map pr)).pict,(gf (t.take i) ((t.take i).map pr)).wide)) (fun u=>u.1=wz (gf t (t.map pr))) (fun i a hi e=>?_) (fun a e=>?_) rfl (by omega) (fun u e=>by rw [e])
 ·left
  subst e;simp only;rw [af (dlt hi),bj hi,bsm,Ba _ (h _ (aF hi)),bsm,AD,xl,bsm,dm hi (by omega)];refine ⟨_,rfl,?_⟩;rw [an hi,ss]
 ·subst e;exact ⟨_,by simp only; rw [ae (by simp)],by simp only; rw [dj]⟩
def Ix (a:Int×Int×Int×Int×Int×Int×Int×Int×Int×Int×Int×Int×Int×Int×Int×Int×Int):aP:=match a with|(t0,t1,t2,t3,t4,t5,t6,t7,t8,t9,t10,t11,t12,t13,t14,t15,n)=>⟨(t0,t1,t2,t3,t4,t5,t6,t7,t8,t9,t10,t11,t12,t13,t14,t15),n⟩
theorem BG (x:List Int) (hl:x.length<=1000000):∃c,nc x=some c/\Cv c (x.take 16):=by
 unfold nc;refine mO (n:=x.length) (fun i (a:Int×Int×Int×Int×Int×Int×Int×Int×Int×Int×Int×Int×Int×Int×Int×Int×Int×Int)=>a.1=(i:Int)/\i<=16/\Cv (Ix a.2) (x.take i)) (fun (u:Int×Int×Int×Int×Int×Int×Int×Int×Int×Int×Int×Int×Int×Int×Int×Int×Int)=>Cv (Ix u) (x.take 16)) (fun i a hi hI=>?_) (fun a hI=>?_) ⟨rfl,by omega,?_⟩ (by omega) (fun u hu=>?_)
 ·obtain ⟨i',t0,t1,t2,t3,t4,t5,t6,t7,t8,t9,t10,t11,t12,t13,t14,t15,n⟩:=a;obtain ⟨e,h16,hk⟩:=hI;simp only at e hk;subst e;simp only;rw [af (dlt hi),dm hi (by omega),bj hi,bsm,Jj];have htl:(x.take i).length=i:=by rw [az]; omega
  by_cases hlt:i<16
  ·obtain ⟨c',hc,hk2⟩:=EI hk (by omega) x[i];have hc2:bq ⟨(t0,t1,t2,t3,t4,t5,t6,t7,t8,t9,t10,t11,t12,t13,t14,t15),n⟩ x[i]=some (c',true):=hc;rw [hc2,bsm,ae (by simp)];exact .inl ⟨_,rfl,rfl,by omega,by rw [an hi]; exact hk2⟩
  ·obtain rfl:i=16:=by omega
   have hf:=wF hk;have hc2:bq ⟨(t0,t1,t2,t3,t4,t5,t6,t7,t8,t9,t10,t11,t12,t13,t14,t15),n⟩ x[16]=some (⟨(t0,t1,t2,t3,t4,t5,t6,t7,t8,t9,t10,t11,t12,t13,t14,t15),n⟩,false):=by
    unfold bq;have hf2:bJ ⟨(t0,t1,t2,t3,t4,t5,t6,t7,t8,t9,t10,t11,t12,t13,t14,t15),n⟩=some (decide ((x.take 16).length=16)):=hf;rw [hf2,ig,bsm,bsm,af (by rw [am]; exact htl)]
   rw [hc2,bsm,af (by simp)];exact .inr ⟨_,rfl,hk⟩
 ·obtain ⟨i',t0,t1,t2,t3,t4,t5,t6,t7,t8,t9,t10,t11,t12,t13,t14,t15,n⟩:=a;obtain ⟨e,h16,hk⟩:=hI;simp only at e hk;subst e;refine ⟨_,by simp only; rw [ae (by simp)],?_⟩;have e1:x.take 16=x.take x.length:=by rw [dj,aB h16]
  rw [e1];exact hk
 ·rw [bN];exact ⟨rfl,by simp,rfl⟩
 ·obtain ⟨t0,t1,t2,t3,t4,t5,t6,t7,t8,t9,t10,t11,t12,t13,t14,t15,n⟩:=u;exact ⟨_,rfl,hu⟩
theorem D5 {c:List Int}(hne:c≠ []) (h:R32 c) (hl:c.length<=1000000):ir c=some (if sil (c.headD 0)=true then (⟨0,[]⟩,false) else (⟨w16 c,c.take 16⟩,true)):=by
 obtain ⟨a,t,rfl⟩:∃a t,c=a::t:=by
  cases c with
  | nil=>exact absurd rfl hne
  | cons a t=>exact ⟨a,t,rfl⟩
 have h0:idx (a::t) 0=some a:=rfl;unfold ir;rw [h0,bsm,Bg,bsm,oI]
 cases sil a with
 | true=>rw [af rfl,af rfl]
 | false=>
  obtain ⟨d,h1,h2⟩:=BG (a::t) hl;rw [ae (by simp),ae (by simp),h1,bsm,G9,zm h2,bsm,Di _ (fun x hx=>h x (cq hx)) (by have:=wv (a::t); omega),bsm];rfl
theorem C7 {G c:List Int}(hc:c∈cls pj pr G) (h:R32 c) (hl:c.length<=1000000):kK c=some (if sil (c.headD 0)=true then [] else [⟨w16 c,c.take 16⟩]):=by
 have hne:=(lC (pj:=pj) (pr:=pr) G).2.1 c hc;unfold kK;refine EZ c h hl (fun (out:List dU) x=>(ir x).bind fun z=>if z.2 then app out [z.1] else some out) (fun s x i s' hx hs=>?_) ?_
 ·obtain ⟨z,hz,hs⟩:=Option.bind_eq_some_iff.1 hs;rw [hz,bsm]
  cases h2:z.2 with
  | true=>
   rw [h2,af rfl] at hs;rw [af rfl,hs,bsm]
  | false=>
   rw [h2,ae (by simp)] at hs;rw [ae (by simp),bi hs]
 ·rw [Gu hc];show ((ir c).bind fun z=>if z.2 then app [] [z.1] else some []).bind (fun b=>some b)=_;have hp:=D5 hne h hl
  cases hs:sil (c.headD 0) with
  | true=>
   rw [hs,af rfl] at hp;rw [hp];rfl
  | false=>
   rw [hs,ae (by simp)] at hp;rw [hp,bsm,af rfl,cO (by simp)];rfl
variable {s C:Sto}{k g W:Nat}{q P:aa}{ks:List Nat}
theorem Cb (h:Pv C s k g W q ks){G c:List Int}(hc:c∈cls pj pr G) (hr:R32 c) (hl:c.length<=1000000){q2:aa}(hq:oL q c=some q2):∃s' ks',iH s (some k) c=some s'/\Pv C s' k g W q2 ks'/\ks'.length=ks.length/\(Hd q.At W ks.length->Hd q2.At W ks.length):=by
 have hne:=(lC (pj:=pj) (pr:=pr) G).2.1 c hc;unfold iH;have hI:=C7 hc hr hl;obtain ⟨a,t,rfl⟩:∃a t,c=a::t:=by
  cases c with
  | nil=>exact absurd rfl hne
  | cons a t=>exact ⟨a,t,rfl⟩
 rw [oI] at hI
 cases hs:sil a with
 | true=>
  rw [hs,af rfl] at hI;rw [hI,bsm,ae (by simp)];rw [sn hs] at hq;have conv:∀{x:Option Sto},(∃r,x=some r/\∃ks',Pv C r k g W q2 ks'/\ks'.length=ks.length/\(Hd q.At W ks.length->Hd q2.At W ks.length))->∃s' ks',x=some s'/\Pv C s' k g W q2 ks'/\ks'.length=ks.length/\(Hd q.At W ks.length->Hd q2.At W ks.length):=fun ⟨r,a,ks',b⟩=>⟨r,ks',a,b⟩;refine conv (mO (n:=(a::t).length) (fun i b=>∃si qi ksi,b=((i:Int),si)/\fo xm q ((a::t).take i)=some qi/\Pv C si k g W qi ksi/\ksi.length=ks.length/\(Hd q.At W ks.length->Hd qi.At W ks.length))
   (fun u=>∃ks',Pv C u k g W q2 ks'/\ks'.length=ks.length/\(Hd q.At W ks.length->Hd q2.At W ks.length)) (fun i b hi hI=>?_) (fun b hI=>?_) ⟨s,q,ks,rfl,rfl,h,rfl,id⟩ (by omega) (fun u hu=>⟨u,rfl,hu⟩))
  ·obtain ⟨si,qi,ksi,rfl,i1,i2,i3,i4⟩:=hI
   left
   obtain ⟨s',q',ks',b1,b2,b3,b4,b5⟩:=zk i2 (a::t)[i];simp only;rw [af (dlt hi),bj hi,bsm,b1,bsm,dm hi (by omega)];refine ⟨_,rfl,s',q',ks',rfl,?_,b3,by omega,fun h=>?_⟩
   ·rw [an hi,nZ,i1,bsm];exact zj b2
   ·rw [<-i3];exact b5 (by rw [i3]; exact i4 h)
  ·obtain ⟨si,qi,ksi,rfl,i1,i2,i3,i4⟩:=hI;rw [dj,hq] at i1;cases i1;exact ⟨_,by simp only; rw [ae (by simp)],ksi,i2,i3,i4⟩
 | false=>
  rw [hs,ae (by simp)] at hI;rw [hI,bsm,af (by simp),show idx [(⟨w16 (a::t),(a::t).take 16⟩:dU)] 0=some ⟨w16 (a::t),(a::t).take 16⟩ from rfl,bsm,bsm];rw [uI hs] at hq;obtain ⟨s',q',ks',i,b,_,a1,a2,a3,a4,a5,_⟩:=wV h (w16 (a::t)) ((a::t).take 16) (by have:=wv (a::t); omega);rw [a2] at hq;cases hq;simp only;rw [a1,bsm];exact ⟨s',ks',rfl,a3,a4,fun _=>a5⟩
theorem FV (h:Pv C s k g W q ks){G:List Int}(hv:R32 G) (hl:G.length<=1000000){q2:aa}(hq:fo oL q (cls pj pr G)=some q2):∃s' ks',kv s (some k) G=some s'/\Pv C s' k g W q2 ks'/\ks'.length=ks.length/\(Hd q.At W ks.length->Hd q2.At W ks.length):=by
 obtain ⟨hf,hne,_⟩:=lC (pj:=pj) (pr:=pr) G;have hR:∀c∈cls pj pr G,R32 c:=fun c hc x hx=>hv x (by rw [<-hf]; exact List.mem_flatten.2 ⟨c,hc,hx⟩);have hL:∀c∈cls pj pr G,c.length<=1000000:=fun c hc=>by
  have h1:c.length<=((cls pj pr G).map List.length).sum:=by
   have hm:c.length∈(cls pj pr G).map List.length:=List.mem_map.2 ⟨c,hc,rfl⟩;generalize (cls pj pr G).map List.length=L at hm
   induction L with
   | nil=>cases hm
   | cons x L ih=>
    rw [List.sum_cons];rcases List.mem_cons.1 hm with h|h
    ·omega
    ·have:=ih h; omega
  rw [<-List.length_flatten,hf] at h1;omega
 have key:∀(cs:List (List Int)),(∀c∈cs,c∈cls pj pr G)->∀(s:Sto) (q:aa) (ks:List Nat),Pv C s k g W q ks->fo oL q cs=some q2->∃s' ks',fo (fun s c=>iH s (some k) c) s cs=some s'/\Pv C s' k g W q2 ks'/\ks'.length=ks.length/\(Hd q.At W ks.length->Hd q2.At W ks.length):=by
  intro cs
  induction cs with
  | nil=>
   intro _ s q ks h hq;cases hq;exact ⟨s,ks,rfl,h,rfl,id⟩
  | cons c cs ih=>
   intro hm s q ks h hq;have hq:(oL q c).bind (fun b=>fo oL b cs)=some q2:=hq;obtain ⟨q1,e1,e2⟩:=Option.bind_eq_some_iff.1 hq;have hc:=hm c (by simp);obtain ⟨s1,ks1,b1,b2,b3,b4⟩:=Cb h hc (hR c hc) (hL c hc) e1;obtain ⟨s2,ks2,c1,c2,c3,c4⟩:=ih (fun d hd=>hm d (jf _ hd)) s1 q1 ks1 b2 e2;refine ⟨s2,ks2,?_,c2,by omega,fun h=>?_⟩
   ·show (iH s (some k) c).bind (fun b=>fo (fun s c=>iH s (some k) c) b cs)=some s2;rw [b1,bsm,c1]
   ·rw [<-b3];exact c4 (by rw [b3]; exact b4 h)
 obtain ⟨s',ks',h1,h2,h3,h4⟩:=key _ (fun _ h=>h) s q ks h hq;refine ⟨s',ks',?_,h2,h3,h4⟩;unfold kv;exact EZ G hv hl (fun s c=>iH s (some k) c) (fun s c i s' _ hs=>by rw [hs,bsm]) h1
end Go.Proofs.YtclmdpamofdoiaaGreatDoor
namespace Go.Proofs.YtclmdpamofdoiaaGreatDoor
open Go Go.Lt
theorem GA {c:List Int}{k n:Nat}(h1:1<=k) (hk:k<n) (hlt:k<c.length) (hb:bg (c.take k)=(n:Int)):
  bg (c.take (k+1))=if (if k=1 then slo (c.headD 0) else 128)<=c[k]/\c[k]<=(if k=1 then shi (c.headD 0) else 191) then (n:Int) else 0:=by
 have hn:=(yF (c.take k)).2;have:k=1\/k=2\/k=3:=by omega
 rcases this with rfl|rfl|rfl
 ·match c,hlt,hb with
  | a::b::t,_,hb=>
   simp only [cx,bN,bg] at hb|-;simp only [oI,mi,mh,bA];by_cases g:slo a<=b/\b<=shi a
   ·rw [af ⟨by omega,g⟩,af g,hb]
   ·rw [ae (fun q=>g q.2),ae g]
 ·match c,hlt,hb with
  | a::b::x::t,_,hb=>
   simp only [cx,bN,bg] at hb|-;simp only [mi,mh,show ¬(2:Nat)=1 by decide,aY];split at hb
   ·rename_i q
    by_cases g:128<=x/\x<=191
    ·rw [af ⟨by omega,q.2.1,q.2.2,g⟩,af g,hb]
    ·rw [ae (fun q=>g q.2.2.2),ae g]
   ·omega
 ·match c,hlt,hb with
  | a::b::x::y::t,_,hb=>
   simp only [cx,bN,bg] at hb|-;simp only [mi,mh,show ¬(3:Nat)=1 by decide,aY];split at hb
   ·rename_i q
    have:=sm a;by_cases g:128<=y/\y<=191
    ·rw [af ⟨by omega,q.2.1,q.2.2.1,q.2.2.2.1,q.2.2.2.2,g⟩,af g];omega
    ·rw [ae (fun q=>g ⟨q.2.2.2.2.2.1,q.2.2.2.2.2.2⟩),ae g]
   ·omega
theorem A9 {c:List Int}(hc:c≠ []) (hb:Bts c) (hl:c.length<=1000000):∃k n:Nat,gV c=some ((k:Int),(n:Int))/\GK c k/\(k=0->n=0)/\(0<k->bg (c.take k)=(n:Int)/\k<=n):=by
 obtain ⟨a,t,rfl⟩:∃a t,c=a::t:=by
  cases c with
  | nil=>exact absurd rfl hc
  | cons a t=>exact ⟨a,t,rfl⟩
 have ha:=hb a (by simp);have h0:idx (a::t) 0=some a:=rfl;have hld:=sm a;unfold gV;rw [h0];simp only [bsm];rw [xb ha];simp only [bsm];obtain ⟨n,hn⟩:∃n:Nat,ld a=(n:Int):=⟨(ld a).toNat,by omega⟩;rw [hn];by_cases h2:n<2
 ·rw [af (by rw [am]; omega)];refine ⟨n,n,rfl,⟨by simp only [aD]; omega,fun m m1 m2=>by omega,fun hk=>?_,fun hk=>?_,fun hk hw=>?_⟩,fun h=>h,fun hk=>⟨?_,aq _⟩⟩
  ·subst hk;simp only [cx,bN,bg];exact hn
  ·obtain rfl:n=1:=by omega
   simp only [cx,bN,bg];omega
  ·obtain rfl:n=1:=by omega
   simp only [cx,bN,bg] at hw;omega
  ·obtain rfl:n=1:=by omega
   simp only [cx,bN,bg];exact hn
 ·rw [ae (by rw [am]; omega),xa ha (by omega)];simp only [bsm]
  suffices h:∃t',cH (σ:=Int×Int×Int) (τ:=Int) (((n:Int)-1).toNat+1) (fun s=>
    (bL (decide (s.2.2<(n:Int))) (some (decide (s.2.2<((a::t).length:Int))))).bind fun d=>
    (bL d ((idx (a::t) s.2.2).bind fun i=>some (decide (i>=s.1)))).bind fun e=>
    (bL e ((idx (a::t) s.2.2).bind fun j=>some (decide (j<=s.2.1)))).bind fun f=>
    if f then some (.inl (128,191,(w64 (s.2.2+1)))) else some (.inr s.2.2)) (slo a,shi a,1)=some t'/\∃k:Nat,t'=(k:Int)/\1<=k/\k<=n/\k<=(a::t).length/\(∀m,1<=m->m<=k->bg ((a::t).take m)=(n:Int))/\(k=n\/k=(a::t).length\/bg ((a::t).take (k+1))=0) by
   obtain ⟨t',h1,k,rfl,k1,kn,kl,hI,hE⟩:=h;rw [h1];simp only [bsm];refine ⟨k,n,rfl,⟨kl,fun m m1 m2=>by rw [hI m m1 (by omega)]; omega,fun h=>by omega,fun _=>by rw [hI k k1 (aq _)]; omega,fun _ hw=>?_⟩,fun h=>by omega,fun _=>⟨hI k k1 (aq _),kn⟩⟩;rw [hI k k1 (aq _)] at hw;rcases hE with h|h|h
   ·omega
   ·exact .inl h
   ·exact .inr h
  refine mo (fun s=>∃k:Nat,s=((if k=1 then slo a else 128),(if k=1 then shi a else 191),(k:Int))/\1<=k/\k<=n/\k<=(a::t).length/\∀m,1<=m->m<=k->bg ((a::t).take m)=(n:Int)) (fun s=>n-s.2.2.toNat) _ (fun s hs=>?_) _ _ ⟨1,rfl,aq _,by omega,by simp only [aD]; omega,fun m m1 m2=>?_⟩ (by simp only; omega)
  ·obtain ⟨k,rfl,k1,kn,kl,hI⟩:=hs;simp only;by_cases hk:k<n/\k<(a::t).length
   ·have hnx:=GA k1 hk.1 hk.2 (hI k k1 (aq _));rw [oI] at hnx;rw [show decide ((k:Int)<(n:Int))=true by rw [am]; omega,dlt hk.2,bb,Bool.and_self];simp only [bsm];rw [ip,bj hk.2];simp only [bsm];rw [bb];simp only [bsm];by_cases g:(if k=1 then slo a else 128)<=(a::t)[k]/\(a::t)[k]<=(if k=1 then shi a else 191)
    ·rw [af (by rw [aA,am,am]; exact g)];rw [af g] at hnx;refine .inl ⟨_,rfl,⟨k+1,?_,by omega,by omega,by omega,fun m m1 m2=>?_⟩,?_⟩
     ·rw [ae (by omega),ae (by omega),aJ (by omega)];simp
     ·by_cases hm:m<=k
      ·exact hI m m1 hm
      ·obtain rfl:m=k+1:=by omega
       exact hnx
     ·show n-(w64 ((k:Int)+1)).toNat<n-((k:Int)).toNat;rw [aJ (by omega)];omega
    ·rw [ae (by rw [aA,am,am]; exact g)];rw [ae g] at hnx;exact .inr ⟨_,rfl,k,rfl,k1,kn,kl,hI,.inr (.inr hnx)⟩
   ·have hd:(bL (decide ((k:Int)<(n:Int))) (some (decide ((k:Int)<((a::t).length:Int)))))=some false:=by
     rw [bb]
     congr 1
     rw [wu,gp,gp];omega
    rw [hd];simp only [bsm,iu,ak,aY];refine .inr ⟨_,rfl,k,rfl,k1,kn,kl,hI,?_⟩;omega
  ·obtain rfl:m=1:=by omega
   simp only [cx,bN,bg];exact hn
theorem A8 {f:List Int}(hb:Bts f) (hne:f≠ []) (hw:bg f=(f.length:Int)):lm f=some (vl f):=by
 obtain ⟨a,t,rfl⟩:∃a t,f=a::t:=by
  cases f with
  | nil=>exact absurd rfl hne
  | cons a t=>exact ⟨a,t,rfl⟩
 have ha:=hb a (by simp);have h0:idx (a::t) 0=some a:=rfl;have hle:=(yF (a::t)).2;have htl:t.length<=3:=by simp only [aD] at hw; omega
 have hbp:∀i,1<=i->i<=(a::t).length->bg ((a::t).take i)=bg (a::t):=fun i h1 h2=>wG (by rw [hw]; simp only [aD]; omega) h1 h2;have hl1:ld a=((a::t).length:Int):=by
  have h:bg [a]=bg (a::t):=hbp 1 (aq _) (by simp);exact h.trans hw
 unfold lm;rw [h0];simp only [bsm];rw [Am ha (by rw [hl1]; simp only [aD]; omega)];simp only [bsm];have hs:=mI (xs:=a::t) (i:=1) (j:=(a::t).length) (by simp) (aq _);rw [show ((1:Nat):Int)=1 from rfl,Ju,fU,aB (by simp)] at hs;rw [hs];simp only [bsm];have htake:∀i,(a::t).take (i+1)=a::t.take i:=fun i=>rfl;have hv:∀i,i<=t.length->0<=vl (a::t.take i)/\vl (a::t.take i)<=2000000000/\(i<t.length->vl (a::t.take i)<=131071):=by
  intro i hi;by_cases hlt:i<t.length
  ·have hh:Hh (a::t.take i):=by
    refine .inr ?_;rw [<-htake,hbp (i+1) (by omega) (by simp only [aD]; omega),hw];simp only [az,aD];omega
   have:=Dy hh (fun x hx=>hb x (by rw [<-htake] at hx; exact cq hx)) (by simp);exact ⟨this.1,by omega,fun _=>this.2⟩
  ·rw [aB (by omega)];have:=wJ hb hw (by simp);exact ⟨this.2.1,this.2.2,fun h=>by omega⟩
 have hlast:=hv t.length (aq _);rw [dj] at hlast;have h32:w32 (vl (a::t))=vl (a::t):=by
  rw [wI (by omega)]
 refine iO (n:=t.length) (fun i s=>s=(vl (a::t.take i),(i:Int))) (fun u=>u=vl (a::t)) (fun i s hi e=>?_) (fun s e=>?_) rfl (by omega) (fun u e=>by rw [e,h32])
 ·left
  subst e;simp only;rw [af (dlt hi),bj hi];simp only [bsm];have hx:128<=t[i]/\t[i]<=191:=by
   have hk:=hbp (i+2) (by omega) (by simp only [aD]; omega);rw [hw] at hk;rw [htake,an hi] at hk;have hh:i=0\/i=1\/i=2:=by omega
   have hq:=hb t[i] (jf _ (aF hi));rcases hh with rfl|rfl|rfl
   ·simp only [bN,aW,bg] at hk;split at hk
    ·rename_i q
     unfold slo shi at q;have h1:=q.2.1;have h2:=q.2.2;split at h1 <;> split at h2 <;> (try split at h1) <;> (try split at h2) <;> omega
    ·simp only [aD] at hk; omega
   ·match t,hi,hk with
    | b::x::t',_,hk=>
     simp only [cx,bN,bP,aW,bg] at hk;split at hk
     ·rename_i q
      exact q.2.2.2
     ·simp only [aD] at hk; omega
   ·match t,hi,hk with
    | b::x::y::t',_,hk=>
     simp only [cx,bN,bP,aW,bg] at hk;split at hk
     ·rename_i q
      exact ⟨q.2.2.2.2.2.1,q.2.2.2.2.2.2⟩
     ·simp only [aD] at hk; omega
  obtain ⟨v0,_,v2⟩:=hv i (by omega);have v3:=v2 hi;have hsn:=yI (h:=a::t.take i) (by simp) t[i];rw [bP,<-an hi] at hsn;have hbits:qF .i64 (w64 (vl (a::t.take i)*2 ^ 6)) (w64 (ko .u8 t[i] 63))=vl (a::t.take (i+1)):=by
   rw [hsn];obtain ⟨x,hx'⟩:∃x:Nat,vl (a::t.take i)=(x:Int):=⟨(vl (a::t.take i)).toNat,by omega⟩;obtain ⟨y,hy⟩:∃y:Nat,t[i]-128=(y:Int):=⟨(t[i]-128).toNat,by omega⟩;rw [zN (by omega) (by omega),hx',hy,show ((x:Int)*2 ^ 6)=(x:Int)*64 from rfl,aJ (by omega),aJ (by omega),D8 (by omega) (by omega)];simp
  rw [hbits,dm hi (by omega)];exact ⟨_,rfl,rfl⟩
 ·subst e;exact ⟨_,by simp only; rw [ae (by simp)],by rw [dj]⟩
theorem Cu {c:List Int}(hc:c≠ []) (hb:Bts c) (hl:c.length<=1000000) (a:Int):∃(g:cw) (k n:Nat),mq c a=some g/\gV c=some ((k:Int),(n:Int))/\GK c k/\(k=0->n=0)/\(0<k->bg (c.take k)=(n:Int)/\k<=n)/\
  g.R=(if 0<k then (if bg (c.take k)=k then vl (c.take k) else 65533) else 65533)/\g.At=a/\g.Len=((max k 1:Nat):Int)/\(g.Bad=false↔0<k/\k=n):=by
 obtain ⟨k,n,h1,hk,h0,hp⟩:=A9 hc hb hl;unfold mq;rw [h1];simp only [bsm];by_cases hz:k=0
 ·subst hz;rw [af (by rfl)];exact ⟨_,0,n,rfl,rfl,hk,h0,hp,rfl,rfl,rfl,by simp⟩
 ·rw [ae (by rw [aQ]; omega)];obtain ⟨p1,p2⟩:=hp (by omega);by_cases ht:k<n
  ·rw [af (by rw [am]; omega)];refine ⟨_,k,n,rfl,rfl,hk,h0,hp,?_,rfl,?_,?_⟩
   ·rw [af (by omega),ae (by omega)]
   ·simp only; omega
   ·simp only [Bool.true_eq_false,mG]; omega
  ·obtain rfl:k=n:=by omega
   have hkl:=hk.le;have hs:=mI (xs:=c) (i:=0) (j:=k) (bT _) hkl;rw [show ((0:Nat):Int)=0 from rfl,fU,mf] at hs;have hlen:(c.take k).length=k:=by rw [az]; omega
   rw [ae (by rw [am]; omega),hs];simp only [bsm];rw [A8 (fun x hx=>hb x (cq hx)) (fun e=>by rw [e] at hlen; rw [aI] at hlen; omega) (by rw [p1,hlen])];simp only [bsm];refine ⟨_,k,k,rfl,rfl,hk,h0,hp,?_,rfl,?_,?_⟩
   ·rw [af (by omega),af p1]
   ·simp only; omega
   ·exact ⟨fun _=>⟨by omega,rfl⟩,fun _=>rfl⟩
theorem Da {c:List Int}{k:Nat}(h:GK c k) (hlt:max k 1<c.length):(aZ [] c).2=(aZ [] (c.drop (max k 1))).2:=by
 have hc:c≠ []:=fun e=>by rw [e] at hlt; simp at hlt
 by_cases hk:0<k
 ·rw [show max k 1=k by omega] at hlt|-;by_cases hw:bg (c.take k)=k
  ·rw [qC h hk hw]
  ·have hge:=yG (h.p hk);rw [az] at hge;rw [yr h hk (by omega) hlt]
 ·rw [show max k 1=1 by omega];rw [vz hc (h.z (by omega))]
def E9 (p:List Int) (l:List cw):Prop:=∃(l0:List cw) (g:cw) (a k n:Nat),l=l0++ [g]/\a<p.length/\g.At=(a:Int)/\gV (p.drop a)=some ((k:Int),(n:Int))/\GK (p.drop a) k/\(k=0->n=0)/\(0<k->bg ((p.drop a).take k)=(n:Int)/\k<=n)/\
 g.Len=((max k 1:Nat):Int)/\p.length=a+max k 1/\(g.Bad=false↔0<k/\k=n)/\(aZ [] p).2=(aZ [] (p.drop a)).2
theorem uB {α:Type}{xs:List α}{i:Nat}(h:i<=xs.length):slc xs (i:Int) (xs.length:Int)=some (xs.drop i):=by
 rw [mI h (aq _),aB (by simp)]
theorem wK {p:List Int}(hp:Bts p) (hl:p.length<=1000000):∃l,kr p=some l/\l.map (·.R)=rd p/\l.length<=p.length/\(p= []/\l= []\/E9 p l):=by
 unfold kr;refine vD (fun s=>∃a:Nat,s.2=(a:Int)/\a<=p.length/\s.1.length<=a/\s.1.map (·.R)++rd (p.drop a)=rd p/\(a<p.length->(aZ [] p).2=(aZ [] (p.drop a)).2)/\(a=p.length->p= []/\s.1= []\/E9 p s.1)) (fun s=>p.length-s.2.toNat) (fun t=>t.map (·.R)=rd p/\t.length<=p.length/\(p= []/\t= []\/E9 p t)) (fun s hs=>?_) ⟨0,rfl,bT _,aq _,rfl,fun _=>rfl,fun h=> .inl ⟨cS h.symm,rfl⟩⟩ (by simp) (fun t ht=>⟨t,rfl,ht⟩);obtain ⟨out,n⟩:=s;obtain ⟨a,e,ha,ho,hI,hH,hL⟩:=hs;simp only at e ho hI hL;subst e;simp only;by_cases hlt:a<p.length
 ·have hcl:(p.drop a).length=p.length-a:=by simp
  have hne:p.drop a≠ []:=fun e=>by rw [e] at hcl; simp at hcl; omega
  obtain ⟨g,k,n,g1,g2,g3,g4,g5,g6,g7,g8,g9⟩:=Cu hne (fun x hx=>hp x (fb hx)) (by omega) (a:Int);have hkl:=g3.le;have htp:=xY g3 hne;rw [af (dlt hlt),uB ha];simp only [bsm];rw [g1];simp only [bsm];rw [cO (by simp only [aD,aI]; omega)];simp only [bsm];have e5:w64 ((a:Int)+g.Len)=((a+max k 1:Nat):Int):=by rw [g8,aJ (by omega)]; simp
  rw [e5];refine .inl ⟨_,rfl,⟨a+max k 1,rfl,by omega,by simp only [ao,aD,aI]; omega,?_,fun h=>?_,fun h=> .inr ⟨out,g,a,k,n,rfl,hlt,g7,g2,g3,g4,g5,g8,by omega,g9,hH hlt⟩⟩,by simp only; omega⟩
  ·simp only [bC,pU,A5,aL,bP,aW];rw [<-hI,htp,dd,g6]
  ·rw [hH hlt,Da g3 (by omega),dd]
 ·rw [ae (by simp; omega)];refine .inr ⟨_,rfl,?_,by omega,hL (by omega)⟩;rw [dy (by omega),zM,cM] at hI;exact hI
theorem Ct {p:List Int}(hp:Bts p) (hl:p.length<=1000000):∃t,mt p=some t/\(t>0↔(aZ [] p).2≠ []):=by
 obtain ⟨l,h1,h2,h3,h4⟩:=wK hp hl;unfold mt;rw [h1];simp only [bsm];rcases h4 with ⟨rfl,rfl⟩|⟨l0,g,a,k,n,rfl,ha,g7,g2,g3,g4,g5,g8,g10,g9,g11⟩
 ·exact ⟨0,rfl,by simp [aZ]⟩
 ·have hlen:(l0++ [g]).length=l0.length+1:=by simp
  have hi:idx (l0++ [g]) (w64 (((l0++ [g]).length:Int)-1))=some g:=by
   rw [hlen,aJ (by rw [hlen] at h3; omega),show ((l0.length+1:Nat):Int)-1=(l0.length:Int) by omega,tl,aM (aq _),dG];rfl
  rw [ae (by rw [aQ]; omega),hi];simp only [bsm];rw [g7,uB (by omega)];simp only [bsm];rw [g2];simp only [bsm,bu];rw [g11];have hcl:(p.drop a).length=max k 1:=by simp; omega
  have hne:p.drop a≠ []:=fun e=>by rw [e] at hcl; simp at hcl; omega
  by_cases hk:0<k
  ·obtain ⟨p1,p2⟩:=g5 hk;have hc:(p.drop a).length=k:=by omega
   by_cases hw:k=n
   ·rw [af (by rw [aC,aC,am]; exact .inr (by omega))];refine ⟨0,rfl,?_⟩;rw [qC g3 hk (by rw [p1,hw]),dy (l:=p.drop a) (i:=k) (by omega)];simp [aZ]
   ·have hb:g.Bad=true:=by
     cases hb:g.Bad with
     | true=>rfl
     | false=>exact absurd (g9.1 hb).2 hw
    rw [ae (by rw [hb,aC,aC,am,aQ,dA]; rintro ((h|h)|h); cases h; omega; omega)];have htk:(p.drop a).take k=p.drop a:=aB (by omega);have:=wZ (c:=p.drop a) (by rw [hc]; exact g3) (by omega) (by rw [hc,<-htk,p1]; omega);rw [this];exact ⟨_,rfl,by rw [g8]; simp only [vT,hne,oW,iff_true]; omega⟩
  ·obtain rfl:k=0:=by omega
   rw [af (by rw [aC,aC]; exact .inl (.inr rfl))];refine ⟨0,rfl,?_⟩;rw [vz hne (g3.z rfl),dy (l:=p.drop a) (i:=1) (by omega)];simp [aZ]
end Go.Proofs.YtclmdpamofdoiaaGreatDoor
namespace Go.Proofs.YtclmdpamofdoiaaGreatDoor
open Go Go.Lt
variable {s C:Sto}{f k g W H:Nat}{q P:aa}{ks:List Nat}{op:Option Nat}
theorem G8 {p:List Int}(hp:Bts p) (hb:bg p=(p.length:Int)) (hne:p≠ []):vld (vl p)=true:=by
 have h4:=yF p;unfold vld;simp only [aA,am]
 match p,hne with
 | [a],_=>
  obtain ⟨a1,a2⟩:=hp a (by simp);have hl:=qc a;simp only [bg,aD,aI] at hb;simp only [vl,List.foldl,b0]
  repeat' split
  all_goals simp only [aC,am]
  all_goals omega
 | [a,b],_=>
  obtain ⟨a1,a2⟩:=hp a (by simp);have hl:=qc a;simp only [bg,aD,aI] at hb;split at hb
  ·rename_i g
   have hs:128<=b/\b<=191:=by
    have:=g.2;unfold slo shi at this
    repeat' split at this
    all_goals omega
   simp only [vl,List.foldl,b0]
   repeat' split
   all_goals simp only [aC,am]
   all_goals omega
  ·omega
 | [a,b,c],_=>
  obtain ⟨a1,a2⟩:=hp a (by simp);have hl:=qc a;simp only [bg,aD,aI] at hb;split at hb
  ·rename_i g
   have hs:128<=b/\b<=191/\(a=237->b<=159):=by
    have:=g.2;unfold slo shi at this
    repeat' split at this
    all_goals omega
   simp only [vl,List.foldl,b0]
   repeat' split
   all_goals simp only [aC,am]
   all_goals omega
  ·omega
 | [a,b,c,d],_=>
  obtain ⟨a1,a2⟩:=hp a (by simp);have hl:=qc a;simp only [bg,aD,aI] at hb;split at hb
  ·rename_i g
   have hs:128<=b/\b<=191/\(a=240->144<=b)/\(a=244->b<=143):=by
    have:=g.2;unfold slo shi at this
    repeat' split at this
    all_goals omega
   simp only [vl,List.foldl,b0]
   repeat' split
   all_goals simp only [aC,am]
   all_goals omega
  ·omega
 | _::_::_::_::_::_,_=>simp only [bg,aD] at hb; omega
theorem B1 {b:Int}(h:Byt b):∀x∈(rs0 b).1,vld x=true:=fun x hx=>by
 obtain ⟨h1,h2⟩:=h;have hl:=qc b;unfold rs0 at hx;split at hx
 ·simp at hx
 ·split at hx
  ·rw [List.mem_singleton.1 hx];unfold vld;simp only [aA,aC,am];omega
  ·rw [List.mem_singleton.1 hx]; rfl
theorem yi {h:List Int}(hb:Bts h){b:Int}(h1:Byt b):∀x∈(jS h b).1,vld x=true:=fun x hx=>by
 unfold jS at hx;split at hx
 ·exact B1 h1 x hx
 ·split at hx
  ·simp at hx
  ·split at hx
   ·rename_i g1 g2
    rw [List.mem_singleton.1 hx];refine G8 (hb.snoc h1) ?_ (by simp);have:=yG g2;simp only [ao,aD,aI] at this|-;omega
   ·rcases List.mem_cons.1 hx with hx|hx
    ·rw [hx]; rfl
    ·exact B1 h1 x hx
theorem CO {h p:List Int}(hb:Bts h) (hp:Bts p):∀x∈(aZ h p).1,vld x=true:=by
 induction p generalizing h with
 | nil=>intro x hx; simp [aZ] at hx
 | cons b p ih=>
  intro x hx;simp only [aZ] at hx;rcases List.mem_append.1 hx with hx|hx
  ·exact yi hb (hp b (by simp)) x hx
  ·exact ih (yj hb (hp b (by simp))) (fun y hy=>hp y (jf _ hy)) x hx
theorem ex4 {α β γ δ:Type}{X:Option α}{Q:α->β->γ->δ->Prop}(h:∃a,X=some a/\∃b c d,Q a b c d):∃a b c d,X=some a/\Q a b c d:=by
 obtain ⟨a,h1,b,c,d,h2⟩:=h;exact ⟨a,b,c,d,h1,h2⟩
theorem Cm {G h:List Int}(F:Fd C s f k g W H P G h q ks op){l:List Int}(hl:l.length<=1000000) (hv:∀x∈l,vld x=true):∃s' q' ks' op',io s (some f) l=some s'/\Fd C s' f k g W H P (G++l) h q' ks' op':=by
 unfold io;refine ex4 (mO (n:=l.length) (fun i (st:Int×Sto)=>st.1=(i:Int)/\∃q' ks' op',Fd C st.2 f k g W H P (G++l.take i) h q' ks' op') (fun u:Sto=>∃q' ks' op',Fd C u f k g W H P (G++l) h q' ks' op') (p:=fun s':Sto=>∃q' ks' op',Fd C s' f k g W H P (G++l) h q' ks' op') (fun i st hi hI=>?_) (fun st hI=>?_) ⟨rfl,q,ks,op,by simpa using F⟩ (by omega) (fun u hu=>⟨u,rfl,hu⟩))
 ·obtain ⟨i',st⟩:=st;obtain ⟨e,q1,ks1,op1,F1⟩:=hI;simp only at e F1;subst e;simp only;rw [af (dlt hi),bj hi,dm hi (by omega)];simp only [bsm];obtain ⟨s2,q2,ks2,op2,b1,b2⟩:=EH F1 (hv _ (aF hi));rw [b1];refine .inl ⟨_,rfl,rfl,q2,ks2,op2,?_⟩;rw [an hi,<-aL];exact b2
 ·obtain ⟨i',st⟩:=st;obtain ⟨e,q1,ks1,op1,F1⟩:=hI;simp only at e F1;subst e;refine ⟨st,by simp only; rw [ae (by simp)],q1,ks1,op1,?_⟩;rw [aB (aq _)] at F1;exact F1
theorem Fd.dec {G h h':List Int}(F:Fd C s f k g W H P G h q ks op){d d':bG}(hd:s.feed_Feeder[f]? = some ⟨some k,d,sgB (qz G),op⟩) (hv:Dv d' h'):Fd C (s.sf f ⟨some k,d',sgB (qz G),op⟩) f k g W H P G h' q ks op:=by
 have hf:=cY hd;refine ⟨F.v.sf _,F.fr.rgp (Rgp.self _) ⟨rfl,rfl,rfl⟩,F.fz.sf _ _ F.fz.oc,F.n,F.hd,F.l,F.gv,⟨d',vj hf,hv⟩,F.o1,fun e=>?_⟩;obtain ⟨j,e1,⟨q0,c,C0,s0,ks0,cs0,cl,a1,a2,a3,a4,a5,a6,a7,a8⟩⟩:=F.o2 e;exact ⟨j,e1,⟨q0,c,C0,s0,ks0,cs0,cl,a1,a2,a3,a4,a5,a6,a7.sf _,a8⟩⟩
theorem De {G h:List Int}(F:Fd C s f k g W H P G h q ks op) (hb:Bts h){b:List Int}(hl:b.length<=9223372036854775807) (hbt:Bts b):∃s' q' ks' op',iE s (some f) b=some s'/\Fd C s' f k g W H P (G++(aZ h b).1) (aZ h b).2 q' ks' op':=by
 unfold iE;simp only [bS,ak,aY,bsm];refine ex4 (mO (n:=b.length) (fun i (st:Int×Sto)=>st.1=(i:Int)/\∃q' ks' op',Fd C st.2 f k g W H P (G++(aZ h (b.take i)).1) (aZ h (b.take i)).2 q' ks' op') (fun u:Sto=>∃q' ks' op',Fd C u f k g W H P (G++(aZ h b).1) (aZ h b).2 q' ks' op') (p:=fun s':Sto=>∃q' ks' op',Fd C s' f k g W H P (G++(aZ h b).1) (aZ h b).2 q' ks' op') (fun i st hi hI=>?_) (fun st hI=>?_) ⟨rfl,q,ks,op,by simpa [aZ] using F⟩ (by omega) (fun u hu=>⟨u,rfl,hu⟩))
 ·obtain ⟨i',st⟩:=st;obtain ⟨e,q1,ks1,op1,F1⟩:=hI;simp only at e F1;subst e;simp only;rw [af (dlt hi),bj hi,dm hi (by omega)];obtain ⟨d,hd,hdv⟩:=F1.d;simp only [bsm,hd];have hx:=hbt _ (aF hi);obtain ⟨d',c1,c2⟩:=EE hdv hx;rw [c1];simp only [bsm];rw [rW (cY hd)];simp only [bsm];have hbt':Bts (b.take i):=fun x hx=>hbt x (cq hx);obtain ⟨s2,q2,ks2,op2,b1,b2⟩:=Cm (F1.dec hd c2) (l:=(jS (aZ h (b.take i)).2 b[i]).1) (by have:=vq (aZ h (b.take i)).2 b[i]; omega) (yi (tg hb hbt') hx);rw [b1];refine .inl ⟨_,rfl,rfl,q2,ks2,op2,?_⟩;rw [an hi,qB];simp only;rw [<-aL];exact b2
 ·obtain ⟨i',st⟩:=st;obtain ⟨e,q1,ks1,op1,F1⟩:=hI;simp only at e F1;subst e;refine ⟨st,by simp only; rw [ae (by simp)],q1,ks1,op1,?_⟩;rw [aB (aq _)] at F1;exact F1
theorem vF {G h:List Int}(F:Fd C s f k g W H P G h q ks op):∃s',dv s (some f)=some s'/\Fd C s' f k g W H q [] h q ks none:=by
 obtain ⟨d,hd,hdv⟩:=F.d;have hf:=cY hd;unfold dv;simp only [bS,fe,bA,bsm,hd];rw [rW hf];simp only [bsm,ye];rw [rW (by rw [yO]; exact hf),GO];refine ⟨_,rfl,⟨F.v.sf _,F.fr.rgp (Rgp.self _) ⟨rfl,rfl,rfl⟩,F.fz.sf _ none (fun j e=>by cases e),F.n,F.hd,rfl,fun x hx=>by simp at hx,⟨d,vj hf,hdv⟩,fun _=>rfl,fun e=>by cases e⟩⟩
theorem Dd {G h:List Int}(F:Fd C s f k g W H P G h q ks op):∃s' q' ks',iD s (some f)=some s'/\Fd C s' f k g W H q' [] [] q' ks' none/\fo oL P (cls pj pr (G++(if h= [] then [] else [65533])))=some q':=by
 obtain ⟨d,hd,hdv⟩:=F.d;have hf:=cY hd;unfold iD;simp only [bS,ak,aY,bsm,hd];rw [Dh hdv];simp only [bsm];rw [rW hf];simp only [bsm];obtain ⟨s2,q2,ks2,op2,b1,b2⟩:=Cm (F.dec hd Dv.zero) (l:=if h= [] then [] else [65533]) (by split <;> simp) (fun x hx=>by
  split at hx
  ·simp at hx
  ·rw [List.mem_singleton.1 hx]; rfl)
 rw [b1];simp only [bsm];obtain ⟨s3,c1,c2⟩:=vF b2;rw [c1];exact ⟨s3,q2,ks2,rfl,c2,b2.l⟩
theorem I2 {G:List Int}(h:∀x∈G,vld x=true):R32 G:=fun x hx=>A6 (h x hx)
theorem Ad {F:ay}(hb:Bts F.Raw) (hl:F.Raw.length<=1000000):dD F=some ((aZ [] F.Raw).2.length:Int):=by
 unfold dD;rw [Cl Hh.nil Bts.nil hb hl];rfl
theorem B2 {F:ay}(hg:∀x∈F.Group,vld x=true) (hl:F.Group.length<=1000000) (h:fo oL F.P (cls pj pr F.Group)=some q):dM F=some q:=by
 unfold dM;rw [HH (I2 hg) hl h];rfl
theorem th {F:ay}(hg:∀x∈F.Group,vld x=true) (hl:F.Group.length<=1000000) (h:fo oL F.P (cls pj pr F.Group)=some q):db F=some ⟨q,[],F.Raw,F.Parts⟩:=by
 unfold db;rw [B2 hg hl h];rfl
theorem DR {F:ay}(hl:F.Group.length<=1000000) (r:Int):eF F r=some ⟨F.P,F.Group++ [gK r],F.Raw,F.Parts⟩:=by
 have hfix:((dg r).bind fun x_6=>if (!x_6)=true then (some 65533:Option Int) else (some r:Option Int))=some (gK r):=by
  rw [vt];unfold gK
  cases vld r <;> rfl
 unfold eF;rw [hfix];simp only [bsm];rw [cO (by simp; omega),aW];simp only [bsm];rw [cO (by simp; omega)];rfl
theorem CW {F:ay}(hp:F.Parts=((aZ [] F.Raw).1.length:Int)) (hb:Bts F.Raw){b:List Int}(hbt:Bts b) (hl:F.Raw.length+b.length<=1000000) (hg:F.Group.length<=1000000):
  ek F b=some ⟨F.P,F.Group++(aZ (aZ [] F.Raw).2 b).1,F.Raw++b,((aZ [] (F.Raw++b)).1.length:Int)⟩:=by
 have hbb:Bts (F.Raw++b):=fun x hx=>by
  rcases List.mem_append.1 hx with hx|hx
  ·exact hb x hx
  ·exact hbt x hx
 have hll:(F.Raw++b).length<=1000000:=by simp; omega
 obtain ⟨l,h1,h2,h3⟩:=Ii hbb hll;have hap:=nQ [] F.Raw b;unfold ek;rw [cO (by simp; omega),aW];simp only [bsm];rw [cO (by omega)];simp only [bsm];rw [h1];simp only [bsm];rw [Ad hbb hll];simp only [bsm];have hz:∃z:List bZ,(if decide (((aZ [] (F.Raw++b)).2.length:Int)>0)=true then (slc l 0 (w64 ((l.length:Int)-1))).bind fun x_27=>(some x_27:Option ((List bZ))) else (some l:Option ((List bZ))))=some z/\z.map (·.R)=(aZ [] (F.Raw++b)).1/\z.length<=l.length:=by
  unfold rd at h2;have hlen:=eZ List.length h2;simp only [cC,ao] at hlen;by_cases hh:(aZ [] (F.Raw++b)).2= []
  ·rw [ae (by rw [hh]; simp)];rw [af hh,cM] at h2;exact ⟨l,rfl,h2,aq _⟩
  ·rw [ae hh] at h2 hlen;have hpos:0<(aZ [] (F.Raw++b)).2.length:=by
    cases hc:(aZ [] (F.Raw++b)).2 with
    | nil=>exact absurd hc hh
    | cons _ _=>simp
   rw [af (by simpa using hpos)];simp only [aD,aI] at hlen;have hs:=mI (xs:=l) (i:=0) (j:=l.length-1) (bT _) (by omega);rw [show ((0:Nat):Int)=0 from rfl,fU,mf] at hs;rw [aJ (by omega),show (l.length:Int)-1=((l.length-1:Nat):Int) by omega,hs];refine ⟨_,rfl,?_,by rw [az]; omega⟩;rw [GI,h2,cR (by omega),aB (by omega)]
 obtain ⟨z,hz1,hz2,hz3⟩:=hz;rw [hz1];simp only [bsm];have hzl:=eZ List.length hz2;rw [cC] at hzl;have hem:(aZ [] (F.Raw++b)).1=(aZ [] F.Raw).1++(aZ (aZ [] F.Raw).2 b).1:=by rw [hap]
 have heml:=eZ List.length hem;rw [ao] at heml;rw [hp];refine iO (n:=z.length-(aZ [] F.Raw).1.length) (fun i st=>st=((((aZ [] F.Raw).1.length+i:Nat):Int),F.Group++(aZ (aZ [] F.Raw).2 b).1.take i)) (fun u=>u=F.Group++(aZ (aZ [] F.Raw).2 b).1) (fun i st hi e=>?_) (fun st e=>?_) (by simp) (by omega) (fun u hu=>?_)
 ·subst e;simp only;have hlt:(aZ [] F.Raw).1.length+i<z.length:=by omega
  rw [af (by simp; omega),bj hlt];simp only [bsm];have hgr:(F.Group++(aZ (aZ [] F.Raw).2 b).1.take i).length<=3000000:=by simp; omega
  rw [cO (by simp only [aI]; omega),aW];simp only [bsm];rw [cO (by simp only [aD,aI]; omega),aJ (by omega)];refine .inl ⟨_,rfl,?_⟩;have hR:z[(aZ [] F.Raw).1.length+i].R=(aZ (aZ [] F.Raw).2 b).1[i]'(by omega):=by
   have e1:(z.map (·.R))[(aZ [] F.Raw).1.length+i]? = ((aZ [] F.Raw).1++(aZ (aZ [] F.Raw).2 b).1)[(aZ [] F.Raw).1.length+i]? :=by rw [hz2,hem]
   rw [bO,ag hlt,aM (by omega),Nat.add_sub_cancel_left,ag (show i<(aZ (aZ [] F.Raw).2 b).1.length by omega)] at e1;exact bi e1
  rw [hR,an (show i<(aZ (aZ [] F.Raw).2 b).1.length by omega),aL]
  congr 1
 ·subst e;refine ⟨_,by simp only; rw [ae (by simp; omega)],?_⟩;rw [aB (by omega)]
 ·subst hu;rw [hzl]
end Go.Proofs.YtclmdpamofdoiaaGreatDoor
namespace Go.Proofs.YtclmdpamofdoiaaGreatDoor
open Go Go.Lt
variable {s C:Sto}{f k g W H:Nat}{q P:aa}{ks:List Nat}{op:Option Nat}
theorem Fz.self (s:Sto) (f:Nat) (op:Option Nat) (h:∀x,s.feed_Feeder[f]? = some x->x.open_=op) (hf:f<s.feed_Feeder.length):Fz s s f op:=
 ⟨aq _,fun _ _ _=>rfl,aq _,fun _ _ _=>rfl,fun j e=> .inl ⟨s.feed_Feeder[f],ag hf,by rw [h _ (ag hf)]; exact e⟩,rfl⟩
theorem Pv.addf (h:Pv s s k g W q ks) (x:bH):Pv (s.add_feed_Feeder x) (s.add_feed_Feeder x) k g W q ks:=
 ⟨h.p,⟨h.g.g,h.g.r,h.g.h1,h.g.h2,h.g.w1,h.g.w2⟩,h.nd,h.l,rfl,h.f.rgp ⟨rfl,rfl,rfl⟩ ⟨rfl,rfl,rfl⟩⟩
theorem EC (h:Pv s s k g W q ks) (hh:Hd q.At W ks.length):∃s',pg s (some k)=some (s',some s.feed_Feeder.length)/\Fd s' s' s.feed_Feeder.length k g W ks.length q [] [] q ks none/\s'=s.add_feed_Feeder ⟨some k,⟨0,0,0,0,0⟩,⟨false,0,0,0,false⟩,none⟩:=by
 unfold pg;simp only [bS,ig,bsm,h.p,ak,aY];have hg:(s.add_feed_Feeder ⟨some k,⟨0,0,0,0,0⟩,⟨false,0,0,0,false⟩,none⟩).feed_Feeder[s.feed_Feeder.length]? = some ⟨some k,⟨0,0,0,0,0⟩,⟨false,0,0,0,false⟩,none⟩:=by simp [Sto.add_feed_Feeder]
 refine ⟨_,rfl,⟨h.addf _,(h.addf _).f,Fz.self _ _ _ (fun x hx=>?_) (cY hg),rfl,hh,rfl,fun x hx=>by simp at hx,⟨_,hg,Dv.zero⟩,fun _=>rfl,fun e=>by cases e⟩,rfl⟩;rw [hg] at hx;cases hx;rfl
theorem CT {W H:Nat}(w2:W<=1024) (h2:H<=1024):iw W H=some ⟨bls W H,⟨0,0,false⟩,true⟩:=by
 unfold iw;rw [CU w2 h2];rfl
variable {F:ay}
end Go.Proofs.YtclmdpamofdoiaaGreatDoor
namespace Go.Proofs.YtclmdpamofdoiaaGreatDoor
open Go Go.Lt
variable {s:Sto}{k:Nat}{l p:List ab}{w:Bool}
theorem Je {c m:Nat}(h:c<=m):cl (c:Int) m=c:=by unfold cl; omega
theorem Cf (n:Int) (m:Nat):gP n 0 m=some ((cl n m:Nat):Int):=by
 simp only [gP,fK,dL,cl,aV];omega
def rg (l:List ab) (w:Bool) (a b:Nat):br:=if a<b then ⟨pl l a (List.replicate (b-a) bl),pw l w a (b-a)⟩ else ⟨l,w⟩
theorem DU {a b:Nat}(h:Snd l) (hb:b<=l.length):Snd (rg l w a b).cells:=by
 unfold rg;split
 ·exact h.paint (vi _) (by simp; omega)
 ·exact h
theorem Ho (a b:Nat):(rg l w a b).cells.length=l.length:=by
 unfold rg;split
 ·exact kp _ _ _
 ·rfl
theorem uH (h:s.row_Row[k]? = some ⟨l,w⟩) (hs:Snd l) (hl:l.length<=1024) (a b:Int):
  iJ s (some k) a b=some (s.sr k (rg l w (cl a l.length) (cl b l.length))):=by
 unfold iJ;simp only [jX h,bsm,Cf];have ha:=oN a l.length;have hb:=oN b l.length;generalize cl a l.length=a' at *;generalize cl b l.length=b' at *;unfold rg;by_cases hab:a' < b'
 ·have e:w64 ((b':Int)-(a':Int))=((b' - a':Nat):Int):=by rw [aJ (by omega)]; omega
  rw [af (by simp; omega),af hab,e,vM,show (max 0 (min (((b' - a':Nat)):Int) 1024)).toNat=b' - a' by omega];simp only [bsm];rw [pZ h hs hl (vi _) (by simp; omega) (by simp; omega)];simp
 ·rw [ae (by simp; omega),ae hab,zP h]
theorem qa (l:List ab) (w:Bool) (hl:l.length<=1024) (a b:Int):de l w a b=some ((rg l w (cl a l.length) (cl b l.length)).cells,(rg l w (cl a l.length) (cl b l.length)).wrap):=by
 unfold de;have ha:=oN a l.length;have hb:=oN b l.length;have ea:aK 0 (aE a (l.length:Int))=((cl a l.length:Nat):Int):=by simp only [fK,dL,cl]; omega
 have eb:aK 0 (aE b (l.length:Int))=((cl b l.length:Nat):Int):=by simp only [fK,dL,cl]; omega
 rw [ea,eb];generalize cl a l.length=a' at *;generalize cl b l.length=b' at *;unfold rg;by_cases hab:a' < b'
 ·have e:w64 ((b':Int)-(a':Int))=((b' - a':Nat):Int):=by rw [aJ (by omega)]; omega
  rw [ae (by simp; omega),af hab,e,pJ _ (by omega)];simp only [bsm];have:=vu l w a' (List.replicate (b' - a') bl) (by omega) (by omega) (by simp; omega);rw [mL] at this;rw [show (List.replicate (((b' - a':Nat):Int).toNat) (⟨0,([]:List Int)⟩:ab))=List.replicate (b' - a') bl by rfl,this];rfl
 ·rw [af (by simp; omega),ae hab]
theorem EM (h:s.row_Row[k]? = some ⟨l,w⟩) (hs:Snd l) (hl:l.length<=1024) (col n:Int):
  kW s (some k) col n=some (if 0<=col/\0<n then s.sr k (rg l w (cl col l.length) (cl (((cl col l.length:Nat):Int)+((cl n l.length:Nat):Int)) l.length)) else s):=by
 unfold kW;simp only [bb,bsm];by_cases hc:0<=col/\0<n
 ·rw [af (by simp; omega),af hc];simp only [jX h,bsm,Cf];have h1:=oN col l.length;have h2:=oN n l.length;rw [aJ (by omega),uH h hs hl];simp only [bsm,Je h1]
 ·rw [ae (by simp; omega),ae hc]
def ac (l:List ab) (w:Bool) (x A B:Int):br:=
 if x=0 then rg l w (cl A l.length) (cl B l.length)
 else if x=1 then rg l w 0 (cl (max (-1) (min A l.length)+1) l.length)
 else if x=2 then rg l w (cl A l.length) l.length
 else if x=3 then ⟨(rg l w 0 l.length).cells,false⟩
 else if 0<=A/\0<B then rg l w (cl A l.length) (cl (((cl A l.length:Nat):Int)+((cl B l.length:Nat):Int)) l.length) else ⟨l,w⟩
theorem GR {a b:Nat}(h:b<=a):rg l w a b=⟨l,w⟩:=by
 unfold rg;rw [ae (by omega)]
theorem EJ (m:Nat):cl 0 m=0:=by unfold cl; omega
theorem wE (m:Nat):cl (m:Int) m=m:=by unfold cl; omega
theorem BE (h:s.row_Row[k]? = some ⟨l,w⟩) (hs:Snd l) (hl:l.length<=1024) (a b:Int):mZ s (some k) a=some (s.sr k (ac l w 1 a b)):=by
 unfold mZ gP;simp only [jX h,bsm,fK,dL];rw [aJ (by omega),uH h hs hl,EJ];rfl
theorem AG (h:s.row_Row[k]? = some ⟨l,w⟩) (hs:Snd l) (hl:l.length<=1024) (a b:Int):mu s (some k) a=some (s.sr k (ac l w 2 a b)):=by
 unfold mu;simp only [jX h,bsm];rw [uH h hs hl,wE];rfl
theorem yz (h:s.row_Row[k]? = some ⟨l,w⟩) (hs:Snd l) (hl:l.length<=1024) (a b:Int):lA s (some k)=some (s.sr k (ac l w 3 a b)):=by
 have hk:=cY h;unfold lA;simp only [jX h,bsm];rw [uH h hs hl,wE,EJ];simp only [bsm];rw [wR (l:=(rg l w 0 l.length).cells) (w:=(rg l w 0 l.length).wrap) (tZ hk),BV];rfl
theorem AH (h:s.row_Row[k]? = some ⟨l,w⟩) (hs:Snd l) (hl:l.length<=1024) (a b:Int):kW s (some k) a b=some (s.sr k (ac l w 4 a b)):=by
 rw [EM h hs hl,show ac l w 4 a b=if 0<=a/\0<b then rg l w (cl a l.length) (cl (((cl a l.length:Nat):Int)+((cl b l.length:Nat):Int)) l.length) else ⟨l,w⟩ by rfl];split
 ·rfl
 ·rw [zP h]
theorem FE (l:List ab) (w:Bool) (hl:l.length<=1024) (x A B:Int):iz l w x A B=some ((ac l w x A B).cells,(ac l w x A B).wrap):=by
 unfold iz ac;by_cases h0:x=0
 ·rw [af (by simpa using h0),af h0,qa l w hl];rfl
 rw [ae (by simpa using h0),ae h0];by_cases h1:x=1
 ·rw [af (by simpa using h1),af h1];by_cases hA:A<0
  ·rw [af (by simpa using hA),show max (-1) (min A (l.length:Int))+1=0 by omega,EJ,GR (aq _)]
  ·rw [ae (by simpa using hA),dL,aJ (by omega),qa l w hl,EJ,show max (-1) (min A (l.length:Int))=min A (l.length:Int) by omega];rfl
 rw [ae (by simpa using h1),ae h1];by_cases h2:x=2
 ·rw [af (by simpa using h2),af h2,qa l w hl,wE];rfl
 rw [ae (by simpa using h2),ae h2];by_cases h3:x=3
 ·rw [af (by simpa using h3),af h3,qa l w hl,wE,EJ];rfl
 rw [ae (by simpa using h3),ae h3];simp only [bu,bsm];by_cases hA:0<=A/\0<B
 ·rw [af hA];by_cases hg:(l.length:Int)<=A
  ·rw [af (by simp; omega),show cl A l.length=l.length by unfold cl; omega,GR (oN _ _)]
  ·rw [ae (by simp; omega),dL,aJ (by omega),qa l w hl];rw [show cl (A+min B (l.length:Int)) l.length=cl (((cl A l.length:Nat):Int)+((cl B l.length:Nat):Int)) l.length by unfold cl; omega];rfl
 ·rw [ae hA,af (by simp; omega)]
theorem Ik (hs:Snd l) (x A B:Int):Snd (ac l w x A B).cells:=by
 unfold ac
 repeat' split
 all_goals first|exact hs|exact DU hs (oN _ _)|exact DU hs (aq _)
theorem Il (x A B:Int):(ac l w x A B).cells.length=l.length:=by
 unfold ac
 repeat' split
 all_goals first|rfl|exact Ho _ _
theorem jN {α:Type}{l:List α}{n:Nat}{f:Nat->α}(hl:l.length=n) (h:∀i,i<n->l[i]? = some (f i)):l=(List.range n).map f:=by
 apply bY;intro i;rcases aU i n with hi|hi
 ·rw [h i hi]; simp [hi]
 ·rw [aT (by omega),aT (by simp; exact hi)]
def trc (l:List ab) (c j:Nat):ab:=if kd l c=3/\(j=c\/j+1=c) then bl else l.getD j bl
def tr (l:List ab) (c:Nat):List ab:=(List.range l.length).map (trc l c)
theorem rS (l:List ab) (c:Nat):(tr l c).length=l.length:=by simp [tr]
theorem DC {c j:Nat}(h:j<l.length):(tr l c)[j]? = some (trc l c j):=by simp [tr,h]
theorem DB (l:List ab) (c j:Nat):(trc l c j).Kind=if kd l c=3/\(j=c\/j+1=c) then 0 else kd l j:=by
 unfold trc;split
 ·rfl
 ·exact oT l j
theorem Cc (c j:Nat):kd (tr l c) j=if kd l c=3/\(j=c\/j+1=c) then 0 else kd l j:=by
 rcases aU j l.length with h|h
 ·rw [<-DB]; simp [kd,DC h]
 ·rw [nS (by rw [rS]; exact h),nS (l:=l) h]; simp
theorem GN {c:Nat}(h:kd l c≠3):tr l c=l:=by
 symm
 refine jN rfl fun i hi=>?_;unfold trc;rw [ae (by intro e; exact h e.1),aw,ag hi];rfl
theorem yJ (hs:Snd l) (c:Nat):Snd (tr l c):=fun j hj=>by
 have hj':j<l.length:=by rw [rS] at hj; exact hj
 have he:(tr l c)[j]=trc l c j:=by
  have:=DC (c:=c) hj';rw [ag hj] at this;exact bi this
 have h2:=fun (h:kd l j=2)=>hs.two h;have h3:=fun (h:kd l j=3)=>hs.three h;have hc:=fun (h:kd l c=3)=>hs.three h;rw [he,DB,Cc,Cc];refine ⟨?_,?_,?_⟩
 ·unfold trc;split
  ·rfl
  ·exact hs.rg hj'
 ·intro e;split at e
  ·cases e
  ·rename_i hn
   have:=h2 e;rw [ae]
   ·exact this
   ·rintro ⟨q1,q2⟩;have:=hc q1;rcases q2 with rfl|q2
    ·exact hn ⟨q1,.inr rfl⟩
    ·obtain rfl:c=j+2:=by omega
     rw [show j+2-1=j+1 by omega] at this;omega
 ·intro e;split at e
  ·cases e
  ·rename_i hn
   have:=h3 e;refine ⟨this.1,?_⟩;rw [ae]
   ·exact this.2
   ·rintro ⟨q1,q2⟩;have:=hc q1;rcases q2 with q2|q2
    ·rw [<-q2] at q1;omega
    ·exact hn ⟨q1,.inl (by omega)⟩
theorem xe (l:List ab) (c:Nat):kd (tr l c) c≠3:=by
 rw [Cc];split
 ·decide
 ·rename_i h
  intro e;exact h ⟨e,.inl rfl⟩
theorem yL (hs:Snd l) (hl:l.length<=1024) (c:Nat):ku l c=some (tr l c):=by
 unfold ku;rcases aU c l.length with h|h
 ·have hd:decide ((c:Int)<(l.length:Int))=true:=by simp; exact h
  simp only [hd,ip,bj h,bsm];by_cases h3:kd l c=3
  ·have hb:(l[c].Kind==3)=true:=by rw [<-lW h,h3]; rfl
   obtain ⟨h0,_⟩:=hs.three h3;have e1:w64 ((c:Int)-1)=((c-1:Nat):Int):=by rw [aJ (by omega)]; omega
   rw [hb,af rfl,e1,bj (by omega:c-1<l.length)];simp only [bsm];rw [lj (by omega)];simp only [bsm];rw [bj (by rw [cz]; exact h)];simp only [bsm];rw [lj (by rw [cz]; exact h)];simp only [bsm]
   congr 1
   refine jN (by simp) fun i hi=>?_;unfold trc;by_cases q1:c=i
   ·subst q1;rw [bB (by rw [cz]; exact h),af ⟨h3,.inl rfl⟩];rfl
   ·rw [bh q1];by_cases q2:c-1=i
    ·subst q2;rw [bB (by omega),af ⟨h3,.inr (by omega)⟩];rfl
    ·rw [bh q2,ae (by rintro ⟨_,q⟩; omega),aw,ag hi];rfl
  ·have hb:(l[c].Kind==3)=false:=by rw [<-lW h]; simp [h3]
   rw [hb,ae (by decide),GN h3]
 ·have hd:decide ((c:Int)<(l.length:Int))=false:=by simp; exact h
  simp only [hd,iu,bsm];rw [ae (by decide),GN (by rw [nS h]; decide)]
theorem yK (hl:l.length<=1024) (c:Nat):eo l c=some (tr l c):=by
 unfold eo;refine zy (xf (n:=l.length) (trc l c) (t:=tr l c) (fun i hi=>?_) ?_ (by omega)) rfl
 ·simp only [dlt hi,bA,bj hi,bsm,dm hi (by omega),bu];have hz:bL (decide ((c:Int)<(l.length:Int))) ((idx l c).bind fun x_29=>some (x_29.Kind==3))=some (kd l c==3):=by
   rcases aU c l.length with h|h
   ·have hd:decide ((c:Int)<(l.length:Int))=true:=by simp; exact h
    simp only [hd,ip,bj h,bsm,<-lW h]
   ·have hd:decide ((c:Int)<(l.length:Int))=false:=by simp; exact h
    simp only [hd,iu];rw [nS h];rfl
  simp only [hz,bsm,bb];rw [show (kd l c==3 && ((i:Int)==(c:Int) || ((i+1:Nat):Int)==(c:Int)))=decide (kd l c=3/\(i=c\/i+1=c)) by
   rw [cu];simp only [aA,aC,aQ,am];omega]
  have hx:(if decide (kd l c=3/\(i=c\/i+1=c))=true then (some (0,([]:List Int)):Option (Int×(List Int))) else (some (l[i].Kind,l[i].Text):Option (Int×(List Int))))=some ((trc l c i).Kind,(trc l c i).Text):=by
   unfold trc;split
   ·rename_i h
    rw [af (tN h)];rfl
   ·rename_i h
    rw [ae (by simpa using h),aw,ag hi];rfl
  rw [hx];simp only [bsm];rw [cO (by simp; omega)];rfl
 ·simp only [dnl];rfl
def inx (l:List ab) (c n j:Nat):ab:=if j<c then (tr l c).getD j bl else if j<c+n then bl else (tr l c).getD (j-n) bl
def wi (l:List ab) (c n j:Nat):ab:=if j+1=l.length/\(inx l c n j).Kind=2 then bl else inx l c n j
def xh (l:List ab) (c n:Nat):List ab:=(List.range l.length).map (wi l c n)
theorem qd (l:List ab) (c n:Nat):(xh l c n).length=l.length:=by simp [xh]
theorem Aw {c n j:Nat}(h:j<l.length):(xh l c n)[j]? = some (wi l c n j):=by simp [xh,h]
theorem xg (l:List ab) (c n j:Nat):(inx l c n j).Kind=if j<c then kd (tr l c) j else if j<c+n then 0 else kd (tr l c) (j-n):=by
 unfold inx;split
 ·exact oT _ _
 ·split
  ·rfl
  ·exact oT _ _
theorem uJ (l:List ab) (c n j:Nat) (h:j<l.length):kd (xh l c n) j=if j+1=l.length/\(inx l c n j).Kind=2 then 0 else (inx l c n j).Kind:=by
 rw [show kd (xh l c n) j=(wi l c n j).Kind by simp [kd,Aw h]];unfold wi;split <;> rfl
theorem uE (hs:Snd l) (j:Nat):rgt (l.getD j bl)=true:=by
 rcases aU j l.length with h|h
 ·exact hs.rg h
 ·rw [aw,aT h];rfl
theorem F3 {A:Prop}[Decidable A] {X:Int}(h:(if A/\X=2 then (0:Int) else X)=2):X=2/\¬A:=by
 by_cases q:A/\X=2
 ·rw [af q] at h; omega
 ·rw [ae q] at h; exact ⟨h,fun a=>q ⟨a,h⟩⟩
theorem C8 {A:Prop}[Decidable A] {X:Int}(h:(if A/\X=2 then (0:Int) else X)=3):X=3:=by
 by_cases q:A/\X=2
 ·rw [af q] at h; omega
 ·rwa [ae q] at h
theorem Et {A:Prop}[Decidable A] {X:Int}(h:X≠2):(if A/\X=2 then (0:Int) else X)=X:=ae fun q=>h q.2
theorem Av (hs:Snd l) (c n:Nat):Snd (xh l c n):=fun j hj=>by
 have hj':j<l.length:=by rw [qd] at hj; exact hj
 have he:(xh l c n)[j]=wi l c n j:=by
  have:=Aw (c:=c) (n:=n) hj';rw [ag hj] at this;exact bi this
 have ht:=yJ hs c;have hlen:=rS l c;have hat:=xe l c;rw [<-lW hj,he];refine ⟨?_,?_,?_⟩
 ·unfold wi;split
  ·rfl
  ·unfold inx;split
   ·exact uE ht j
   ·split
    ·rfl
    ·exact uE ht (j-n)
 ·intro e;rw [uJ l c n j hj',xg] at e;obtain ⟨e,hl⟩:=F3 e
  ·rw [uJ l c n (j+1) (by omega),xg];have key:(if j+1<c then kd (tr l c) (j+1) else if j+1<c+n then 0 else kd (tr l c) (j+1-n))=3:=by
    split at e
    ·have h3:=ht.two e;rw [af]
     ·exact h3
     ·rcases aU (j+1) c with q|q
      ·exact q
      ·obtain rfl:c=j+1:=by omega
       exact absurd h3 hat
    ·split at e
     ·cases e
     ·have h3:=ht.two e;rw [ae (by omega),ae (by omega),show j+1-n=j-n+1 by omega];exact h3
   rw [key];exact Et (by decide)
 ·intro e;rw [uJ l c n j hj',xg] at e;have e':=C8 e;split at e'
  ·obtain ⟨h0,h2⟩:=ht.three e';refine ⟨h0,?_⟩;rw [uJ l c n (j-1) (by omega),xg,ae (by rintro ⟨q,_⟩; omega),af (by omega)];exact h2
  ·split at e'
   ·cases e'
   ·obtain ⟨h0,h2⟩:=ht.three e';have hne:j-n≠c:=by
     intro q;rw [q] at e';exact hat e'
    refine ⟨by omega,?_⟩;rw [uJ l c n (j-1) (by omega),xg,ae (by rintro ⟨q,_⟩; omega),ae (by omega),ae (by omega),show j-1-n=j-n-1 by omega];exact h2
theorem HM (hl:l.length<=1024){c n:Nat}(hc:c<l.length) (h1:1<=n) (hn:c+n<=l.length):jY (tr l c) n c=some (xh l c n):=by
 unfold jY;have htl:=rS l c;rw [vM,show (max 0 (min (n:Int) 1024)).toNat=n by omega];simp only [bsm];have hi:kI (tr l c) c (List.replicate n bl)=some ((tr l c).take c++List.replicate n bl++(tr l c).drop c):=by
  unfold kI;rw [af (by rw [htl,mL]; unfold far; omega),bE]
 rw [hi];simp only [bsm];have hO:slc ((tr l c).take c++List.replicate n bl++(tr l c).drop c) 0 ((tr l c).length:Int)=some ((List.range l.length).map (inx l c n)):=by
  have:=mI (xs:=(tr l c).take c++List.replicate n bl++(tr l c).drop c) (i:=0) (j:=(tr l c).length) (by omega) (by simp [htl]; omega);rw [show ((0:Nat):Int)=0 by rfl] at this;rw [this]
  congr 1
  refine jN (by simp [htl]; omega) fun i hi=>?_;rw [fU,aX,af (by omega),aL];unfold inx;have htk:((tr l c).take c).length=c:=by simp [htl]; omega
  split
  ·rename_i q
   rw [aG (by omega),aX,af q,aw,ag (by omega:i<(tr l c).length)];rfl
  ·rename_i q
   rw [aM (by omega),htk];split
   ·rw [aG (by simp; omega),oS,af (by omega)]
   ·rw [aM (by simp; omega),mL,bW,show c+(i-c-n)=i-n by omega,aw,ag (by omega:i-n<(tr l c).length)];rfl
 rw [hO];simp only [bsm];have e1:w64 (((tr l c).length:Int)-1)=((l.length-1:Nat):Int):=by rw [aJ (by omega),htl]; omega
 rw [e1,bj (by simp; omega)];simp only [bsm,eB,zC];by_cases hk:(inx l c n (l.length-1)).Kind=2
 ·rw [af (by rw [hk]; rfl),lj (by simp; omega)];simp only [bsm]
  congr 1
  refine jN (by simp) fun i hi=>?_;unfold wi;by_cases q:l.length-1=i
  ·subst q;rw [bB (by simp; omega),af ⟨by omega,hk⟩];rfl
  ·rw [bh q,ae (by rintro ⟨q,_⟩; omega)];simp [hi]
 ·rw [ae (by simp; exact hk)];simp only [bsm]
  congr 1
  refine jN (by simp) fun i hi=>?_;unfold wi;by_cases q:l.length-1=i
  ·subst q;rw [ae (by rintro ⟨_,q⟩; exact hk q)];simp [hi]
  ·rw [ae (by rintro ⟨q,_⟩; omega)];simp [hi]
def tt (l:List ab) (c n:Nat):List ab:=tr (tr l c) (c+n)
theorem Bc (l:List ab) (c n:Nat):(tt l c n).length=l.length:=by simp [tt,rS]
def dlx (l:List ab) (c n j:Nat):ab:=if j<c then (tt l c n).getD j bl else if j+n<l.length then (tt l c n).getD (j+n) bl else bl
def xn (l:List ab) (c n:Nat):List ab:=(List.range l.length).map (dlx l c n)
theorem qp (l:List ab) (c n:Nat):(xn l c n).length=l.length:=by simp [xn]
theorem AL {c n j:Nat}(h:j<l.length):(xn l c n)[j]? = some (dlx l c n j):=by simp [xn,h]
theorem tj (l:List ab) (c n j:Nat) (h:j<l.length):kd (xn l c n) j=if j<c then kd (tt l c n) j else if j+n<l.length then kd (tt l c n) (j+n) else 0:=by
 rw [show kd (xn l c n) j=(dlx l c n j).Kind by simp [kd,AL h]];unfold dlx;split
 ·exact oT _ _
 ·split
  ·exact oT _ _
  ·rfl
theorem AK (hs:Snd l) (c n:Nat):Snd (xn l c n):=fun j hj=>by
 have hj':j<l.length:=by rw [qp] at hj; exact hj
 have he:(xn l c n)[j]=dlx l c n j:=by
  have:=AL (c:=c) (n:=n) hj';rw [ag hj] at this;exact bi this
 have ht:Snd (tt l c n):=yJ (yJ hs c) (c+n);have hlen:=Bc l c n;have hat1:kd (tt l c n) c≠3:=by
  unfold tt;rw [Cc];split
  ·decide
  ·exact xe l c
 have hat2:kd (tt l c n) (c+n)≠3:=xe _ _;rw [<-lW hj,he];refine ⟨?_,?_,?_⟩
 ·unfold dlx;split
  ·exact uE ht j
  ·split
   ·exact uE ht _
   ·rfl
 ·intro e;rw [tj l c n j hj'] at e;split at e
  ·have h3:=ht.two e;have hlt:=vU (l:=tt l c n) (j:=j+1) (by omega);rw [tj l c n (j+1) (by omega),af]
   ·exact h3
   ·rcases aU (j+1) c with q|q
    ·exact q
    ·obtain rfl:c=j+1:=by omega
     exact absurd h3 hat1
  ·split at e
   ·have h3:=ht.two e;have hlt:=vU (l:=tt l c n) (j:=j+n+1) (by omega);rw [tj l c n (j+1) (by omega),ae (by omega),af (by omega),show j+1+n=j+n+1 by omega];exact h3
   ·omega
 ·intro e;rw [tj l c n j hj'] at e;split at e
  ·obtain ⟨h0,h2⟩:=ht.three e;refine ⟨h0,?_⟩;rw [tj l c n (j-1) (by omega),af (by omega)];exact h2
  ·split at e
   ·obtain ⟨h0,h2⟩:=ht.three e;have hne:j≠c:=by
     intro q;rw [q] at e;exact hat2 e
    refine ⟨by omega,?_⟩;rw [tj l c n (j-1) (by omega),ae (by omega),af (by omega),show j-1+n=j+n-1 by omega];exact h2
   ·omega
theorem HV (hs:Snd l) (hl:l.length<=1024){c n:Nat}(hc:c<l.length) (h1:1<=n) (hn:c+n<=l.length):jZ (tr l c) n c=some (xn l c n):=by
 unfold jZ;have htl:=Bc l c n;have e1:w64 ((c:Int)+(n:Int))=((c+n:Nat):Int):=by rw [aJ (by omega)]; simp
 rw [e1,yL (yJ hs c) (by rw [rS]; exact hl)];simp only [bsm];rw [show tr (tr l c) (c+n)=tt l c n by rfl];have hd:kJ (tt l c n) c ((c+n:Nat):Int)=some ((tt l c n).take c++(tt l c n).drop (c+n)):=by
  unfold kJ;rw [af (by rw [htl]; omega),bE,bE]
 rw [hd,vM,show (max 0 (min (n:Int) 1024)).toNat=n by omega];simp only [bsm];rw [cO (by simp [htl]; omega)];simp only [bsm]
 congr 1
 refine jN (by simp [htl]; omega) fun i hi=>?_;unfold dlx;have htk:((tt l c n).take c).length=c:=by simp [htl]; omega
 rw [aL];split
 ·rename_i q
  rw [aG (by omega),aX,af q,aw,ag (by omega:i<(tt l c n).length)];rfl
 ·rename_i q
  rw [aM (by omega),htk];split
  ·rw [aG (by simp [htl]; omega),bW,show c+n+(i-c)=i+n by omega,aw,ag (by omega:i+n<(tt l c n).length)];rfl
  ·rw [aM (by simp [htl]; omega),oS,af (by simp [htl]; omega)]
theorem Ai (h:p.length=l.length):pl l 0 p=p:=by
 symm
 refine jN h fun i hi=>?_;unfold pc;rw [af ⟨bT _,by omega⟩,mf,aw,ag (by omega)];rfl
theorem Ah (h1:1<=l.length):pw l w 0 l.length=false:=by
 unfold pw tch;rw [show decide (0<l.length)=true by simp; omega,show decide (0<=l.length-1)=true by simp,show decide (l.length-1<0+l.length)=true by simp; omega];simp
def mvs (col n:Int) (m:Nat):Bool:=decide (0<=col) && decide (col<(m:Int)) && decide (1<=n)
def ish (l:List ab) (w:Bool) (col n:Int):br:=if mvs col n l.length=true then ⟨xh l col.toNat (min n ((l.length:Int)-col)).toNat,false⟩ else ⟨l,w⟩
def dsh (l:List ab) (w:Bool) (col n:Int):br:=if mvs col n l.length=true then ⟨xn l col.toNat (min n ((l.length:Int)-col)).toNat,false⟩ else ⟨l,w⟩
theorem F4 (hs:Snd l) (col n:Int):Snd (ish l w col n).cells:=by
 unfold ish;split
 ·exact Av hs _ _
 ·exact hs
theorem Gn (hs:Snd l) (col n:Int):Snd (dsh l w col n).cells:=by
 unfold dsh;split
 ·exact AK hs _ _
 ·exact hs
theorem F5 (col n:Int):(ish l w col n).cells.length=l.length:=by
 unfold ish;split
 ·exact qd _ _ _
 ·rfl
theorem Gp (col n:Int):(dsh l w col n).cells.length=l.length:=by
 unfold dsh;split
 ·exact qp _ _ _
 ·rfl
theorem wA {col n:Int}{m:Nat}:(decide (col<0) || decide (col>=(m:Int)) || decide (n<1))= !mvs col n m:=by
 rw [cu];simp only [mvs,aC,dP,wu,am,gp];omega
theorem za {col n:Int}{m:Nat}(h:mvs col n m=true):∃c e:Nat,col=(c:Int)/\min n ((m:Int)-col)=(e:Int)/\c<m/\1<=e/\c+e<=m:=by
 simp only [mvs,aA,am] at h;exact ⟨col.toNat,(min n ((m:Int)-col)).toNat,by omega,by omega,by omega,by omega,by omega⟩
theorem CD (h:s.row_Row[k]? = some ⟨l,w⟩) (hs:Snd l) (hl:l.length<=1024) (col n:Int):lq s (some k) col n=some (s.sr k (ish l w col n)):=by
 unfold lq eI;simp only [jX h,bsm,bu,wA];unfold ish;by_cases hm:mvs col n l.length=true
 ·obtain ⟨c,e,rfl,he,h1,h2,h3⟩:=za hm;rw [ae (by rw [hm]; decide),af hm,td h (by omega) hs.sht];simp only [bsm,yL hs hl];have e1:aE n (w64 ((l.length:Int)-(c:Int)))=(e:Int):=by rw [aJ (by omega),dL]; exact he
  rw [e1,HM hl h1 h2 h3,he];simp only [bsm,bE];have:=pZ h hs hl (Av hs c e) (a:=0) (by rw [qd]; omega) (by rw [qd]; omega);rw [show ((0:Nat):Int)=0 by rfl] at this;rw [this,Ai (qd l c e),qd,Ah (by omega)];rfl
 ·rw [af (by simpa using hm),ae hm,zP h];rfl
theorem CE (h:s.row_Row[k]? = some ⟨l,w⟩) (hs:Snd l) (hl:l.length<=1024) (col n:Int):lu s (some k) col n=some (s.sr k (dsh l w col n)):=by
 unfold lu eJ;simp only [jX h,bsm,bu,wA];unfold dsh;by_cases hm:mvs col n l.length=true
 ·obtain ⟨c,e,rfl,he,h1,h2,h3⟩:=za hm;rw [ae (by rw [hm]; decide),af hm,td h (by omega) hs.sht];simp only [bsm,yL hs hl];have e1:aE n (w64 ((l.length:Int)-(c:Int)))=(e:Int):=by rw [aJ (by omega),dL]; exact he
  rw [e1,HV hs hl h1 h2 h3,he];simp only [bsm,bE];have:=pZ h hs hl (AK hs c e) (a:=0) (by rw [qp]; omega) (by rw [qp]; omega);rw [show ((0:Nat):Int)=0 by rfl] at this;rw [this,Ai (qp l c e),qp,Ah (by omega)];rfl
 ·rw [af (by simpa using hm),ae hm,zP h];rfl
theorem FC (hl:l.length<=1024) (col n:Int) (w:Bool):fQ l col n=some ((ish l w col n).cells,mvs col n l.length):=by
 unfold fQ;simp only [bsm,bu,wA];unfold ish;by_cases hm:mvs col n l.length=true
 ·rw [hm];obtain ⟨c,e,rfl,he,h1,h2,h3⟩:=za hm;have e1:aE n (w64 ((l.length:Int)-(c:Int)))=(e:Int):=by rw [aJ (by omega),dL]; exact he
  rw [ae (by decide),af rfl,yK hl,e1,he];simp only [bsm,bE];refine zy (xf (n:=l.length) (wi l c e) (t:=xh l c e) (fun i hi=>?_) ?_ (by omega)) rfl
  ·have e2:w64 ((c:Int)+(e:Int))=((c+e:Nat):Int):=by rw [aJ (by omega)]; simp
   simp only [dlt hi,bA,dm hi (by omega),e2,bb,bsm];have htl:=rS l c;have hx:((if decide ((i:Int)<(c:Int))=true then (idx (tr l c) (i:Int)).bind fun x=>(some (x.Kind,x.Text):Option (Int×(List Int))) else (some (0,([]:List Int)):Option (Int×(List Int)))).bind fun z=>
     if decide ((i:Int)>=((c+e:Nat):Int))=true then (idx (tr l c) (w64 ((i:Int)-(e:Int)))).bind fun x=>(some (x.Kind,x.Text):Option (Int×(List Int))) else (some (z.1,z.2):Option (Int×(List Int))))=some ((inx l c e i).Kind,(inx l c e i).Text):=by
    unfold inx;by_cases q1:i<c
    ·rw [af (by simp; omega),bj (by omega:i<(tr l c).length)];simp only [bsm];rw [ae (by simp; omega),af q1,aw,ag (by omega:i<(tr l c).length)];rfl
    ·rw [ae (by simp; omega),ae q1];simp only [bsm];by_cases q2:i<c+e
     ·rw [ae (by simp; omega),af q2];rfl
     ·have e3:w64 ((i:Int)-(e:Int))=((i-e:Nat):Int):=by rw [aJ (by omega)]; omega
      rw [af (by simp; omega),ae q2,e3,bj (by omega:i-e<(tr l c).length),aw,ag (by omega:i-e<(tr l c).length)];rfl
   refine (JW _ _ _).symm.trans ?_;rw [hx];simp only [bsm];have hy:(if (((i+1:Nat):Int)==(l.length:Int) && (inx l c e i).Kind==2)=true then (some (0,([]:List Int)):Option (Int×(List Int))) else (some ((inx l c e i).Kind,(inx l c e i).Text):Option (Int×(List Int))))=some ((wi l c e i).Kind,(wi l c e i).Text):=by
    unfold wi;by_cases q:i+1=l.length/\(inx l c e i).Kind=2
    ·rw [af (by simp only [aA,aQ]; omega),af q];rfl
    ·rw [ae (by simp only [aA,aQ]; omega),ae q]
   rw [hy];simp only [bsm];rw [cO (by simp; omega)];rfl
  ·simp only [dnl];rfl
 ·rw [af (by simpa using hm),ae hm];simp only [vg] at hm;rw [hm]
theorem FD (hl:l.length<=1024) (col n:Int) (w:Bool):fR l col n=some ((dsh l w col n).cells,mvs col n l.length):=by
 unfold fR;simp only [bsm,bu,wA];unfold dsh;by_cases hm:mvs col n l.length=true
 ·rw [hm];obtain ⟨c,e,rfl,he,h1,h2,h3⟩:=za hm;have e1:aE n (w64 ((l.length:Int)-(c:Int)))=(e:Int):=by rw [aJ (by omega),dL]; exact he
  have e2:w64 ((c:Int)+(e:Int))=((c+e:Nat):Int):=by rw [aJ (by omega)]; simp
  rw [ae (by decide),af rfl,yK hl,e1,he];simp only [bsm,bE,e2];rw [yK (by rw [rS]; exact hl)];simp only [bsm];rw [show tr (tr l c) (c+e)=tt l c e by rfl];refine zy (xf (n:=l.length) (dlx l c e) (t:=xn l c e) (fun i hi=>?_) ?_ (by omega)) rfl
  ·have htl:=Bc l c e;have e3:w64 ((i:Int)+(e:Int))=((i+e:Nat):Int):=by rw [aJ (by omega)]; simp
   simp only [dlt hi,bA,dm hi (by omega),e3];have hx:(if decide ((i:Int)<(c:Int))=true then (idx (tt l c e) (i:Int)).bind fun x=>(some (x.Kind,x.Text):Option (Int×(List Int))) else if decide (((i+e:Nat):Int)<(l.length:Int))=true then (idx (tt l c e) ((i+e:Nat):Int)).bind fun x=>(some (x.Kind,x.Text):Option (Int×(List Int))) else (some (0,([]:List Int)):Option (Int×(List Int))))=some ((dlx l c e i).Kind,(dlx l c e i).Text):=by
    unfold dlx;by_cases q1:i<c
    ·rw [af (by simp; omega),bj (by omega:i<(tt l c e).length),af q1,aw,ag (by omega:i<(tt l c e).length)];rfl
    ·rw [ae (by simp; omega),ae q1];by_cases q2:i+e<l.length
     ·rw [af (by simp only [am]; omega),af q2,bj (by omega:i+e<(tt l c e).length),aw,ag (by omega:i+e<(tt l c e).length)];rfl
     ·rw [ae (by simp only [am]; omega),ae q2];rfl
   rw [hx];simp only [bsm];rw [cO (by simp; omega)];rfl
  ·simp only [dnl];rfl
 ·rw [af (by simpa using hm),ae hm];simp only [vg] at hm;rw [hm]
end Go.Proofs.YtclmdpamofdoiaaGreatDoor
namespace Go.Proofs.YtclmdpamofdoiaaGreatDoor
open Go Go.Lt
variable {s C:Sto}{g k W:Nat}{ks:List Nat}{q:aa}
def w38 (o:aH):Int:=if o.Kind<2\/12<o.Kind then 5 else if (o.Kind=3\/o.Kind=4)/\(o.A<0\/2<o.A) then 3 else 0
def e38 (o:aH):Er:=if w38 o=5 then .sent 4 else if w38 o=3 then .sent 2 else .nil
theorem Dx (o:aH):w38 o=5\/w38 o=3\/w38 o=0:=by
 unfold w38
 repeat' split
 all_goals simp
theorem Af (o:aH):gj o=some (w38 o):=by
 unfold gj w38;simp only [bu,bsm,bb];by_cases h:o.Kind<2\/12<o.Kind
 ·rw [af h,af (by simp only [aC,am]; omega)]
 ·rw [ae h,ae (by simp only [aC,am]; omega)]
  by_cases h2:(o.Kind=3\/o.Kind=4)/\(o.A<0\/2<o.A)
  ·rw [af h2,af (by simp only [aA,aC,am,aQ]; omega)]
  ·rw [ae h2,ae (by simp only [aA,aC,am,aQ]; omega)]
def Dg (n:Int):Bool:=decide (2<=n) && decide (n<=12)
theorem Df (n:Int):ou n=some (Dg n):=by
 unfold ou Dg;simp only [bb,bsm,Bz]
theorem Jd (o:aH):Dg o.Kind=(w38 o != 5):=by
 rw [cu];unfold Dg w38;simp only [aA,am,nv,vT]
 repeat' split
 all_goals omega
theorem ud (o:aH):ky o=some (e38 o):=by
 unfold ky;rw [Df];have hd:Dg o.Kind= !decide (o.Kind<2\/12<o.Kind):=by
  rw [cu];simp only [Dg,aA,am,dP,gp];omega
 simp only [bsm,hd,bb,bu,Bool.not_not];unfold e38;by_cases h:o.Kind<2\/12<o.Kind
 ·have e:w38 o=5:=by unfold w38; rw [af h]
  rw [af (by simpa using h),af e]
 ·rw [ae (by simpa using h)]
  by_cases h2:(o.Kind=3\/o.Kind=4)/\(o.A<0\/2<o.A)
  ·have e:w38 o=3:=by unfold w38; rw [ae h,af h2]
   rw [af (by simp only [aA,aC,am,nv,vT]; omega),e];rfl
  ·have e:w38 o=0:=by unfold w38; rw [ae h,ae h2]
   rw [ae (by simp only [aA,aC,am,nv,vT]; omega),e];rfl
theorem zi (o:aH):(e38 o).isNil=(w38 o==0):=by
 unfold e38;rcases Dx o with h|h|h <;> rw [h] <;> rfl
def lt (r:br):aj:=⟨r.cells,r.wrap⟩
theorem E6 (h:Pv C s k g W q ks){i:Nat}(hi:i<ks.length) (x a b:Int):di q i x a b=some ⟨q.L.set i (lt (ac (q.L.getD i dl).Cells (q.L.getD i dl).Wrap x a b)),q.At,q.Auto⟩:=by
 have hl:=h.len;have hlt:i<q.L.length:=by omega
 have hok:=h.ok _ (aF hlt);have w2:=h.g.w2;unfold di;rw [bj hlt];simp only [bsm];rw [FE _ _ (by rw [hok.2]; exact w2)];simp only [bsm];rw [uF h hi,gdl hlt];rfl
theorem Pv.ac (h:Pv C s k g W q ks){i:Nat}(hi:i<ks.length) (x a b:Int):Pv C (s.sr ks[i] (ac (q.L.getD i dl).Cells (q.L.getD i dl).Wrap x a b)) k g W ⟨q.L.set i (lt (Go.Proofs.YtclmdpamofdoiaaGreatDoor.ac (q.L.getD i dl).Cells (q.L.getD i dl).Wrap x a b)),q.At,q.Auto⟩ ks:=by
 have hl:=h.len;have hlt:i<q.L.length:=by omega
 have hok:=h.ok _ (aF hlt);have e:q.L.getD i dl=q.L[i]:=gdl hlt;rw [e];exact h.row hi (Ik hok.1 x a b) (by rw [Il]; exact hok.2)
theorem Pv.rw_ (h:Pv C s k g W q ks){i:Nat}(hi:i<ks.length):s.row_Row[ks[i]]? = some ⟨(q.L.getD i dl).Cells,(q.L.getD i dl).Wrap⟩/\Snd (q.L.getD i dl).Cells/\(q.L.getD i dl).Cells.length=W:=by
 have hl:=h.len;have hlt:i<q.L.length:=by omega
 have hok:=h.ok _ (aF hlt);obtain ⟨r,h1,h2,h3⟩:=h.g.at hi;have e:q.L[i]=⟨r.cells,r.wrap⟩:=by rw [h.at hi,oX h1]
 rw [gdl hlt,e];exact ⟨h1,h2,h3⟩
def md (mode:Int):Int:=if mode=0 then 2 else if mode=1 then 1 else 3
theorem yA (h:Pv C s k g W q ks){i:Nat}(hi:i<ks.length) (hr:q.At.Row=(i:Int)) (mode:Int):mS s (some k) mode=some (s.sr ks[i] (ac (q.L.getD i dl).Cells (q.L.getD i dl).Wrap (md mode) q.At.Col 0)):=by
 obtain ⟨r1,r2,r3⟩:=h.rw_ hi;have w2:=h.g.w2;unfold mS md;simp only [bsm,h.p,hr];rw [fL h.g hi];simp only [bsm];by_cases h0:mode=0
 ·rw [af (by simpa using h0),af h0,AG r1 r2 (by omega) _ 0]
  rfl
 ·rw [ae (by simpa using h0),ae h0]
  by_cases h1:mode=1
  ·rw [af (by simpa using h1),af h1,BE r1 r2 (by omega) _ 0]
   rfl
  ·rw [ae (by simpa using h1),ae h1,yz r1 r2 (by omega) q.At.Col 0]
   rfl
def eS (cond:Nat->Bool) (L:List aj):Nat->List aj
 | 0=>L
 | i+1=>if cond i=true then (eS cond L i).set i (lt (ac ((eS cond L i).getD i dl).Cells ((eS cond L i).getD i dl).Wrap 3 0 0)) else eS cond L i
def cnd (mode:Int) (row:Int) (i:Nat):Bool:=mode==2 || (mode==0 && decide ((i:Int)>row)) || (mode==1 && decide ((i:Int)<row))
theorem zV (h:Pv C s k g W q ks) (mode:Int){H:Int}(hH:H=(ks.length:Int)):∃s',(cH (σ:=Int×Sto) (τ:=Sto) ((H-0).toNat+1) (fun s_12=>
 if decide (s_12.1<H) then
 ((orE (mode==2) ((bL (mode==0) ((s_12.2.place_Pen[k]?).bind fun o_32=>
 some (decide (s_12.1>o_32.At.Row)))).bind fun d_25=>
 some d_25)).bind fun d_21=>
 (orE d_21 ((bL (mode==1) ((s_12.2.place_Pen[k]?).bind fun o_45=>
 some (decide (s_12.1<o_45.At.Row)))).bind fun d_38=>
 some d_38)).bind fun d_34=>
 if d_34 then
 (s_12.2.place_Pen[k]?).bind fun o_51=>
 (bF s_12.2 o_51.G s_12.1).bind fun x_53=>
 (lA s_12.2 x_53).bind fun x_54=>
 (some x_54:Option Sto)
 else
 (some s_12.2:Option Sto)).bind fun z_15=>
 some (.inl ((w64 (s_12.1+1)),z_15))
 else
 some (.inr s_12.2)) (0,s))=some s'/\Pv C s' k g W ⟨eS (cnd mode q.At.Row) q.L ks.length,q.At,q.Auto⟩ ks:=by
  subst hH;have hh:=h.g.h2;refine eV (n:=ks.length) (fun i st=>st.1=(i:Int)/\Pv C st.2 k g W ⟨eS (cnd mode q.At.Row) q.L i,q.At,q.Auto⟩ ks) (fun st=>Pv C st k g W ⟨eS (cnd mode q.At.Row) q.L ks.length,q.At,q.Auto⟩ ks) (fun i st hi hI=>?_) (fun st hI=>?_) ⟨rfl,h⟩ (by omega)
  ·obtain ⟨i',st⟩:=st
   obtain ⟨e,v⟩:=hI;simp only at e v;subst e;simp only;rw [af (dlt hi)];have hp:=v.p;simp only at hp;simp only [hp,bsm,bb,bu];rw [dm hi (by omega)];by_cases hc:cnd mode q.At.Row i=true
   ·rw [af (show (mode==2 || mode==0 && decide ((i:Int)>q.At.Row) || mode==1 && decide ((i:Int)<q.At.Row))=true from hc),fL v.g hi]
    obtain ⟨r1,r2,r3⟩:=v.rw_ hi;simp only [bsm];have w2:=h.g.w2;rw [yz r1 r2 (by omega) 0 0];refine .inl ⟨_,rfl,rfl,?_⟩;simp only [eS];rw [af hc];exact v.ac hi 3 0 0
   ·rw [ae (show ¬(mode==2 || mode==0 && decide ((i:Int)>q.At.Row) || mode==1 && decide ((i:Int)<q.At.Row))=true from hc)]
    refine .inl ⟨_,rfl,rfl,?_⟩;simp only [eS];rw [ae hc];exact v
  ·obtain ⟨i',st⟩:=st
   obtain ⟨e,v⟩:=hI;simp only at e v;subst e;exact ⟨st,by simp,v⟩
theorem Bw (h:Pv C s k g W q ks) (kind mode:Int):(cH (σ:=Int×(List aj)×Int×Int×Bool×Bool) (τ:=((List aj)×Int×Int×Bool×Bool)) (((q.L.length:Int)-0).toNat+1) (fun s_23=>
 (bL (decide (s_23.1<(s_23.2.1.length:Int))) (some (kind==4))).bind fun d_29=>
 if d_29 then
 ((orE (mode==2) ((bL (mode==0) (some (decide (s_23.1>s_23.2.2.1)))).bind fun d_41=>
 some d_41)).bind fun d_37=>
 (orE d_37 ((bL (mode==1) (some (decide (s_23.1<s_23.2.2.1)))).bind fun d_52=>
 some d_52)).bind fun d_48=>
 if d_48 then
 (di (⟨s_23.2.1,(⟨s_23.2.2.1,s_23.2.2.2.1,s_23.2.2.2.2.1⟩:ai),s_23.2.2.2.2.2⟩:aa) s_23.1 3 0 0).bind fun x_62=>
 (some (x_62.L,x_62.At.Row,x_62.At.Col,x_62.At.Pending,x_62.Auto):Option ((List aj)×Int×Int×Bool×Bool))
 else
 (some (s_23.2.1,s_23.2.2.1,s_23.2.2.2.1,s_23.2.2.2.2.1,s_23.2.2.2.2.2):Option ((List aj)×Int×Int×Bool×Bool))).bind fun z_34=>
 some (.inl ((w64 (s_23.1+1)),z_34.1,z_34.2.1,z_34.2.2.1,z_34.2.2.2.1,z_34.2.2.2.2))
 else
 some (.inr (s_23.2.1,s_23.2.2.1,s_23.2.2.2.1,s_23.2.2.2.2.1,s_23.2.2.2.2.2))) (0,q.L,q.At.Row,q.At.Col,q.At.Pending,q.Auto))=
   some (if kind=4 then eS (cnd mode q.At.Row) q.L ks.length else q.L,q.At.Row,q.At.Col,q.At.Pending,q.Auto):=by
  have hh:=h.g.h2;have hl:=h.len;by_cases hk:kind=4
  ·subst hk
   rw [af rfl];obtain ⟨t,h1,h2⟩:=eV (σ:=Int×(List aj)×Int×Int×Bool×Bool) (τ:=((List aj)×Int×Int×Bool×Bool)) (n:=ks.length) (fuel:=((q.L.length:Int)-0).toNat+1) (s:=(0,q.L,q.At.Row,q.At.Col,q.At.Pending,q.Auto))
    (fun i st=>st=((i:Int),eS (cnd mode q.At.Row) q.L i,q.At.Row,q.At.Col,q.At.Pending,q.Auto)/\∃s',Pv C s' k g W ⟨eS (cnd mode q.At.Row) q.L i,q.At,q.Auto⟩ ks) (fun t=>t=(eS (cnd mode q.At.Row) q.L ks.length,q.At.Row,q.At.Col,q.At.Pending,q.Auto))
    (step:=fun s_23=>
 (bL (decide (s_23.1<(s_23.2.1.length:Int))) (some ((4:Int)==4))).bind fun d_29=>
 if d_29 then
 ((orE (mode==2) ((bL (mode==0) (some (decide (s_23.1>s_23.2.2.1)))).bind fun d_41=>
 some d_41)).bind fun d_37=>
 (orE d_37 ((bL (mode==1) (some (decide (s_23.1<s_23.2.2.1)))).bind fun d_52=>
 some d_52)).bind fun d_48=>
 if d_48 then
 (di (⟨s_23.2.1,(⟨s_23.2.2.1,s_23.2.2.2.1,s_23.2.2.2.2.1⟩:ai),s_23.2.2.2.2.2⟩:aa) s_23.1 3 0 0).bind fun x_62=>
 (some (x_62.L,x_62.At.Row,x_62.At.Col,x_62.At.Pending,x_62.Auto):Option ((List aj)×Int×Int×Bool×Bool))
 else
 (some (s_23.2.1,s_23.2.2.1,s_23.2.2.2.1,s_23.2.2.2.2.1,s_23.2.2.2.2.2):Option ((List aj)×Int×Int×Bool×Bool))).bind fun z_34=>
 some (.inl ((w64 (s_23.1+1)),z_34.1,z_34.2.1,z_34.2.2.1,z_34.2.2.2.1,z_34.2.2.2.2))
 else
 some (.inr (s_23.2.1,s_23.2.2.1,s_23.2.2.2.1,s_23.2.2.2.2.1,s_23.2.2.2.2.2)))
    (fun i st hi hI=>by
     obtain ⟨rfl,s',v⟩:=hI;have hvl:(eS (cnd mode q.At.Row) q.L i).length=ks.length:=v.len;simp only [bb,bsm,bu];rw [af (by simp [hvl,hi]),dm hi (by omega)];by_cases hc:cnd mode q.At.Row i=true
     ·rw [af (show (mode==2 || mode==0 && decide ((i:Int)>q.At.Row) || mode==1 && decide ((i:Int)<q.At.Row))=true from hc)]
      have ha:=E6 v hi 3 0 0;rw [show (⟨eS (cnd mode q.At.Row) q.L i,⟨q.At.Row,q.At.Col,q.At.Pending⟩,q.Auto⟩:aa)=⟨eS (cnd mode q.At.Row) q.L i,q.At,q.Auto⟩ from rfl,ha];refine .inl ⟨_,rfl,?_,s'.sr ks[i] (ac ((eS (cnd mode q.At.Row) q.L i).getD i dl).Cells ((eS (cnd mode q.At.Row) q.L i).getD i dl).Wrap 3 0 0),?_⟩
      ·simp only [eS]
       rw [af hc]
      ·simp only [eS]
       rw [af hc];exact v.ac hi 3 0 0
     ·rw [ae (show ¬(mode==2 || mode==0 && decide ((i:Int)>q.At.Row) || mode==1 && decide ((i:Int)<q.At.Row))=true from hc)]
      refine .inl ⟨_,rfl,?_,s',?_⟩
      ·simp only [eS]
       rw [ae hc]
      ·simp only [eS]
       rw [ae hc];exact v)
    (fun st hI=>by
     obtain ⟨rfl,s',v⟩:=hI;have hvl:(eS (cnd mode q.At.Row) q.L ks.length).length=ks.length:=v.len;refine ⟨_,?_,rfl⟩;simp only [bb,bsm];rw [ae (by simp [hvl])])
    ⟨rfl,s,h⟩ (by omega)
   rw [h1,h2]
  ·rw [ae hk]
   have hf:(kind==4)=false:=by simpa using hk
   rw [show ((q.L.length:Int)-0).toNat+1=q.L.length+1 by omega];simp only [cH,hf,bb,Ff,bsm,ak,aY]
theorem Du (h:Pv C s k g W q ks){i:Nat}(hi:i<ks.length){c:List ab}{done:Bool}{r:br}(hc:c=r.cells) (hd:done=true->r.wrap=false) (hn:done=false->r=⟨(q.L.getD i dl).Cells,(q.L.getD i dl).Wrap⟩){z:aa}(hz:z=q):
  (if done then (co z i ⟨c,false⟩).bind fun x_172=>(some (x_172.L,x_172.At.Row,x_172.At.Col,x_172.At.Pending,x_172.Auto):Option ((List aj)×Int×Int×Bool×Bool))
   else (some (z.L,z.At.Row,z.At.Col,z.At.Pending,z.Auto):Option ((List aj)×Int×Int×Bool×Bool)))=some (q.L.set i (lt r),q.At.Row,q.At.Col,q.At.Pending,q.Auto):=by
 subst hz hc;have hl:=h.len
 cases done with
 | true=>
  rw [af rfl,uF h hi];simp only [bsm];unfold lt;rw [hd rfl]
 | false=>
  rw [ae (by simp),hn rfl];unfold lt;rw [gdl (show i<z.L.length by omega),Is]
theorem Eu {l:List ab}{w:Bool}{a b:Int}:(mvs a b l.length=true->(ish l w a b).wrap=false)/\(mvs a b l.length=false->ish l w a b=⟨l,w⟩):=by
 unfold ish;refine ⟨fun h=>by rw [af h],fun h=>by rw [ae (by rw [h]; simp)]⟩
theorem ED {l:List ab}{w:Bool}{a b:Int}:(mvs a b l.length=true->(dsh l w a b).wrap=false)/\(mvs a b l.length=false->dsh l w a b=⟨l,w⟩):=by
 unfold dsh;refine ⟨fun h=>by rw [af h],fun h=>by rw [ae (by rw [h]; simp)]⟩
theorem Ca (h:Pv C s k g W q ks){i:Nat}(hi:i<ks.length) (hr:q.At.Row=(i:Int)) (kind:Int){mode:Int}(hm:0<=mode/\mode<=2):∃L1,L1=q.L.set i (lt (ac (q.L.getD i dl).Cells (q.L.getD i dl).Wrap (md mode) q.At.Col 0))/\
  gi q kind mode=some ⟨if kind=4 then eS (cnd mode q.At.Row) L1 ks.length else L1,q.At,q.Auto⟩:=by
 refine ⟨_,rfl,?_⟩;unfold gi;have hidx:idx ([2,1,3]:List Int) mode=some (md mode):=by
  have:mode=0\/mode=1\/mode=2:=by omega
  rcases this with e|e|e <;> rw [e] <;> rfl
 have v:=h.ac hi (md mode) q.At.Col 0;have e0:di q q.At.Row (md mode) q.At.Col 0=some ⟨q.L.set i (lt (ac (q.L.getD i dl).Cells (q.L.getD i dl).Wrap (md mode) q.At.Col 0)),q.At,q.Auto⟩:=by
  rw [hr];exact E6 h hi _ _ _
 rw [hidx];simp only [bsm];rw [e0];simp only [bsm];have:=Bw v kind mode;simp only at this;rw [this];rfl
theorem Cn (h:Pv C s k g W q ks) (o:aH) (hw:w38 o=0):∃s' q' ks',nV s (some k) o=some (s',Er.nil)/\gA q o=some q'/\Pv C s' k g W q' ks'/\ks'.length=ks.length/\Hd q'.At W ks.length/\q'.At.Pending=false:=by
 have hh:=h.g.h2;have h1:=h.g.h1;have w1:=h.g.w1;have w2:=h.g.w2;have hkind:2<=o.Kind/\o.Kind<=12:=by
   unfold w38 at hw;split at hw
   ·cases hw
   ·omega
 have hmode:(o.Kind=3\/o.Kind=4)->0<=o.A/\o.A<=2:=fun e=>by
   unfold w38 at hw;rw [ae (by omega)] at hw;split at hw
   ·cases hw
   ·omega
 have hnil:e38 o=Er.nil:=by unfold e38; rw [hw]; rfl
 have hd0:=uK q.At w1 h1;have hv:Pv C (s.sp k ⟨some g,⟨(hc q.At W ks.length).Row,(hc q.At W ks.length).Col,false⟩,q.Auto⟩) k g W ⟨q.L,⟨(hc q.At W ks.length).Row,(hc q.At W ks.length).Col,false⟩,q.Auto⟩ ks:=h.set _ _;have hd:Hd ⟨(hc q.At W ks.length).Row,(hc q.At W ks.length).Col,false⟩ W ks.length:=⟨hd0.rr,hd0.cc,fun e=>by cases e⟩;unfold nV gA;rw [ud,hnil,qb h];simp only [bsm,Er.isNil,dA,ak,aY,bS,ig,h.p];rw [jE h.g,eM h.g];simp only [bsm];rw [qr _ w1 w2 h1 hh];simp only [bsm];rw [jJ (cY h.p)];simp only [bsm];rw [jJ (by simp [Sto.sp]; exact cY h.p),yb];simp only [bsm];generalize hc q.At W ks.length=c at *;obtain ⟨i,hi⟩:∃i:Nat,c.Row=(i:Int):=⟨c.Row.toNat,by have:=hd.rr; simp only at this; omega⟩;have hik:i<ks.length:=by have:=hd.rr; simp only at this; omega
 have hlen:=hv.len;simp only at hlen;obtain ⟨c1,c2,c3⟩:=c;simp only at hi hv hd;subst hi;simp only;rw [bj (show i<q.L.length by omega)];simp only [bsm];generalize s.sp k ⟨some g,⟨(i:Int),c2,false⟩,q.Auto⟩=s1 at *;obtain ⟨L,⟨_,_,_⟩,au⟩:=q;simp only at hv hlen|-;obtain ⟨r1,r2,r3⟩:=hv.rw_ hik;simp only at r1 r2 r3;obtain ⟨kd_,A,B,bs⟩:=o;simp only at hkind hmode|-;have hcell:L[i]'(by omega)=L.getD i dl:=(gdl (by omega)).symm;rw [hcell];have:kd_=2\/kd_=3\/kd_=4\/kd_=5\/kd_=6\/kd_=7\/kd_=8\/kd_=9\/kd_=10\/kd_=11\/kd_=12:=by omega
 have hcc:=hd.cc;simp only at hcc;rcases this with e|e|e|e|e|e|e|e|e|e|e <;> subst e <;> simp only [Int.reduceBEq,ak,aY,bA,bsm]
 ·
   unfold gQ;simp only [bsm,hv.p];rw [fL hv.g hik];simp only [bsm,Int.reduceBEq,bA];rw [jE hv.g,eM hv.g];simp only [bsm];unfold jQ;rw [qr _ w1 w2 h1 hh,se hv,hlen];simp only [bsm];rw [Ae _ w1 w2 h1 hh,jJ (cY hv.p)];exact ⟨_,_,ks,rfl,rfl,hv.set (hc ⟨A,B,false⟩ W ks.length) au,rfl,uK _ w1 h1,by simp [hc]⟩
 ·
   have hm:=hmode (.inl rfl);obtain ⟨L1,e1,e2⟩:=Ca hv hik rfl 3 hm;simp only at e1;rw [e2];unfold gQ;simp only [bsm,hv.p];rw [fL hv.g hik];simp only [bsm,Int.reduceBEq,ak,aY,bA];rw [yA hv hik rfl A];refine ⟨_,_,ks,rfl,rfl,?_,rfl,hd,rfl⟩;have:=hv.ac hik (md A) c2 0;simp only at this;rw [ae (by decide),e1];exact this
 ·
   have hm:=hmode (.inr rfl);obtain ⟨L1,e1,e2⟩:=Ca hv hik rfl 4 hm;simp only at e1;rw [e2];unfold gQ;simp only [bsm,hv.p];rw [fL hv.g hik];simp only [bsm,Int.reduceBEq,ak,aY,bA];unfold oe;rw [yA hv hik rfl A];have hv2:=hv.ac hik (md A) c2 0;simp only at hv2;rw [<-e1] at hv2;simp only [bsm,hv2.p];rw [eM hv2.g];simp only [bsm];obtain ⟨s',l1,l2⟩:=zV hv2 A rfl;rw [l1];exact ⟨_,_,ks,rfl,rfl,l2,rfl,hd,rfl⟩
 ·
   unfold gQ;simp only [bsm,hv.p];rw [fL hv.g hik];simp only [bsm,Int.reduceBEq,ak,aY,bA];rw [AH r1 r2 (by omega),E6 hv hik];exact ⟨_,_,ks,rfl,rfl,hv.ac hik 4 c2 A,rfl,hd,rfl⟩
 ·
   have hsn:=F4 (w:=(L.getD i dl).Wrap) r2 c2 A;have hlw:=F5 (l:=(L.getD i dl).Cells) (w:=(L.getD i dl).Wrap) c2 A;have hdn:=Eu (l:=(L.getD i dl).Cells) (w:=(L.getD i dl).Wrap) (a:=c2) (b:=A);unfold gQ;simp only [bsm,hv.p];rw [fL hv.g hik];simp only [bsm,Int.reduceBEq,ak,aY,bA];rw [CD r1 r2 (by omega),FC (by omega) _ _ (L.getD i dl).Wrap];simp only [bsm];have:=Du hv hik (c:=(ish (L.getD i dl).Cells (L.getD i dl).Wrap c2 A).cells) (done:=mvs c2 A (L.getD i dl).Cells.length) (r:=ish (L.getD i dl).Cells (L.getD i dl).Wrap c2 A) rfl hdn.1 hdn.2 rfl;simp only at this;rw [this];exact ⟨_,_,ks,rfl,rfl,hv.row hik hsn (by rw [hlw]; exact r3),rfl,hd,rfl⟩
 ·
   have hsn:=Gn (w:=(L.getD i dl).Wrap) r2 c2 A;have hlw:=Gp (l:=(L.getD i dl).Cells) (w:=(L.getD i dl).Wrap) c2 A;have hdn:=ED (l:=(L.getD i dl).Cells) (w:=(L.getD i dl).Wrap) (a:=c2) (b:=A);unfold gQ;simp only [bsm,hv.p];rw [fL hv.g hik];simp only [bsm,Int.reduceBEq,ak,aY,bA];rw [CE r1 r2 (by omega),FD (by omega) _ _ (L.getD i dl).Wrap];simp only [bsm];have:=Du hv hik (c:=(dsh (L.getD i dl).Cells (L.getD i dl).Wrap c2 A).cells) (done:=mvs c2 A (L.getD i dl).Cells.length) (r:=dsh (L.getD i dl).Cells (L.getD i dl).Wrap c2 A) rfl hdn.1 hdn.2 rfl;simp only at this;rw [this];exact ⟨_,_,ks,rfl,rfl,hv.row hik hsn (by rw [hlw]; exact r3),rfl,hd,rfl⟩
 ·
   obtain ⟨s',ks',u1,⟨u2,u3,u4,u5⟩,u6,u7⟩:=AJ hv.g hv.nd (i:Int) (ks.length:Int) A;have hm:=sj (W:=W) (L:=L) (by omega) w2 (fun x hx=>(hv.ok x hx).2) (i:Int) (ks.length:Int) A false;rw [hlen] at hm|-;unfold jM;simp only [bsm,hv.p];rw [eM hv.g];simp only [bsm,Int.reduceBEq,ak,aY,bA];rw [u1,hm];have hp:s'.place_Pen[k]? = some ⟨some g,⟨(i:Int),c2,false⟩,au⟩:=by rw [lL u6]; exact hv.p
   simp only [bsm,hp,dJ];rw [jJ (cY hp)];refine ⟨_,_,ks',rfl,rfl,⟨yN (cY hp),u2.sp _ _,u3,?_,(tc u6).trans hv.o,(hv.f.step u7 (lL u6)).sp _⟩,u4,⟨hd.rr,by simp only; omega,fun e=>by cases e⟩,rfl⟩;exact u5.trans (by rw [hv.l])
 ·
   obtain ⟨s',ks',u1,⟨u2,u3,u4,u5⟩,u6,u7⟩:=A7 hv.g hv.nd (i:Int) (ks.length:Int) A;have hm:=sj (W:=W) (L:=L) (by omega) w2 (fun x hx=>(hv.ok x hx).2) (i:Int) (ks.length:Int) A true;rw [hlen] at hm|-;unfold jM;simp only [bsm,hv.p];rw [eM hv.g];simp only [bsm,Int.reduceBEq,ak,aY,bA];rw [u1,hm];have hp:s'.place_Pen[k]? = some ⟨some g,⟨(i:Int),c2,false⟩,au⟩:=by rw [lL u6]; exact hv.p
   simp only [bsm,hp,dJ];rw [jJ (cY hp)];refine ⟨_,_,ks',rfl,rfl,⟨yN (cY hp),u2.sp _ _,u3,?_,(tc u6).trans hv.o,(hv.f.step u7 (lL u6)).sp _⟩,u4,⟨hd.rr,by simp only; omega,fun e=>by cases e⟩,rfl⟩;exact u5.trans (by rw [hv.l])
 ·
   obtain ⟨s',ks',u1,⟨u2,u3,u4,u5⟩,u6,u7⟩:=A7 hv.g hv.nd 0 (ks.length:Int) A;have hm:=sj (W:=W) (L:=L) (by omega) w2 (fun x hx=>(hv.ok x hx).2) 0 (ks.length:Int) A true;rw [hlen] at hm|-;unfold jM;simp only [bsm,hv.p];rw [eM hv.g];simp only [bsm,Int.reduceBEq,ak,aY,bA];rw [u1,hm];refine ⟨_,_,ks',rfl,rfl,⟨by rw [lL u6]; exact hv.p,u2,u3,?_,(tc u6).trans hv.o,hv.f.step u7 (lL u6)⟩,u4,hd,rfl⟩;exact u5.trans (by rw [hv.l])
 ·
   obtain ⟨s',ks',u1,⟨u2,u3,u4,u5⟩,u6,u7⟩:=AJ hv.g hv.nd 0 (ks.length:Int) A;have hm:=sj (W:=W) (L:=L) (by omega) w2 (fun x hx=>(hv.ok x hx).2) 0 (ks.length:Int) A false;rw [hlen] at hm|-;unfold jM;simp only [bsm,hv.p];rw [eM hv.g];simp only [bsm,Int.reduceBEq,ak,aY,bA];rw [u1,hm];refine ⟨_,_,ks',rfl,rfl,⟨by rw [lL u6]; exact hv.p,u2,u3,?_,(tc u6).trans hv.o,hv.f.step u7 (lL u6)⟩,u4,hd,rfl⟩;exact u5.trans (by rw [hv.l])
 ·
   unfold gQ;simp only [bsm,hv.p];rw [fL hv.g hik];simp only [bsm,Int.reduceBEq,ak,aY,bA];rw [jJ (cY hv.p)];exact ⟨_,_,ks,rfl,rfl,hv.set ⟨(i:Int),c2,false⟩ (A != 0),rfl,hd,rfl⟩
end Go.Proofs.YtclmdpamofdoiaaGreatDoor
namespace Go.Proofs.YtclmdpamofdoiaaGreatDoor
open Go Go.Lt
variable {s C:Sto}{g k W:Nat}{ks:List Nat}{q:aa}{l:List ab}
def rzc (l:List ab) (w j:Nat):ab:=if j<l.length/\(j+1<w\/kd l j≠2) then l.getD j bl else bl
def rz (l:List ab) (w:Nat):List ab:=(List.range w).map (rzc l w)
theorem vn (l:List ab) (w:Nat):(rz l w).length=w:=by simp [rz]
theorem yR {w j:Nat}(h:j<w):(rz l w)[j]? = some (rzc l w j):=by simp [rz,h]
theorem GV {w j:Nat}(h:j<w):kd (rz l w) j=(rzc l w j).Kind:=by simp [kd,yR h]
theorem yQ (l:List ab) (w j:Nat):(rzc l w j).Kind=if j<l.length/\(j+1<w\/kd l j≠2) then kd l j else 0:=by
 unfold rzc;split
 ·exact oT l j
 ·rfl
theorem DN (hs:Snd l) (w:Nat):Snd (rz l w):=fun j hj=>by
 have hjw:j<w:=by rw [vn] at hj; exact hj
 have e:(rz l w)[j]=rzc l w j:=by
  have:=yR (l:=l) hjw;rw [ag hj] at this;exact bi this
 rw [e];refine ⟨?_,fun h2=>?_,fun h3=>?_⟩
 ·unfold rzc;split
  ·rename_i h; exact hs.rg h.1
  ·rfl
 ·rw [yQ] at h2;split at h2
  ·rename_i h
   have h4:=hs.two h2;have h5:j+1<l.length:=vU (by rw [h4]; decide);have h6:j+1<w:=by omega
   rw [GV h6,yQ,af ⟨h5,.inr (by rw [h4]; decide)⟩,h4]
  ·cases h2
 ·rw [yQ] at h3;split at h3
  ·rename_i h
   obtain ⟨h4,h5⟩:=hs.three h3;have h6:j-1<l.length:=by omega
   refine ⟨h4,?_⟩;rw [GV (by omega),yQ,af ⟨h6,.inl (by omega)⟩,h5]
  ·cases h3
theorem Hm (w:Nat):rz [] w=List.replicate w bl:=by
 refine bY fun j=>?_;rcases aU j w with h|h
 ·rw [yR h,oS,af h];unfold rzc;rw [ae (by simp)]
 ·rw [aT (by rw [vn]; exact h),aT (by simpa using h)]
theorem Gi {n:Nat}(hn:n<=l.length) (hl:l.length<=1024):qj l n=some (if 0<n/\kd l (n-1)=2 then (l.take n).set (n-1) bl else l.take n):=by
 unfold qj;rw [show (0:Int)=((0:Nat):Int) from rfl,mI (bT _) hn,fU,mf];simp only [bsm];by_cases h0:0<n
 ·have e:w64 ((n:Int)-1)=((n-1:Nat):Int):=by rw [aJ (by omega)]; omega
  have hlt:n-1<(l.take n).length:=by simp; omega
  have hk:(l.take n)[n-1].Kind=kd l (n-1):=by rw [List.getElem_take,lW (by omega)]
  rw [show decide ((n:Int)>((0:Nat):Int))=true by simpa using h0,e,bj hlt];simp only [ip,bsm,hk];by_cases h2:kd l (n-1)=2
  ·rw [af (by simpa using h2),af ⟨h0,h2⟩,lj hlt];rfl
  ·rw [ae (by simpa using h2),ae (fun h=>h2 h.2)];rfl
 ·rw [show decide ((n:Int)>((0:Nat):Int))=false by simpa using h0,ae (fun h=>h0 h.1)];simp only [iu,bsm,ak,aY]
theorem HW (hs:Snd l){w n:Nat}(hn:n=min w l.length) (w1:1<=w) (l1:1<=l.length):(if 0<n/\kd l (n-1)=2 then (l.take n).set (n-1) bl else l.take n)++List.replicate (w-n) bl=rz l w:=by
 have hlen:(if 0<n/\kd l (n-1)=2 then (l.take n).set (n-1) bl else l.take n).length=n:=by split <;> simp <;> omega
 refine bY fun j=>?_;rcases aU j w with h|h
 ·rw [yR h];rcases aU j n with hj|hj
  ·rw [aG (by omega)];have hjl:j<l.length:=by omega
   have g:l.getD j bl=l[j]:=by rw [aw,ag hjl]; rfl
   unfold rzc;split
   ·rename_i h2
    rw [mT];by_cases e:n-1=j
    ·subst e;rw [af rfl,af (by simp; omega),ae];rintro ⟨_,h5|h5⟩
     ·have:=hs.two h2.2;have:=vU (l:=l) (j:=n-1+1) (by omega);omega
     ·exact h5 h2.2
    ·rw [ae e,aX,af hj,ag hjl,af ⟨hjl,by omega⟩,g]
   ·rename_i h2
    rw [aX,af hj,ag hjl,af,g];refine ⟨hjl,?_⟩;by_cases e:j+1<w
    ·exact .inl e
    ·right
     intro h3;exact h2 ⟨by omega,by rw [show n-1=j by omega]; exact h3⟩
  ·rw [aM (by omega),hlen,oS,af (by omega)];unfold rzc;rw [ae (by omega)]
 ·rw [aT (by rw [ao,hlen,mL]; omega),aT (by rw [vn]; exact h)]
theorem BD {wr:Bool}(h:s.row_Row[k]? = some ⟨l,wr⟩) (hs:Snd l) (l1:1<=l.length) (l2:l.length<=1024){w:Nat}(w1:1<=w) (w2:w<=1024):
  kx s (some k) w=some (s.add_row_Row ⟨rz l w,false⟩,some s.row_Row.length):=by
 have e1:aK 1 (aE (w:Int) 1024)=(w:Int):=by rw [dL,fK]; omega
 unfold kx;rw [e1];simp only [bS,ak,aY,td h (by omega) hs.sht,jX h,bsm];obtain ⟨n,hn⟩:∃n,n=min w l.length:=⟨_,rfl⟩;rw [show aE (w:Int) (l.length:Int)=(n:Int) by rw [dL]; omega,Gi (by omega) l2];have hlen:(if 0<n/\kd l (n-1)=2 then (l.take n).set (n-1) bl else l.take n).length=n:=by split <;> simp <;> omega
 have hcr:=HW hs hn w1 l1;generalize (if 0<n/\kd l (n-1)=2 then (l.take n).set (n-1) bl else l.take n)=c at *;simp only [bsm];rw [hlen,aJ (by omega),vM];simp only [bsm];rw [show (max 0 (min ((w:Int)-(n:Int)) 1024)).toNat=w-n by omega,cO (by simp; omega),hcr];simp only [bsm];unfold uP;rw [Hn (by rw [vn]; exact w1) (by rw [vn]; exact w2) (DN hs w)];rfl
theorem Bn (l:List ab) (hl:l.length<=1000000){w:Nat}(w1:1<=w) (w2:w<=1024):eD l w=some (rz l w):=by
 have e1:aK 1 (aE (w:Int) 1024)=(w:Int):=by rw [dL,fK]; omega
 unfold eD;rw [e1,pJ _ (by omega),show (⟨0,[]⟩:ab)=bl from rfl,bE];simp only [bsm];obtain ⟨t,h3,h4⟩:=eV (σ:=(List ab)×Int) (τ:=(List ab)) (n:=min w l.length) (fuel:=((w:Int)-0).toNat+1) (s:=(List.replicate w bl,0))
  (fun i q=>q=((List.range w).map (fun j=>if j<i then rzc l w j else bl),(i:Int))) (fun t=>t=rz l w)
  (step:=fun s_14=>
 (bL (decide (s_14.2<(w:Int))) (some (decide (s_14.2<(l.length:Int))))).bind fun d_18=>
 if d_18 then
 ((orE (decide ((w64 (s_14.2+1))<(w:Int))) ((idx l s_14.2).bind fun x_34=>
 some (x_34.Kind != 2))).bind fun d_30=>
 if d_30 then
 (idx l s_14.2).bind fun x_43=>
 (idx s_14.1 s_14.2).bind fun x_45=>
 (oK s_14.1 s_14.2 x_43).bind fun w_46=>
 (some w_46:Option ((List ab)))
 else
 (some s_14.1:Option ((List ab)))).bind fun z_25=>
 some (.inl (z_25,(w64 (s_14.2+1))))
 else
 some (.inr s_14.1))
  (fun i q hi e=>by
   subst e;refine .inl ⟨_,?_,rfl⟩;have e5:w64 ((i:Int)+1)=((i+1:Nat):Int):=by rw [aJ (by omega)]; simp
   have hil:i<l.length:=by omega
   have hd:(decide ((i:Int)<(w:Int)) && decide ((i:Int)<(l.length:Int)))=true:=by simp; omega
   have hlt:i<((List.range w).map (fun j=>if j<i then rzc l w j else bl)).length:=by simp; omega
   have ho:(orE (decide (((i+1:Nat):Int)<(w:Int))) ((idx l (i:Int)).bind fun x_34=>some (x_34.Kind != 2)))=some (decide (i+1<w\/kd l i≠2)):=by
    rw [bj hil];simp only [bsm,bu,<-lW hil,aV];rw [cu];simp only [aC,am,nv];omega
   simp only [bb,bsm,hd,bA,e5];rw [ho];simp only [bsm];have hnext:∀c:ab,c=rzc l w i->((List.range w).map (fun j=>if j<i then rzc l w j else bl)).set i c=(List.range w).map (fun j=>if j<i+1 then rzc l w j else bl):=fun c hc=>by
    refine bY fun j=>?_;rw [mT];by_cases e:i=j
    ·subst e;rw [af rfl,af hlt,bO,dI (by omega),hc];simp
    ·rw [ae e,bO,bO];rcases aU j w with hj|hj
     ·rw [dI hj];simp only [ga,aV];by_cases h5:j<i
      ·rw [af h5,af (by omega)]
      ·rw [ae h5,ae (by omega)]
     ·rw [aT (by simpa using hj)];rfl
   by_cases hc:i+1<w\/kd l i≠2
   ·rw [af (by simpa using hc),bj hil,bj hlt];simp only [bsm];rw [lj hlt,hnext l[i] (by
     unfold rzc;rw [af ⟨hil,hc⟩,aw,ag hil];rfl)]
    rfl
   ·rw [ae (by simpa using hc)];simp only [bsm];have hb:rzc l w i=bl:=by
     unfold rzc;rw [ae (fun h=>hc h.2)]
    have:=hnext bl hb.symm;rw [<-this]
    congr 3
    refine (bY fun j=>?_).symm;rw [mT];by_cases e:i=j
    ·subst e;rw [af rfl,af hlt,bO,dI (by omega)];simp
    ·rw [ae e])
  (fun q e=>⟨q.1,by
   subst e;have hd:(decide (((min w l.length:Nat):Int)<(w:Int)) && decide (((min w l.length:Nat):Int)<(l.length:Int)))=false:=by
    rw [tY];simp only [vT,aA,am];omega
   simp only [bb,bsm,hd,ak,aY],by
   subst e;simp only;unfold rz;refine dH fun j hj=>?_;rw [List.mem_range] at hj;by_cases h5:j<min w l.length
   ·rw [af h5]
   ·rw [ae h5];unfold rzc;rw [ae (by omega)]⟩)
  (by
   simp only [Ds,aY,iP];refine ⟨?_,rfl⟩;rw [Ki,tX]) (by omega)
 subst h4;rw [h3];rfl
def cs (L:List aj) (n:Nat):List ab:=(L.getD n ⟨[],false⟩).Cells
def rs (L:List aj) (top w h:Nat):List aj:=(List.range h).map fun m=>⟨rz (cs L (top+m)) w,false⟩
def rsi (L:List aj) (top w h i:Nat):List aj:=(List.range h).map fun m=>if m<i then ⟨rz (cs L (top+m)) w,false⟩ else ⟨List.replicate w bl,false⟩
theorem BF {L:List aj}{n:Nat}(h:L.length<=n):cs L n= []:=by
 unfold cs;rw [aw,aT h];rfl
theorem EG {L:List aj}{n:Nat}(h:n<L.length):cs L n=L[n].Cells:=by
 unfold cs;rw [aw,ag h];rfl
theorem B0 (L:List aj) (top w:Nat){h i:Nat}(hi:i<h):(rsi L top w h i).set i ⟨rz (cs L (top+i)) w,false⟩=rsi L top w h (i+1):=by
 unfold rsi;refine bY fun j=>?_;rw [mT,cC,tX];by_cases e:i=j
 ·subst e;rw [af rfl,af hi,bO,dI hi];simp
 ·rw [ae e,bO,bO];rcases aU j h with hj|hj
  ·rw [dI hj];simp only [ga,aV];by_cases h5:j<i
   ·rw [af h5,af (by omega)]
   ·rw [ae h5,ae (by omega)]
  ·rw [aT (by simpa using hj)];rfl
theorem DQ (L:List aj){top w h i:Nat}(ho:L.length<=top+i) (hi:i<h):rsi L top w h (i+1)=rsi L top w h i:=by
 rw [<-B0 L top w hi,BF ho,Hm];refine bY fun j=>?_;rw [mT];by_cases e:i=j
 ·subst e;unfold rsi;rw [af rfl,af (by simp; exact hi),bO,dI hi];simp
 ·rw [ae e]
theorem FA (L:List aj) (top w h:Nat):rsi L top w h h=rs L top w h:=by
 unfold rsi rs;refine dH fun m hm=>?_;rw [List.mem_range] at hm;rw [af hm]
theorem DP (L:List aj) (top w h:Nat):rsi L top w h 0=bls w h:=by
 unfold rsi bls;simp only [Ds,aY];rw [Ki,tX]
theorem HF {xs:List Nat}(nd:xs.Nodup){x i:Nat}(hx:x∉xs):(xs.set i x).Nodup:=by
 rw [List.Nodup,List.pairwise_iff_getElem] at *;intro a b ha hb hab;rw [cz] at ha hb;rw [J8,J8];split
 ·split
  ·omega
  ·exact fun e=>hx (e▸ aF hb)
 ·split
  ·exact fun e=>hx (e▸ aF ha)
  ·exact nd a b ha hb hab
theorem Gw.sgo {g2:Nat}(h:Gw s g ks W) (hne:g2≠g) (x:ck):Gw (s.sg g2 x) g ks W:=
 ⟨by rw [<-h.g]; simp [Sto.sg,bh hne],h.r,h.h1,h.h2,h.w1,h.w2⟩
theorem Gw.addg (h:Gw s g ks W) (x:ck):Gw (s.add_grid_Grid x) g ks W:=
 ⟨by rw [<-h.g]; simp only [Sto.add_grid_Grid]; exact aG (cY h.g),h.r,h.h1,h.h2,h.w1,h.w2⟩
theorem Rf.more {s':Sto}{g2:Nat}{ks':List Nat}(h:Rf s s' g ks g2 ks') (hg2:s.grid_Grid.length<=g2) (xs:List br) (x:ck) (i:Nat):Rf s ((s'.addr xs).sg g2 x) g ks g2 (ks'.set i s'.row_Row.length):=by
 have e:((s'.addr xs).sg g2 x).row_Row=s'.row_Row++xs:=rfl;have e2:((s'.addr xs).sg g2 x).grid_Grid=s'.grid_Grid.set g2 x:=rfl;have hr:=h.rl;refine ⟨by rw [e2,cz]; exact h.gl,by rw [e,ao]; omega,fun j a b=>by rw [e2,bh (by omega)]; exact h.gr j a b,fun j a b=>by rw [e,aG (by omega)]; exact h.rw j a b,h.ng,fun r hr=>?_⟩;rcases Fg hr with q|rfl
 ·exact h.nr r q
 ·exact .inr h.rl
theorem Rf.begun (xs:List br) (x:ck){g2:Nat}(hg2:g2=s.grid_Grid.length) (m:Nat):Rf s ((s.addr xs).add_grid_Grid x) g ks g2 (List.range' s.row_Row.length m):=by
 subst hg2;refine ⟨by simp [Sto.add_grid_Grid,Sto.addr],by simp [Sto.add_grid_Grid,Sto.addr],fun j hj _=>?_,fun j hj _=>?_,.inr (aq _),fun r hr=> .inr (List.mem_range'_1.1 hr).1⟩
 ·simp only [Sto.add_grid_Grid,Sto.addr]; exact aG hj
 ·simp only [Sto.add_grid_Grid,Sto.addr]; exact aG hj
theorem CC (h:Pv C s k g W q ks){w hh top:Nat}(w1:1<=w) (w2:w<=1024) (h1:1<=hh) (h2:hh<=1024) (ht:top<=1024){g2:Nat}(hg2:g2=s.grid_Grid.length):
  ∃s' ks',cH (σ:=Int×Sto) (τ:=Sto) (((hh:Int)-0).toNat+1) (fun s_54=>
 if decide (s_54.1<(hh:Int)) then
 ((s_54.2.place_Pen[k]?).bind fun o_64=>
 (bF s_54.2 o_64.G (w64 ((top:Int)+s_54.1))).bind fun x_68=>
 if (!x_68.isNone)=true then
 (kx s_54.2 x_68 (w:Int)).bind fun x_78=>
 (fi x_78.1 (some g2) s_54.1 x_78.2).bind fun x_79=>
 (some x_79.1:Option Sto)
 else
 (some s_54.2:Option Sto)).bind fun z_57=>
 some (.inl ((w64 (s_54.1+1)),z_57))
 else
 some (.inr s_54.2)) (0,(s.addr ((bls w hh).map lr)).add_grid_Grid ⟨(List.range' s.row_Row.length hh).map some⟩)=some s'/\
  Gw s' g2 ks' w/\ks'.Nodup/\ks'.map (ln s')=rs q.L top w hh/\s'.rst=s.rst/\Rf s s' g ks g2 ks':=by
 have hb:(bls w hh).length=hh:=by simp [bls]
 have h0:((bls w hh)[0]'(by omega)).Cells.length=w:=by simp [bls]
 obtain ⟨b1,b2⟩:=GW (s:=s) (L:=bls w hh) (by omega) (by omega) (ET w1 w2 h1);rw [h0,<-hg2] at b1;rw [hb] at b1 b2;have hgl:=cY h.g.g;obtain ⟨t,e1,e2⟩:=eV (σ:=Int×Sto) (τ:=Sto) (n:=hh) (fuel:=((hh:Int)-0).toNat+1) (s:=(0,(s.addr ((bls w hh).map lr)).add_grid_Grid ⟨(List.range' s.row_Row.length hh).map some⟩))
  (fun i q2=>q2.1=(i:Int)/\q2.2.rst=s.rst/\Gw q2.2 g ks W/\ks.map (ln q2.2)=q.L/\∃ks',Gw q2.2 g2 ks' w/\ks'.Nodup/\ks'.length=hh/\ks'.map (ln q2.2)=rsi q.L top w hh i/\Rf s q2.2 g ks g2 ks')
  (fun t=>t.rst=s.rst/\∃ks',Gw t g2 ks' w/\ks'.Nodup/\ks'.map (ln t)=rs q.L top w hh/\Rf s t g ks g2 ks')
  (step:=fun s_54=>
 if decide (s_54.1<(hh:Int)) then
 ((s_54.2.place_Pen[k]?).bind fun o_64=>
 (bF s_54.2 o_64.G (w64 ((top:Int)+s_54.1))).bind fun x_68=>
 if (!x_68.isNone)=true then
 (kx s_54.2 x_68 (w:Int)).bind fun x_78=>
 (fi x_78.1 (some g2) s_54.1 x_78.2).bind fun x_79=>
 (some x_79.1:Option Sto)
 else
 (some s_54.2:Option Sto)).bind fun z_57=>
 some (.inl ((w64 (s_54.1+1)),z_57))
 else
 some (.inr s_54.2))
  (fun i q2 hi ⟨e,hp,hg,hl,ks',c1,c2,c3,c4,c5⟩=>by
   obtain ⟨j,st⟩:=q2;simp only at e hp hg hl c1 c2 c3 c4 c5;subst e;have e5:w64 ((i:Int)+1)=((i+1:Nat):Int):=by rw [aJ (by omega)]; simp
   have e6:w64 ((top:Int)+(i:Int))=((top+i:Nat):Int):=by rw [aJ (by omega)]; simp
   have hd:decide ((i:Int)<(hh:Int))=true:=by simp; exact hi
   simp only [hd,bA,lL hp,h.p,bsm,e5,e6];have hlen:=h.len;by_cases ho:top+i<ks.length
   ·rw [fL hg ho];simp only [bsm,bS,fe,bA];obtain ⟨r,r1,r2,r3⟩:=hg.at ho;have hr:=BD (l:=r.cells) (wr:=r.wrap) r1 r2 (by rw [r3]; exact hg.w1) (by rw [r3]; exact hg.w2) w1 w2;rw [hr];simp only [bsm];have ea:st.add_row_Row ⟨rz r.cells w,false⟩=st.addr [⟨rz r.cells w,false⟩]:=by simp [Sto.add_row_Row,Sto.addr]
    rw [ea];have c1':=c1.addr (xs:=[⟨rz r.cells w,false⟩]);have hg':=hg.addr (xs:=[⟨rz r.cells w,false⟩]);have hnew:(st.addr [⟨rz r.cells w,false⟩]).row_Row[st.row_Row.length]? = some ⟨rz r.cells w,false⟩:=by simp [Sto.addr]
    have hrw:Rw (st.addr [⟨rz r.cells w,false⟩]) w st.row_Row.length:=⟨_,hnew,DN r2 w,vn _ _⟩;rw [Az c1' (show i<ks'.length by omega) hrw];simp only [bsm];have hL:cs q.L (top+i)=r.cells:=by
     rw [EG (by rw [<-hl]; simpa using ho)];have:q.L[top+i]? = (ks.map (ln st))[top+i]? :=by rw [hl]
     rw [ag (by rw [<-hl]; simpa using ho),bO,ag ho,ga,oX r1] at this;rw [bi this]
    refine .inl ⟨_,rfl,rfl,hp,hg'.sgo (by omega) _,?_,ks'.set i st.row_Row.length,c1'.set hrw,HF c2 fun hm=>absurd (c1.r _ hm).lt (Nat.lt_irrefl _),by rw [cz]; exact c3,?_,c5.more (by omega) _ _ _⟩
    ·rw [<-hl];refine dH fun x hx=>?_;rw [Ar];exact xd (hg.r x hx).lt
    ·rw [<-B0 _ _ _ hi,<-c4,hL,List.map_set,Ar,oX hnew]
     congr 1
     refine dH fun x hx=>?_;rw [Ar];exact xd (c1.r x hx).lt
   ·rw [uM hg (.inr (by omega))];simp only [bsm,Option.isNone_none,dA,ak,aY];exact .inl ⟨_,rfl,rfl,hp,hg,hl,ks',c1,c2,c3,by rw [DQ _ (by omega) hi]; exact c4,c5⟩)
  (fun q2 ⟨e,hp,_,_,ks',c1,c2,_,c4,c5⟩=>⟨q2.2,by
   have hd:decide (q2.1<(hh:Int))=false:=by rw [e]; simp
   simp only [hd,ak,aY],hp,ks',c1,c2,by rw [c4,FA],c5⟩)
  ⟨rfl,rfl,(h.g.addr (xs:=(bls w hh).map lr)).addg _,by
   rw [<-h.l];refine dH fun x hx=>?_;exact xd (h.g.r x hx).lt,_,b1,J0,by simp,by rw [DP]; exact b2,Rf.begun _ _ hg2 _⟩ (by omega)
 obtain ⟨p1,ks',p2,p3,p4,p5⟩:=e2;exact ⟨t,ks',e1,p2,p3,p4,p1,p5⟩
def tp (c:ai) (h:Nat):Nat:=(c.Row-h+1).toNat
theorem II (h:Pv C s k g W q ks) (a b:Int):dE q a b=some ⟨rs q.L (tp (hc q.At W ks.length) (sd b)) (sd a) (sd b),⟨(hc q.At W ks.length).Row-tp (hc q.At W ks.length) (sd b),min (hc q.At W ks.length).Col ((sd a:Int)-1),false⟩,q.Auto⟩:=by
 have hd:=uK q.At h.g.w1 h.g.h1;have hl:=h.len;have hh2:=h.g.h2;have ha:=uC a;have hb:=uC b;have side:∀n:Int,cg n=some (sd n:Int):=fun n=>by
  unfold cg;by_cases h1:n<1
  ·rw [af (by simpa using h1)]
   congr 1
   unfold sd;omega
  ·rw [ae (by simpa using h1)];by_cases h2:n>1024
   ·rw [af (by simpa using h2)]
    congr 1
    unfold sd;omega
   ·rw [ae (by simpa using h2)]
    congr 1
    unfold sd;omega
 unfold dE;rw [qb h];generalize hc q.At W ks.length=c at *;have hr:=hd.rr;simp only [bsm,side];obtain ⟨t,e1,e2⟩:=eV (σ:=(List aj)×Int) (τ:=((List aj)×Int)) (n:=tp c (sd b)) (fuel:=(c.Row-(sd b:Int)).toNat+2) (s:=(q.L,c.Row))
  (fun i q2=>q2=(q.L.drop i,c.Row-i)) (fun t=>t=(q.L.drop (tp c (sd b)),c.Row-tp c (sd b)))
  (step:=fun s_25=>
 if decide (s_25.2>=(sd b:Int)) then
 (slc s_25.1 1 s_25.1.length).bind fun x_32=>
 some (.inl (x_32,(w64 (s_25.2-1))))
 else
 some (.inr (s_25.1,s_25.2)))
  (fun i q2 hi e=>by
   subst e;refine .inl ⟨_,?_,rfl⟩;unfold tp at hi;have hd:decide (c.Row-(i:Int)>=(sd b:Int))=true:=by simp; omega
   simp only [hd,bA];rw [show (1:Int)=((1:Nat):Int) from rfl,mI (by simp; omega) (aq _),aJ (by omega)];simp only [bsm,dd];rw [aB (by simp; omega)]
   congr 3
   omega)
  (fun q2 e=>⟨q2,by
   subst e;have hd:decide (c.Row-(tp c (sd b):Int)>=(sd b:Int))=false:=by
    unfold tp;simp;omega
   simp only [hd,ak,aY],e⟩)
  (by simp) (by unfold tp; omega)
 subst e2;rw [e1];simp only [bsm];obtain ⟨t,e3,e4⟩:=eV (σ:=(List aj)×Int) (τ:=(List aj)) (n:=sd b) (fuel:=((sd b:Int)-0).toNat+1) (s:=(([]:List aj),0))
  (fun i q2=>q2=((rs q.L (tp c (sd b)) (sd a) (sd b)).take i,(i:Int))) (fun t=>t=rs q.L (tp c (sd b)) (sd a) (sd b))
  (step:=fun s_45=>
 if decide (s_45.2<(sd b:Int)) then
 (if (decide (s_45.2<((q.L.drop (tp c (sd b))).length:Int)))=true then
 (idx (q.L.drop (tp c (sd b))) s_45.2).bind fun x_60=>
 (some x_60.Cells:Option ((List ab)))
 else
 (some (([]:List ab)):Option ((List ab)))).bind fun z_52=>
 (eD z_52 (sd a:Int)).bind fun x_68=>
 (app s_45.1 ([(⟨x_68,false⟩:aj)]:List aj)).bind fun x_71=>
 some (.inl (x_71,(w64 (s_45.2+1))))
 else
 some (.inr s_45.1))
  (fun i q2 hi e=>by
   subst e;refine .inl ⟨_,?_,rfl⟩;have e5:w64 ((i:Int)+1)=((i+1:Nat):Int):=by rw [aJ (by omega)]; simp
   have hd:decide ((i:Int)<(sd b:Int))=true:=by simp; exact hi
   have hz:(if (decide ((i:Int)<((q.L.drop (tp c (sd b))).length:Int)))=true then (idx (q.L.drop (tp c (sd b))) (i:Int)).bind fun x_60=>(some x_60.Cells:Option ((List ab))) else (some (([]:List ab)):Option ((List ab))))=some (cs q.L (tp c (sd b)+i)):=by
    by_cases ho:i<(q.L.drop (tp c (sd b))).length
    ·rw [af (by simpa using ho),bj ho];have ho2:tp c (sd b)+i<q.L.length:=by simp at ho; omega
     rw [EG ho2];simp only [bsm,J2]
    ·rw [ae (by simpa using ho),BF (by simp at ho; omega)]
   simp only [hd,bA,e5];rw [hz];simp only [bsm];have hcl:(cs q.L (tp c (sd b)+i)).length<=1000000:=by
    by_cases ho:tp c (sd b)+i<q.L.length
    ·rw [EG ho,(h.ok _ (aF ho)).2];have:=h.g.w2;omega
    ·rw [BF (by omega)];simp
   rw [Bn _ hcl ha.1 ha.2];simp only [bsm];have hlt:i<(rs q.L (tp c (sd b)) (sd a) (sd b)).length:=by simp [rs]; exact hi
   rw [cO (by simp; omega),an hlt];simp [rs])
  (fun q2 e=>⟨q2.1,by subst e; simp,by subst e; simp only; rw [aB (by simp [rs])]⟩)
  (by simp) (by omega)
 subst e4;rw [e3];simp only [bsm];rw [aJ (by omega),dL]
theorem BW (h:Pv C s k g W q ks) (a b:Int):∃s' q' g' ks',jO s (some k) a b=some s'/\dE q a b=some q'/\Pv C s' k g' (sd a) q' ks'/\q'.L=rs q.L (tp (hc q.At W ks.length) (sd b)) (sd a) (sd b)/\Hd q'.At (sd a) (sd b):=by
 have hd:=uK q.At h.g.w1 h.g.h1;have hh2:=h.g.h2;have ha:=uC a;have hb:=uC b;have sdd:∀n:Int,aK 1 (aE n 1024)=(sd n:Int):=fun n=>by
  rw [dL,fK];unfold sd;omega
 have hc1:=qr q.At h.g.w1 h.g.w2 h.g.h1 h.g.h2;have h39:=II h a b;generalize hc q.At W ks.length=c at *;have hr:=hd.rr;have hcc:=hd.cc;have etp:aK 0 (w64 ((w64 (c.Row-(sd b:Int)))+1))=(tp c (sd b):Int):=by
  rw [aJ (n:=c.Row-(sd b:Int)) (by omega),aJ (by omega),fK];unfold tp;omega
 obtain ⟨s',ks',e1,g1,g2,g3,g4,g5⟩:=CC h ha.1 ha.2 hb.1 hb.2 (top:=tp c (sd b)) (by unfold tp; omega) rfl;have hgn:=AA (s:=s) (sd a:Int) (sd b:Int);rw [BZ ha.1 ha.2,BZ hb.1 hb.2] at hgn;have hp':s'.place_Pen[k]? = some ⟨some g,q.At,q.Auto⟩:=by rw [lL g4]; exact h.p
 have hmv:jQ (c.Row-(tp c (sd b):Int)) c.Col (sd a:Int) (sd b:Int)=some ⟨c.Row-tp c (sd b),min c.Col ((sd a:Int)-1),false⟩:=by
  unfold jQ;rw [qr _ ha.1 ha.2 hb.1 hb.2];simp only [bsm,hc,aV,ai.mk.injEq,nE,xF];unfold tp;omega
 refine ⟨(s'.sp k ⟨some s.grid_Grid.length,q.At,q.Auto⟩).sp k ⟨some s.grid_Grid.length,⟨c.Row-tp c (sd b),min c.Col ((sd a:Int)-1),false⟩,q.Auto⟩,_,s.grid_Grid.length,ks',?_,h39,?_,rfl,⟨by simp only; unfold tp; omega,by simp only; omega,fun e=>by cases e⟩⟩
 ·unfold jO;simp only [bS,ig,bsm,h.p,ak,aY];rw [jE h.g,eM h.g];simp only [bsm,sdd];rw [hc1];simp only [bsm];rw [hgn];simp only [bsm,etp];rw [e1];simp only [bsm,hp'];rw [jJ (cY hp')];simp only [bsm];rw [aJ (by unfold tp; omega),hmv];simp only [bsm];rw [jJ (by simp [Sto.sp]; exact cY hp')];rfl
 ·rw [yb];exact ⟨yN (cY hp'),g1.sp _ _,g2,g3,(tc g4).trans h.o,(h.f.step g5 (lL g4)).sp _⟩
end Go.Proofs.YtclmdpamofdoiaaGreatDoor
namespace Go.Proofs.YtclmdpamofdoiaaGreatDoor
open Go Go.Lt
variable {s C:Sto}{x f k g W H:Nat}{q P:aa}{ks:List Nat}{op:Option Nat}
structure Mo where
 P:aa
 G:List Int
 h:List Int
structure Sd (C s:Sto) (x f k:Nat) (m:Mo) (q:aa):Prop where
 sc:s.screen_Screen[x]? = some ⟨some f,some k⟩
 bt:Bts m.h
 fd:∃g W H ks op,Fd C s f k g W H m.P m.G m.h q ks op
def lay (P:aa) (G:List Int):Option aa:=fo oL P (cls pj pr G)
def mdo (m:Mo) (o:aH):Option Mo:=
 if o.Kind=0 then some ⟨m.P,m.G++(aZ m.h o.Bytes).1,(aZ m.h o.Bytes).2⟩
 else if o.Kind=1 then (lay m.P (m.G++(if m.h= [] then [] else [65533]))).map fun q=>⟨q,[],[]⟩
 else if o.Kind=13 then (lay m.P m.G).bind fun q=>(dE q o.A o.B).map fun q'=>⟨q',[],m.h⟩
 else if w38 o=0 then (lay m.P m.G).bind fun q=>(gA q o).map fun q'=>⟨q',[],m.h⟩
 else some m
def w40 (o:aH):Int:=if o.Kind=0\/o.Kind=1\/o.Kind=13 then 0 else w38 o
def e40 (o:aH):Er:=if o.Kind=0\/o.Kind=1\/o.Kind=13 then Er.nil else e38 o
theorem Fd.pen_work {h:List Int}(F:Fd C s f k g W H P [] h q ks none){s':Sto}{g' W':Nat}{q':aa}{ks':List Nat}(v:Pv s s' k g' W' q' ks') (hh:Hd q'.At W' ks'.length):Fd C s' f k g' W' ks'.length q' [] h q' ks' none:=by
 obtain ⟨d,hd,hdv⟩:=F.d;refine ⟨v.self,F.fr.trans F.v.oG F.v.oR v.f,F.fz.oth v.o,rfl,hh,rfl,F.gv,⟨d,?_,hdv⟩,fun _=>rfl,fun e=>by cases e⟩;rw [qD v.o];exact hd
theorem yg {m:Mo}(S:Sd C s x f k m q) (o:aH) (hb:Bts o.Bytes) (hl:o.Bytes.length<=9223372036854775807):∃s' m' q',iR s (some x) o=some (s',e40 o)/\mdo m o=some m'/\Sd C s' x f k m' q':=by
 obtain ⟨g,W,H,ks,op,F⟩:=S.fd;have hC:C.screen_Screen[x]? = some ⟨some f,some k⟩:=by rw [<-F.fz.sc]; exact S.sc
 have hs:∀{s':Sto}{g W H:Nat}{P:aa}{G h:List Int}{q:aa}{ks:List Nat}{op:Option Nat},Fd C s' f k g W H P G h q ks op->s'.screen_Screen[x]? = some ⟨some f,some k⟩:=fun F'=>by rw [F'.fz.sc]; exact hC
 unfold iR mdo e40;simp only [bS,ak,aY,bsm,aQ,S.sc];by_cases k0:o.Kind=0
 ·obtain ⟨s',q',ks',op',b1,b2⟩:=De F S.bt hl hb;rw [af k0,af k0,af (.inl k0),b1];exact ⟨s',_,q',rfl,rfl,hs b2,tg S.bt hb,⟨_,_,_,_,_,b2⟩⟩
 rw [ae k0,ae k0];by_cases k1:o.Kind=1
 ·obtain ⟨s',q',ks',b1,b2,b3⟩:=Dd F;rw [af k1,af k1,af (.inr (.inl k1)),b1];unfold lay;rw [b3];exact ⟨s',_,q',rfl,rfl,hs b2,Bts.nil,⟨_,_,_,_,_,b2⟩⟩
 rw [ae k1,ae k1];by_cases k13:o.Kind=13
 ·obtain ⟨s2,b1,b2⟩:=vF F;obtain ⟨s',q',g',ks',c1,c2,c3,c4,c5⟩:=BW b2.v o.A o.B;have hkl:ks'.length=sd o.B:=by rw [<-c3.len,c4]; simp [rs]
  rw [af k13,af k13,af (.inr (.inr k13)),b1];have hl2:lay m.P m.G=some q:=F.l;simp only [bsm,hs b2,hl2];rw [c1,c2];have F2:=b2.pen_work c3 (by rw [hkl]; exact c5);exact ⟨s',_,q',rfl,rfl,hs F2,S.bt,⟨_,_,_,_,_,F2⟩⟩
 rw [ae k13,ae k13,ae (by omega),ud];simp only [bsm,zi];by_cases hw:w38 o=0
 ·rw [ae (by simp [hw]),af hw];obtain ⟨s2,b1,b2⟩:=vF F;obtain ⟨s',q',ks',c1,c2,c3,c4,c5,_⟩:=Cn b2.v o hw;rw [b1];have hl2:lay m.P m.G=some q:=F.l;simp only [bsm,hs b2,hl2];rw [c1,c2];have he:e38 o=Er.nil:=by unfold e38; rw [hw]; rfl
  have F2:=b2.pen_work c3 (by rw [c4]; exact c5);exact ⟨s',_,q',by rw [he]; rfl,rfl,hs F2,S.bt,⟨_,_,_,_,_,F2⟩⟩
 ·rw [af (by simpa using hw),ae hw];exact ⟨s,m,q,rfl,rfl,S⟩
def vw (q:aa):eG:=⟨(q.L.getD 0 dl).Cells.length,(q.L.length:Int),q.L,q.At,q.Auto⟩
theorem zU {m:Mo}(S:Sd C s x f k m q):gW s (some x)=some (vw q):=by
 obtain ⟨g,W,H,ks,op,F⟩:=S.fd;unfold gW vw;simp only [bS,ak,aY,bsm,S.sc,F.v.p];rw [jE F.v.g,eM F.v.g,xk F.v.g,F.v.l];simp only [bsm];have hl:=F.v.len;have h1:=F.v.g.h1;rw [gdl (show 0<q.L.length by omega),(F.v.ok _ (aF (show 0<q.L.length by omega))).2,hl]
theorem Sd.ok {m:Mo}(S:Sd C s x f k m q):∃W:Nat,1<=W/\W<=1024/\1<=q.L.length/\q.L.length<=1024/\(∀l∈q.L,Okl W l)/\(vw q).Wide=(W:Int)/\Hd q.At W q.L.length:=by
 obtain ⟨g,W,H,ks,op,F⟩:=S.fd;have hl:=F.v.len;have h1:=F.v.g.h1;have h2:=F.v.g.h2;refine ⟨W,F.v.g.w1,F.v.g.w2,by omega,by omega,F.v.ok,?_,by rw [hl,F.n]; exact F.hd⟩;unfold vw;rw [gdl (show 0<q.L.length by omega),(F.v.ok _ (aF (show 0<q.L.length by omega))).2]
theorem Bh (s:Sto) (w h:Int):∃s',mW s w h=some (s',some s.screen_Screen.length)/\Sd s' s' s.screen_Screen.length s.feed_Feeder.length s.place_Pen.length ⟨⟨bls (sd w) (sd h),⟨0,0,false⟩,true⟩,[],[]⟩ ⟨bls (sd w) (sd h),⟨0,0,false⟩,true⟩:=by
 obtain ⟨s1,ks,h1,v1⟩:=yp (s:=s) w h;have hks:=v1.g.h1;have hW1:=v1.g.w1;obtain ⟨s2,h2,d2,e2⟩:=EC v1.self ⟨by simp only; omega,by simp only; omega,fun e=>by cases e⟩;unfold mW;rw [h1];simp only [bsm];rw [h2];simp only [bsm];have es:s1.screen_Screen=s.screen_Screen:=yY v1.o;have ef:s1.feed_Feeder=s.feed_Feeder:=qD v1.o;have es2:s2.screen_Screen=s1.screen_Screen:=by rw [e2]; rfl
 rw [es2,es,ef];rw [ef] at d2;refine ⟨_,rfl,⟨?_,Bts.nil,⟨s.grid_Grid.length,sd w,ks.length,ks,none,?_⟩⟩⟩
 ·have:(s2.add_screen_Screen ⟨some s.feed_Feeder.length,some s.place_Pen.length⟩).screen_Screen=s2.screen_Screen++ [⟨some s.feed_Feeder.length,some s.place_Pen.length⟩]:=rfl;rw [this,es2,es];simp
 ·obtain ⟨d,hd,hdv⟩:=d2.d;refine ⟨⟨d2.v.p,⟨d2.v.g.g,d2.v.g.r,d2.v.g.h1,d2.v.g.h2,d2.v.g.w1,d2.v.g.w2⟩,d2.v.nd,d2.v.l,rfl,d2.v.f.rgp ⟨rfl,rfl,rfl⟩ ⟨rfl,rfl,rfl⟩⟩,d2.v.f.rgp ⟨rfl,rfl,rfl⟩ ⟨rfl,rfl,rfl⟩,Fz.self _ _ _ (fun y hy=>?_) (cY hd),rfl,d2.hd,rfl,fun y hy=>by simp at hy,⟨d,hd,hdv⟩,fun _=>rfl,fun e=>by cases e⟩;have hy':s2.feed_Feeder[s.feed_Feeder.length]? = some y:=hy;rw [hd] at hy';cases hy';rfl
end Go.Proofs.YtclmdpamofdoiaaGreatDoor
namespace Go.Proofs.YtclmdpamofdoiaaGreatDoor
open Go Go.Lt
theorem Ed {γ:Type}{x:Option (γ×Bool)}(h:x.map (fun q=>q.2)=some true):∃s,x=some (s,true):=by
 cases x with
 | none=>cases h
 | some q=>
  obtain ⟨a,b⟩:=q;simp only [ga,aV] at h;subst h;exact ⟨a,rfl⟩
theorem HD {f:Sto->Option (Sto×Bool)}{s:Sto}(h1:(f s).map (fun q=>q.2)=some true) (h2:((f s).bind fun q=>f q.1).map (fun q=>q.2)=some true):∃s1 s2,f s=some (s1,true)/\f s1=some (s2,true):=by
 obtain ⟨s1,e1⟩:=Ed h1;rw [e1] at h2;obtain ⟨s2,e2⟩:=Ed h2;exact ⟨s1,s2,e1,e2⟩
theorem wf8 {n:Int}(h:(Lit.int .u8 n).wf=true):0<=n/\n<=255:=by
 simp only [Lit.wf,IntKind.min,IntKind.max,IntKind.signed,IntKind.bits,aA,am,ak,aY] at h;omega
end Go.Proofs.YtclmdpamofdoiaaGreatDoor
namespace Go.Proofs.YtclmdpamofdoiaaGreatDoor
open Go Go.Lt
variable {s C:Sto}{x f k g W H:Nat}{q P:aa}{ks:List Nat}{op:Option Nat}
def Obs (l:List aH):Prop:=∀o∈l,Bts o.Bytes/\o.Bytes.length<=9223372036854775807
theorem ml {α:Type}(f:α->Nat){l:List α}{i:Nat}(h:i<l.length):((l.take (i+1)).map f).sum=((l.take i).map f).sum+f l[i]:=by
 rw [an h,bC,Kh];simp
theorem rV {α:Type}(f:α->Nat) (l:List α) (i:Nat):((l.take i).map f).sum<=(l.map f).sum:=by
 conv=>rhs; rw [<-fI i l]
 rw [bC,Kh];omega
end Go.Proofs.YtclmdpamofdoiaaGreatDoor
namespace Go.Proofs.YtclmdpamofdoiaaGreatDoor
open Go Go.Lt
variable {s C:Sto}{x f k:Nat}{q q':aa}{F:ay}{m m':Mo}
def kF (l:List aH):Nat:=(l.map fun o=>o.Bytes.length).sum
theorem Dc (l:List aH) (hl:l.length<=9223372036854775807) (hb:∀o∈l,o.Bytes.length<=4611686018427387904):∃t,go l=some t/\(t=false->l.length<=50/\kF l<=600):=by
 unfold go;refine mO (σ:=Int×Int) (τ:=Bool ⊕ Unit) (n:=min l.length 60) (fun i (s:Int×Int)=>s=((kF (l.take i):Int),(i:Int))/\kF (l.take i)<=600) (fun u=>match u with|.inl b=>b=true|.inr _=>kF (l.take (min l.length 60))<=600) (fun i s hi e=>?_) (fun s e=>?_) ⟨rfl,by simp [kF]⟩ (by omega) (fun u hu=>?_)
 ·obtain ⟨rfl,hs⟩:=e;have hil:i<l.length:=by omega
  have hbi:=hb _ (aF hil);have e1:kF (l.take (i+1))=kF (l.take i)+l[i].Bytes.length:=ml (fun o:aH=>o.Bytes.length) hil;simp only [bb,bsm];rw [af (by simp; omega),bj hil];simp only [bsm,bb,bu];rw [aJ (n:=(kF (l.take i):Int)+(l[i].Bytes.length:Int)) (by omega),aJ (n:=(i:Int)+1) (by omega)];split
  ·exact .inr ⟨_,rfl,rfl⟩
  ·rename_i hn
   simp only [aC,am,HE] at hn;exact .inl ⟨_,rfl,by rw [e1]; simp,by rw [e1]; omega⟩
 ·obtain ⟨rfl,hs⟩:=e;simp only [bb,bsm];rw [ae (by simp; omega)];exact ⟨_,rfl,hs⟩
 ·cases u with
  | inl b=>simp only at hu; exact ⟨b,rfl,fun h=>by rw [hu] at h; cases h⟩
  | inr u=>
   refine ⟨_,rfl,fun h=>?_⟩;have h1:l.length<=50:=by simp at h; omega
   rw [aB (by omega)] at hu;exact ⟨h1,hu⟩
structure Tm (F:ay) (m:Mo):Prop where
 p:m.P=F.P
 g:m.G=F.Group
 h:m.h=(aZ [] F.Raw).2
 n:F.Parts=((aZ [] F.Raw).1.length:Int)
 b:Bts F.Raw
theorem Sd.gv (S:Sd C s x f k m q):∀y∈m.G,vld y=true:=by
 obtain ⟨g,W,H,ks,op,F⟩:=S.fd;exact F.gv
theorem Sd.lay1 (S:Sd C s x f k m q):lay m.P m.G=some q:=by
 obtain ⟨g,W,H,ks,op,F⟩:=S.fd;exact F.l
theorem CN (hv:∀y∈F.Group,vld y=true) (hb:Bts F.Raw) (hl:F.Raw.length<=1000000) (hg:F.Group.length<1000000) (b3:lay F.P (F.Group++(if (aZ [] F.Raw).2= [] then [] else [65533]))=some q'):ej F=some ⟨q',[],[],0⟩:=by
 unfold lay at b3;unfold ej;rw [Ad hb hl];simp only [bsm];have hgv:∀x∈F.Group++(if (aZ [] F.Raw).2= [] then [] else [65533]),vld x=true:=fun x hx=>by
  rcases List.mem_append.1 hx with hx|hx
  ·exact hv x hx
  ·split at hx
   ·simp at hx
   ·rw [List.mem_singleton.1 hx]; rfl
 by_cases hh:(aZ [] F.Raw).2= []
 ·rw [ae (by rw [hh]; simp)];rw [af hh,cM] at b3;simp only [bsm];have:=th (F:=⟨⟨F.P.L,⟨F.P.At.Row,F.P.At.Col,F.P.At.Pending⟩,F.P.Auto⟩,F.Group,[],0⟩) hv (by simp only; omega) b3;rw [this];rfl
 ·have hpos:0<(aZ [] F.Raw).2.length:=by
   cases hc:(aZ [] F.Raw).2 with
   | nil=>exact absurd hc hh
   | cons _ _=>simp
  rw [af (by simpa using hpos),DR (by omega)];rw [ae hh] at b3 hgv;simp only [bsm];have:=th (F:=⟨⟨F.P.L,⟨F.P.At.Row,F.P.At.Col,F.P.At.Pending⟩,F.P.Auto⟩,F.Group++ [gK 65533],[],0⟩) hgv (by simp; omega) b3;rw [this];rfl
theorem DY (T:Tm F m) (hv:∀y∈m.G,vld y=true) (hq:lay m.P m.G=some q){o:aH}(hb:Bts o.Bytes) (hl:F.Raw.length+o.Bytes.length<=1000000) (hg:F.Group.length<1000000) (hm:mdo m o=some m'):
  ∃F',iT F o=some (F',w40 o)/\Tm F' m'/\F'.Raw.length<=F.Raw.length+o.Bytes.length/\F'.Group.length<=F.Group.length+2*o.Bytes.length:=by
 obtain ⟨P,G,h⟩:=m;obtain ⟨p,g,hh,hn,hbt⟩:=T;simp only at p g hh hv hq hm;subst p g hh;unfold mdo at hm;unfold iT w40;simp only [aQ] at hm|-;by_cases k0:o.Kind=0
 ·rw [af k0] at hm;cases hm;rw [af k0,af (.inl k0),CW hn hbt hb hl (by omega)];have hap:=nQ [] F.Raw o.Bytes;have hlen:=tf (aZ [] F.Raw).2 o.Bytes;refine ⟨_,rfl,⟨rfl,rfl,?_,rfl,fun y hy=>?_⟩,by simp,by simp only [ao]; omega⟩
  ·simp only [hap]
  ·rcases List.mem_append.1 hy with hy|hy
   ·exact hbt y hy
   ·exact hb y hy
 rw [ae k0] at hm|-;by_cases k1:o.Kind=1
 ·rw [af k1] at hm;rw [af k1,af (.inr (.inl k1))];simp only [mc] at hm;obtain ⟨q1,h1,rfl⟩:=hm;rw [CN hv hbt (by omega) hg h1];exact ⟨_,rfl,⟨rfl,rfl,rfl,rfl,fun y hy=>by simp at hy⟩,by simp,by simp⟩
 rw [ae k1] at hm|-;by_cases k13:o.Kind=13
 ·rw [af k13] at hm;rw [af k13,af (.inr (.inr k13)),th hv (by omega) hq];rw [hq] at hm;simp only [bsm,mc] at hm|-;obtain ⟨q1,h1,rfl⟩:=hm;rw [h1];exact ⟨_,rfl,⟨rfl,rfl,rfl,hn,hbt⟩,by simp,by simp⟩
 rw [ae k13] at hm;rw [ae k13,ae (by omega),Af];simp only [bsm];by_cases hw:w38 o=0
 ·rw [af hw] at hm|-;rw [th hv (by omega) hq];rw [hq] at hm;simp only [bsm,mc] at hm|-;obtain ⟨q1,h1,rfl⟩:=hm;rw [h1];exact ⟨_,rfl,⟨rfl,rfl,rfl,hn,hbt⟩,by simp,by simp⟩
 ·rw [ae hw] at hm|-;cases hm;exact ⟨_,rfl,⟨rfl,rfl,rfl,hn,hbt⟩,by simp,by simp⟩
theorem zI (S:Sd C s x f k m q):fw (vw q) (vw q)=some true:=by
 obtain ⟨W2,w1,w2,l1,l2,hok,hwd,hhd⟩:=S.ok;unfold fw;have e1:(vw q).Lines=q.L:=rfl;rw [e1,Bi l2 w2 hok];simp [bL,bsm]
theorem Bo (S:Sd C s x f k m q):gY q=some (vw q):=by
 obtain ⟨g,W,H,ks,op,F⟩:=S.fd;unfold gY vw;have hl:=F.v.len;have h1:=F.v.g.h1;rw [se F.v,gdl (show 0<q.L.length by omega),(F.v.ok _ (aF (show 0<q.L.length by omega))).2];rfl
end Go.Proofs.YtclmdpamofdoiaaGreatDoor
namespace Go.Proofs.YtclmdpamofdoiaaGreatDoor
open Go Go.Lt
theorem F7 (gs:List (List Int)) (c:List Int):idx (gs++ [c]) (gs.length:Int)=some c:=by
 rw [tl,aM (aq _),dG];rfl
theorem DJ (gs:List (List Int)) (c c':List Int):oK (gs++ [c]) (gs.length:Int) c'=some (gs++ [c']):=by
 rw [lj (by simp),iF _ _ (aq _),dG];rfl
theorem zK {gs:List (List Int)}{cur:List Int}{l:List cw}(hg:gs.length<=1000000) (hl:cur.length+l.length<=10000000):fu (gs++ [cur]) l=some (gs++ [cur++l.map (·.R)]):=by
 have hw:w64 (((gs++ [cur]).length:Int)-1)=(gs.length:Int):=by
  rw [ao,aD,aI,aJ (by omega)];omega
 unfold fu;rw [hw];refine iO (n:=l.length) (fun i s=>s=(gs++ [cur++(l.take i).map (·.R)],(i:Int))) (fun u=>u=gs++ [cur++l.map (·.R)]) (fun i s hi e=>?_) (fun s e=>?_) (by simp) (by omega) (fun u e=>by rw [e])
 ·left
  subst e;simp only;rw [af (dlt hi),bj hi,bsm,F7,bsm,cO (by simp only [ao,cC,az,aD,aI]; omega),bsm,DJ,bsm,dm hi (by omega)];refine ⟨_,rfl,?_⟩;rw [an hi,bC,<-aL];rfl
 ·subst e;exact ⟨_,by simp only; rw [ae (by simp)],by rw [dj]⟩
variable {raw cur b:List Int}{gs:List (List Int)}
theorem DA (hb:Bts raw) (hbt:Bts b) (hl:raw.length+b.length<=1000000) (hg:gs.length<=1000000) (hc:cur.length<=1000000):fv raw ((aZ [] raw).1.length:Int) (gs++ [cur]) b=some (raw++b,((aZ [] (raw++b)).1.length:Int),gs++ [cur++(aZ (aZ [] raw).2 b).1]):=by
 have hbb:Bts (raw++b):=fun x hx=>by
  rcases List.mem_append.1 hx with hx|hx
  ·exact hb x hx
  ·exact hbt x hx
 have hll:(raw++b).length<=1000000:=by rw [ao]; omega
 obtain ⟨l,h1,h2,h3,_⟩:=wK hbb hll;obtain ⟨t,t1,t2⟩:=Ct hbb hll;have hap:=nQ [] raw b;unfold fv;rw [cO (by omega),bsm,h1,bsm,t1,bsm];have hz:∃z:List cw,(if decide (t>0) then (slc l 0 (w64 ((l.length:Int)-1))).bind fun x_29=>some x_29 else some l)=some z/\z.map (·.R)=(aZ [] (raw++b)).1/\z.length<=l.length:=by
  unfold rd at h2;have hlen:=eZ List.length h2;simp only [cC,ao] at hlen;by_cases hh:(aZ [] (raw++b)).2= []
  ·rw [ae (by rw [am,t2]; exact fun h=>h hh)];rw [af hh,cM] at h2;exact ⟨l,rfl,h2,aq _⟩
  ·rw [af (by rw [am,t2]; exact hh)];rw [ae hh] at h2 hlen;simp only [aD,aI] at hlen;have hs:=mI (xs:=l) (i:=0) (j:=l.length-1) (bT _) (by omega);rw [show ((0:Nat):Int)=0 from rfl,fU,mf] at hs;rw [aJ (by omega),show (l.length:Int)-1=((l.length-1:Nat):Int) by omega,hs];refine ⟨_,rfl,?_,by rw [az]; omega⟩;rw [GI,h2,cR (by omega),aB (by omega)]
 obtain ⟨z,hz1,hz2,hz3⟩:=hz;have hzl:=eZ List.length hz2;rw [cC] at hzl;have hem:(aZ [] (raw++b)).1=(aZ [] raw).1++(aZ (aZ [] raw).2 b).1:=by rw [hap]
 have heml:=eZ List.length hem;rw [ao] at heml;rw [hz1,bsm,uB (by omega),bsm,zK hg (by rw [bm]; rw [ao] at hll h3; omega),bsm,List.map_drop,hz2,hzl,hem,jh]
theorem Cw (hb:Bts raw) (hl:raw.length<=1000000) (hg:gs.length<=1000000) (hc:cur.length<=1000000):eN raw ((aZ [] raw).1.length:Int) (gs++ [cur])=some (gs++ [cur++(if (aZ [] raw).2= [] then [] else [65533])]):=by
 obtain ⟨l,h1,h2,h3,_⟩:=wK hb hl;unfold eN;unfold rd at h2;have hlen:=eZ List.length h2;simp only [cC,ao] at hlen;rw [h1,bsm,uB (by omega),bsm,zK hg (by rw [bm]; omega),bsm,List.map_drop,h2,jh]
def clo (o:aH):Bool:=(o.Kind==1 || o.Kind==13) || w38 o==0
theorem yC (o:aH):jG o=some (clo o):=by
 unfold jG clo;rw [bu,bsm,ud,bsm,bu,bsm,zi]
def uc (s:List Int×List (List Int)×List Int) (o:aH):List Int:=s.2.2++(if o.Kind=0 then (aZ (aZ [] s.1).2 o.Bytes).1 else if o.Kind=1 then (if (aZ [] s.1).2= [] then [] else [65533]) else [])
def uN (s:List Int×List (List Int)×List Int) (o:aH):List Int:=if o.Kind=0 then s.1++o.Bytes else if o.Kind=1 then [] else s.1
def qf (s:List Int×List (List Int)×List Int) (o:aH):List Int×List (List Int)×List Int:=
 if clo o=true then (uN s o,s.2.1++ [uc s o],[]) else (uN s o,s.2.1,uc s o)
def gst (l:List aH) (i:Nat):List Int×List (List Int)×List Int:=(l.take i).foldl qf ([],[],[])
theorem oo {l:List aH}{i:Nat}(h:i<l.length):gst l (i+1)=qf (gst l i) l[i]:=by
 unfold gst;rw [an h,kS];rfl
theorem Ga (s:List Int×List (List Int)×List Int) (o:aH):(qf s o).1=uN s o:=by
 unfold qf;split <;> rfl
theorem xj {l:List aH}(hb:∀o∈l,Bts o.Bytes):∀i,i<=l.length->Bts (gst l i).1/\(gst l i).1.length<=kF (l.take i)/\(gst l i).2.1.length<=i/\(gst l i).2.2.length<=2*kF (l.take i)+i:=by
 intro i
 induction i with
 | zero=>exact fun _=>⟨fun x hx=>by simp [gst] at hx,bT _,bT _,bT _⟩
 | succ i ih=>
  intro h;have hi:i<l.length:=by omega
  obtain ⟨h1,h2,h3,h4⟩:=ih (by omega);have e2:kF (l.take (i+1))=kF (l.take i)+l[i].Bytes.length:=ml (fun o:aH=>o.Bytes.length) hi;have hbi:=hb _ (aF hi);rw [oo hi,Ga];have hr:Bts (uN (gst l i) l[i])/\(uN (gst l i) l[i]).length<=kF (l.take (i+1)):=by
   unfold uN;split
   ·refine ⟨fun x hx=>?_,by rw [ao]; omega⟩;rcases List.mem_append.1 hx with hx|hx
    ·exact h1 x hx
    ·exact hbi x hx
   ·split
    ·exact ⟨fun x hx=>absurd hx (by simp),bT _⟩
    ·exact ⟨h1,by omega⟩
  have hc:(uc (gst l i) l[i]).length<=2*kF (l.take (i+1))+(i+1):=by
   have:=tf (aZ [] (gst l i).1).2 l[i].Bytes;unfold uc;rw [ao];split
   ·omega
   ·split
    ·split
     ·rw [aI]; omega
     ·rw [aD,aI]; omega
    ·rw [aI]; omega
  refine ⟨hr.1,hr.2,?_,?_⟩
  ·unfold qf;split
   ·rw [ao,aD,aI]; omega
   ·exact Nat.le_succ_of_le h3
  ·unfold qf;split
   ·exact bT _
   ·exact hc
theorem Ch {l:List aH}:∀(d i:Nat),i+d<=l.length->∃t,(gst l (i+d)).2.1=(gst l i).2.1++t:=by
 intro d
 induction d with
 | zero=>exact fun i _=>⟨[],by rw [cM]; rfl⟩
 | succ d ih=>
  intro i h;obtain ⟨t,ht⟩:=ih i (by omega);have hs:=oo (l:=l) (i:=i+d) (by omega);rw [show i+(d+1)=(i+d)+1 by omega,hs];unfold qf;split
  ·exact ⟨t++ [uc (gst l (i+d)) l[i+d]],by simp only; rw [ht,aL]⟩
  ·exact ⟨t,ht⟩
def oZ (l:List aH):List (List Int):=(gst l l.length).2.1++ [(gst l l.length).2.2]
theorem Db (l:List aH) (hb:∀o∈l,Bts o.Bytes) (hl:l.length<=50) (hs:kF l<=600):jH l=some (oZ l):=by
 have hsum:∀i,kF (l.take i)<=kF l:=fun i=>rV (fun o:aH=>o.Bytes.length) l i;unfold jH;refine iO (n:=l.length) (fun i s=>s=((gst l i).1,((aZ [] (gst l i).1).1.length:Int),(gst l i).2.1++ [(gst l i).2.2],(i:Int))) (fun u=>u=oZ l) (fun i s hi e=>?_) (fun s e=>?_) rfl (by omega) (fun u e=>by rw [e])
 ·left
  subst e;obtain ⟨g1,g2,g3,g4⟩:=xj hb i (by omega);have e2:kF (l.take (i+1))=kF (l.take i)+l[i].Bytes.length:=ml (fun o:aH=>o.Bytes.length) hi;have e3:=hsum (i+1);have hbi:=hb _ (aF hi);simp only;rw [af (dlt hi),bj hi,bsm,dm hi (by omega)];have hz:(if (l[i].Kind==0)=true then
    (fv (gst l i).1 ((aZ [] (gst l i).1).1.length:Int) ((gst l i).2.1++ [(gst l i).2.2]) l[i].Bytes).bind fun x_22=>some x_22
    else if (l[i].Kind==1)=true then
    (eN (gst l i).1 ((aZ [] (gst l i).1).1.length:Int) ((gst l i).2.1++ [(gst l i).2.2])).bind fun x_28=>some (([]:List Int),(0:Int),x_28)
    else some ((gst l i).1,((aZ [] (gst l i).1).1.length:Int),(gst l i).2.1++ [(gst l i).2.2]))=some (uN (gst l i) l[i],((aZ [] (uN (gst l i) l[i])).1.length:Int),(gst l i).2.1++ [uc (gst l i) l[i]]):=by
   unfold uN uc;by_cases k0:l[i].Kind=0
   ·rw [af (by rw [k0]; rfl),af k0,af k0,DA g1 hbi (by omega) (by omega) (by omega),bsm]
   ·rw [ae (by rw [aQ]; exact k0),ae k0,ae k0];by_cases k1:l[i].Kind=1
    ·rw [af (by rw [k1]; rfl),af k1,af k1,Cw g1 (by omega) (by omega) (by omega),bsm];rfl
    ·rw [ae (by rw [aQ]; exact k1),ae k1,ae k1,cM]
  rw [hz,bsm,yC,bsm,oo hi];unfold qf
  cases h:clo l[i] with
  | true=>
   rw [af rfl,cO (by simp only [ao,aD,aI]; omega),bsm,bsm,af rfl];exact ⟨_,rfl,rfl⟩
  | false=>
   rw [ae (by simp),bsm,ae (by simp)];exact ⟨_,rfl,rfl⟩
 ·subst e;refine ⟨oZ l,?_,rfl⟩;simp only;rw [ae (by simp)];rfl
end Go.Proofs.YtclmdpamofdoiaaGreatDoor
namespace Go.Proofs.YtclmdpamofdoiaaGreatDoor
open Go Go.Lt
variable {s C:Sto}{x f k:Nat}{q q':aa}{F:ay}{m m':Mo}
def mr (m:Mo) (l:List aH):Option Mo:=l.foldl (fun a o=>a.bind fun m=>mdo m o) (some m)
theorem zc (m:Mo){l:List aH}{i:Nat}(h:i<l.length):mr m (l.take (i+1))=(mr m (l.take i)).bind fun m=>mdo m l[i]:=by
 rw [an h];unfold mr;rw [kS];rfl
def Non (l:List aH) (n:Nat):Prop:=∀j o,j<n->l[j]? = some o->w40 o=0
def Fst (l:List aH) (n j:Nat) (o:aH):Prop:=j<n/\l[j]? = some o/\w40 o≠0/\Non l j
def Fe (l:List aH) (n:Nat) (e:Er):Prop:=(e= .nil/\Non l n)\/∃j o,Fst l n j o/\e= .fault (j:Int) (e40 o)
def Fa (l:List aH) (n:Nat) (a w:Int):Prop:=(a= -1/\w=0/\Non l n)\/∃j o,Fst l n j o/\a=(j:Int)/\w=w40 o
theorem Non.zero (l:List aH):Non l 0:=fun j o h=>by omega
theorem Non.succ {l:List aH}{i:Nat}(h:Non l i) (hi:i<l.length) (hw:w40 l[i]=0):Non l (i+1):=fun j o hj ho=>by
 by_cases e:j=i
 ·subst e;rw [ag hi] at ho;cases ho;exact hw
 ·exact h j o (by omega) ho
theorem Fst.succ {l:List aH}{i j:Nat}{o:aH}(h:Fst l i j o):Fst l (i+1) j o:=⟨JY h.1,h.2⟩
theorem Fst.new {l:List aH}{i:Nat}(h:Non l i) (hi:i<l.length) (hw:w40 l[i]≠0):Fst l (i+1) i l[i]:=⟨J7 i,ag hi,hw,h⟩
theorem Gk (o:aH):(e40 o).isNil=(w40 o==0):=by
 unfold e40 w40;split
 ·rfl
 ·exact zi o
theorem G7 (o:aH):0<=w40 o:=by
 unfold w40;split
 ·omega
 ·rcases Dx o with h|h|h <;> omega
theorem wP (S:Sd C s x f k m q) (l:List aH) (hl:l.length<=9223372036854775807) (hb:Obs l):
  ∃s' e m' q',fW s (some x) l=some (s',e)/\mr m l=some m'/\Sd C s' x f k m' q'/\Fe l l.length e:=by
 suffices h:∃r,fW s (some x) l=some r/\(∃m' q',mr m l=some m'/\Sd C r.1 x f k m' q'/\Fe l l.length r.2) by
  obtain ⟨r,h1,m',q',h2,h3,h4⟩:=h;exact ⟨r.1,r.2,m',q',h1,h2,h3,h4⟩
 unfold fW;refine mO (n:=l.length) (fun i (a:Er×Int×Sto)=>a.2.1=(i:Int)/\∃m' q',mr m (l.take i)=some m'/\Sd C a.2.2 x f k m' q'/\Fe l i a.1)
  (fun (u:Er×Sto)=>∃m' q',mr m l=some m'/\Sd C u.2 x f k m' q'/\Fe l l.length u.1) (fun i a hi hI=>?_) (fun a hI=>?_) ⟨rfl,m,q,rfl,S,.inl ⟨rfl,Non.zero l⟩⟩ (by omega) (fun u hu=>⟨_,rfl,hu⟩)
 ·obtain ⟨e,i',st⟩:=a;obtain ⟨e1,m1,q1,hm,S1,hF⟩:=hI;simp only at e1 S1 hF;subst e1;simp only;rw [af (dlt hi),dm hi hl];obtain ⟨hb1,hb2⟩:=hb _ (aF hi);obtain ⟨s',m2,q2,a1,a2,a3⟩:=yg S1 l[i] hb1 hb2;simp only [bj hi,bsm];rw [a1];simp only [bsm,bb,Gk];have hm2:mr m (l.take (i+1))=some m2:=by rw [zc m hi,hm]; exact a2
  rcases hF with ⟨rfl,hn⟩|⟨j,o,h1,rfl⟩
  ·by_cases hw:w40 l[i]=0
   ·rw [ae (by simp [hw])];exact .inl ⟨_,rfl,rfl,m2,q2,hm2,a3,.inl ⟨rfl,hn.succ hi hw⟩⟩
   ·rw [af (by simp [hw,Er.isNil])];exact .inl ⟨_,rfl,rfl,m2,q2,hm2,a3,.inr ⟨i,l[i],Fst.new hn hi hw,rfl⟩⟩
  ·rw [ae (by simp [Er.isNil])];exact .inl ⟨_,rfl,rfl,m2,q2,hm2,a3,.inr ⟨j,o,h1.succ,rfl⟩⟩
 ·obtain ⟨e,i',st⟩:=a;obtain ⟨e1,m1,q1,hm,S1,hF⟩:=hI;simp only at e1 S1 hF;subst e1;refine ⟨_,by simp only; rw [ae (by simp)],m1,q1,?_,S1,hF⟩;rw [<-hm,dj]
theorem Obs.take {l:List aH}(h:Obs l) (i:Nat):Obs (l.take i):=fun o ho=>h o (cq ho)
theorem CS {w h:Int}(S:Sd C s x f k m q) (l:List aH) (hl:l.length<=50) (hb:Obs l) (hs:kF l<=600){F0:ay}(hN:fZ w h=some F0) (T0:Tm F0 m) (hr:F0.Raw= []) (hg:F0.Group= []):
  ∃F' a y m',fY w h l=some (F',a,y)/\mr m l=some m'/\Tm F' m'/\F'.Raw.length<=kF l/\F'.Group.length<=2*kF l/\Fa l l.length a y:=by
 suffices h:∃r,fY w h l=some r/\∃m',mr m l=some m'/\Tm r.1 m'/\r.1.Raw.length<=kF l/\r.1.Group.length<=2*kF l/\Fa l l.length r.2.1 r.2.2 by
  obtain ⟨r,h1,m',h2⟩:=h;exact ⟨r.1,r.2.1,r.2.2,m',h1,h2⟩
 unfold fY;rw [hN];simp only [bsm];refine mO (n:=l.length) (fun i a=>∃(F:ay) (m1:Mo) (t y:Int),a=(t,y,(i:Int),F.P.L,F.P.At.Row,F.P.At.Col,F.P.At.Pending,F.P.Auto,F.Group,F.Raw,F.Parts)/\mr m (l.take i)=some m1/\Tm F m1/\F.Raw.length<=kF (l.take i)/\F.Group.length<=2*kF (l.take i)/\Fa l i t y)
  (fun u=>∃(F:ay) (m1:Mo) (t y:Int),u=(t,y,F.P.L,F.P.At.Row,F.P.At.Col,F.P.At.Pending,F.P.Auto,F.Group,F.Raw,F.Parts)/\mr m l=some m1/\Tm F m1/\F.Raw.length<=kF l/\F.Group.length<=2*kF l/\Fa l l.length t y) (fun i a hi hI=>?_) (fun a hI=>?_)
  ⟨F0,m,-1,0,rfl,rfl,T0,by rw [hr]; simp,by rw [hg]; simp,.inl ⟨rfl,rfl,Non.zero l⟩⟩ (by omega) (fun u hu=>?_)
 ·obtain ⟨F,m1,t,y,rfl,hm,T,h1,h2,hF⟩:=hI;simp only;rw [af (dlt hi),dm hi (by omega)];obtain ⟨hb1,hb2⟩:=hb _ (aF hi);have e1:kF (l.take (i+1))=kF (l.take i)+l[i].Bytes.length:=ml (fun o:aH=>o.Bytes.length) hi;have e2:kF (l.take (i+1))<=kF l:=rV (fun o:aH=>o.Bytes.length) l (i+1);obtain ⟨s1,_,m1',q1,_,b2,S1,_⟩:=wP S (l.take i) (by simp; omega) (hb.take i);obtain rfl:m1=m1':=by rw [hm] at b2; exact bi b2
  obtain ⟨_,m2,_,_,a2,_⟩:=yg S1 l[i] hb1 hb2;have hm2:mr m (l.take (i+1))=some m2:=by rw [zc m hi,hm]; exact a2
  obtain ⟨F',c1,T',c3,c4⟩:=DY T S1.gv S1.lay1 hb1 (by omega) (by omega) a2;have hFe:(⟨(⟨F.P.L,(⟨F.P.At.Row,F.P.At.Col,F.P.At.Pending⟩:ai),F.P.Auto⟩:aa),F.Group,F.Raw,F.Parts⟩:ay)=F:=rfl;simp only [bj hi,bsm];rw [hFe,c1];simp only [bsm,bb];have hp:=G7 l[i];rcases hF with ⟨rfl,rfl,hn⟩|⟨j,o,g1,rfl,rfl⟩
  ·by_cases hw:w40 l[i]=0
   ·rw [ae (by simp [hw])];exact .inl ⟨_,rfl,F',m2,_,_,rfl,hm2,T',by omega,by omega,.inl ⟨rfl,rfl,hn.succ hi hw⟩⟩
   ·rw [af (by simp; omega)];exact .inl ⟨_,rfl,F',m2,_,_,rfl,hm2,T',by omega,by omega,.inr ⟨i,l[i],Fst.new hn hi hw,rfl,rfl⟩⟩
  ·rw [ae (by simp)];exact .inl ⟨_,rfl,F',m2,_,_,rfl,hm2,T',by omega,by omega,.inr ⟨j,o,g1.succ,rfl,rfl⟩⟩
 ·obtain ⟨F,m1,t,y,rfl,hm,T,h1,h2,hF⟩:=hI;rw [dj] at hm h1 h2;exact ⟨_,by simp only; rw [ae (by simp)],F,m1,t,y,rfl,hm,T,h1,h2,hF⟩
 ·obtain ⟨F,m1,t,y,rfl,hm,T,h1,h2,hF⟩:=hu;exact ⟨_,rfl,m1,hm,T,h1,h2,hF⟩
theorem Bp (w h:Int):fZ w h=some ⟨⟨bls (sd w) (sd h),⟨0,0,false⟩,true⟩,[],[],0⟩:=by
 have h1:=uC w;have h2:=uC h;unfold fZ;rw [fK,dL,fK,dL,show max (1:Int) (min w 1024)=(sd w:Int) by unfold sd; omega,show max (1:Int) (min h 1024)=(sd h:Int) by unfold sd; omega,CT h1.2 h2.2];rfl
end Go.Proofs.YtclmdpamofdoiaaGreatDoor
namespace Go.Proofs.YtclmdpamofdoiaaGreatDoor
open Go Go.Lt
set_option maxRecDepth 100000
variable {s C:Sto}{k g W:Nat}{q P:aa}{ks:List Nat}
theorem El (h:Pv C s k g W q ks){c:List Int}(hl:c.length<=1000000):∃q2,oL q c=some q2:=by
 unfold oL;split
 ·have key:∀(c:List Int) (s:Sto) (q:aa) (ks:List Nat),Pv C s k g W q ks->∃q2,fo xm q c=some q2:=by
   intro c
   induction c with
   | nil=>exact fun s q ks _=>⟨q,rfl⟩
   | cons r c ih=>
    intro s q ks h;obtain ⟨s',q',ks',_,b2,b3,_,_⟩:=zk h r;obtain ⟨q2,hq2⟩:=ih s' q' ks' b3;exact ⟨q2,by show (xm q r).bind (fun b=>fo xm b c)=_; rw [zj b2,bsm,hq2]⟩
  exact key c s q ks h
 ·obtain ⟨s',q',ks',i,b,_,_,a2,_⟩:=wV h (w16 c) (c.take 16) (by have:=wv c; omega);rw [a2];exact ⟨q',rfl⟩
theorem Ap (h:Pv C s k g W q ks){G:List Int}(hv:R32 G) (hl:G.length<=1000000):∃q2 s' ks',lay q G=some q2/\kv s (some k) G=some s'/\Pv C s' k g W q2 ks'/\ks'.length=ks.length/\(Hd q.At W ks.length->Hd q2.At W ks.length):=by
 obtain ⟨hf,hne,_⟩:=lC (pj:=pj) (pr:=pr) G;have hR:∀c∈cls pj pr G,R32 c:=fun c hc x hx=>hv x (by rw [<-hf]; exact List.mem_flatten.2 ⟨c,hc,hx⟩);have hL:∀c∈cls pj pr G,c.length<=1000000:=fun c hc=>by
  obtain ⟨i,hi,rfl⟩:=List.mem_iff_getElem.1 hc;have e:(cls pj pr G).flatten=((cls pj pr G).take i).flatten++((cls pj pr G)[i]++((cls pj pr G).drop (i+1)).flatten):=by
   rw [<-kT,<-qZ,<-fE hi,fI]
  have:=eZ List.length e;rw [hf] at this;simp only [ao] at this;omega
 have key:∀(cs:List (List Int)),(∀c∈cs,c∈cls pj pr G)->∀(s:Sto) (q:aa) (ks:List Nat),Pv C s k g W q ks->∃q2,fo oL q cs=some q2:=by
  intro cs
  induction cs with
  | nil=>exact fun _ s q ks _=>⟨q,rfl⟩
  | cons c cs ih=>
   intro hm s q ks h;have hc:=hm c (by simp);obtain ⟨q1,h1⟩:=El h (hL c hc);obtain ⟨s1,ks1,_,b2,_,_⟩:=Cb h hc (hR c hc) (hL c hc) h1;obtain ⟨q2,h2⟩:=ih (fun d hd=>hm d (jf _ hd)) s1 q1 ks1 b2;exact ⟨q2,by show (oL q c).bind (fun b=>fo oL b cs)=_; rw [h1,bsm,h2]⟩
 obtain ⟨q2,h2⟩:=key _ (fun _ h=>h) s q ks h;obtain ⟨s',ks',a⟩:=FV h hv hl h2;exact ⟨q2,s',ks',h2,a⟩
theorem Ez {s:List Int×List (List Int)×List Int}{o:aH}(hs:Bts s.1) (hc:∀x∈s.2.2,vld x=true) (ho:Bts o.Bytes):∀x∈uc s o,vld x=true:=by
 intro x hx;unfold uc at hx;rcases List.mem_append.1 hx with hx|hx
 ·exact hc x hx
 ·split at hx
  ·exact CO (tg Bts.nil hs) ho x hx
  ·split at hx
   ·split at hx
    ·simp at hx
    ·rw [List.mem_singleton.1 hx]; rfl
   ·simp at hx
theorem Gb {l:List aH}(hb:∀o∈l,Bts o.Bytes):∀i,i<=l.length->(∀x∈(gst l i).2.2,vld x=true)/\∀c∈(gst l i).2.1,∀x∈c,vld x=true:=by
 intro i
 induction i with
 | zero=>exact fun _=>⟨fun x hx=>by simp [gst] at hx,fun c hc=>by simp [gst] at hc⟩
 | succ i ih=>
  intro h;have hi:i<l.length:=by omega
  obtain ⟨h1,h2⟩:=ih (by omega);have hg:=Ez (xj hb i (by omega)).1 h1 (hb _ (aF hi));rw [oo hi];unfold qf;split
  ·refine ⟨fun x hx=>by simp at hx,fun c hc=>?_⟩;rcases List.mem_append.1 hc with hc|hc
   ·exact h2 c hc
   ·rw [List.mem_singleton.1 hc]; exact hg
  ·exact ⟨hg,h2⟩
theorem Ex {l:List aH}(hb:∀o∈l,Bts o.Bytes):∀c∈oZ l,∀x∈c,vld x=true:=by
 obtain ⟨h1,h2⟩:=Gb hb l.length (aq _);intro c hc;rcases List.mem_append.1 hc with hc|hc
 ·exact h2 c hc
 ·rw [List.mem_singleton.1 hc]; exact h1
theorem Gd {l:List aH}(hb:∀o∈l,Bts o.Bytes):∀i,i<=l.length->∀c∈(gst l i).2.1,c.length<=2*kF l+l.length:=by
 intro i
 induction i with
 | zero=>exact fun _ c hc=>by simp [gst] at hc
 | succ i ih=>
  intro h c hc;have hi:i<l.length:=by omega
  have h2:=ih (by omega);rw [oo hi] at hc;unfold qf at hc;split at hc
  ·rcases List.mem_append.1 hc with hc|hc
   ·exact h2 c hc
   ·rw [List.mem_singleton.1 hc];have e2:kF (l.take (i+1))=kF (l.take i)+l[i].Bytes.length:=ml (fun o:aH=>o.Bytes.length) hi;have e3:kF (l.take (i+1))<=kF l:=rV (fun o:aH=>o.Bytes.length) l (i+1);obtain ⟨_,_,_,g4⟩:=xj hb i (by omega);have:=tf (aZ [] (gst l i).1).2 l[i].Bytes;unfold uc;rw [ao];split
    ·omega
    ·split
     ·split
      ·rw [aI]; omega
      ·rw [aD,aI]; omega
     ·rw [aI]; omega
  ·exact h2 c hc
theorem Ey {l:List aH}(hb:∀o∈l,Bts o.Bytes):∀c∈oZ l,c.length<=2*kF l+l.length:=by
 intro c hc;rcases List.mem_append.1 hc with hc|hc
 ·exact Gd hb l.length (aq _) c hc
 ·rw [List.mem_singleton.1 hc];have:=(xj hb l.length (aq _)).2.2.2;rw [dj] at this;exact this
theorem tn {l:List aH}{i:Nat}(hi:i<=l.length):(gst l i).2.1.length<(oZ l).length:=by
 obtain ⟨t,ht⟩:=Ch (l:=l) (l.length-i) i (by omega);rw [show i+(l.length-i)=l.length by omega] at ht;unfold oZ;rw [ht];simp only [ao,aD,aI];omega
theorem Bx {l:List aH}{i:Nat}(hi:i<l.length) (hc:clo l[i]=true):(oZ l)[(gst l i).2.1.length]'(tn (by omega))=uc (gst l i) l[i]/\(gst l (i+1)).2.1.length=(gst l i).2.1.length+1:=by
 have hst:=oo hi;unfold qf at hst;rw [hc,af rfl] at hst;obtain ⟨t,ht⟩:=Ch (l:=l) (l.length-(i+1)) (i+1) (by omega);rw [show i+1+(l.length-(i+1))=l.length by omega,hst] at ht;simp only at ht;refine ⟨?_,by rw [hst]; simp⟩;have:(oZ l)[(gst l i).2.1.length]? = some (uc (gst l i) l[i]):=by
  unfold oZ;rw [ht,aL,aL,aM (aq _),dG];rfl
 rw [ag (tn (by omega))] at this;exact bi this
end Go.Proofs.YtclmdpamofdoiaaGreatDoor
namespace Go.Proofs.YtclmdpamofdoiaaGreatDoor
open Go Go.Lt
set_option maxRecDepth 100000
theorem Ef:(dR ⟨[],[],[],[],[],[]⟩).map (fun q=>q.2)=some true:=by kernel_rfl
theorem C3:((dR ⟨[],[],[],[],[],[]⟩).bind fun q=>dR q.1).map (fun q=>q.2)=some true:=by kernel_rfl
structure Gm_ (m:Mo) (z:List Int×List (List Int)×List Int):Prop where
 g:m.G=z.2.2
 h:m.h=(aZ [] z.1).2
theorem Bt (s:Sto) (w h:Int) (l:List aH) (hl:l.length<=50) (hb:Obs l) (hs:kF l<=600):
  ∃s' m q,lQ s w h l=some (s',vw q)/\mr ⟨⟨bls (sd w) (sd h),⟨0,0,false⟩,true⟩,[],[]⟩ l=some m/\lay m.P m.G=some q:=by
 have hbt:∀o∈l,Bts o.Bytes:=fun o ho=>(hb o ho).1;have hR:∀c∈oZ l,R32 c:=fun c hc x hx=>A6 (Ex hbt c hc x hx);have hL:∀c∈oZ l,c.length<=1000000:=fun c hc=>by
  have:=Ey hbt c hc;omega
 obtain ⟨s1,ks,h1,v1⟩:=yp (s:=s) w h;have hg0:0<(oZ l).length:=by
  have:=tn (l:=l) (i:=0) (bT _);omega
 have hlg:(oZ l).length<=1000:=by
  have:=(xj hbt l.length (aq _)).2.2.1;unfold oZ;simp only [ao,aD,aI];omega
 obtain ⟨q1,s2,ks2,e1,e2,v2,e3,_⟩:=Ap v1 (hR _ (aF hg0)) (hL _ (aF hg0));unfold lQ;rw [h1,bsm,Db l hbt hl hs,bsm,show idx (oZ l) 0=some (oZ l)[0] from bj hg0,bsm];simp only;rw [e2,bsm];generalize s.place_Pen.length=k at *;have conv:∀{x:Option (Sto×eG)},(∃r,x=some r/\∃m q,r.2=vw q/\mr ⟨⟨bls (sd w) (sd h),⟨0,0,false⟩,true⟩,[],[]⟩ l=some m/\lay m.P m.G=some q)->∃s' m q,x=some (s',vw q)/\mr ⟨⟨bls (sd w) (sd h),⟨0,0,false⟩,true⟩,[],[]⟩ l=some m/\lay m.P m.G=some q:=fun ⟨⟨r1,r2⟩,a,m,q,b,c⟩=>⟨r1,m,q,by rw [a,<-b],c⟩;refine conv (mO (n:=l.length) (fun i (a:Int×Int×Sto)=>∃(m:Mo) (q:aa) (st:Sto) (g W:Nat) (ks:List Nat),a=((((gst l i).2.1.length+1:Nat):Int),(i:Int),st)/\mr ⟨⟨bls (sd w) (sd h),⟨0,0,false⟩,true⟩,[],[]⟩ (l.take i)=some m/\Gm_ m (gst l i)/\Pv s st k g W q ks/\lay m.P ((oZ l).getD (gst l i).2.1.length [])=some q)
  (fun (u:Sto)=>∃(m:Mo) (q:aa) (g W:Nat) (ks:List Nat),mr ⟨⟨bls (sd w) (sd h),⟨0,0,false⟩,true⟩,[],[]⟩ l=some m/\Pv s u k g W q ks/\lay m.P m.G=some q) (fun i a hi hI=>?_) (fun a hI=>?_) ⟨⟨⟨bls (sd w) (sd h),⟨0,0,false⟩,true⟩,[],[]⟩,q1,s2,_,_,ks2,rfl,rfl,⟨rfl,rfl⟩,v2,?_⟩ (by omega) (fun u hu=>?_))
 ·
  left
  obtain ⟨m,q,st,g,W,ks,rfl,hm,hG,v,hq⟩:=hI;have hgi:=tn (l:=l) (i:=i) (by omega);rw [aw,ag hgi,nH] at hq;have hms:=zc ⟨⟨bls (sd w) (sd h),⟨0,0,false⟩,true⟩,[],[]⟩ hi;rw [hm,bsm] at hms;simp only;rw [af (dlt hi),bj hi,bsm,yC,bsm];rw [dm hi (by omega)]
  cases hc:clo l[i] with
  | false=>
   have hk1:¬l[i].Kind=1:=fun k1=>by
    unfold clo at hc; rw [k1] at hc; simp at hc
   have hk13:¬l[i].Kind=13:=fun k1=>by
    unfold clo at hc; rw [k1] at hc; simp at hc
   have hw:¬w38 l[i]=0:=fun k1=>by
    unfold clo at hc; rw [k1] at hc; simp at hc
   have hst:=oo hi;unfold qf at hst;rw [hc,ae (by simp)] at hst;rw [af (by simp),bsm];refine ⟨_,rfl,⟨m.P,uc (gst l i) l[i],(aZ [] (uN (gst l i) l[i])).2⟩,q,st,g,W,ks,by rw [hst],?_,⟨by rw [hst],by rw [hst]⟩,v,?_⟩
   ·rw [hms];unfold mdo uc uN;by_cases k0:l[i].Kind=0
    ·rw [af k0,af k0,af k0,hG.g,hG.h];have hap:=nQ [] (gst l i).1 l[i].Bytes;rw [hap]
    ·rw [ae k0,ae k0,ae k0,ae hk1,ae hk1,ae hk1,ae hk13,ae hw,cM,<-hG.g,<-hG.h]
   ·rw [hst];simp only;rw [aw,ag hgi,nH];exact hq
  | true=>
   obtain ⟨hcl,hnx⟩:=Bx hi hc;rw [hcl] at hq;rw [ae (by simp)];have hst:=oo hi;unfold qf at hst;rw [hc,af rfl] at hst;have hgi2:=tn (l:=l) (i:=i+1) (by omega);have k0:¬l[i].Kind=0:=fun k0=>by
    unfold clo w38 at hc;rw [k0] at hc;simp at hc
   obtain ⟨st1,q1,g1,W1,ks1,hz,hm1,v3⟩:∃st1 q1 g1 W1 ks1,(if (l[i].Kind==1)=true then some st
     else if (l[i].Kind==13)=true then (jO st (some k) l[i].A l[i].B).bind fun l=>some l
     else (nV st (some k) l[i]).bind fun m=>some m.1)=some st1/\mdo m l[i]=some ⟨q1,[],(aZ [] (uN (gst l i) l[i])).2⟩/\Pv s st1 k g1 W1 q1 ks1:=by
    unfold mdo uN;unfold uc at hq;by_cases k1:l[i].Kind=1
    ·rw [ae k0,af k1] at hq;rw [af (by rw [k1]; rfl),ae k0,af k1,ae k0,af k1,hG.g,hG.h,hq];exact ⟨st,q,g,W,ks,rfl,rfl,v⟩
    ·rw [ae k0,ae k1,cM,<-hG.g] at hq;rw [ae (by rw [aQ]; exact k1),ae k0,ae k1,ae k0,ae k1,<-hG.h];by_cases k13:l[i].Kind=13
     ·obtain ⟨s',q',g',ks',c1,c2,c3,_,_⟩:=BW v l[i].A l[i].B;rw [af (by rw [k13]; rfl),af k13,hq,bsm,c1,bsm,c2];exact ⟨s',q',g',_,ks',rfl,rfl,c3⟩
     ·have hw:w38 l[i]=0:=by
       unfold clo at hc;simp only [aC,aQ] at hc;omega
      obtain ⟨s',q',ks',c1,c2,c3,_,_,_⟩:=Cn v l[i] hw;rw [ae (by rw [aQ]; exact k13),ae k13,af hw,hq,bsm,c1,bsm,c2];exact ⟨s',q',g,W,ks',rfl,rfl,c3⟩
   obtain ⟨q2,s2,ks2,f1,f2,f3,_,_⟩:=Ap v3 (hR _ (aF hgi2)) (hL _ (aF hgi2));have hidx:idx (oZ l) (((gst l i).2.1.length+1:Nat):Int)=some ((oZ l)[(gst l (i+1)).2.1.length]'hgi2):=by
    rw [<-hnx];exact bj hgi2
   rw [hz,bsm,hidx,bsm,f2,bsm,bsm];refine ⟨_,rfl,⟨q1,[],(aZ [] (uN (gst l i) l[i])).2⟩,q2,s2,g1,W1,ks2,?_,by rw [hms,hm1],⟨by rw [hst],by rw [hst]⟩,f3,?_⟩
   ·rw [hnx,aJ (by omega)];simp
   ·rw [aw,ag hgi2,nH];exact f1
 ·obtain ⟨m,q,st,g,W,ks,rfl,hm,hG,v,hq⟩:=hI;rw [dj] at hm;refine ⟨_,by simp only; rw [ae (by simp)],m,q,g,W,ks,hm,v,?_⟩;have hgi:=tn (l:=l) (i:=l.length) (aq _);rw [aw,ag hgi,nH] at hq;have:(oZ l)[(gst l l.length).2.1.length]=(gst l l.length).2.2:=by
   have h2:(oZ l)[(gst l l.length).2.1.length]? = some (gst l l.length).2.2:=by
    unfold oZ;rw [aM (aq _),dG];rfl
   rw [ag hgi] at h2;exact bi h2
  rw [this,<-hG.g] at hq;exact hq
 ·rw [aw];have hz:(gst l 0).2.1.length=0:=rfl;rw [hz,ag hg0,nH];exact e1
 ·obtain ⟨m,q,g,W,ks,hm,v,hq⟩:=hu;have hl:=v.len;have h1:=v.g.h1;rw [bsm,v.p,bsm,jE v.g,bsm,eM v.g,bsm,xk v.g,bsm];refine ⟨_,rfl,m,q,?_,hm,hq⟩;unfold vw;simp only;rw [v.l,gdl (show 0<q.L.length by omega),(v.ok _ (aF (show 0<q.L.length by omega))).2,hl]
theorem wh (d:ib) (l:List aH) (hl0:l.length<=9223372036854775807) (hb:Obs l) (hs:∀o∈l,o.Bytes.length<=4611686018427387904):∃st,ew ⟨[],[],[],[],[],[]⟩ d l=some (st,true):=by
 obtain ⟨s1,s2,w1,w2⟩:=HD Ef C3;obtain ⟨t,t1,t2⟩:=Dc l hl0 hs;unfold ew;rw [w1,bsm,t1,bsm,bu,bsm]
 cases t with
 | true=>
  rw [af (by simp),w2,bsm];exact ⟨_,rfl⟩
 | false=>
  obtain ⟨hl,hsm⟩:=t2 rfl;rw [ae (by simp)];generalize w64 (1+w64 ((IntKind.u64.wrap d.W).tmod 10))=W;generalize w64 (1+w64 ((IntKind.u64.wrap d.H).tmod 6))=H;obtain ⟨s3,m0,q0,a1,a2,a3⟩:=Bt s1 W H l hl hb hsm;rw [a1,bsm];simp only;obtain ⟨s4,h4,S4⟩:=Bh s3 W H;obtain ⟨s5,e,m1,q1,b1,b2,S5,_⟩:=wP S4 l hl0 hb;obtain ⟨F,a,y,m2,c1,c2,T,c4,c5,_⟩:=CS S4 l hl hb hsm (Bp W H) ⟨rfl,rfl,rfl,rfl,fun y hy=>by simp at hy⟩ rfl rfl;obtain rfl:m0=m1:=by rw [a2] at b2; exact bi b2
  obtain rfl:m0=m2:=by rw [a2] at c2; exact bi c2
  obtain rfl:q0=q1:=by
   have:=S5.lay1;rw [a3] at this;exact bi this
  have hv':=S5.gv;have hq':=S5.lay1;rw [T.g] at hv';rw [T.p,T.g] at hq';rw [c1,bsm,h4,bsm];simp only;rw [b1,bsm,B2 hv' (by omega) hq',bsm,Bo S5,bsm,zI S5,bsm,ip,zU S5,bsm,zI S5,bsm,bsm];exact ⟨_,rfl⟩
end Go.Proofs.YtclmdpamofdoiaaGreatDoor
