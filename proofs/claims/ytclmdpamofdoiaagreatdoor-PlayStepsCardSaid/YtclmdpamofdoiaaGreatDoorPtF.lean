/- Parts of the proofs of PlaySteps: the walk through the code, and plain Lean. No condition. -/
import Derived.Test.YtclmdpamofdoiaaGreatDoorPtE
import Derived.Test.YtclmdpamofdoiaaGreatDoorPtC
import Derived.Test.YtclmdpamofdoiaaGreatDoorPtD
import Derived.Test.YtclmdpamofdoiaaGreatDoorPtA
import Derived.KernelRfl
import Derived.Test.YtclmdpamofdoiaaGreatDoorProg
import Derived.Test.YtclmdpamofdoiaaGreatDoorPtB
set_option linter.unusedVariables false
set_option linter.unusedSimpArgs false
namespace Go.Proofs.YtclmdpamofdoiaaGreatDoor
open Go Go.Lt
theorem Hh.nil:Hh []:= .inl rfl
theorem Bts.nil:Bts []:=fun x hx=>by simp at hx
def vn (c:List Int):List Int:=(bC [] c).1++(if (bC [] c).2= [] then [] else [65533])
theorem GK.take {c:List Int}{k:Nat}(h:GK c k):GK (c.take k) k:=by
  have hle:=h.le;refine ⟨by rw [ay]; omega,fun m h1 h2=>?_,fun hk=>?_,fun hk=>?_,fun hk _=> .inl (by rw [ay]; omega)⟩
  · rw [fB,cH (by omega)]
    exact h.lt m h1 h2
  · subst hk
    simp [bg]
  · rw [fB,Nat.min_self]
    exact h.p hk
theorem xz {c:List Int}{k:Nat}(h:GK c k) (hk:0<k):(bg (c.take k)=k/\bC [] (c.take k)=([vl (c.take k)],[]))\/((k:Int)<bg (c.take k)/\bC [] (c.take k)=([],c.take k)):=by
  have hle:=h.le;have hl:(c.take k).length=k:=by rw [ay]; omega
  have hp:=h.p hk;have hge:=zX hp;rw [hl] at hge;have ht:=h.take;have htt:(c.take k).take k=c.take k:=by rw [fB,Nat.min_self]
  by_cases hw:bg (c.take k)=k
  · refine .inl ⟨hw,?_⟩
    have:=wh ht hk (by rw [htt]; exact hw);rw [htt,gG (by omega)] at this;exact this
  · refine .inr ⟨by omega,?_⟩
    have ht':GK (c.take k) (c.take k).length:=by rw [hl]; exact ht
    exact zk ht' (by omega) (by rw [hl]; omega)
theorem BQ {c:List Int}{k:Nat}(h:GK c k) (hc:c≠ []):vn c=(if 0<k then (if bg (c.take k)=k then vl (c.take k) else 65533) else 65533)::vn (c.drop (max k 1)):=by
  by_cases hk:0<k
  · rw [ae hk,show max k 1=k by omega]
    rcases xz h hk with ⟨hw,_⟩|⟨hw,_⟩
    · rw [ae hw]
      have:=wh h hk hw;unfold vn;rw [this];rfl
    · rw [af (by omega)]
      by_cases hlt:k<c.length
      · have:=Cl h hk hw hlt
        unfold vn;rw [this];rfl
      · have hkl:k=c.length:=by have:=h.le; omega
        subst hkl;rw [aC (az _)] at hw;have:=zk h hk hw;unfold vn;rw [this,af hc,gG (az _)];rfl
  · rw [af hk,show max k 1=1 by omega]
    have:=Cm hc (h.z (by omega));unfold vn;rw [this];rfl
theorem Cn {p:List Int}(hp:Bts p) (hl:p.length<=1000000){a:Nat}(ha:a<p.length):∃k:Nat,GK (p.drop a) k/\cL (σ:=Int) (τ:=Int) (((p.length:Int)-(w64 ((a:Int)+0))).toNat+1) (fun s_15=>
 (bT (decide ((w64 ((a:Int)+s_15))<(p.length:Int))) ((slc p (a:Int) (w64 ((w64 ((a:Int)+s_15))+1))).bind fun x_30=>
 (bV x_30).bind fun x_31=>
 some (decide (x_31>0)))).bind fun d_22=>
 if d_22=true then
 (slc p (a:Int) (w64 ((a:Int)+(w64 (s_15+1))))).bind fun x_43=>
 (bV x_43).bind fun x_44=>
 if (x_44==(w64 (s_15+1)))=true then
 some (.inr ((w64 (s_15+1))))
 else
 some (.inl ((w64 (s_15+1))))
 else
 some (.inr (s_15))) (0)=some (k:Int):=by
  have hcl:(p.drop a).length=p.length-a:=by simp
  have hbt:∀i,Bts ((p.drop a).take i):=fun i x hx=>hp x (fS (du hx));obtain ⟨t,h1,h2⟩:=lX (σ:=Int) (τ:=Int) (step:=fun s_15=>
 (bT (decide ((w64 ((a:Int)+s_15))<(p.length:Int))) ((slc p (a:Int) (w64 ((w64 ((a:Int)+s_15))+1))).bind fun x_30=>
 (bV x_30).bind fun x_31=>
 some (decide (x_31>0)))).bind fun d_22=>
 if d_22=true then
 (slc p (a:Int) (w64 ((a:Int)+(w64 (s_15+1))))).bind fun x_43=>
 (bV x_43).bind fun x_44=>
 if (x_44==(w64 (s_15+1)))=true then
 some (.inr ((w64 (s_15+1))))
 else
 some (.inl ((w64 (s_15+1))))
 else
 some (.inr (s_15))) (fun s=>∃k:Nat,s=(k:Int)/\k<=p.length-a/\∀m,0<m->m<=k->(m:Int)<bg ((p.drop a).take m)) (fun s=>p.length-a-s.toNat) (fun t=>∃k:Nat,t=(k:Int)/\GK (p.drop a) k)
    (fun s hs=>by
      obtain ⟨k,rfl,hk,hI⟩:=hs;have e1:w64 ((a:Int)+(k:Int))=((a+k:Nat):Int):=by rw [aG (by omega)]; simp
      have e2:w64 (((a+k:Nat):Int)+1)=((a+k+1:Nat):Int):=by rw [aG (by omega)]; simp
      have e3:w64 ((k:Int)+1)=((k+1:Nat):Int):=by rw [aG (by omega)]; simp
      have e4:w64 ((a:Int)+((k+1:Nat):Int))=((a+k+1:Nat):Int):=by rw [aG (by omega)]; simp; omega
      simp only [e1,e2,e3,e4];by_cases hlt:k<p.length-a
      · have hs:=oE (xs:=p) (i:=a) (j:=a+k+1) (by omega) (by omega)
        rw [show a+k+1-a=k+1 by omega] at hs;rw [show decide (((a+k:Nat):Int)<(p.length:Int))=true by simp; omega,ip,hs];simp only [bsm];rw [rX (hbt _) (by simp; omega)];simp only [bsm];have hge:0<bg ((p.drop a).take (k+1))->((k+1:Nat):Int)<=bg ((p.drop a).take (k+1)):=fun h=>by
          have:=zX h;rw [ay,hcl] at this;omega
        by_cases hb:0<bg ((p.drop a).take (k+1))
        · rw [ae (by simpa using hb)]
          by_cases hw:bg ((p.drop a).take (k+1))=((k+1:Nat):Int)
          · rw [ae (by simpa using hw)]
            refine .inr ⟨_,rfl,k+1,rfl,by omega,fun m m1 m2=>hI m m1 (by omega),fun h=>by omega,fun _=>hb,fun _ h=>by omega⟩
          · rw [af (by simpa using hw)]
            refine .inl ⟨_,rfl,⟨k+1,rfl,by omega,fun m m1 m2=>?_⟩,by simp; omega⟩;by_cases hm:m<=k
            · exact hI m m1 hm
            · obtain rfl:m=k+1:=by omega
              have:=hge hb;omega
        · rw [af (by simpa using hb)]
          have hz:bg ((p.drop a).take (k+1))=0:=by have:=BK ((p.drop a).take (k+1)); omega
          refine .inr ⟨_,rfl,k,rfl,by omega,fun m m1 m2=>hI m m1 (by omega),fun h=>by subst h; exact hz,fun h=>by have:=hI k h (az _); omega,fun _ _=> .inr hz⟩
      · rw [show decide (((a+k:Nat):Int)<(p.length:Int))=false by simp; omega,iF]
        simp only [bsm,ak,ba];have hkk:k=(p.drop a).length:=by omega
        refine .inr ⟨_,rfl,k,rfl,by omega,fun m m1 m2=>hI m m1 (by omega),fun h=>by omega,fun h=>by have:=hI k h (az _); omega,fun _ _=> .inl hkk⟩)
    (((p.length:Int)-(w64 ((a:Int)+0))).toNat+1) 0 ⟨0,rfl,cE _,fun m m1 m2=>by omega⟩ (by rw [aG (by omega)]; omega)
  obtain ⟨k,rfl,hk⟩:=h2;exact ⟨k,hk,h1⟩
theorem C6:vn []= []:=rfl
theorem Hz {p:List Int}(hp:Bts p) (hl:p.length<=1000000):∃l,gU p=some l/\l.map (·.R)=vn p/\l.length<=p.length:=by
  unfold gU;refine xF (fun s=>∃a:Nat,s.2=(a:Int)/\a<=p.length/\s.1.length<=a/\s.1.map (·.R)++vn (p.drop a)=vn p) (fun s=>p.length-s.2.toNat) (fun t=>t.map (·.R)=vn p/\t.length<=p.length) (fun s hs=>?_) ⟨0,rfl,cE _,az _,rfl⟩ (by simp) (fun t ht=>⟨t,rfl,ht⟩);obtain ⟨out,n⟩:=s;obtain ⟨a,e,ha,ho,hI⟩:=hs;simp only at e ho hI;subst e;simp only;by_cases hlt:a<p.length
  · rw [ae (dlt hlt)]
    obtain ⟨k,hk,hloop⟩:=Cn hp hl hlt;rw [hloop];simp only [bsm];have hcl:(p.drop a).length=p.length-a:=by simp
    have hkle:=hk.le;rw [hcl] at hkle;have htp:=BQ hk (fun e=>by have:=gY List.length e; rw [hcl] at this; simp at this; omega);have hz:∃kn bad,(if (decide ((k:Int)>0))=true then
        (slc p (a:Int) (w64 ((a:Int)+(k:Int)))).bind fun x_66=>
        (dY ([]:List Int) x_66).bind fun x_67=>
        if ((x_67.2.length:Int)==0)=true then
        (idx x_67.1 0).bind fun x_89=>
        (some (x_89,(k:Int),(w64 ((a:Int)+(k:Int))),false):Option (Int×Int×Int×Bool))
        else
        (some (65533,(aE (k:Int) 1),(aB (w64 ((w64 ((a:Int)+(k:Int)))+1)) (p.length:Int)),true):Option (Int×Int×Int×Bool))
        else
        (some (65533,(aE (k:Int) 1),(w64 ((a:Int)+1)),true):Option (Int×Int×Int×Bool)))=some ((if 0<k then (if bg ((p.drop a).take k)=k then vl ((p.drop a).take k) else 65533) else 65533),((max k 1:Nat):Int),kn,bad):=by
      by_cases h0:0<k
      · rw [ae (by simpa using h0),ae h0]
        have e1:w64 ((a:Int)+(k:Int))=((a+k:Nat):Int):=by rw [aG (by omega)]; simp
        have hs:=oE (xs:=p) (i:=a) (j:=a+k) (by omega) (by omega);rw [show a+k-a=k by omega] at hs;rw [e1,hs];simp only [bsm];rw [Bz Hh.nil Bts.nil (fun x hx=>hp x (fS (du hx))) (by simp; omega)];simp only [bsm];rcases xz hk h0 with ⟨hw,hf⟩|⟨hw,hf⟩
        · rw [hf,ae (by simp),ae hw]
          exact ⟨_,_,by rw [show max k 1=k by omega]; rfl⟩
        · rw [hf,af (by simp; omega),af (by omega)]
          exact ⟨_,_,by rw [fq,show max (k:Int) 1=((max k 1:Nat):Int) by omega]⟩
      · rw [af (by simpa using h0),af h0]
        exact ⟨_,_,by rw [fq,show max (k:Int) 1=((max k 1:Nat):Int) by omega]⟩
    obtain ⟨kn,bad,hz⟩:=hz;rw [hz];simp only [bsm];rw [cU (by simp; omega)];simp only [bsm];have e5:w64 ((a:Int)+((max k 1:Nat):Int))=((a+max k 1:Nat):Int):=by rw [aG (by omega)]; simp
    rw [e5];refine .inl ⟨_,rfl,⟨a+max k 1,rfl,by omega,by simp; omega,?_⟩,by simp only; omega⟩;simp only [bU,tu,HE,aO,cv,bm];rw [<-hI,htp,dv]
  · rw [af (by simp; omega)]
    refine .inr ⟨_,rfl,?_,by omega⟩;rw [gG (by omega),C6,eM] at hI;exact hI
end Go.Proofs.YtclmdpamofdoiaaGreatDoor
namespace Go.Proofs.YtclmdpamofdoiaaGreatDoor
open Go Go.Lt
variable {s C:Sto}{f k g W H:Nat}{q P:aa}{ks:List Nat}
def Sto.sf (s:Sto) (f:Nat) (x:bI):Sto:={ s with feed_Feeder:=s.feed_Feeder.set f x}
theorem qR {x:bI}(h:f<s.feed_Feeder.length):s.set_feed_Feeder f x=some (s.sf f x):=by
 unfold Sto.set_feed_Feeder;rw [ae h];rfl
theorem ur {x:bI}(h:f<s.feed_Feeder.length):(s.sf f x).feed_Feeder[f]? = some x:=by simp [Sto.sf,h]
theorem F5 (s:Sto) (f:Nat) (x y:bI):(s.sf f x).sf f y=s.sf f y:=by simp [Sto.sf]
theorem xU (s:Sto) (f:Nat) (x:bI):(s.sf f x).feed_Feeder.length=s.feed_Feeder.length:=by simp [Sto.sf]
theorem Pv.sf (h:Pv s s k g W q ks) (x:bI):Pv (s.sf f x) (s.sf f x) k g W q ks:=
 ⟨h.p,⟨h.g.g,h.g.r,h.g.h1,h.g.h2,h.g.w1,h.g.w2⟩,h.nd,h.l,rfl,h.f.rgp ⟨rfl,rfl,rfl⟩ ⟨rfl,rfl,rfl⟩⟩
theorem Wc.sf {j:Nat}{c:ai}{y:bG}{t:List Int}{n:Int}(h:Wc s j c y t n) (x:bI):Wc (s.sf f x) j c y t n:=⟨h.x⟩
def GR (C:Sto) (f j:Nat):Prop:=∃x,C.feed_Feeder[f]? = some x/\x.open_=some j
structure Fz (C s:Sto) (f:Nat) (op:Option Nat):Prop where
 fl:C.feed_Feeder.length<=s.feed_Feeder.length
 ff:∀j,j<C.feed_Feeder.length->j≠f->s.feed_Feeder[j]? = C.feed_Feeder[j]?
 wl:C.widen_Cluster.length<=s.widen_Cluster.length
 wc:∀j,j<C.widen_Cluster.length->¬GR C f j->s.widen_Cluster[j]? = C.widen_Cluster[j]?
 oc:∀j,op=some j->GR C f j\/C.widen_Cluster.length<=j
 sc:s.screen_Screen=C.screen_Screen
theorem pN {a b:Sto}(h:a.oth=b.oth):a.feed_Feeder=b.feed_Feeder:=by
 have:=gY Sto.feed_Feeder h;exact this
theorem ye {a b:Sto}(h:a.oth=b.oth):a.screen_Screen=b.screen_Screen:=by
 have:=gY Sto.screen_Screen h;exact this
theorem Fz.oth {s':Sto}{op:Option Nat}(h:Fz C s f op) (e:s'.oth=s.oth):Fz C s' f op:=by
 refine ⟨by rw [pN e]; exact h.fl,by rw [pN e]; exact h.ff,by rw [uD e]; exact h.wl,by rw [uD e]; exact h.wc,h.oc,by rw [ye e]; exact h.sc⟩
theorem Fz.sf {op:Option Nat}(h:Fz C s f op) (x:bI) (op':Option Nat) (ho:∀j,op'=some j->GR C f j\/C.widen_Cluster.length<=j):Fz C (s.sf f x) f op':=
 ⟨by rw [xU]; exact h.fl,fun j a b=>by simp only [Sto.sf]; rw [bh (sQ b)]; exact h.ff j a b,h.wl,h.wc,ho,h.sc⟩
theorem Fz.more {op:Option Nat}(h:Fz C s f op){s':Sto}{z:bq}(e:s'.oth=(s.add_widen_Cluster z).oth):Fz C s' f op:=by
 have e1:s'.feed_Feeder=s.feed_Feeder:=(pN e).trans rfl;have e2:s'.widen_Cluster=s.widen_Cluster++ [z]:=(uD e).trans rfl;have e3:s'.screen_Screen=s.screen_Screen:=(ye e).trans rfl;have hl:=h.wl;exact ⟨by rw [e1]; exact h.fl,by rw [e1]; exact h.ff,by rw [e2,aA]; omega,fun j a b=>by rw [e2,aL (by omega)]; exact h.wc j a b,h.oc,by rw [e3]; exact h.sc⟩
theorem Fz.grow {j:Nat}(h:Fz C s f (some j)){s':Sto}{z:bq}(e:s'.oth=(s.sc j z).oth):Fz C s' f (some j):=by
 have e1:s'.feed_Feeder=s.feed_Feeder:=(pN e).trans rfl;have e2:s'.widen_Cluster=s.widen_Cluster.set j z:=(uD e).trans rfl;have e3:s'.screen_Screen=s.screen_Screen:=(ye e).trans rfl;refine ⟨by rw [e1]; exact h.fl,by rw [e1]; exact h.ff,by rw [e2,cx]; exact h.wl,fun i a b=>?_,h.oc,by rw [e3]; exact h.sc⟩;rw [e2,bh ?_]
 ·exact h.wc i a b
 ·rintro rfl;rcases h.oc j rfl with q|q
  ·exact b q
  ·omega
def zr (G:List Int):Bool:=match G.getLast? with|none=>true|some x=>sil x
theorem lO (G:List Int) (r:Int):zr (G++ [r])=sil r:=by simp [zr]
def pI (G:List Int):Sg:=if zr G=true then sg0 else sgF (G.map pr)
structure Op (s:Sto) (k g W H:Nat) (P:aa) (G:List Int) (q:aa) (j:Nat):Prop where
 x:∃q0 c C0 s0 ks0 cs0 cl,cls pj pr G=cs0++ [cl]/\cl≠ []/\sil (cl.headD 0)=false/\fo sX P cs0=some q0/\Pv C0 s0 k g W q0 ks0/\ks0.length=H/\
  Wc s j c (gf (cl.take 16) ((cl.take 16).map pr)) (cl.take 16) (w16 cl)/\be q0 (w16 cl) (cl.take 16)=some (q,c)
structure Fd (C s:Sto) (f k g W H:Nat) (P:aa) (G h:List Int) (q:aa) (ks:List Nat) (op:Option Nat):Prop where
 v:Pv s s k g W q ks
 fr:Fr C s k g ks
 fz:Fz C s f op
 n:ks.length=H
 hd:Hd q.At W H
 l:fo sX P (cls pj pr G)=some q
 gv:∀x∈G,vld x=true
 d:∃d,s.feed_Feeder[f]? = some ⟨some k,d,sgB (pI G),op⟩/\Dv d h
 o1:zr G=true->op=none
 o2:zr G=false->∃j,op=some j/\Op s k g W H P G q j
theorem C3 {x:Int}(h:vld x=true):r32 x:=by
 unfold vld at h;unfold r32;simp only [av,an] at h;omega
theorem FJ {q q':aa}{r:Int}{b:Bool}(h:cI q r=some (q',b)):AP q r=some q':=by
 unfold AP;rw [h];rfl
theorem EN (c:List Int):(c.take 16).length<=16:=by rw [ay]; omega
theorem vf (t:List Int) (r:Int):gf (t++ [r]) ((t++ [r]).map pr)=gz (gf t (t.map pr)) r (pr r):=by
 rw [vJ (by simp) r];have e:((t++ [r]).map pr).take t.length=t.map pr:=by simp
 rw [<-FB t ((t++ [r]).map pr) (az _),e];simp
theorem D5 {r:Int}(h:vld r=true):gi r=r:=by unfold gi; rw [ae h]
theorem DD {C s:Sto}{k g W H:Nat}{q0 q:aa}{ks:List Nat}(h:Pv C s k g W q0 ks) (hn:ks.length=H){n:Int}{t:List Int}(ht:t.length<=1000000){c:ai}(hp:be q0 n t=some (q,c)):Hd q.At W H:=by
 obtain ⟨s',q',ks',i,a,_,_,a2,_,_,a5,_⟩:=AB h n t ht;rw [hp] at a2;cases a2;rw [<-hn];exact a5
theorem Ec {G h:List Int}{op:Option Nat}(F:Fd C s f k g W H P G h q ks op){r:Int}(hr:vld r=true):∃s' q' ks' op',gV s (some f) r=some s'/\Fd C s' f k g W H P (G++ [r]) h q' ks' op':=by
 obtain ⟨d,hd,hdv⟩:=F.d;have hf:=cR hd;have hgv:∀x∈G++ [r],vld x=true:=fun x hx=>by
  rcases List.mem_append.1 hx with hx|hx
  ·exact F.gv x hx
  ·rw [List.mem_singleton.1 hx]; exact hr
 have hcs:=tZ pj pr G r;unfold gV;rw [Dd];simp only [bsm]
 cases hs:sil r with
 | true=>
  simp only [bz];unfold dp;simp only [bO,eL,bz,bsm,hd];rw [qR hf];simp only [bsm,xr];rw [qR (by rw [xU]; exact hf),F5];simp only [bsm];rw [ur hf];simp only [bsm];obtain ⟨s',q',ks',a1,a2,a3,hks,hcd⟩:=FM (F.v.sf (f:=f) ⟨some k,d,sgB sg0,none⟩) r;rw [a1];have hdo:=FJ a2;have hf1:Fr C (s.sf f ⟨some k,d,sgB sg0,none⟩) k g ks:=F.fr.rgp (Rgp.self _) ⟨rfl,rfl,rfl⟩;have hv1:=F.v.sf (f:=f) ⟨some k,d,sgB sg0,none⟩;refine ⟨s',q',ks',none,rfl,⟨a3.self,hf1.trans hv1.oG hv1.oR a3.f,(F.fz.sf ⟨some k,d,sgB sg0,none⟩ none (fun j e=>by cases e)).oth a3.o,by rw [hks]; exact F.n,by rw [<-F.n]; exact hcd (by rw [F.n]; exact F.hd),?_,hgv,⟨d,?_,hdv⟩,fun _=>rfl,fun e=>?_⟩⟩
  ·
   rw [hcs];split
   ·rename_i hj
    obtain ⟨l0,x,rfl,hx⟩:=De.yes hs hj;obtain ⟨cs0,c,ec⟩:=jN ((rk (pj:=pj) (pr:=pr) (l0++ [x])).2.2 (by simp));obtain ⟨c',rfl⟩:=zM ec;rw [ec,pE];have hall:=De.all (l0++ [x]) (c'++ [x]) (by rw [ec]; simp);have hal:∀y∈c'++ [x],sil y=true:=by
     rcases hall with q|q
     ·exact q
     ·have:=q x (by simp); rw [hx] at this; cases this
    have hl:=F.l;rw [ec,pP] at hl;rw [pP]
    cases hq0:fo sX P cs0 with
    | none=>rw [hq0] at hl; cases hl
    | some q0=>
     rw [hq0] at hl;simp only [bsm] at hl|-;obtain ⟨a,t,ea⟩:∃a t,c'++ [x]=a::t:=by
      cases h:c'++ [x] with
      | nil=>simp at h
      | cons a t=>exact ⟨a,t,rfl⟩
     have ha:sil a=true:=hal a (by rw [ea]; simp);rw [ea,tN ha] at hl;rw [ea,cv,tN ha,<-cv,pP,hl];exact hdo
   ·rw [pP,F.l];simp only [bsm];rw [tN hs];show (AP q r).bind (fun b=>some b)=_;rw [hdo];rfl
  ·have:pI (G++ [r])=sg0:=by unfold pI; rw [lO,ae hs]
   rw [this,pN a3.o];exact ur hf
  ·rw [lO,hs] at e;cases e
 | false=>
  simp only [ak,ba];rw [Gs r (C3 hr)];simp only [bsm,hd];rw [Dk];simp only [bsm];rw [qR hf];simp only [bsm];have hsj:sgJ pj (pI G) (pr r)=jn pj pr G r/\sgN (pI G) (pr r)=sgF ((G++ [r]).map pr):=by
   unfold pI;rw [bU,yI,vR]
   cases hL:zr G with
   | false=>simp only [ak,ba]; exact ⟨rfl,trivial⟩
   | true=>
    simp only [bz];by_cases hG:G= []
    ·subst hG; exact ⟨rfl,rfl⟩
    ·obtain ⟨G0,x,rfl⟩:=jN hG;rw [lO] at hL;rw [De.no G0 hL hs,De.new G0 hL];exact ⟨rfl,rfl⟩
  rw [hsj.1,hsj.2];have hsg:pI (G++ [r])=sgF ((G++ [r]).map pr):=by unfold pI; rw [lO,hs]; rfl
  rw [<-hsg];have hv1:=F.v.sf (f:=f) ⟨some k,d,sgB (pI (G++ [r])),op⟩;have hf1:Fr C (s.sf f ⟨some k,d,sgB (pI (G++ [r])),op⟩) k g ks:=F.fr.rgp (Rgp.self _) ⟨rfl,rfl,rfl⟩;have hz1:=F.fz.sf ⟨some k,d,sgB (pI (G++ [r])),op⟩ op F.fz.oc;have hg1:(s.sf f ⟨some k,d,sgB (pI (G++ [r])),op⟩).feed_Feeder[f]? = some ⟨some k,d,sgB (pI (G++ [r])),op⟩:=ur hf;simp only [bi,bsm];rw [hg1];simp only [bsm];have hfix:=D5 hr
  cases hj:jn pj pr G r with
  | true=>
   have hL:zr G=false:=by
    cases hL:zr G with
    | false=>rfl
    | true=>
     obtain ⟨G0,x,rfl⟩:=jN (xE pj pr hj);rw [lO] at hL;rw [De.no G0 hL hs] at hj;cases hj
   obtain ⟨j,rfl,⟨q0,c,C0,s0,ks0,cs0,cl,ec,hcne,hcs0,hq0,hp0,hn0,hw,hput⟩⟩:=F.o2 hL;simp only [bO,eL,Bool.and_self,bz];have hcs2:cls pj pr (G++ [r])=cs0++ [cl++ [r]]:=by rw [hcs,ae hj,ec,pE]
   have hclv:∀x∈cl.take 16,vld x=true:=fun x hx=>F.gv x (by
    rw [<-(rk (pj:=pj) (pr:=pr) G).1,ec];exact List.mem_flatten.2 ⟨cl,by simp,du hx⟩)
   have hhd:sil ((cl++ [r]).headD 0)=false:=by
    cases cl with
    | nil=>exact absurd rfl hcne
    | cons a t=>exact hcs0
   have hw16:w16 cl=wz (gf (cl.take 16) ((cl.take 16).map pr)):=rfl;rw [hw16] at hw hput;have on:On C (s.sf f ⟨some k,d,sgB (pI (G++ [r])),some j⟩) k g W H j q0 (gf (cl.take 16) ((cl.take 16).map pr)) (cl.take 16) q c ks:=⟨hv1,hf1,hw.sf _,F.n,hput⟩;have hlayc:∀q2 c2,be q0 (w16 (cl++ [r])) ((cl++ [r]).take 16)=some (q2,c2)->fo sX P (cls pj pr (G++ [r]))=some q2:=fun q2 c2 e=>by
    rw [hcs2,pP,hq0];simp only [bsm]
    cases hcc:cl++ [r] with
    | nil=>simp at hcc
    | cons a t=>
     rw [hcc] at e hhd;rw [wm (by simpa using hhd),e];rfl
   have hlen:cl.length<16\/16<=cl.length:=by omega
   have hcl1:1<=cl.length:=by
    cases cl with
    | nil=>exact absurd rfl hcne
    | cons _ _=>simp
   rcases hlen with hlt|hge
   ·have et:cl.take 16=cl:=aC (by omega);have et2:(cl++ [r]).take 16=cl++ [r]:=aC (by simp; omega);rw [et] at on hclv;obtain ⟨s',q',c',ks',b1,b2,z,b3⟩:=Fp hp0 hn0 on hcl1 hlt hclv r (pr r);rw [b1];simp only [bsm];rw [hfix,<-vf] at b2;have hw2:w16 (cl++ [r])=wz (gf (cl++ [r]) ((cl++ [r]).map pr)):=by unfold w16; rw [et2]
    refine ⟨s',q',ks',some j,rfl,⟨b2.v,b2.f,hz1.grow b3,b2.n,DD hp0 hn0 (EN cl |> fun _=>by simp; omega) b2.p,hlayc q' c' (by rw [hw2,et2]; exact b2.p),hgv,⟨d,?_,hdv⟩,fun e=>?_,fun _=>⟨j,rfl,⟨q0,c',C0,s0,ks0,cs0,cl++ [r],hcs2,by simp,hhd,hq0,hp0,hn0,?_,by rw [hw2,et2]; exact b2.p⟩⟩⟩⟩
    ·rw [show s'.feed_Feeder=(s.sf f ⟨some k,d,sgB (pI (G++ [r])),some j⟩).feed_Feeder from (pN b3).trans rfl];exact hg1
    ·rw [lO,hs] at e; cases e
    ·rw [hw2,et2];exact b2.w
   ·have hfl:(cl.take 16).length=16:=by rw [ay]; omega
    have et2:(cl++ [r]).take 16=cl.take 16:=di hge;have hw2:w16 (cl++ [r])=w16 cl:=by unfold w16; rw [et2]
    rw [Ct on hfl r (pr r)];simp only [bsm];refine ⟨_,q,ks,some j,rfl,⟨hv1,hf1,hz1,F.n,F.hd,hlayc q c (by rw [hw2,et2]; exact hput),hgv,⟨d,hg1,hdv⟩,fun e=>?_,fun _=>⟨j,rfl,⟨q0,c,C0,s0,ks0,cs0,cl++ [r],hcs2,by simp,hhd,hq0,hp0,hn0,?_,by rw [hw2,et2]; exact hput⟩⟩⟩⟩
    ·rw [lO,hs] at e; cases e
    ·rw [hw2,et2];exact hw.sf _
  | false=>
   simp only [mw,ak,ba];obtain ⟨s2,q2,c2,ks2,b1,b2,z,b3⟩:=Eu hv1 r (pr r);rw [b1];simp only [bsm];have e1:s2.feed_Feeder=(s.sf f ⟨some k,d,sgB (pI (G++ [r])),op⟩).feed_Feeder:=(pN b3).trans rfl;rw [e1,hg1];simp only [bsm];have hf2:f<s2.feed_Feeder.length:=by rw [e1,xU]; exact hf
   rw [qR hf2];rw [hfix] at b2;have hgf:gz ⟨false,false,false⟩ r (pr r)=gf [r] ([r].map pr):=by
    have:=vf [] r;simp only [bm] at this;rw [this];rfl
   rw [hgf] at b2;have hcs2:cls pj pr (G++ [r])=cls pj pr G++ [[r]]:=by rw [hcs,hj]; rfl
   have hlay:fo sX P (cls pj pr (G++ [r]))=some q2:=by
    rw [hcs2,pP,F.l];simp only [bsm];rw [wm hs];show (be q (wz (gf [r] ([r].map pr))) [r]).map (·.1)=some q2;rw [b2.p];rfl
   refine ⟨_,q2,ks2,some (s.sf f ⟨some k,d,sgB (pI (G++ [r])),op⟩).widen_Cluster.length,rfl,⟨b2.v.sf _,?_,(hz1.more b3).sf _ _ (fun j e=>?_),b2.n.trans F.n,DD F.v F.n (by simp) b2.p,hlay,hgv,⟨d,ur hf2,hdv⟩,fun e=>?_,fun _=>⟨_,rfl,⟨q,c2,_,_,ks,cls pj pr G,[r],hcs2,by simp,hs,F.l,F.v,F.n,b2.w.sf _,b2.p⟩⟩⟩⟩
   ·exact (hf1.trans hv1.oG hv1.oR b2.f).rgp (Rgp.self _) ⟨rfl,rfl,rfl⟩
   ·cases e;exact .inr hz1.wl
   ·rw [lO,hs] at e; cases e
end Go.Proofs.YtclmdpamofdoiaaGreatDoor
namespace Go.Proofs.YtclmdpamofdoiaaGreatDoor
open Go Go.Lt
variable {s C:Sto}{f k g W H:Nat}{q P:aa}{ks:List Nat}{op:Option Nat}
theorem Gp {p:List Int}(hp:Bts p) (hb:bg p=(p.length:Int)) (hne:p≠ []):vld (vl p)=true:=by
 have h4:=BK p;unfold vld;simp only [av,an]
 match p,hne with
 | [a],_=>
  obtain ⟨a1,a2⟩:=hp a (by simp);have hl:=oX a;simp only [bg,aK,aP] at hb;simp only [vl,List.foldl,b0]
  repeat' split
  all_goals simp only [aD,an]
  all_goals omega
 | [a,b],_=>
  obtain ⟨a1,a2⟩:=hp a (by simp);have hl:=oX a;simp only [bg,aK,aP] at hb;split at hb
  ·rename_i g
   have hs:128<=b/\b<=191:=by
    have:=g.2;unfold slo shi at this
    repeat' split at this
    all_goals omega
   simp only [vl,List.foldl,b0]
   repeat' split
   all_goals simp only [aD,an]
   all_goals omega
  ·omega
 | [a,b,c],_=>
  obtain ⟨a1,a2⟩:=hp a (by simp);have hl:=oX a;simp only [bg,aK,aP] at hb;split at hb
  ·rename_i g
   have hs:128<=b/\b<=191/\(a=237->b<=159):=by
    have:=g.2;unfold slo shi at this
    repeat' split at this
    all_goals omega
   simp only [vl,List.foldl,b0]
   repeat' split
   all_goals simp only [aD,an]
   all_goals omega
  ·omega
 | [a,b,c,d],_=>
  obtain ⟨a1,a2⟩:=hp a (by simp);have hl:=oX a;simp only [bg,aK,aP] at hb;split at hb
  ·rename_i g
   have hs:128<=b/\b<=191/\(a=240->144<=b)/\(a=244->b<=143):=by
    have:=g.2;unfold slo shi at this
    repeat' split at this
    all_goals omega
   simp only [vl,List.foldl,b0]
   repeat' split
   all_goals simp only [aD,an]
   all_goals omega
  ·omega
 | _::_::_::_::_::_,_=>simp only [bg,aK] at hb; omega
theorem Bi {b:Int}(h:Byt b):∀x∈(rs0 b).1,vld x=true:=fun x hx=>by
 obtain ⟨h1,h2⟩:=h;have hl:=oX b;unfold rs0 at hx;split at hx
 ·simp at hx
 ·split at hx
  ·rw [List.mem_singleton.1 hx];unfold vld;simp only [av,aD,an];omega
  ·rw [List.mem_singleton.1 hx]; rfl
theorem B7 {h:List Int}(hb:Bts h){b:Int}(h1:Byt b):∀x∈(ju h b).1,vld x=true:=fun x hx=>by
 unfold ju at hx;split at hx
 ·exact Bi h1 x hx
 ·split at hx
  ·simp at hx
  ·split at hx
   ·rename_i g1 g2
    rw [List.mem_singleton.1 hx];refine Gp (hb.snoc h1) ?_ (by simp);have:=zX g2;simp only [aA,aK,aP] at this|-;omega
   ·rcases List.mem_cons.1 hx with hx|hx
    ·rw [hx]; rfl
    ·exact Bi h1 x hx
theorem ex4 {α β γ δ:Type}{X:Option α}{Q:α->β->γ->δ->Prop}(h:∃a,X=some a/\∃b c d,Q a b c d):∃a b c d,X=some a/\Q a b c d:=by
 obtain ⟨a,h1,b,c,d,h2⟩:=h;exact ⟨a,b,c,d,h1,h2⟩
theorem BA {G h:List Int}(F:Fd C s f k g W H P G h q ks op){l:List Int}(hl:l.length<=1000000) (hv:∀x∈l,vld x=true):∃s' q' ks' op',gK s (some f) l=some s'/\Fd C s' f k g W H P (G++l) h q' ks' op':=by
 unfold gK;refine ex4 (nM (n:=l.length) (fun i (st:Int×Sto)=>st.1=(i:Int)/\∃q' ks' op',Fd C st.2 f k g W H P (G++l.take i) h q' ks' op') (fun u:Sto=>∃q' ks' op',Fd C u f k g W H P (G++l) h q' ks' op') (p:=fun s':Sto=>∃q' ks' op',Fd C s' f k g W H P (G++l) h q' ks' op') (fun i st hi hI=>?_) (fun st hI=>?_) ⟨rfl,q,ks,op,by simpa using F⟩ (by omega) (fun u hu=>⟨u,rfl,hu⟩))
 ·obtain ⟨i',st⟩:=st;obtain ⟨e,q1,ks1,op1,F1⟩:=hI;simp only at e F1;subst e;simp only;rw [ae (dlt hi),bp hi,dL hi (by omega)];simp only [bsm];obtain ⟨s2,q2,ks2,op2,b1,b2⟩:=Ec F1 (hv _ (aF hi));rw [b1];refine .inl ⟨_,rfl,rfl,q2,ks2,op2,?_⟩;rw [ax hi,<-aO];exact b2
 ·obtain ⟨i',st⟩:=st;obtain ⟨e,q1,ks1,op1,F1⟩:=hI;simp only at e F1;subst e;refine ⟨st,by simp only; rw [af (by simp)],q1,ks1,op1,?_⟩;rw [aC (az _)] at F1;exact F1
theorem Fd.dec {G h h':List Int}(F:Fd C s f k g W H P G h q ks op){d d':bH}(hd:s.feed_Feeder[f]? = some ⟨some k,d,sgB (pI G),op⟩) (hv:Dv d' h'):Fd C (s.sf f ⟨some k,d',sgB (pI G),op⟩) f k g W H P G h' q ks op:=by
 have hf:=cR hd;refine ⟨F.v.sf _,F.fr.rgp (Rgp.self _) ⟨rfl,rfl,rfl⟩,F.fz.sf _ _ F.fz.oc,F.n,F.hd,F.l,F.gv,⟨d',ur hf,hv⟩,F.o1,fun e=>?_⟩;obtain ⟨j,e1,⟨q0,c,C0,s0,ks0,cs0,cl,a1,a2,a3,a4,a5,a6,a7,a8⟩⟩:=F.o2 e;exact ⟨j,e1,⟨q0,c,C0,s0,ks0,cs0,cl,a1,a2,a3,a4,a5,a6,a7.sf _,a8⟩⟩
theorem CD {G h:List Int}(F:Fd C s f k g W H P G h q ks op) (hb:Bts h){b:List Int}(hl:b.length<=9223372036854775807) (hbt:Bts b):∃s' q' ks' op',gX s (some f) b=some s'/\Fd C s' f k g W H P (G++(bC h b).1) (bC h b).2 q' ks' op':=by
 unfold gX;simp only [bO,ak,ba,bsm];refine ex4 (nM (n:=b.length) (fun i (st:Int×Sto)=>st.1=(i:Int)/\∃q' ks' op',Fd C st.2 f k g W H P (G++(bC h (b.take i)).1) (bC h (b.take i)).2 q' ks' op') (fun u:Sto=>∃q' ks' op',Fd C u f k g W H P (G++(bC h b).1) (bC h b).2 q' ks' op') (p:=fun s':Sto=>∃q' ks' op',Fd C s' f k g W H P (G++(bC h b).1) (bC h b).2 q' ks' op') (fun i st hi hI=>?_) (fun st hI=>?_) ⟨rfl,q,ks,op,by simpa [bC] using F⟩ (by omega) (fun u hu=>⟨u,rfl,hu⟩))
 ·obtain ⟨i',st⟩:=st;obtain ⟨e,q1,ks1,op1,F1⟩:=hI;simp only at e F1;subst e;simp only;rw [ae (dlt hi),bp hi,dL hi (by omega)];obtain ⟨d,hd,hdv⟩:=F1.d;simp only [bsm,hd];have hx:=hbt _ (aF hi);obtain ⟨d',c1,c2⟩:=D8 hdv hx;rw [c1];simp only [bsm];rw [qR (cR hd)];simp only [bsm];have hbt':Bts (b.take i):=fun x hx=>hbt x (du hx);obtain ⟨s2,q2,ks2,op2,b1,b2⟩:=BA (F1.dec hd c2) (l:=(ju (bC h (b.take i)).2 b[i]).1) (by have:=ux (bC h (b.take i)).2 b[i]; omega) (B7 (uy hb hbt') hx);rw [b1];refine .inl ⟨_,rfl,rfl,q2,ks2,op2,?_⟩;rw [ax hi,pM];simp only;rw [<-aO];exact b2
 ·obtain ⟨i',st⟩:=st;obtain ⟨e,q1,ks1,op1,F1⟩:=hI;simp only at e F1;subst e;refine ⟨st,by simp only; rw [af (by simp)],q1,ks1,op1,?_⟩;rw [aC (az _)] at F1;exact F1
theorem uJ {G h:List Int}(F:Fd C s f k g W H P G h q ks op):∃s',dp s (some f)=some s'/\Fd C s' f k g W H q [] h q ks none:=by
 obtain ⟨d,hd,hdv⟩:=F.d;have hf:=cR hd;unfold dp;simp only [bO,eL,bz,bsm,hd];rw [qR hf];simp only [bsm,xr];rw [qR (by rw [xU]; exact hf),F5];refine ⟨_,rfl,⟨F.v.sf _,F.fr.rgp (Rgp.self _) ⟨rfl,rfl,rfl⟩,F.fz.sf _ none (fun j e=>by cases e),F.n,F.hd,rfl,fun x hx=>by simp at hx,⟨d,ur hf,hdv⟩,fun _=>rfl,fun e=>by cases e⟩⟩
theorem CC {G h:List Int}(F:Fd C s f k g W H P G h q ks op):∃s' q' ks',gW s (some f)=some s'/\Fd C s' f k g W H q' [] [] q' ks' none/\fo sX P (cls pj pr (G++(if h= [] then [] else [65533])))=some q':=by
 obtain ⟨d,hd,hdv⟩:=F.d;have hf:=cR hd;unfold gW;simp only [bO,ak,ba,bsm,hd];rw [CG hdv];simp only [bsm];rw [qR hf];simp only [bsm];obtain ⟨s2,q2,ks2,op2,b1,b2⟩:=BA (F.dec hd Dv.zero) (l:=if h= [] then [] else [65533]) (by split <;> simp) (fun x hx=>by
  split at hx
  ·simp at hx
  ·rw [List.mem_singleton.1 hx]; rfl)
 rw [b1];simp only [bsm];obtain ⟨s3,c1,c2⟩:=uJ b2;rw [c1];exact ⟨s3,q2,ks2,rfl,c2,b2.l⟩
theorem It {G:List Int}(h:∀x∈G,vld x=true):R32 G:=fun x hx=>C3 (h x hx)
theorem zf {F:aq}(hb:Bts F.Raw) (hl:F.Raw.length<=1000000):dw F=some ((bC [] F.Raw).2.length:Int):=by
 unfold dw;rw [Bz Hh.nil Bts.nil hb hl];rfl
theorem Bj {F:aq}(hg:∀x∈F.Group,vld x=true) (hl:F.Group.length<=1000000) (h:fo sX F.P (cls pj pr F.Group)=some q):cO F=some q:=by
 unfold cO;rw [G2 (It hg) hl h];rfl
theorem rU {F:aq}(hg:∀x∈F.Group,vld x=true) (hl:F.Group.length<=1000000) (h:fo sX F.P (cls pj pr F.Group)=some q):cX F=some ⟨q,[],F.Raw,F.Parts⟩:=by
 unfold cX;rw [Bj hg hl h];rfl
theorem Dr {F:aq}(hl:F.Group.length<=1000000) (r:Int):eq F r=some ⟨F.P,F.Group++ [gi r],F.Raw,F.Parts⟩:=by
 have hfix:((cZ r).bind fun x_6=>if (!x_6)=true then (some (65533):Option (Int)) else (some (r):Option (Int)))=some (gi r):=by
  rw [uz];unfold gi
  cases vld r <;> rfl
 unfold eq;rw [hfix];simp only [bsm];rw [cU (by simp; omega),bm];simp only [bsm];rw [cU (by simp; omega)];rfl
theorem Cg {F:aq}(hp:F.Parts=((bC [] F.Raw).1.length:Int)) (hb:Bts F.Raw){b:List Int}(hbt:Bts b) (hl:F.Raw.length+b.length<=1000000) (hg:F.Group.length<=1000000):
  dR F b=some ⟨F.P,F.Group++(bC (bC [] F.Raw).2 b).1,F.Raw++b,((bC [] (F.Raw++b)).1.length:Int)⟩:=by
 have hbb:Bts (F.Raw++b):=fun x hx=>by
  rcases List.mem_append.1 hx with hx|hx
  ·exact hb x hx
  ·exact hbt x hx
 have hll:(F.Raw++b).length<=1000000:=by simp; omega
 obtain ⟨l,h1,h2,h3⟩:=Hz hbb hll;have hap:=oU [] F.Raw b;unfold dR;rw [cU (by simp; omega),bm];simp only [bsm];rw [cU (by omega)];simp only [bsm];rw [h1];simp only [bsm];rw [zf hbb hll];simp only [bsm];have hz:∃z:List cf,(if decide (((bC [] (F.Raw++b)).2.length:Int)>0)=true then (slc l 0 (w64 ((l.length:Int)-1))).bind fun x_27=>(some (x_27):Option ((List cf))) else (some (l):Option ((List cf))))=some z/\z.map (·.R)=(bC [] (F.Raw++b)).1/\z.length<=l.length:=by
  unfold vn at h2;have hlen:=gY List.length h2;simp only [dq,aA] at hlen;by_cases hh:(bC [] (F.Raw++b)).2= []
  ·rw [af (by rw [hh]; simp)];rw [ae hh,eM] at h2;exact ⟨l,rfl,h2,az _⟩
  ·rw [af hh] at h2 hlen;have hpos:0<(bC [] (F.Raw++b)).2.length:=by
    cases hc:(bC [] (F.Raw++b)).2 with
    | nil=>exact absurd hc hh
    | cons _ _=>simp
   rw [ae (by simpa using hpos)];simp only [aK,aP] at hlen;have hs:=oE (xs:=l) (i:=0) (j:=l.length-1) (cE _) (by omega);rw [show ((0:Nat):Int)=0 from rfl,jL,og] at hs;rw [aG (by omega),show (l.length:Int)-1=((l.length-1:Nat):Int) by omega,hs];refine ⟨_,rfl,?_,by rw [ay]; omega⟩;rw [List.map_take,h2,di (by omega),aC (by omega)]
 obtain ⟨z,hz1,hz2,hz3⟩:=hz;rw [hz1];simp only [bsm];have hzl:=gY List.length hz2;rw [dq] at hzl;have hem:(bC [] (F.Raw++b)).1=(bC [] F.Raw).1++(bC (bC [] F.Raw).2 b).1:=by rw [hap]
 have heml:=gY List.length hem;rw [aA] at heml;rw [hp];refine lP (n:=z.length-(bC [] F.Raw).1.length) (fun i st=>st=((((bC [] F.Raw).1.length+i:Nat):Int),F.Group++(bC (bC [] F.Raw).2 b).1.take i)) (fun u=>u=F.Group++(bC (bC [] F.Raw).2 b).1) (fun i st hi e=>?_) (fun st e=>?_) (by simp) (by omega) (fun u hu=>?_)
 ·subst e;simp only;have hlt:(bC [] F.Raw).1.length+i<z.length:=by omega
  rw [ae (by simp; omega),bp hlt];simp only [bsm];have hgr:(F.Group++(bC (bC [] F.Raw).2 b).1.take i).length<=3000000:=by simp; omega
  rw [cU (by simp only [aP]; omega),bm];simp only [bsm];rw [cU (by simp only [aK,aP]; omega),aG (by omega)];refine .inl ⟨_,rfl,?_⟩;have hR:z[(bC [] F.Raw).1.length+i].R=(bC (bC [] F.Raw).2 b).1[i]'(by omega):=by
   have e1:(z.map (·.R))[(bC [] F.Raw).1.length+i]? = ((bC [] F.Raw).1++(bC (bC [] F.Raw).2 b).1)[(bC [] F.Raw).1.length+i]? :=by rw [hz2,hem]
   rw [bK,ag hlt,bu (by omega),Nat.add_sub_cancel_left,ag (show i<(bC (bC [] F.Raw).2 b).1.length by omega)] at e1;exact bj e1
  rw [hR,ax (show i<(bC (bC [] F.Raw).2 b).1.length by omega),aO]
  congr 1
 ·subst e;refine ⟨_,by simp only; rw [af (by simp; omega)],?_⟩;rw [aC (by omega)]
 ·subst hu;rw [hzl]
end Go.Proofs.YtclmdpamofdoiaaGreatDoor
namespace Go.Proofs.YtclmdpamofdoiaaGreatDoor
open Go Go.Lt
variable {s C:Sto}{f k g W H:Nat}{q P:aa}{ks:List Nat}{op:Option Nat}
theorem Fz.self (s:Sto) (f:Nat) (op:Option Nat) (h:∀x,s.feed_Feeder[f]? = some x->x.open_=op) (hf:f<s.feed_Feeder.length):Fz s s f op:=
 ⟨az _,fun _ _ _=>rfl,az _,fun _ _ _=>rfl,fun j e=> .inl ⟨s.feed_Feeder[f],ag hf,by rw [h _ (ag hf)]; exact e⟩,rfl⟩
theorem Pv.addf (h:Pv s s k g W q ks) (x:bI):Pv (s.add_feed_Feeder x) (s.add_feed_Feeder x) k g W q ks:=
 ⟨h.p,⟨h.g.g,h.g.r,h.g.h1,h.g.h2,h.g.w1,h.g.w2⟩,h.nd,h.l,rfl,h.f.rgp ⟨rfl,rfl,rfl⟩ ⟨rfl,rfl,rfl⟩⟩
theorem D6 (h:Pv s s k g W q ks) (hh:Hd q.At W ks.length):∃s',nT s (some k)=some (s',some s.feed_Feeder.length)/\Fd s' s' s.feed_Feeder.length k g W ks.length q [] [] q ks none/\s'=s.add_feed_Feeder ⟨some k,⟨0,0,0,0,0⟩,⟨false,0,0,0,false⟩,none⟩:=by
 unfold nT;simp only [bO,ez,bsm,h.p,ak,ba];have hg:(s.add_feed_Feeder ⟨some k,⟨0,0,0,0,0⟩,⟨false,0,0,0,false⟩,none⟩).feed_Feeder[s.feed_Feeder.length]? = some ⟨some k,⟨0,0,0,0,0⟩,⟨false,0,0,0,false⟩,none⟩:=by simp [Sto.add_feed_Feeder]
 refine ⟨_,rfl,⟨h.addf _,(h.addf _).f,Fz.self _ _ _ (fun x hx=>?_) (cR hg),rfl,hh,rfl,fun x hx=>by simp at hx,⟨_,hg,Dv.zero⟩,fun _=>rfl,fun e=>by cases e⟩,rfl⟩;rw [hg] at hx;cases hx;rfl
theorem Cd {W H:Nat}(w2:W<=1024) (h2:H<=1024):gP W H=some ⟨bls W H,⟨0,0,false⟩,true⟩:=by
 unfold gP;rw [Ce w2 h2];rfl
variable {F:aq}
end Go.Proofs.YtclmdpamofdoiaaGreatDoor
namespace Go.Proofs.YtclmdpamofdoiaaGreatDoor
open Go Go.Lt
variable {s:Sto}{k:Nat}{l p:List ab}{w:Bool}
theorem ID {c m:Nat}(h:c<=m):cl (c:Int) m=c:=by unfold cl; omega
theorem Bt (n:Int) (m:Nat):gq n 0 m=some ((cl n m:Nat):Int):=by
 simp only [gq,fq,dF,cl,aV];omega
def rg (l:List ab) (w:Bool) (a b:Nat):br:=if a<b then ⟨pl l a (List.replicate (b-a) bl),pw l w a (b-a)⟩ else ⟨l,w⟩
theorem Du {a b:Nat}(h:Snd l) (hb:b<=l.length):Snd (rg l w a b).cells:=by
 unfold rg;split
 ·exact h.paint (uq _) (by simp; omega)
 ·exact h
theorem GG (a b:Nat):(rg l w a b).cells.length=l.length:=by
 unfold rg;split
 ·exact jO _ _ _
 ·rfl
theorem tK (h:s.row_Row[k]? = some ⟨l,w⟩) (hs:Snd l) (hl:l.length<=1024) (a b:Int):
  ig s (some k) a b=some (s.sr k (rg l w (cl a l.length) (cl b l.length))):=by
 unfold ig;simp only [jA h,bsm,Bt];have ha:=nC a l.length;have hb:=nC b l.length;generalize cl a l.length=a' at *;generalize cl b l.length=b' at *;unfold rg;by_cases hab:a' < b'
 ·have e:w64 ((b':Int)-(a':Int))=((b' - a':Nat):Int):=by rw [aG (by omega)]; omega
  rw [ae (by simp; omega),ae hab,e,uR,show (max 0 (min (((b' - a':Nat)):Int) 1024)).toNat=b' - a' by omega];simp only [bsm];rw [oT h hs hl (uq _) (by simp; omega) (by simp; omega)];simp
 ·rw [af (by simp; omega),af hab,yT h]
theorem oV (l:List ab) (w:Bool) (hl:l.length<=1024) (a b:Int):cY l w a b=some ((rg l w (cl a l.length) (cl b l.length)).cells,(rg l w (cl a l.length) (cl b l.length)).wrap):=by
 unfold cY;have ha:=nC a l.length;have hb:=nC b l.length;have ea:aE 0 (aB a (l.length:Int))=((cl a l.length:Nat):Int):=by simp only [fq,dF,cl]; omega
 have eb:aE 0 (aB b (l.length:Int))=((cl b l.length:Nat):Int):=by simp only [fq,dF,cl]; omega
 rw [ea,eb];generalize cl a l.length=a' at *;generalize cl b l.length=b' at *;unfold rg;by_cases hab:a' < b'
 ·have e:w64 ((b':Int)-(a':Int))=((b' - a':Nat):Int):=by rw [aG (by omega)]; omega
  rw [af (by simp; omega),ae hab,e,oF _ (by omega)];simp only [bsm];have:=uA l w a' (List.replicate (b' - a') bl) (by omega) (by omega) (by simp; omega);rw [lM] at this;rw [show (List.replicate (((b' - a':Nat):Int).toNat) (⟨0,([]:List Int)⟩:ab))=List.replicate (b' - a') bl by rfl,this];rfl
 ·rw [ae (by simp; omega),af hab]
theorem Eg (h:s.row_Row[k]? = some ⟨l,w⟩) (hs:Snd l) (hl:l.length<=1024) (col n:Int):
  kj s (some k) col n=some (if 0<=col/\0<n then s.sr k (rg l w (cl col l.length) (cl (((cl col l.length:Nat):Int)+((cl n l.length:Nat):Int)) l.length)) else s):=by
 unfold kj;simp only [bi,bsm];by_cases hc:0<=col/\0<n
 ·rw [ae (by simp; omega),ae hc];simp only [jA h,bsm,Bt];have h1:=nC col l.length;have h2:=nC n l.length;rw [aG (by omega),tK h hs hl];simp only [bsm,ID h1]
 ·rw [af (by simp; omega),af hc]
def ac (l:List ab) (w:Bool) (x A B:Int):br:=
 if x=0 then rg l w (cl A l.length) (cl B l.length)
 else if x=1 then rg l w 0 (cl (max (-1) (min A l.length)+1) l.length)
 else if x=2 then rg l w (cl A l.length) l.length
 else if x=3 then ⟨(rg l w 0 l.length).cells,false⟩
 else if 0<=A/\0<B then rg l w (cl A l.length) (cl (((cl A l.length:Nat):Int)+((cl B l.length:Nat):Int)) l.length) else ⟨l,w⟩
theorem F7 {a b:Nat}(h:b<=a):rg l w a b=⟨l,w⟩:=by
 unfold rg;rw [af (by omega)]
theorem Ed (m:Nat):cl 0 m=0:=by unfold cl; omega
theorem vL (m:Nat):cl (m:Int) m=m:=by unfold cl; omega
theorem AO (h:s.row_Row[k]? = some ⟨l,w⟩) (hs:Snd l) (hl:l.length<=1024) (a b:Int):mc s (some k) a=some (s.sr k (ac l w 1 a b)):=by
 unfold mc gq;simp only [jA h,bsm,fq,dF];rw [aG (by omega),tK h hs hl,Ed];rfl
theorem zF (h:s.row_Row[k]? = some ⟨l,w⟩) (hs:Snd l) (hl:l.length<=1024) (a b:Int):ly s (some k) a=some (s.sr k (ac l w 2 a b)):=by
 unfold ly;simp only [jA h,bsm];rw [tK h hs hl,vL];rfl
theorem xJ (h:s.row_Row[k]? = some ⟨l,w⟩) (hs:Snd l) (hl:l.length<=1024) (a b:Int):kH s (some k)=some (s.sr k (ac l w 3 a b)):=by
 have hk:=cR h;unfold kH;simp only [jA h,bsm];rw [tK h hs hl,vL,Ed];simp only [bsm];rw [vV (l:=(rg l w 0 l.length).cells) (w:=(rg l w 0 l.length).wrap) (sV hk),Be];rfl
theorem zG (h:s.row_Row[k]? = some ⟨l,w⟩) (hs:Snd l) (hl:l.length<=1024) (a b:Int):kj s (some k) a b=some (s.sr k (ac l w 4 a b)):=by
 rw [Eg h hs hl,show ac l w 4 a b=if 0<=a/\0<b then rg l w (cl a l.length) (cl (((cl a l.length:Nat):Int)+((cl b l.length:Nat):Int)) l.length) else ⟨l,w⟩ by rfl];split
 ·rfl
 ·rw [yT h]
theorem E4 (l:List ab) (w:Bool) (hl:l.length<=1024) (x A B:Int):gR l w x A B=some ((ac l w x A B).cells,(ac l w x A B).wrap):=by
 unfold gR ac;by_cases h0:x=0
 ·rw [ae (by simpa using h0),ae h0,oV l w hl];rfl
 rw [af (by simpa using h0),af h0];by_cases h1:x=1
 ·rw [ae (by simpa using h1),ae h1];by_cases hA:A<0
  ·rw [ae (by simpa using hA),show max (-1) (min A (l.length:Int))+1=0 by omega,Ed,F7 (az _)]
  ·rw [af (by simpa using hA),dF,aG (by omega),oV l w hl,Ed,show max (-1) (min A (l.length:Int))=min A (l.length:Int) by omega];rfl
 rw [af (by simpa using h1),af h1];by_cases h2:x=2
 ·rw [ae (by simpa using h2),ae h2,oV l w hl,vL];rfl
 rw [af (by simpa using h2),af h2];by_cases h3:x=3
 ·rw [ae (by simpa using h3),ae h3,oV l w hl,vL,Ed];rfl
 rw [af (by simpa using h3),af h3];simp only [bD,bsm];by_cases hA:0<=A/\0<B
 ·rw [ae hA];by_cases hg:(l.length:Int)<=A
  ·rw [ae (by simp; omega),show cl A l.length=l.length by unfold cl; omega,F7 (nC _ _)]
  ·rw [af (by simp; omega),dF,aG (by omega),oV l w hl];rw [show cl (A+min B (l.length:Int)) l.length=cl (((cl A l.length:Nat):Int)+((cl B l.length:Nat):Int)) l.length by unfold cl; omega];rfl
 ·rw [af hA,ae (by simp; omega)]
theorem HB (hs:Snd l) (x A B:Int):Snd (ac l w x A B).cells:=by
 unfold ac
 repeat' split
 all_goals first|exact hs|exact Du hs (nC _ _)|exact Du hs (az _)
theorem HD (x A B:Int):(ac l w x A B).cells.length=l.length:=by
 unfold ac
 repeat' split
 all_goals first|rfl|exact GG _ _
theorem jo {α:Type}{l:List α}{n:Nat}{f:Nat->α}(hl:l.length=n) (h:∀i,i<n->l[i]? = some (f i)):l=(List.range n).map f:=by
 apply bZ;intro i;rcases aQ i n with hi|hi
 ·rw [h i hi]; simp [hi]
 ·rw [aS (by omega),aS (by simp; exact hi)]
def trc (l:List ab) (c j:Nat):ab:=if kd l c=3/\(j=c\/j+1=c) then bl else l.getD j bl
def tr (l:List ab) (c:Nat):List ab:=(List.range l.length).map (trc l c)
theorem qP (l:List ab) (c:Nat):(tr l c).length=l.length:=by simp [tr]
theorem C5 {c j:Nat}(h:j<l.length):(tr l c)[j]? = some (trc l c j):=by simp [tr,h]
theorem C4 (l:List ab) (c j:Nat):(trc l c j).Kind=if kd l c=3/\(j=c\/j+1=c) then 0 else kd l j:=by
 unfold trc;split
 ·rfl
 ·exact nL l j
theorem Br (c j:Nat):kd (tr l c) j=if kd l c=3/\(j=c\/j+1=c) then 0 else kd l j:=by
 rcases aQ j l.length with h|h
 ·rw [<-C4]; simp [kd,C5 h]
 ·rw [mS (by rw [qP]; exact h),mS (l:=l) h]; simp
theorem F4 {c:Nat}(h:kd l c≠3):tr l c=l:=by
 symm
 refine jo rfl fun i hi=>?_;unfold trc;rw [af (by intro e; exact h e.1),ao,ag hi];rfl
theorem xO (hs:Snd l) (c:Nat):Snd (tr l c):=fun j hj=>by
 have hj':j<l.length:=by rw [qP] at hj; exact hj
 have he:(tr l c)[j]=trc l c j:=by
  have:=C5 (c:=c) hj';rw [ag hj] at this;exact bj this
 have h2:=fun (h:kd l j=2)=>hs.two h;have h3:=fun (h:kd l j=3)=>hs.three h;have hc:=fun (h:kd l c=3)=>hs.three h;rw [he,C4,Br,Br];refine ⟨?_,?_,?_⟩
 ·unfold trc;split
  ·rfl
  ·exact hs.rg hj'
 ·intro e;split at e
  ·cases e
  ·rename_i hn
   have:=h2 e;rw [af]
   ·exact this
   ·rintro ⟨q1,q2⟩;have:=hc q1;rcases q2 with rfl|q2
    ·exact hn ⟨q1,.inr rfl⟩
    ·obtain rfl:c=j+2:=by omega
     rw [show j+2-1=j+1 by omega] at this;omega
 ·intro e;split at e
  ·cases e
  ·rename_i hn
   have:=h3 e;refine ⟨this.1,?_⟩;rw [af]
   ·exact this.2
   ·rintro ⟨q1,q2⟩;have:=hc q1;rcases q2 with q2|q2
    ·rw [<-q2] at q1;omega
    ·exact hn ⟨q1,.inl (by omega)⟩
theorem wo (l:List ab) (c:Nat):kd (tr l c) c≠3:=by
 rw [Br];split
 ·decide
 ·rename_i h
  intro e;exact h ⟨e,.inl rfl⟩
theorem xQ (hs:Snd l) (hl:l.length<=1024) (c:Nat):jP l c=some (tr l c):=by
 unfold jP;rcases aQ c l.length with h|h
 ·have hd:decide ((c:Int)<(l.length:Int))=true:=by simp; exact h
  simp only [hd,ip,bp h,bsm];by_cases h3:kd l c=3
  ·have hb:(l[c].Kind==3)=true:=by rw [<-lc h,h3]; rfl
   obtain ⟨h0,_⟩:=hs.three h3;have e1:w64 ((c:Int)-1)=((c-1:Nat):Int):=by rw [aG (by omega)]; omega
   rw [hb,ae rfl,e1,bp (by omega:c-1<l.length)];simp only [bsm];rw [lq (by omega)];simp only [bsm];rw [bp (by rw [cx]; exact h)];simp only [bsm];rw [lq (by rw [cx]; exact h)];simp only [bsm]
   congr 1
   refine jo (by simp) fun i hi=>?_;unfold trc;by_cases q1:c=i
   ·subst q1;rw [bA (by rw [cx]; exact h),ae ⟨h3,.inl rfl⟩];rfl
   ·rw [bh q1];by_cases q2:c-1=i
    ·subst q2;rw [bA (by omega),ae ⟨h3,.inr (by omega)⟩];rfl
    ·rw [bh q2,af (by rintro ⟨_,q⟩; omega),ao,ag hi];rfl
  ·have hb:(l[c].Kind==3)=false:=by rw [<-lc h]; simp [h3]
   rw [hb,af (by decide),F4 h3]
 ·have hd:decide ((c:Int)<(l.length:Int))=false:=by simp; exact h
  simp only [hd,iF,bsm];rw [af (by decide),F4 (by rw [mS h]; decide)]
theorem xP (hl:l.length<=1024) (c:Nat):dU l c=some (tr l c):=by
 unfold dU;refine yD (wq (n:=l.length) (trc l c) (t:=tr l c) (fun i hi=>?_) ?_ (by omega)) rfl
 ·simp only [dlt hi,bz,bp hi,bsm,dL hi (by omega),bD];have hz:bT (decide ((c:Int)<(l.length:Int))) ((idx l c).bind fun x_29=>some (x_29.Kind==3))=some (kd l c==3):=by
   rcases aQ c l.length with h|h
   ·have hd:decide ((c:Int)<(l.length:Int))=true:=by simp; exact h
    simp only [hd,ip,bp h,bsm,<-lc h]
   ·have hd:decide ((c:Int)<(l.length:Int))=false:=by simp; exact h
    simp only [hd,iF];rw [mS h];rfl
  simp only [hz,bsm,bi];rw [show (kd l c==3 && ((i:Int)==(c:Int) || ((i+1:Nat):Int)==(c:Int)))=decide (kd l c=3/\(i=c\/i+1=c)) by
   rw [cu];simp only [av,aD,aT,an];omega]
  have hx:(if decide (kd l c=3/\(i=c\/i+1=c))=true then (some (0,([]:List Int)):Option (Int×(List Int))) else (some (l[i].Kind,l[i].Text):Option (Int×(List Int))))=some ((trc l c i).Kind,(trc l c i).Text):=by
   unfold trc;split
   ·rename_i h
    rw [ae (sI h)];rfl
   ·rename_i h
    rw [af (by simpa using h),ao,ag hi];rfl
  rw [hx];simp only [bsm];rw [cU (by simp; omega)];rfl
 ·simp only [dnl];rfl
def inx (l:List ab) (c n j:Nat):ab:=if j<c then (tr l c).getD j bl else if j<c+n then bl else (tr l c).getD (j-n) bl
def vp (l:List ab) (c n j:Nat):ab:=if j+1=l.length/\(inx l c n j).Kind=2 then bl else inx l c n j
def wv (l:List ab) (c n:Nat):List ab:=(List.range l.length).map (vp l c n)
theorem oY (l:List ab) (c n:Nat):(wv l c n).length=l.length:=by simp [wv]
theorem zx {c n j:Nat}(h:j<l.length):(wv l c n)[j]? = some (vp l c n j):=by simp [wv,h]
theorem wu (l:List ab) (c n j:Nat):(inx l c n j).Kind=if j<c then kd (tr l c) j else if j<c+n then 0 else kd (tr l c) (j-n):=by
 unfold inx;split
 ·exact nL _ _
 ·split
  ·rfl
  ·exact nL _ _
theorem tP (l:List ab) (c n j:Nat) (h:j<l.length):kd (wv l c n) j=if j+1=l.length/\(inx l c n j).Kind=2 then 0 else (inx l c n j).Kind:=by
 rw [show kd (wv l c n) j=(vp l c n j).Kind by simp [kd,zx h]];unfold vp;split <;> rfl
theorem tH (hs:Snd l) (j:Nat):rgt (l.getD j bl)=true:=by
 rcases aQ j l.length with h|h
 ·exact hs.rg h
 ·rw [ao,aS h];rfl
theorem Fq {A:Prop}[Decidable A] {X:Int}(h:(if A/\X=2 then (0:Int) else X)=2):X=2/\¬A:=by
 by_cases q:A/\X=2
 ·rw [ae q] at h; omega
 ·rw [af q] at h; exact ⟨h,fun a=>q ⟨a,h⟩⟩
theorem Cy {A:Prop}[Decidable A] {X:Int}(h:(if A/\X=2 then (0:Int) else X)=3):X=3:=by
 by_cases q:A/\X=2
 ·rw [ae q] at h; omega
 ·rwa [af q] at h
theorem DV {A:Prop}[Decidable A] {X:Int}(h:X≠2):(if A/\X=2 then (0:Int) else X)=X:=af fun q=>h q.2
theorem zw (hs:Snd l) (c n:Nat):Snd (wv l c n):=fun j hj=>by
 have hj':j<l.length:=by rw [oY] at hj; exact hj
 have he:(wv l c n)[j]=vp l c n j:=by
  have:=zx (c:=c) (n:=n) hj';rw [ag hj] at this;exact bj this
 have ht:=xO hs c;have hlen:=qP l c;have hat:=wo l c;rw [<-lc hj,he];refine ⟨?_,?_,?_⟩
 ·unfold vp;split
  ·rfl
  ·unfold inx;split
   ·exact tH ht j
   ·split
    ·rfl
    ·exact tH ht (j-n)
 ·intro e;rw [tP l c n j hj',wu] at e;obtain ⟨e,hl⟩:=Fq e
  ·rw [tP l c n (j+1) (by omega),wu];have key:(if j+1<c then kd (tr l c) (j+1) else if j+1<c+n then 0 else kd (tr l c) (j+1-n))=3:=by
    split at e
    ·have h3:=ht.two e;rw [ae]
     ·exact h3
     ·rcases aQ (j+1) c with q|q
      ·exact q
      ·obtain rfl:c=j+1:=by omega
       exact absurd h3 hat
    ·split at e
     ·cases e
     ·have h3:=ht.two e;rw [af (by omega),af (by omega),show j+1-n=j-n+1 by omega];exact h3
   rw [key];exact DV (by decide)
 ·intro e;rw [tP l c n j hj',wu] at e;have e':=Cy e;split at e'
  ·obtain ⟨h0,h2⟩:=ht.three e';refine ⟨h0,?_⟩;rw [tP l c n (j-1) (by omega),wu,af (by rintro ⟨q,_⟩; omega),ae (by omega)];exact h2
  ·split at e'
   ·cases e'
   ·obtain ⟨h0,h2⟩:=ht.three e';have hne:j-n≠c:=by
     intro q;rw [q] at e';exact hat e'
    refine ⟨by omega,?_⟩;rw [tP l c n (j-1) (by omega),wu,af (by rintro ⟨q,_⟩; omega),af (by omega),af (by omega),show j-1-n=j-n-1 by omega];exact h2
theorem G9 (hl:l.length<=1024){c n:Nat}(hc:c<l.length) (h1:1<=n) (hn:c+n<=l.length):jC (tr l c) n c=some (wv l c n):=by
 unfold jC;have htl:=qP l c;rw [uR,show (max 0 (min (n:Int) 1024)).toNat=n by omega];simp only [bsm];have hi:jZ (tr l c) c (List.replicate n bl)=some ((tr l c).take c++List.replicate n bl++(tr l c).drop c):=by
  unfold jZ;rw [ae (by rw [htl,lM]; unfold far; omega),ce]
 rw [hi];simp only [bsm];have hO:slc ((tr l c).take c++List.replicate n bl++(tr l c).drop c) 0 ((tr l c).length:Int)=some ((List.range l.length).map (inx l c n)):=by
  have:=oE (xs:=(tr l c).take c++List.replicate n bl++(tr l c).drop c) (i:=0) (j:=(tr l c).length) (by omega) (by simp [htl]; omega);rw [show ((0:Nat):Int)=0 by rfl] at this;rw [this]
  congr 1
  refine jo (by simp [htl]; omega) fun i hi=>?_;rw [jL,aW,ae (by omega),aO];unfold inx;have htk:((tr l c).take c).length=c:=by simp [htl]; omega
  split
  ·rename_i q
   rw [aL (by omega),aW,ae q,ao,ag (by omega:i<(tr l c).length)];rfl
  ·rename_i q
   rw [bu (by omega),htk];split
   ·rw [aL (by simp; omega),nJ,ae (by omega)]
   ·rw [bu (by simp; omega),lM,bP,show c+(i-c-n)=i-n by omega,ao,ag (by omega:i-n<(tr l c).length)];rfl
 rw [hO];simp only [bsm];have e1:w64 (((tr l c).length:Int)-1)=((l.length-1:Nat):Int):=by rw [aG (by omega),htl]; omega
 rw [e1,bp (by simp; omega)];simp only [bsm,ek,yJ];by_cases hk:(inx l c n (l.length-1)).Kind=2
 ·rw [ae (by rw [hk]; rfl),lq (by simp; omega)];simp only [bsm]
  congr 1
  refine jo (by simp) fun i hi=>?_;unfold vp;by_cases q:l.length-1=i
  ·subst q;rw [bA (by simp; omega),ae ⟨by omega,hk⟩];rfl
  ·rw [bh q,af (by rintro ⟨q,_⟩; omega)];simp [hi]
 ·rw [af (by simp; exact hk)];simp only [bsm]
  congr 1
  refine jo (by simp) fun i hi=>?_;unfold vp;by_cases q:l.length-1=i
  ·subst q;rw [af (by rintro ⟨_,q⟩; exact hk q)];simp [hi]
  ·rw [af (by rintro ⟨q,_⟩; omega)];simp [hi]
def tt (l:List ab) (c n:Nat):List ab:=tr (tr l c) (c+n)
theorem Ak (l:List ab) (c n:Nat):(tt l c n).length=l.length:=by simp [tt,qP]
def dlx (l:List ab) (c n j:Nat):ab:=if j<c then (tt l c n).getD j bl else if j+n<l.length then (tt l c n).getD (j+n) bl else bl
def wy (l:List ab) (c n:Nat):List ab:=(List.range l.length).map (dlx l c n)
theorem pq (l:List ab) (c n:Nat):(wy l c n).length=l.length:=by simp [wy]
theorem zK {c n j:Nat}(h:j<l.length):(wy l c n)[j]? = some (dlx l c n j):=by simp [wy,h]
theorem rV (l:List ab) (c n j:Nat) (h:j<l.length):kd (wy l c n) j=if j<c then kd (tt l c n) j else if j+n<l.length then kd (tt l c n) (j+n) else 0:=by
 rw [show kd (wy l c n) j=(dlx l c n j).Kind by simp [kd,zK h]];unfold dlx;split
 ·exact nL _ _
 ·split
  ·exact nL _ _
  ·rfl
theorem zJ (hs:Snd l) (c n:Nat):Snd (wy l c n):=fun j hj=>by
 have hj':j<l.length:=by rw [pq] at hj; exact hj
 have he:(wy l c n)[j]=dlx l c n j:=by
  have:=zK (c:=c) (n:=n) hj';rw [ag hj] at this;exact bj this
 have ht:Snd (tt l c n):=xO (xO hs c) (c+n);have hlen:=Ak l c n;have hat1:kd (tt l c n) c≠3:=by
  unfold tt;rw [Br];split
  ·decide
  ·exact wo l c
 have hat2:kd (tt l c n) (c+n)≠3:=wo _ _;rw [<-lc hj,he];refine ⟨?_,?_,?_⟩
 ·unfold dlx;split
  ·exact tH ht j
  ·split
   ·exact tH ht _
   ·rfl
 ·intro e;rw [rV l c n j hj'] at e;split at e
  ·have h3:=ht.two e;have hlt:=vd (l:=tt l c n) (j:=j+1) (by omega);rw [rV l c n (j+1) (by omega),ae]
   ·exact h3
   ·rcases aQ (j+1) c with q|q
    ·exact q
    ·obtain rfl:c=j+1:=by omega
     exact absurd h3 hat1
  ·split at e
   ·have h3:=ht.two e;have hlt:=vd (l:=tt l c n) (j:=j+n+1) (by omega);rw [rV l c n (j+1) (by omega),af (by omega),ae (by omega),show j+1+n=j+n+1 by omega];exact h3
   ·omega
 ·intro e;rw [rV l c n j hj'] at e;split at e
  ·obtain ⟨h0,h2⟩:=ht.three e;refine ⟨h0,?_⟩;rw [rV l c n (j-1) (by omega),ae (by omega)];exact h2
  ·split at e
   ·obtain ⟨h0,h2⟩:=ht.three e;have hne:j≠c:=by
     intro q;rw [q] at e;exact hat2 e
    refine ⟨by omega,?_⟩;rw [rV l c n (j-1) (by omega),af (by omega),ae (by omega),show j-1+n=j+n-1 by omega];exact h2
   ·omega
theorem Hm (hs:Snd l) (hl:l.length<=1024){c n:Nat}(hc:c<l.length) (h1:1<=n) (hn:c+n<=l.length):jD (tr l c) n c=some (wy l c n):=by
 unfold jD;have htl:=Ak l c n;have e1:w64 ((c:Int)+(n:Int))=((c+n:Nat):Int):=by rw [aG (by omega)]; simp
 rw [e1,xQ (xO hs c) (by rw [qP]; exact hl)];simp only [bsm];rw [show tr (tr l c) (c+n)=tt l c n by rfl];have hd:ka (tt l c n) c ((c+n:Nat):Int)=some ((tt l c n).take c++(tt l c n).drop (c+n)):=by
  unfold ka;rw [ae (by rw [htl]; omega),ce,ce]
 rw [hd,uR,show (max 0 (min (n:Int) 1024)).toNat=n by omega];simp only [bsm];rw [cU (by simp [htl]; omega)];simp only [bsm]
 congr 1
 refine jo (by simp [htl]; omega) fun i hi=>?_;unfold dlx;have htk:((tt l c n).take c).length=c:=by simp [htl]; omega
 rw [aO];split
 ·rename_i q
  rw [aL (by omega),aW,ae q,ao,ag (by omega:i<(tt l c n).length)];rfl
 ·rename_i q
  rw [bu (by omega),htk];split
  ·rw [aL (by simp [htl]; omega),bP,show c+n+(i-c)=i+n by omega,ao,ag (by omega:i+n<(tt l c n).length)];rfl
  ·rw [bu (by simp [htl]; omega),nJ,ae (by simp [htl]; omega)]
theorem zj (h:p.length=l.length):pl l 0 p=p:=by
 symm
 refine jo h fun i hi=>?_;unfold pc;rw [ae ⟨cE _,by omega⟩,og,ao,ag (by omega)];rfl
theorem zi (h1:1<=l.length):pw l w 0 l.length=false:=by
 unfold pw tch;rw [show decide (0<l.length)=true by simp; omega,show decide (0<=l.length-1)=true by simp,show decide (l.length-1<0+l.length)=true by simp; omega];simp
def mvs (col n:Int) (m:Nat):Bool:=decide (0<=col) && decide (col<(m:Int)) && decide (1<=n)
def ish (l:List ab) (w:Bool) (col n:Int):br:=if mvs col n l.length=true then ⟨wv l col.toNat (min n ((l.length:Int)-col)).toNat,false⟩ else ⟨l,w⟩
def dsh (l:List ab) (w:Bool) (col n:Int):br:=if mvs col n l.length=true then ⟨wy l col.toNat (min n ((l.length:Int)-col)).toNat,false⟩ else ⟨l,w⟩
theorem Fs (hs:Snd l) (col n:Int):Snd (ish l w col n).cells:=by
 unfold ish;split
 ·exact zw hs _ _
 ·exact hs
theorem FH (hs:Snd l) (col n:Int):Snd (dsh l w col n).cells:=by
 unfold dsh;split
 ·exact zJ hs _ _
 ·exact hs
theorem Ft (col n:Int):(ish l w col n).cells.length=l.length:=by
 unfold ish;split
 ·exact oY _ _ _
 ·rfl
theorem FI (col n:Int):(dsh l w col n).cells.length=l.length:=by
 unfold dsh;split
 ·exact pq _ _ _
 ·rfl
theorem vH {col n:Int}{m:Nat}:(decide (col<0) || decide (col>=(m:Int)) || decide (n<1))= !mvs col n m:=by
 rw [cu];simp only [mvs,aD,dI,HO,an,kJ];omega
theorem yg {col n:Int}{m:Nat}(h:mvs col n m=true):∃c e:Nat,col=(c:Int)/\min n ((m:Int)-col)=(e:Int)/\c<m/\1<=e/\c+e<=m:=by
 simp only [mvs,av,an] at h;exact ⟨col.toNat,(min n ((m:Int)-col)).toNat,by omega,by omega,by omega,by omega,by omega⟩
theorem BW (h:s.row_Row[k]? = some ⟨l,w⟩) (hs:Snd l) (hl:l.length<=1024) (col n:Int):kx s (some k) col n=some (s.sr k (ish l w col n)):=by
 unfold kx ew;simp only [jA h,bsm,bD,vH];unfold ish;by_cases hm:mvs col n l.length=true
 ·obtain ⟨c,e,rfl,he,h1,h2,h3⟩:=yg hm;rw [af (by rw [hm]; decide),ae hm,rT h (by omega) hs.sht];simp only [bsm,xQ hs hl];have e1:aB n (w64 ((l.length:Int)-(c:Int)))=(e:Int):=by rw [aG (by omega),dF]; exact he
  rw [e1,G9 hl h1 h2 h3,he];simp only [bsm,ce];have:=oT h hs hl (zw hs c e) (a:=0) (by rw [oY]; omega) (by rw [oY]; omega);rw [show ((0:Nat):Int)=0 by rfl] at this;rw [this,zj (oY l c e),oY,zi (by omega)];rfl
 ·rw [ae (by simpa using hm),af hm,yT h];rfl
theorem BX (h:s.row_Row[k]? = some ⟨l,w⟩) (hs:Snd l) (hl:l.length<=1024) (col n:Int):ky s (some k) col n=some (s.sr k (dsh l w col n)):=by
 unfold ky ey;simp only [jA h,bsm,bD,vH];unfold dsh;by_cases hm:mvs col n l.length=true
 ·obtain ⟨c,e,rfl,he,h1,h2,h3⟩:=yg hm;rw [af (by rw [hm]; decide),ae hm,rT h (by omega) hs.sht];simp only [bsm,xQ hs hl];have e1:aB n (w64 ((l.length:Int)-(c:Int)))=(e:Int):=by rw [aG (by omega),dF]; exact he
  rw [e1,Hm hs hl h1 h2 h3,he];simp only [bsm,ce];have:=oT h hs hl (zJ hs c e) (a:=0) (by rw [pq]; omega) (by rw [pq]; omega);rw [show ((0:Nat):Int)=0 by rfl] at this;rw [this,zj (pq l c e),pq,zi (by omega)];rfl
 ·rw [ae (by simpa using hm),af hm,yT h];rfl
theorem E2 (hl:l.length<=1024) (col n:Int) (w:Bool):fw l col n=some ((ish l w col n).cells,mvs col n l.length):=by
 unfold fw;simp only [bsm,bD,vH];unfold ish;by_cases hm:mvs col n l.length=true
 ·rw [hm];obtain ⟨c,e,rfl,he,h1,h2,h3⟩:=yg hm;have e1:aB n (w64 ((l.length:Int)-(c:Int)))=(e:Int):=by rw [aG (by omega),dF]; exact he
  rw [af (by decide),ae rfl,xP hl,e1,he];simp only [bsm,ce];refine yD (wq (n:=l.length) (vp l c e) (t:=wv l c e) (fun i hi=>?_) ?_ (by omega)) rfl
  ·have e2:w64 ((c:Int)+(e:Int))=((c+e:Nat):Int):=by rw [aG (by omega)]; simp
   simp only [dlt hi,bz,dL hi (by omega),e2,bi,bsm];have htl:=qP l c;have hx:((if decide ((i:Int)<(c:Int))=true then (idx (tr l c) (i:Int)).bind fun x=>(some (x.Kind,x.Text):Option (Int×(List Int))) else (some (0,([]:List Int)):Option (Int×(List Int)))).bind fun z=>
     if decide ((i:Int)>=((c+e:Nat):Int))=true then (idx (tr l c) (w64 ((i:Int)-(e:Int)))).bind fun x=>(some (x.Kind,x.Text):Option (Int×(List Int))) else (some (z.1,z.2):Option (Int×(List Int))))=some ((inx l c e i).Kind,(inx l c e i).Text):=by
    unfold inx;by_cases q1:i<c
    ·rw [ae (by simp; omega),bp (by omega:i<(tr l c).length)];simp only [bsm];rw [af (by simp; omega),ae q1,ao,ag (by omega:i<(tr l c).length)];rfl
    ·rw [af (by simp; omega),af q1];simp only [bsm];by_cases q2:i<c+e
     ·rw [af (by simp; omega),ae q2];rfl
     ·have e3:w64 ((i:Int)-(e:Int))=((i-e:Nat):Int):=by rw [aG (by omega)]; omega
      rw [ae (by simp; omega),af q2,e3,bp (by omega:i-e<(tr l c).length),ao,ag (by omega:i-e<(tr l c).length)];rfl
   refine (Jl _ _ _).symm.trans ?_;rw [hx];simp only [bsm];have hy:(if (((i+1:Nat):Int)==(l.length:Int) && (inx l c e i).Kind==2)=true then (some (0,([]:List Int)):Option (Int×(List Int))) else (some ((inx l c e i).Kind,(inx l c e i).Text):Option (Int×(List Int))))=some ((vp l c e i).Kind,(vp l c e i).Text):=by
    unfold vp;by_cases q:i+1=l.length/\(inx l c e i).Kind=2
    ·rw [ae (by simp only [av,aT]; omega),ae q];rfl
    ·rw [af (by simp only [av,aT]; omega),af q]
   rw [hy];simp only [bsm];rw [cU (by simp; omega)];rfl
  ·simp only [dnl];rfl
 ·rw [ae (by simpa using hm),af hm];simp only [un] at hm;rw [hm]
theorem E3 (hl:l.length<=1024) (col n:Int) (w:Bool):fy l col n=some ((dsh l w col n).cells,mvs col n l.length):=by
 unfold fy;simp only [bsm,bD,vH];unfold dsh;by_cases hm:mvs col n l.length=true
 ·rw [hm];obtain ⟨c,e,rfl,he,h1,h2,h3⟩:=yg hm;have e1:aB n (w64 ((l.length:Int)-(c:Int)))=(e:Int):=by rw [aG (by omega),dF]; exact he
  have e2:w64 ((c:Int)+(e:Int))=((c+e:Nat):Int):=by rw [aG (by omega)]; simp
  rw [af (by decide),ae rfl,xP hl,e1,he];simp only [bsm,ce,e2];rw [xP (by rw [qP]; exact hl)];simp only [bsm];rw [show tr (tr l c) (c+e)=tt l c e by rfl];refine yD (wq (n:=l.length) (dlx l c e) (t:=wy l c e) (fun i hi=>?_) ?_ (by omega)) rfl
  ·have htl:=Ak l c e;have e3:w64 ((i:Int)+(e:Int))=((i+e:Nat):Int):=by rw [aG (by omega)]; simp
   simp only [dlt hi,bz,dL hi (by omega),e3];have hx:(if decide ((i:Int)<(c:Int))=true then (idx (tt l c e) (i:Int)).bind fun x=>(some (x.Kind,x.Text):Option (Int×(List Int))) else if decide (((i+e:Nat):Int)<(l.length:Int))=true then (idx (tt l c e) ((i+e:Nat):Int)).bind fun x=>(some (x.Kind,x.Text):Option (Int×(List Int))) else (some (0,([]:List Int)):Option (Int×(List Int))))=some ((dlx l c e i).Kind,(dlx l c e i).Text):=by
    unfold dlx;by_cases q1:i<c
    ·rw [ae (by simp; omega),bp (by omega:i<(tt l c e).length),ae q1,ao,ag (by omega:i<(tt l c e).length)];rfl
    ·rw [af (by simp; omega),af q1];by_cases q2:i+e<l.length
     ·rw [ae (by simp only [an]; omega),ae q2,bp (by omega:i+e<(tt l c e).length),ao,ag (by omega:i+e<(tt l c e).length)];rfl
     ·rw [af (by simp only [an]; omega),af q2];rfl
   rw [hx];simp only [bsm];rw [cU (by simp; omega)];rfl
  ·simp only [dnl];rfl
 ·rw [ae (by simpa using hm),af hm];simp only [un] at hm;rw [hm]
end Go.Proofs.YtclmdpamofdoiaaGreatDoor
namespace Go.Proofs.YtclmdpamofdoiaaGreatDoor
open Go Go.Lt
variable {s C:Sto}{g k W:Nat}{ks:List Nat}{q:aa}
def w38 (o:aM):Int:=if o.Kind<2\/12<o.Kind then 5 else if (o.Kind=3\/o.Kind=4)/\(o.A<0\/2<o.A) then 3 else 0
def e38 (o:aM):Er:=if w38 o=5 then .sent 4 else if w38 o=3 then .sent 2 else .nil
theorem Ah (o:aM):w38 o=5\/w38 o=3\/w38 o=0:=by
  unfold w38
  repeat' split
  all_goals simp
theorem uZ (o:aM):eA o=some (w38 o):=by
  unfold eA w38;simp only [bD,bsm,bi];by_cases h:o.Kind<2\/12<o.Kind
  · rw [ae h,ae (by simp only [aD,an]; omega)]
  · rw [af h,af (by simp only [aD,an]; omega)]
    by_cases h2:(o.Kind=3\/o.Kind=4)/\(o.A<0\/2<o.A)
    · rw [ae h2,ae (by simp only [av,aD,an,aT]; omega)]
    · rw [af h2,af (by simp only [av,aD,an,aT]; omega)]
def CF (n:Int):Bool:=decide (2<=n) && decide (n<=12)
theorem CE (n:Int):nj n=some (CF n):=by
  unfold nj CF;simp only [bi,bsm,AK]
theorem IC (o:aM):CF o.Kind=(w38 o != 5):=by
  rw [cu];unfold CF w38;simp only [av,an,nz,xB]
  repeat' split
  all_goals omega
theorem wx (o:aM):kW o=some (e38 o):=by
  unfold kW;rw [CE];have hd:CF o.Kind= !decide (o.Kind<2\/12<o.Kind):=by
    rw [cu];simp only [CF,av,an,dI,kJ];omega
  simp only [bsm,hd,bi,bD,Bool.not_not];unfold e38;by_cases h:o.Kind<2\/12<o.Kind
  · have e:w38 o=5:=by unfold w38; rw [ae h]
    rw [ae (by simpa using h),ae e]
  · rw [af (by simpa using h)]
    by_cases h2:(o.Kind=3\/o.Kind=4)/\(o.A<0\/2<o.A)
    · have e:w38 o=3:=by unfold w38; rw [af h,ae h2]
      rw [ae (by simp only [av,aD,an,nz,xB]; omega),e];rfl
    · have e:w38 o=0:=by unfold w38; rw [af h,af h2]
      rw [af (by simp only [av,aD,an,nz,xB]; omega),e];rfl
theorem BC (o:aM):(e38 o).isNil=(w38 o==0):=by
  unfold e38;rcases Ah o with h|h|h <;> rw [h] <;> rfl
def lt (r:br):aj:=⟨r.cells,r.wrap⟩
theorem EF (h:Pv C s k g W q ks){i:Nat}(hi:i<ks.length) (x a b:Int):da q i x a b=some ⟨q.L.set i (lt (ac (q.L.getD i dl).Cells (q.L.getD i dl).Wrap x a b)),q.At,q.Auto⟩:=by
  have hl:=h.len;have hlt:i<q.L.length:=by omega
  have hok:=h.ok _ (aF hlt);have w2:=h.g.w2;unfold da;rw [bp hlt];simp only [bsm];rw [E4 _ _ (by rw [hok.2]; exact w2)];simp only [bsm];rw [tI h hi,gdl hlt];rfl
theorem Pv.ac (h:Pv C s k g W q ks){i:Nat}(hi:i<ks.length) (x a b:Int):Pv C (s.sr ks[i] (ac (q.L.getD i dl).Cells (q.L.getD i dl).Wrap x a b)) k g W ⟨q.L.set i (lt (Go.Proofs.YtclmdpamofdoiaaGreatDoor.ac (q.L.getD i dl).Cells (q.L.getD i dl).Wrap x a b)),q.At,q.Auto⟩ ks:=by
  have hl:=h.len;have hlt:i<q.L.length:=by omega
  have hok:=h.ok _ (aF hlt);have e:q.L.getD i dl=q.L[i]:=gdl hlt;rw [e];exact h.row hi (HB hok.1 x a b) (by rw [HD]; exact hok.2)
theorem Pv.rw_ (h:Pv C s k g W q ks){i:Nat}(hi:i<ks.length):s.row_Row[ks[i]]? = some ⟨(q.L.getD i dl).Cells,(q.L.getD i dl).Wrap⟩/\Snd (q.L.getD i dl).Cells/\(q.L.getD i dl).Cells.length=W:=by
  have hl:=h.len;have hlt:i<q.L.length:=by omega
  have hok:=h.ok _ (aF hlt);obtain ⟨r,h1,h2,h3⟩:=h.g.at hi;have e:q.L[i]=⟨r.cells,r.wrap⟩:=by rw [h.at hi,nP h1]
  rw [gdl hlt,e];exact ⟨h1,h2,h3⟩
def md (mode:Int):Int:=if mode=0 then 2 else if mode=1 then 1 else 3
theorem xK (h:Pv C s k g W q ks){i:Nat}(hi:i<ks.length) (hr:q.At.Row=(i:Int)) (mode:Int):lS s (some k) mode=some (s.sr ks[i] (ac (q.L.getD i dl).Cells (q.L.getD i dl).Wrap (md mode) q.At.Col 0)):=by
  obtain ⟨r1,r2,r3⟩:=h.rw_ hi;have w2:=h.g.w2;unfold lS md;simp only [bsm,h.p,hr];rw [ft h.g hi];simp only [bsm];by_cases h0:mode=0
  · rw [ae (by simpa using h0),ae h0,zF r1 r2 (by omega) _ 0]
    rfl
  · rw [af (by simpa using h0),af h0]
    by_cases h1:mode=1
    · rw [ae (by simpa using h1),ae h1,AO r1 r2 (by omega) _ 0]
      rfl
    · rw [af (by simpa using h1),af h1,xJ r1 r2 (by omega) q.At.Col 0]
      rfl
def eS (cond:Nat->Bool) (L:List aj):Nat->List aj
  | 0=>L
  | i+1=>if cond i=true then (eS cond L i).set i (lt (ac ((eS cond L i).getD i dl).Cells ((eS cond L i).getD i dl).Wrap 3 0 0)) else eS cond L i
def cnd (mode:Int) (row:Int) (i:Nat):Bool:=mode==2 || (mode==0 && decide ((i:Int)>row)) || (mode==1 && decide ((i:Int)<row))
theorem yW (h:Pv C s k g W q ks) (mode:Int){H:Int}(hH:H=(ks.length:Int)):∃s',(cL (σ:=Int×Sto) (τ:=Sto) ((H-0).toNat+1) (fun s_12=>
 if (decide (s_12.1<H))=true then
 ((orE (mode==2) ((bT (mode==0) ((s_12.2.place_Pen[k]?).bind fun o_32=>
 some (decide (s_12.1>o_32.At.Row)))).bind fun d_25=>
 some d_25)).bind fun d_21=>
 (orE d_21 ((bT (mode==1) ((s_12.2.place_Pen[k]?).bind fun o_45=>
 some (decide (s_12.1<o_45.At.Row)))).bind fun d_38=>
 some d_38)).bind fun d_34=>
 if d_34=true then
 (s_12.2.place_Pen[k]?).bind fun o_51=>
 (bF s_12.2 o_51.G s_12.1).bind fun x_53=>
 (kH s_12.2 x_53).bind fun x_54=>
 (some (x_54):Option (Sto))
 else
 (some (s_12.2):Option (Sto))).bind fun z_15=>
 some (.inl ((w64 (s_12.1+1)),z_15))
 else
 some (.inr (s_12.2))) (0,s))=some s'/\Pv C s' k g W ⟨eS (cnd mode q.At.Row) q.L ks.length,q.At,q.Auto⟩ ks:=by
  subst hH;have hh:=h.g.h2;refine ep (n:=ks.length) (fun i st=>st.1=(i:Int)/\Pv C st.2 k g W ⟨eS (cnd mode q.At.Row) q.L i,q.At,q.Auto⟩ ks) (fun st=>Pv C st k g W ⟨eS (cnd mode q.At.Row) q.L ks.length,q.At,q.Auto⟩ ks) (fun i st hi hI=>?_) (fun st hI=>?_) ⟨rfl,h⟩ (by omega)
  · obtain ⟨i',st⟩:=st
    obtain ⟨e,v⟩:=hI;simp only at e v;subst e;simp only;rw [ae (dlt hi)];have hp:=v.p;simp only at hp;simp only [hp,bsm,bi,bD];rw [dL hi (by omega)];by_cases hc:cnd mode q.At.Row i=true
    · rw [ae (show (mode==2 || mode==0 && decide ((i:Int)>q.At.Row) || mode==1 && decide ((i:Int)<q.At.Row))=true from hc),ft v.g hi]
      obtain ⟨r1,r2,r3⟩:=v.rw_ hi;simp only [bsm];have w2:=h.g.w2;rw [xJ r1 r2 (by omega) 0 0];refine .inl ⟨_,rfl,rfl,?_⟩;simp only [eS];rw [ae hc];exact v.ac hi 3 0 0
    · rw [af (show ¬(mode==2 || mode==0 && decide ((i:Int)>q.At.Row) || mode==1 && decide ((i:Int)<q.At.Row))=true from hc)]
      refine .inl ⟨_,rfl,rfl,?_⟩;simp only [eS];rw [af hc];exact v
  · obtain ⟨i',st⟩:=st
    obtain ⟨e,v⟩:=hI;simp only at e v;subst e;exact ⟨st,by simp,v⟩
theorem AG (h:Pv C s k g W q ks) (kind mode:Int):(cL (σ:=Int×(List aj)×Int×Int×Bool×Bool) (τ:=((List aj)×Int×Int×Bool×Bool)) (((q.L.length:Int)-0).toNat+1) (fun s_23=>
 (bT (decide (s_23.1<(s_23.2.1.length:Int))) (some (kind==4))).bind fun d_29=>
 if d_29=true then
 ((orE (mode==2) ((bT (mode==0) (some (decide (s_23.1>s_23.2.2.1)))).bind fun d_41=>
 some d_41)).bind fun d_37=>
 (orE d_37 ((bT (mode==1) (some (decide (s_23.1<s_23.2.2.1)))).bind fun d_52=>
 some d_52)).bind fun d_48=>
 if d_48=true then
 (da (⟨s_23.2.1,(⟨s_23.2.2.1,s_23.2.2.2.1,s_23.2.2.2.2.1⟩:ai),s_23.2.2.2.2.2⟩:aa) s_23.1 3 0 0).bind fun x_62=>
 (some (x_62.L,x_62.At.Row,x_62.At.Col,x_62.At.Pending,x_62.Auto):Option ((List aj)×Int×Int×Bool×Bool))
 else
 (some (s_23.2.1,s_23.2.2.1,s_23.2.2.2.1,s_23.2.2.2.2.1,s_23.2.2.2.2.2):Option ((List aj)×Int×Int×Bool×Bool))).bind fun z_34=>
 some (.inl ((w64 (s_23.1+1)),z_34.1,z_34.2.1,z_34.2.2.1,z_34.2.2.2.1,z_34.2.2.2.2))
 else
 some (.inr (s_23.2.1,s_23.2.2.1,s_23.2.2.2.1,s_23.2.2.2.2.1,s_23.2.2.2.2.2))) (0,q.L,q.At.Row,q.At.Col,q.At.Pending,q.Auto))=
    some (if kind=4 then eS (cnd mode q.At.Row) q.L ks.length else q.L,q.At.Row,q.At.Col,q.At.Pending,q.Auto):=by
  have hh:=h.g.h2;have hl:=h.len;by_cases hk:kind=4
  · subst hk
    rw [ae rfl];obtain ⟨t,h1,h2⟩:=ep (σ:=Int×(List aj)×Int×Int×Bool×Bool) (τ:=((List aj)×Int×Int×Bool×Bool)) (n:=ks.length) (fuel:=((q.L.length:Int)-0).toNat+1) (s:=(0,q.L,q.At.Row,q.At.Col,q.At.Pending,q.Auto))
      (fun i st=>st=((i:Int),eS (cnd mode q.At.Row) q.L i,q.At.Row,q.At.Col,q.At.Pending,q.Auto)/\∃s',Pv C s' k g W ⟨eS (cnd mode q.At.Row) q.L i,q.At,q.Auto⟩ ks) (fun t=>t=(eS (cnd mode q.At.Row) q.L ks.length,q.At.Row,q.At.Col,q.At.Pending,q.Auto))
      (step:=fun s_23=>
 (bT (decide (s_23.1<(s_23.2.1.length:Int))) (some ((4:Int)==4))).bind fun d_29=>
 if d_29=true then
 ((orE (mode==2) ((bT (mode==0) (some (decide (s_23.1>s_23.2.2.1)))).bind fun d_41=>
 some d_41)).bind fun d_37=>
 (orE d_37 ((bT (mode==1) (some (decide (s_23.1<s_23.2.2.1)))).bind fun d_52=>
 some d_52)).bind fun d_48=>
 if d_48=true then
 (da (⟨s_23.2.1,(⟨s_23.2.2.1,s_23.2.2.2.1,s_23.2.2.2.2.1⟩:ai),s_23.2.2.2.2.2⟩:aa) s_23.1 3 0 0).bind fun x_62=>
 (some (x_62.L,x_62.At.Row,x_62.At.Col,x_62.At.Pending,x_62.Auto):Option ((List aj)×Int×Int×Bool×Bool))
 else
 (some (s_23.2.1,s_23.2.2.1,s_23.2.2.2.1,s_23.2.2.2.2.1,s_23.2.2.2.2.2):Option ((List aj)×Int×Int×Bool×Bool))).bind fun z_34=>
 some (.inl ((w64 (s_23.1+1)),z_34.1,z_34.2.1,z_34.2.2.1,z_34.2.2.2.1,z_34.2.2.2.2))
 else
 some (.inr (s_23.2.1,s_23.2.2.1,s_23.2.2.2.1,s_23.2.2.2.2.1,s_23.2.2.2.2.2)))
      (fun i st hi hI=>by
        obtain ⟨rfl,s',v⟩:=hI;have hvl:(eS (cnd mode q.At.Row) q.L i).length=ks.length:=v.len;simp only [bi,bsm,bD];rw [ae (by simp [hvl,hi]),dL hi (by omega)];by_cases hc:cnd mode q.At.Row i=true
        · rw [ae (show (mode==2 || mode==0 && decide ((i:Int)>q.At.Row) || mode==1 && decide ((i:Int)<q.At.Row))=true from hc)]
          have ha:=EF v hi 3 0 0;rw [show (⟨eS (cnd mode q.At.Row) q.L i,⟨q.At.Row,q.At.Col,q.At.Pending⟩,q.Auto⟩:aa)=⟨eS (cnd mode q.At.Row) q.L i,q.At,q.Auto⟩ from rfl,ha];refine .inl ⟨_,rfl,?_,s'.sr ks[i] (ac ((eS (cnd mode q.At.Row) q.L i).getD i dl).Cells ((eS (cnd mode q.At.Row) q.L i).getD i dl).Wrap 3 0 0),?_⟩
          · simp only [eS]
            rw [ae hc]
          · simp only [eS]
            rw [ae hc];exact v.ac hi 3 0 0
        · rw [af (show ¬(mode==2 || mode==0 && decide ((i:Int)>q.At.Row) || mode==1 && decide ((i:Int)<q.At.Row))=true from hc)]
          refine .inl ⟨_,rfl,?_,s',?_⟩
          · simp only [eS]
            rw [af hc]
          · simp only [eS]
            rw [af hc];exact v)
      (fun st hI=>by
        obtain ⟨rfl,s',v⟩:=hI;have hvl:(eS (cnd mode q.At.Row) q.L ks.length).length=ks.length:=v.len;refine ⟨_,?_,rfl⟩;simp only [bi,bsm];rw [af (by simp [hvl])])
      ⟨rfl,s,h⟩ (by omega)
    rw [h1,h2]
  · rw [af hk]
    have hf:(kind==4)=false:=by simpa using hk
    rw [show ((q.L.length:Int)-0).toNat+1=q.L.length+1 by omega];simp only [cL,hf,bi,EJ,bsm,ak,ba]
theorem C1 (h:Pv C s k g W q ks){i:Nat}(hi:i<ks.length){c:List ab}{done:Bool}{r:br}(hc:c=r.cells) (hd:done=true->r.wrap=false) (hn:done=false->r=⟨(q.L.getD i dl).Cells,(q.L.getD i dl).Wrap⟩){z:aa}(hz:z=q):
    (if done=true then (co z i ⟨c,false⟩).bind fun x_172=>(some (x_172.L,x_172.At.Row,x_172.At.Col,x_172.At.Pending,x_172.Auto):Option ((List aj)×Int×Int×Bool×Bool))
     else (some (z.L,z.At.Row,z.At.Col,z.At.Pending,z.Auto):Option ((List aj)×Int×Int×Bool×Bool)))=some (q.L.set i (lt r),q.At.Row,q.At.Col,q.At.Pending,q.Auto):=by
  subst hz hc;have hl:=h.len
  cases done with
  | true=>
    rw [ae rfl,tI h hi];simp only [bsm];unfold lt;rw [hd rfl]
  | false=>
    rw [af (by simp),hn rfl];unfold lt;rw [gdl (show i<z.L.length by omega),HL]
theorem DW {l:List ab}{w:Bool}{a b:Int}:(mvs a b l.length=true->(ish l w a b).wrap=false)/\(mvs a b l.length=false->ish l w a b=⟨l,w⟩):=by
  unfold ish;refine ⟨fun h=>by rw [ae h],fun h=>by rw [af (by rw [h]; simp)]⟩
theorem D7 {l:List ab}{w:Bool}{a b:Int}:(mvs a b l.length=true->(dsh l w a b).wrap=false)/\(mvs a b l.length=false->dsh l w a b=⟨l,w⟩):=by
  unfold dsh;refine ⟨fun h=>by rw [ae h],fun h=>by rw [af (by rw [h]; simp)]⟩
theorem Bq (h:Pv C s k g W q ks){i:Nat}(hi:i<ks.length) (hr:q.At.Row=(i:Int)) (kind:Int){mode:Int}(hm:0<=mode/\mode<=2):∃L1,L1=q.L.set i (lt (ac (q.L.getD i dl).Cells (q.L.getD i dl).Wrap (md mode) q.At.Col 0))/\
    fM q kind mode=some ⟨if kind=4 then eS (cnd mode q.At.Row) L1 ks.length else L1,q.At,q.Auto⟩:=by
  refine ⟨_,rfl,?_⟩;unfold fM;have hidx:idx ([2,1,3]:List Int) mode=some (md mode):=by
    have:mode=0\/mode=1\/mode=2:=by omega
    rcases this with e|e|e <;> rw [e] <;> rfl
  have v:=h.ac hi (md mode) q.At.Col 0;have e0:da q q.At.Row (md mode) q.At.Col 0=some ⟨q.L.set i (lt (ac (q.L.getD i dl).Cells (q.L.getD i dl).Wrap (md mode) q.At.Col 0)),q.At,q.Auto⟩:=by
    rw [hr];exact EF h hi _ _ _
  rw [hidx];simp only [bsm];rw [e0];simp only [bsm];have:=AG v kind mode;simp only at this;rw [this];rfl
theorem FF (h:Pv C s k g W q ks) (o:aM) (hw:w38 o=0):∃s' q' ks',pg s (some k) o=some (s',Er.nil)/\fX q o=some q'/\Pv C s' k g W q' ks'/\ks'.length=ks.length/\Hd q'.At W ks.length/\q'.At.Pending=false:=by
  have hh:=h.g.h2;have h1:=h.g.h1;have w1:=h.g.w1;have w2:=h.g.w2;have hkind:2<=o.Kind/\o.Kind<=12:=by
    unfold w38 at hw;split at hw
    · cases hw
    · omega
  have hmode:(o.Kind=3\/o.Kind=4)->0<=o.A/\o.A<=2:=fun e=>by
    unfold w38 at hw;rw [af (by omega)] at hw;split at hw
    · cases hw
    · omega
  have hnil:e38 o=Er.nil:=by unfold e38; rw [hw]; rfl
  have hd0:=tR q.At w1 h1;have hv:Pv C (s.sp k ⟨some g,⟨(hc q.At W ks.length).Row,(hc q.At W ks.length).Col,false⟩,q.Auto⟩) k g W ⟨q.L,⟨(hc q.At W ks.length).Row,(hc q.At W ks.length).Col,false⟩,q.Auto⟩ ks:=h.set _ _;have hd:Hd ⟨(hc q.At W ks.length).Row,(hc q.At W ks.length).Col,false⟩ W ks.length:=⟨hd0.rr,hd0.cc,fun e=>by cases e⟩;unfold pg fX;rw [wx,hnil,oW h];simp only [bsm,Er.isNil,dk,ak,ba,bO,ez,h.p];rw [jB h.g,eW h.g];simp only [bsm];rw [pu _ w1 w2 h1 hh];simp only [bsm];rw [jj (cR h.p)];simp only [bsm];rw [jj (by simp [Sto.sp]; exact cR h.p),xp];simp only [bsm];generalize hc q.At W ks.length=c at *;obtain ⟨i,hi⟩:∃i:Nat,c.Row=(i:Int):=⟨c.Row.toNat,by have:=hd.rr; simp only at this; omega⟩;have hik:i<ks.length:=by have:=hd.rr; simp only at this; omega
  have hlen:=hv.len;simp only at hlen;obtain ⟨c1,c2,c3⟩:=c;simp only at hi hv hd;subst hi;simp only;rw [bp (show i<q.L.length by omega)];simp only [bsm];generalize s.sp k ⟨some g,⟨(i:Int),c2,false⟩,q.Auto⟩=s1 at *;obtain ⟨L,⟨_,_,_⟩,au⟩:=q;simp only at hv hlen|-;obtain ⟨r1,r2,r3⟩:=hv.rw_ hik;simp only at r1 r2 r3;obtain ⟨kd_,A,B,bs⟩:=o;simp only at hkind hmode|-;have hcell:L[i]'(by omega)=L.getD i dl:=(gdl (by omega)).symm;rw [hcell];have:kd_=2\/kd_=3\/kd_=4\/kd_=5\/kd_=6\/kd_=7\/kd_=8\/kd_=9\/kd_=10\/kd_=11\/kd_=12:=by omega
  have hcc:=hd.cc;simp only at hcc;rcases this with e|e|e|e|e|e|e|e|e|e|e <;> subst e <;> simp only [Int.reduceBEq,ak,ba,bz,bsm]
  ·
    unfold gt;simp only [bsm,hv.p];rw [ft hv.g hik];simp only [bsm,Int.reduceBEq,bz];rw [jB hv.g,eW hv.g];simp only [bsm];unfold jq;rw [pu _ w1 w2 h1 hh,qW hv,hlen];simp only [bsm];rw [zg _ w1 w2 h1 hh,jj (cR hv.p)];exact ⟨_,_,ks,rfl,rfl,hv.set (hc ⟨A,B,false⟩ W ks.length) au,rfl,tR _ w1 h1,by simp [hc]⟩
  ·
    have hm:=hmode (.inl rfl);obtain ⟨L1,e1,e2⟩:=Bq hv hik rfl 3 hm;simp only at e1;rw [e2];unfold gt;simp only [bsm,hv.p];rw [ft hv.g hik];simp only [bsm,Int.reduceBEq,ak,ba,bz];rw [xK hv hik rfl A];refine ⟨_,_,ks,rfl,rfl,?_,rfl,hd,rfl⟩;have:=hv.ac hik (md A) c2 0;simp only at this;rw [af (by decide),e1];exact this
  ·
    have hm:=hmode (.inr rfl);obtain ⟨L1,e1,e2⟩:=Bq hv hik rfl 4 hm;simp only at e1;rw [e2];unfold gt;simp only [bsm,hv.p];rw [ft hv.g hik];simp only [bsm,Int.reduceBEq,ak,ba,bz];unfold mX;rw [xK hv hik rfl A];have hv2:=hv.ac hik (md A) c2 0;simp only at hv2;rw [<-e1] at hv2;simp only [bsm,hv2.p];rw [eW hv2.g];simp only [bsm];obtain ⟨s',l1,l2⟩:=yW hv2 A rfl;rw [l1];exact ⟨_,_,ks,rfl,rfl,l2,rfl,hd,rfl⟩
  ·
    unfold gt;simp only [bsm,hv.p];rw [ft hv.g hik];simp only [bsm,Int.reduceBEq,ak,ba,bz];rw [zG r1 r2 (by omega),EF hv hik];exact ⟨_,_,ks,rfl,rfl,hv.ac hik 4 c2 A,rfl,hd,rfl⟩
  ·
    have hsn:=Fs (w:=(L.getD i dl).Wrap) r2 c2 A;have hlw:=Ft (l:=(L.getD i dl).Cells) (w:=(L.getD i dl).Wrap) c2 A;have hdn:=DW (l:=(L.getD i dl).Cells) (w:=(L.getD i dl).Wrap) (a:=c2) (b:=A);unfold gt;simp only [bsm,hv.p];rw [ft hv.g hik];simp only [bsm,Int.reduceBEq,ak,ba,bz];rw [BW r1 r2 (by omega),E2 (by omega) _ _ (L.getD i dl).Wrap];simp only [bsm];have:=C1 hv hik (c:=(ish (L.getD i dl).Cells (L.getD i dl).Wrap c2 A).cells) (done:=mvs c2 A (L.getD i dl).Cells.length) (r:=ish (L.getD i dl).Cells (L.getD i dl).Wrap c2 A) rfl hdn.1 hdn.2 rfl;simp only at this;rw [this];exact ⟨_,_,ks,rfl,rfl,hv.row hik hsn (by rw [hlw]; exact r3),rfl,hd,rfl⟩
  ·
    have hsn:=FH (w:=(L.getD i dl).Wrap) r2 c2 A;have hlw:=FI (l:=(L.getD i dl).Cells) (w:=(L.getD i dl).Wrap) c2 A;have hdn:=D7 (l:=(L.getD i dl).Cells) (w:=(L.getD i dl).Wrap) (a:=c2) (b:=A);unfold gt;simp only [bsm,hv.p];rw [ft hv.g hik];simp only [bsm,Int.reduceBEq,ak,ba,bz];rw [BX r1 r2 (by omega),E3 (by omega) _ _ (L.getD i dl).Wrap];simp only [bsm];have:=C1 hv hik (c:=(dsh (L.getD i dl).Cells (L.getD i dl).Wrap c2 A).cells) (done:=mvs c2 A (L.getD i dl).Cells.length) (r:=dsh (L.getD i dl).Cells (L.getD i dl).Wrap c2 A) rfl hdn.1 hdn.2 rfl;simp only at this;rw [this];exact ⟨_,_,ks,rfl,rfl,hv.row hik hsn (by rw [hlw]; exact r3),rfl,hd,rfl⟩
  ·
    obtain ⟨s',ks',u1,⟨u2,u3,u4,u5⟩,u6,u7⟩:=zI hv.g hv.nd (i:Int) (ks.length:Int) A;have hm:=qX (W:=W) (L:=L) (by omega) w2 (fun x hx=>(hv.ok x hx).2) (i:Int) (ks.length:Int) A false;rw [hlen] at hm|-;unfold jm;simp only [bsm,hv.p];rw [eW hv.g];simp only [bsm,Int.reduceBEq,ak,ba,bz];rw [u1,hm];have hp:s'.place_Pen[k]? = some ⟨some g,⟨(i:Int),c2,false⟩,au⟩:=by rw [kT u6]; exact hv.p
    simp only [bsm,hp,dE];rw [jj (cR hp)];refine ⟨_,_,ks',rfl,rfl,⟨xS (cR hp),u2.sp _ _,u3,?_,(rS u6).trans hv.o,(hv.f.step u7 (kT u6)).sp _⟩,u4,⟨hd.rr,by simp only; omega,fun e=>by cases e⟩,rfl⟩;exact u5.trans (by rw [hv.l])
  ·
    obtain ⟨s',ks',u1,⟨u2,u3,u4,u5⟩,u6,u7⟩:=Ai hv.g hv.nd (i:Int) (ks.length:Int) A;have hm:=qX (W:=W) (L:=L) (by omega) w2 (fun x hx=>(hv.ok x hx).2) (i:Int) (ks.length:Int) A true;rw [hlen] at hm|-;unfold jm;simp only [bsm,hv.p];rw [eW hv.g];simp only [bsm,Int.reduceBEq,ak,ba,bz];rw [u1,hm];have hp:s'.place_Pen[k]? = some ⟨some g,⟨(i:Int),c2,false⟩,au⟩:=by rw [kT u6]; exact hv.p
    simp only [bsm,hp,dE];rw [jj (cR hp)];refine ⟨_,_,ks',rfl,rfl,⟨xS (cR hp),u2.sp _ _,u3,?_,(rS u6).trans hv.o,(hv.f.step u7 (kT u6)).sp _⟩,u4,⟨hd.rr,by simp only; omega,fun e=>by cases e⟩,rfl⟩;exact u5.trans (by rw [hv.l])
  ·
    obtain ⟨s',ks',u1,⟨u2,u3,u4,u5⟩,u6,u7⟩:=Ai hv.g hv.nd 0 (ks.length:Int) A;have hm:=qX (W:=W) (L:=L) (by omega) w2 (fun x hx=>(hv.ok x hx).2) 0 (ks.length:Int) A true;rw [hlen] at hm|-;unfold jm;simp only [bsm,hv.p];rw [eW hv.g];simp only [bsm,Int.reduceBEq,ak,ba,bz];rw [u1,hm];refine ⟨_,_,ks',rfl,rfl,⟨by rw [kT u6]; exact hv.p,u2,u3,?_,(rS u6).trans hv.o,hv.f.step u7 (kT u6)⟩,u4,hd,rfl⟩;exact u5.trans (by rw [hv.l])
  ·
    obtain ⟨s',ks',u1,⟨u2,u3,u4,u5⟩,u6,u7⟩:=zI hv.g hv.nd 0 (ks.length:Int) A;have hm:=qX (W:=W) (L:=L) (by omega) w2 (fun x hx=>(hv.ok x hx).2) 0 (ks.length:Int) A false;rw [hlen] at hm|-;unfold jm;simp only [bsm,hv.p];rw [eW hv.g];simp only [bsm,Int.reduceBEq,ak,ba,bz];rw [u1,hm];refine ⟨_,_,ks',rfl,rfl,⟨by rw [kT u6]; exact hv.p,u2,u3,?_,(rS u6).trans hv.o,hv.f.step u7 (kT u6)⟩,u4,hd,rfl⟩;exact u5.trans (by rw [hv.l])
  ·
    unfold gt;simp only [bsm,hv.p];rw [ft hv.g hik];simp only [bsm,Int.reduceBEq,ak,ba,bz];rw [jj (cR hv.p)];exact ⟨_,_,ks,rfl,rfl,hv.set ⟨(i:Int),c2,false⟩ (A != 0),rfl,hd,rfl⟩
end Go.Proofs.YtclmdpamofdoiaaGreatDoor
namespace Go.Proofs.YtclmdpamofdoiaaGreatDoor
open Go Go.Lt
variable {s C:Sto}{g k W:Nat}{ks:List Nat}{q:aa}{l:List ab}
def rzc (l:List ab) (w j:Nat):ab:=if j<l.length/\(j+1<w\/kd l j≠2) then l.getD j bl else bl
def rz (l:List ab) (w:Nat):List ab:=(List.range w).map (rzc l w)
theorem uv (l:List ab) (w:Nat):(rz l w).length=w:=by simp [rz]
theorem xX {w j:Nat}(h:j<w):(rz l w)[j]? = some (rzc l w j):=by simp [rz,h]
theorem Gd {w j:Nat}(h:j<w):kd (rz l w) j=(rzc l w j).Kind:=by simp [kd,xX h]
theorem xW (l:List ab) (w j:Nat):(rzc l w j).Kind=if j<l.length/\(j+1<w\/kd l j≠2) then kd l j else 0:=by
 unfold rzc;split
 ·exact nL l j
 ·rfl
theorem Dl (hs:Snd l) (w:Nat):Snd (rz l w):=fun j hj=>by
 have hjw:j<w:=by rw [uv] at hj; exact hj
 have e:(rz l w)[j]=rzc l w j:=by
  have:=xX (l:=l) hjw;rw [ag hj] at this;exact bj this
 rw [e];refine ⟨?_,fun h2=>?_,fun h3=>?_⟩
 ·unfold rzc;split
  ·rename_i h; exact hs.rg h.1
  ·rfl
 ·rw [xW] at h2;split at h2
  ·rename_i h
   have h4:=hs.two h2;have h5:j+1<l.length:=vd (by rw [h4]; decide);have h6:j+1<w:=by omega
   rw [Gd h6,xW,ae ⟨h5,.inr (by rw [h4]; decide)⟩,h4]
  ·cases h2
 ·rw [xW] at h3;split at h3
  ·rename_i h
   obtain ⟨h4,h5⟩:=hs.three h3;have h6:j-1<l.length:=by omega
   refine ⟨h4,?_⟩;rw [Gd (by omega),xW,ae ⟨h6,.inl (by omega)⟩,h5]
  ·cases h3
theorem GE (w:Nat):rz [] w=List.replicate w bl:=by
 refine bZ fun j=>?_;rcases aQ j w with h|h
 ·rw [xX h,nJ,ae h];unfold rzc;rw [af (by simp)]
 ·rw [aS (by rw [uv]; exact h),aS (by simpa using h)]
theorem FE {n:Nat}(hn:n<=l.length) (hl:l.length<=1024):pf l n=some (if 0<n/\kd l (n-1)=2 then (l.take n).set (n-1) bl else l.take n):=by
 unfold pf;rw [show (0:Int)=((0:Nat):Int) from rfl,oE (cE _) hn,jL,og];simp only [bsm];by_cases h0:0<n
 ·have e:w64 ((n:Int)-1)=((n-1:Nat):Int):=by rw [aG (by omega)]; omega
  have hlt:n-1<(l.take n).length:=by simp; omega
  have hk:(l.take n)[n-1].Kind=kd l (n-1):=by rw [List.getElem_take,lc (by omega)]
  rw [show decide ((n:Int)>((0:Nat):Int))=true by simpa using h0,e,bp hlt];simp only [ip,bsm,hk];by_cases h2:kd l (n-1)=2
  ·rw [ae (by simpa using h2),ae ⟨h0,h2⟩,lq hlt];rfl
  ·rw [af (by simpa using h2),af (fun h=>h2 h.2)];rfl
 ·rw [show decide ((n:Int)>((0:Nat):Int))=false by simpa using h0,af (fun h=>h0 h.1)];simp only [iF,bsm,ak,ba]
theorem Hn (hs:Snd l){w n:Nat}(hn:n=min w l.length) (w1:1<=w) (l1:1<=l.length):(if 0<n/\kd l (n-1)=2 then (l.take n).set (n-1) bl else l.take n)++List.replicate (w-n) bl=rz l w:=by
 have hlen:(if 0<n/\kd l (n-1)=2 then (l.take n).set (n-1) bl else l.take n).length=n:=by split <;> simp <;> omega
 refine bZ fun j=>?_;rcases aQ j w with h|h
 ·rw [xX h];rcases aQ j n with hj|hj
  ·rw [aL (by omega)];have hjl:j<l.length:=by omega
   have g:l.getD j bl=l[j]:=by rw [ao,ag hjl]; rfl
   unfold rzc;split
   ·rename_i h2
    rw [lT];by_cases e:n-1=j
    ·subst e;rw [ae rfl,ae (by simp; omega),af];rintro ⟨_,h5|h5⟩
     ·have:=hs.two h2.2;have:=vd (l:=l) (j:=n-1+1) (by omega);omega
     ·exact h5 h2.2
    ·rw [af e,aW,ae hj,ag hjl,ae ⟨hjl,by omega⟩,g]
   ·rename_i h2
    rw [aW,ae hj,ag hjl,ae,g];refine ⟨hjl,?_⟩;by_cases e:j+1<w
    ·exact .inl e
    ·right
     intro h3;exact h2 ⟨by omega,by rw [show n-1=j by omega]; exact h3⟩
  ·rw [bu (by omega),hlen,nJ,ae (by omega)];unfold rzc;rw [af (by omega)]
 ·rw [aS (by rw [aA,hlen,lM]; omega),aS (by rw [uv]; exact h)]
theorem AN {wr:Bool}(h:s.row_Row[k]? = some ⟨l,wr⟩) (hs:Snd l) (l1:1<=l.length) (l2:l.length<=1024){w:Nat}(w1:1<=w) (w2:w<=1024):
  jT s (some k) w=some (s.add_row_Row ⟨rz l w,false⟩,some s.row_Row.length):=by
 have e1:aE 1 (aB (w:Int) 1024)=(w:Int):=by rw [dF,fq]; omega
 unfold jT;rw [e1];simp only [bO,ak,ba,rT h (by omega) hs.sht,jA h,bsm];obtain ⟨n,hn⟩:∃n,n=min w l.length:=⟨_,rfl⟩;rw [show aB (w:Int) (l.length:Int)=(n:Int) by rw [dF]; omega,FE (by omega) l2];have hlen:(if 0<n/\kd l (n-1)=2 then (l.take n).set (n-1) bl else l.take n).length=n:=by split <;> simp <;> omega
 have hcr:=Hn hs hn w1 l1;generalize (if 0<n/\kd l (n-1)=2 then (l.take n).set (n-1) bl else l.take n)=c at *;simp only [bsm];rw [hlen,aG (by omega),uR];simp only [bsm];rw [show (max 0 (min ((w:Int)-(n:Int)) 1024)).toNat=w-n by omega,cU (by simp; omega),hcr];simp only [bsm];unfold tV;rw [GF (by rw [uv]; exact w1) (by rw [uv]; exact w2) (Dl hs w)];rfl
theorem Aw (l:List ab) (hl:l.length<=1000000){w:Nat}(w1:1<=w) (w2:w<=1024):eo l w=some (rz l w):=by
 have e1:aE 1 (aB (w:Int) 1024)=(w:Int):=by rw [dF,fq]; omega
 unfold eo;rw [e1,oF _ (by omega),show (⟨0,[]⟩:ab)=bl from rfl,ce];simp only [bsm];obtain ⟨t,h3,h4⟩:=ep (σ:=(List ab)×Int) (τ:=(List ab)) (n:=min w l.length) (fuel:=((w:Int)-0).toNat+1) (s:=(List.replicate w bl,0))
  (fun i q=>q=((List.range w).map (fun j=>if j<i then rzc l w j else bl),(i:Int))) (fun t=>t=rz l w)
  (step:=fun s_14=>
 (bT (decide (s_14.2<(w:Int))) (some (decide (s_14.2<(l.length:Int))))).bind fun d_18=>
 if d_18=true then
 ((orE (decide ((w64 (s_14.2+1))<(w:Int))) ((idx l s_14.2).bind fun x_34=>
 some (x_34.Kind != 2))).bind fun d_30=>
 if d_30=true then
 (idx l s_14.2).bind fun x_43=>
 (idx s_14.1 s_14.2).bind fun x_45=>
 (pJ s_14.1 s_14.2 x_43).bind fun w_46=>
 (some (w_46):Option ((List ab)))
 else
 (some (s_14.1):Option ((List ab)))).bind fun z_25=>
 some (.inl (z_25,(w64 (s_14.2+1))))
 else
 some (.inr (s_14.1)))
  (fun i q hi e=>by
   subst e;refine .inl ⟨_,?_,rfl⟩;have e5:w64 ((i:Int)+1)=((i+1:Nat):Int):=by rw [aG (by omega)]; simp
   have hil:i<l.length:=by omega
   have hd:(decide ((i:Int)<(w:Int)) && decide ((i:Int)<(l.length:Int)))=true:=by simp; omega
   have hlt:i<((List.range w).map (fun j=>if j<i then rzc l w j else bl)).length:=by simp; omega
   have ho:(orE (decide (((i+1:Nat):Int)<(w:Int))) ((idx l (i:Int)).bind fun x_34=>some (x_34.Kind != 2)))=some (decide (i+1<w\/kd l i≠2)):=by
    rw [bp hil];simp only [bsm,bD,<-lc hil,aV];rw [cu];simp only [aD,an,nz];omega
   simp only [bi,bsm,hd,bz,e5];rw [ho];simp only [bsm];have hnext:∀c:ab,c=rzc l w i->((List.range w).map (fun j=>if j<i then rzc l w j else bl)).set i c=(List.range w).map (fun j=>if j<i+1 then rzc l w j else bl):=fun c hc=>by
    refine bZ fun j=>?_;rw [lT];by_cases e:i=j
    ·subst e;rw [ae rfl,ae hlt,bK,dC (by omega),hc];simp
    ·rw [af e,bK,bK];rcases aQ j w with hj|hj
     ·rw [dC hj];simp only [fH,aV];by_cases h5:j<i
      ·rw [ae h5,ae (by omega)]
      ·rw [af h5,af (by omega)]
     ·rw [aS (by simpa using hj)];rfl
   by_cases hc:i+1<w\/kd l i≠2
   ·rw [ae (by simpa using hc),bp hil,bp hlt];simp only [bsm];rw [lq hlt,hnext l[i] (by
     unfold rzc;rw [ae ⟨hil,hc⟩,ao,ag hil];rfl)]
    rfl
   ·rw [af (by simpa using hc)];simp only [bsm];have hb:rzc l w i=bl:=by
     unfold rzc;rw [af (fun h=>hc h.2)]
    have:=hnext bl hb.symm;rw [<-this]
    congr 3
    refine (bZ fun j=>?_).symm;rw [lT];by_cases e:i=j
    ·subst e;rw [ae rfl,ae hlt,bK,dC (by omega)];simp
    ·rw [af e])
  (fun q e=>⟨q.1,by
   subst e;have hd:(decide (((min w l.length:Nat):Int)<(w:Int)) && decide (((min w l.length:Nat):Int)<(l.length:Int)))=false:=by
    rw [Ag];simp only [xB,av,an];omega
   simp only [bi,bsm,hd,ak,ba],by
   subst e;simp only;unfold rz;refine dB fun j hj=>?_;rw [List.mem_range] at hj;by_cases h5:j<min w l.length
   ·rw [ae h5]
   ·rw [af h5];unfold rzc;rw [af (by omega)]⟩)
  (by
   simp only [CX,ba,iq];refine ⟨?_,rfl⟩;rw [JC,sS]) (by omega)
 subst h4;rw [h3];rfl
def cs (L:List aj) (n:Nat):List ab:=(L.getD n ⟨[],false⟩).Cells
def rs (L:List aj) (top w h:Nat):List aj:=(List.range h).map fun m=>⟨rz (cs L (top+m)) w,false⟩
def rsi (L:List aj) (top w h i:Nat):List aj:=(List.range h).map fun m=>if m<i then ⟨rz (cs L (top+m)) w,false⟩ else ⟨List.replicate w bl,false⟩
theorem AQ {L:List aj}{n:Nat}(h:L.length<=n):cs L n= []:=by
 unfold cs;rw [ao,aS h];rfl
theorem Ea {L:List aj}{n:Nat}(h:n<L.length):cs L n=L[n].Cells:=by
 unfold cs;rw [ao,ag h];rfl
theorem Bh (L:List aj) (top w:Nat){h i:Nat}(hi:i<h):(rsi L top w h i).set i ⟨rz (cs L (top+i)) w,false⟩=rsi L top w h (i+1):=by
 unfold rsi;refine bZ fun j=>?_;rw [lT,dq,sS];by_cases e:i=j
 ·subst e;rw [ae rfl,ae hi,bK,dC hi];simp
 ·rw [af e,bK,bK];rcases aQ j h with hj|hj
  ·rw [dC hj];simp only [fH,aV];by_cases h5:j<i
   ·rw [ae h5,ae (by omega)]
   ·rw [af h5,af (by omega)]
  ·rw [aS (by simpa using hj)];rfl
theorem Dq (L:List aj){top w h i:Nat}(ho:L.length<=top+i) (hi:i<h):rsi L top w h (i+1)=rsi L top w h i:=by
 rw [<-Bh L top w hi,AQ ho,GE];refine bZ fun j=>?_;rw [lT];by_cases e:i=j
 ·subst e;unfold rsi;rw [ae rfl,ae (by simp; exact hi),bK,dC hi];simp
 ·rw [af e]
theorem E0 (L:List aj) (top w h:Nat):rsi L top w h h=rs L top w h:=by
 unfold rsi rs;refine dB fun m hm=>?_;rw [List.mem_range] at hm;rw [ae hm]
theorem Dp (L:List aj) (top w h:Nat):rsi L top w h 0=bls w h:=by
 unfold rsi bls;simp only [CX,ba];rw [JC,sS]
theorem GW {xs:List Nat}(nd:xs.Nodup){x i:Nat}(hx:x∉xs):(xs.set i x).Nodup:=by
 rw [List.Nodup,List.pairwise_iff_getElem] at *;intro a b ha hb hab;rw [cx] at ha hb;rw [Ju,Ju];split
 ·split
  ·omega
  ·exact fun e=>hx (e▸ aF hb)
 ·split
  ·exact fun e=>hx (e▸ aF ha)
  ·exact nd a b ha hb hab
theorem Gw.sgo {g2:Nat}(h:Gw s g ks W) (hne:g2≠g) (x:cm):Gw (s.sg g2 x) g ks W:=
 ⟨by rw [<-h.g]; simp [Sto.sg,bh hne],h.r,h.h1,h.h2,h.w1,h.w2⟩
theorem Gw.addg (h:Gw s g ks W) (x:cm):Gw (s.add_grid_Grid x) g ks W:=
 ⟨by rw [<-h.g]; simp only [Sto.add_grid_Grid]; exact aL (cR h.g),h.r,h.h1,h.h2,h.w1,h.w2⟩
theorem Rf.more {s':Sto}{g2:Nat}{ks':List Nat}(h:Rf s s' g ks g2 ks') (hg2:s.grid_Grid.length<=g2) (xs:List br) (x:cm) (i:Nat):Rf s ((s'.addr xs).sg g2 x) g ks g2 (ks'.set i s'.row_Row.length):=by
 have e:((s'.addr xs).sg g2 x).row_Row=s'.row_Row++xs:=rfl;have e2:((s'.addr xs).sg g2 x).grid_Grid=s'.grid_Grid.set g2 x:=rfl;have hr:=h.rl;refine ⟨by rw [e2,cx]; exact h.gl,by rw [e,aA]; omega,fun j a b=>by rw [e2,bh (by omega)]; exact h.gr j a b,fun j a b=>by rw [e,aL (by omega)]; exact h.rw j a b,h.ng,fun r hr=>?_⟩;rcases EK hr with q|rfl
 ·exact h.nr r q
 ·exact .inr h.rl
theorem Rf.begun (xs:List br) (x:cm){g2:Nat}(hg2:g2=s.grid_Grid.length) (m:Nat):Rf s ((s.addr xs).add_grid_Grid x) g ks g2 (List.range' s.row_Row.length m):=by
 subst hg2;refine ⟨by simp [Sto.add_grid_Grid,Sto.addr],by simp [Sto.add_grid_Grid,Sto.addr],fun j hj _=>?_,fun j hj _=>?_,.inr (az _),fun r hr=> .inr (List.mem_range'_1.1 hr).1⟩
 ·simp only [Sto.add_grid_Grid,Sto.addr]; exact aL hj
 ·simp only [Sto.add_grid_Grid,Sto.addr]; exact aL hj
theorem BV (h:Pv C s k g W q ks){w hh top:Nat}(w1:1<=w) (w2:w<=1024) (h1:1<=hh) (h2:hh<=1024) (ht:top<=1024){g2:Nat}(hg2:g2=s.grid_Grid.length):
  ∃s' ks',cL (σ:=Int×Sto) (τ:=Sto) (((hh:Int)-0).toNat+1) (fun s_54=>
 if (decide (s_54.1<(hh:Int)))=true then
 ((s_54.2.place_Pen[k]?).bind fun o_64=>
 (bF s_54.2 o_64.G (w64 ((top:Int)+s_54.1))).bind fun x_68=>
 if (!x_68.isNone)=true then
 (jT s_54.2 x_68 (w:Int)).bind fun x_78=>
 (eO x_78.1 (some g2) s_54.1 x_78.2).bind fun x_79=>
 (some (x_79.1):Option (Sto))
 else
 (some (s_54.2):Option (Sto))).bind fun z_57=>
 some (.inl ((w64 (s_54.1+1)),z_57))
 else
 some (.inr (s_54.2))) (0,(s.addr ((bls w hh).map lr)).add_grid_Grid ⟨(List.range' s.row_Row.length hh).map some⟩)=some s'/\
  Gw s' g2 ks' w/\ks'.Nodup/\ks'.map (ln s')=rs q.L top w hh/\s'.rst=s.rst/\Rf s s' g ks g2 ks':=by
 have hb:(bls w hh).length=hh:=by simp [bls]
 have h0:((bls w hh)[0]'(by omega)).Cells.length=w:=by simp [bls]
 obtain ⟨b1,b2⟩:=Ge (s:=s) (L:=bls w hh) (by omega) (by omega) (Eo w1 w2 h1);rw [h0,<-hg2] at b1;rw [hb] at b1 b2;have hgl:=cR h.g.g;obtain ⟨t,e1,e2⟩:=ep (σ:=Int×Sto) (τ:=Sto) (n:=hh) (fuel:=((hh:Int)-0).toNat+1) (s:=(0,(s.addr ((bls w hh).map lr)).add_grid_Grid ⟨(List.range' s.row_Row.length hh).map some⟩))
  (fun i q2=>q2.1=(i:Int)/\q2.2.rst=s.rst/\Gw q2.2 g ks W/\ks.map (ln q2.2)=q.L/\∃ks',Gw q2.2 g2 ks' w/\ks'.Nodup/\ks'.length=hh/\ks'.map (ln q2.2)=rsi q.L top w hh i/\Rf s q2.2 g ks g2 ks')
  (fun t=>t.rst=s.rst/\∃ks',Gw t g2 ks' w/\ks'.Nodup/\ks'.map (ln t)=rs q.L top w hh/\Rf s t g ks g2 ks')
  (step:=fun s_54=>
 if (decide (s_54.1<(hh:Int)))=true then
 ((s_54.2.place_Pen[k]?).bind fun o_64=>
 (bF s_54.2 o_64.G (w64 ((top:Int)+s_54.1))).bind fun x_68=>
 if (!x_68.isNone)=true then
 (jT s_54.2 x_68 (w:Int)).bind fun x_78=>
 (eO x_78.1 (some g2) s_54.1 x_78.2).bind fun x_79=>
 (some (x_79.1):Option (Sto))
 else
 (some (s_54.2):Option (Sto))).bind fun z_57=>
 some (.inl ((w64 (s_54.1+1)),z_57))
 else
 some (.inr (s_54.2)))
  (fun i q2 hi ⟨e,hp,hg,hl,ks',c1,c2,c3,c4,c5⟩=>by
   obtain ⟨j,st⟩:=q2;simp only at e hp hg hl c1 c2 c3 c4 c5;subst e;have e5:w64 ((i:Int)+1)=((i+1:Nat):Int):=by rw [aG (by omega)]; simp
   have e6:w64 ((top:Int)+(i:Int))=((top+i:Nat):Int):=by rw [aG (by omega)]; simp
   have hd:decide ((i:Int)<(hh:Int))=true:=by simp; exact hi
   simp only [hd,bz,kT hp,h.p,bsm,e5,e6];have hlen:=h.len;by_cases ho:top+i<ks.length
   ·rw [ft hg ho];simp only [bsm,bO,eL,bz];obtain ⟨r,r1,r2,r3⟩:=hg.at ho;have hr:=AN (l:=r.cells) (wr:=r.wrap) r1 r2 (by rw [r3]; exact hg.w1) (by rw [r3]; exact hg.w2) w1 w2;rw [hr];simp only [bsm];have ea:st.add_row_Row ⟨rz r.cells w,false⟩=st.addr [⟨rz r.cells w,false⟩]:=by simp [Sto.add_row_Row,Sto.addr]
    rw [ea];have c1':=c1.addr (xs:=[⟨rz r.cells w,false⟩]);have hg':=hg.addr (xs:=[⟨rz r.cells w,false⟩]);have hnew:(st.addr [⟨rz r.cells w,false⟩]).row_Row[st.row_Row.length]? = some ⟨rz r.cells w,false⟩:=by simp [Sto.addr]
    have hrw:Rw (st.addr [⟨rz r.cells w,false⟩]) w st.row_Row.length:=⟨_,hnew,Dl r2 w,uv _ _⟩;rw [zA c1' (show i<ks'.length by omega) hrw];simp only [bsm];have hL:cs q.L (top+i)=r.cells:=by
     rw [Ea (by rw [<-hl]; simpa using ho)];have:q.L[top+i]? = (ks.map (ln st))[top+i]? :=by rw [hl]
     rw [ag (by rw [<-hl]; simpa using ho),bK,ag ho,fH,nP r1] at this;rw [bj this]
    refine .inl ⟨_,rfl,rfl,hp,hg'.sgo (by omega) _,?_,ks'.set i st.row_Row.length,c1'.set hrw,GW c2 fun hm=>absurd (c1.r _ hm).lt (Nat.lt_irrefl _),by rw [cx]; exact c3,?_,c5.more (by omega) _ _ _⟩
    ·rw [<-hl];refine dB fun x hx=>?_;rw [zt];exact wj (hg.r x hx).lt
    ·rw [<-Bh _ _ _ hi,<-c4,hL,List.map_set,zt,nP hnew]
     congr 1
     refine dB fun x hx=>?_;rw [zt];exact wj (c1.r x hx).lt
   ·rw [tU hg (.inr (by omega))];simp only [bsm,Option.isNone_none,dk,ak,ba];exact .inl ⟨_,rfl,rfl,hp,hg,hl,ks',c1,c2,c3,by rw [Dq _ (by omega) hi]; exact c4,c5⟩)
  (fun q2 ⟨e,hp,_,_,ks',c1,c2,_,c4,c5⟩=>⟨q2.2,by
   have hd:decide (q2.1<(hh:Int))=false:=by rw [e]; simp
   simp only [hd,ak,ba],hp,ks',c1,c2,by rw [c4,E0],c5⟩)
  ⟨rfl,rfl,(h.g.addr (xs:=(bls w hh).map lr)).addg _,by
   rw [<-h.l];refine dB fun x hx=>?_;exact wj (h.g.r x hx).lt,_,b1,Jp,by simp,by rw [Dp]; exact b2,Rf.begun _ _ hg2 _⟩ (by omega)
 obtain ⟨p1,ks',p2,p3,p4,p5⟩:=e2;exact ⟨t,ks',e1,p2,p3,p4,p1,p5⟩
def tp (c:ai) (h:Nat):Nat:=(c.Row-h+1).toNat
theorem H0 (h:Pv C s k g W q ks) (a b:Int):dx q a b=some ⟨rs q.L (tp (hc q.At W ks.length) (sd b)) (sd a) (sd b),⟨(hc q.At W ks.length).Row-tp (hc q.At W ks.length) (sd b),min (hc q.At W ks.length).Col ((sd a:Int)-1),false⟩,q.Auto⟩:=by
 have hd:=tR q.At h.g.w1 h.g.h1;have hl:=h.len;have hh2:=h.g.h2;have ha:=tF a;have hb:=tF b;have side:∀n:Int,ck n=some (sd n:Int):=fun n=>by
  unfold ck;by_cases h1:n<1
  ·rw [ae (by simpa using h1)]
   congr 1
   unfold sd;omega
  ·rw [af (by simpa using h1)];by_cases h2:n>1024
   ·rw [ae (by simpa using h2)]
    congr 1
    unfold sd;omega
   ·rw [af (by simpa using h2)]
    congr 1
    unfold sd;omega
 unfold dx;rw [oW h];generalize hc q.At W ks.length=c at *;have hr:=hd.rr;simp only [bsm,side];obtain ⟨t,e1,e2⟩:=ep (σ:=(List aj)×Int) (τ:=((List aj)×Int)) (n:=tp c (sd b)) (fuel:=(c.Row-(sd b:Int)).toNat+2) (s:=(q.L,c.Row))
  (fun i q2=>q2=(q.L.drop i,c.Row-i)) (fun t=>t=(q.L.drop (tp c (sd b)),c.Row-tp c (sd b)))
  (step:=fun s_25=>
 if (decide (s_25.2>=(sd b:Int)))=true then
 (slc s_25.1 1 s_25.1.length).bind fun x_32=>
 some (.inl (x_32,(w64 (s_25.2-1))))
 else
 some (.inr (s_25.1,s_25.2)))
  (fun i q2 hi e=>by
   subst e;refine .inl ⟨_,?_,rfl⟩;unfold tp at hi;have hd:decide (c.Row-(i:Int)>=(sd b:Int))=true:=by simp; omega
   simp only [hd,bz];rw [show (1:Int)=((1:Nat):Int) from rfl,oE (by simp; omega) (az _),aG (by omega)];simp only [bsm,dv];rw [aC (by simp; omega)]
   congr 3
   omega)
  (fun q2 e=>⟨q2,by
   subst e;have hd:decide (c.Row-(tp c (sd b):Int)>=(sd b:Int))=false:=by
    unfold tp;simp;omega
   simp only [hd,ak,ba],e⟩)
  (by simp) (by unfold tp; omega)
 subst e2;rw [e1];simp only [bsm];obtain ⟨t,e3,e4⟩:=ep (σ:=(List aj)×Int) (τ:=(List aj)) (n:=sd b) (fuel:=((sd b:Int)-0).toNat+1) (s:=(([]:List aj),0))
  (fun i q2=>q2=((rs q.L (tp c (sd b)) (sd a) (sd b)).take i,(i:Int))) (fun t=>t=rs q.L (tp c (sd b)) (sd a) (sd b))
  (step:=fun s_45=>
 if (decide (s_45.2<(sd b:Int)))=true then
 (if (decide (s_45.2<((q.L.drop (tp c (sd b))).length:Int)))=true then
 (idx (q.L.drop (tp c (sd b))) s_45.2).bind fun x_60=>
 (some (x_60.Cells):Option ((List ab)))
 else
 (some (([]:List ab)):Option ((List ab)))).bind fun z_52=>
 (eo z_52 (sd a:Int)).bind fun x_68=>
 (app s_45.1 ([(⟨x_68,false⟩:aj)]:List aj)).bind fun x_71=>
 some (.inl (x_71,(w64 (s_45.2+1))))
 else
 some (.inr (s_45.1)))
  (fun i q2 hi e=>by
   subst e;refine .inl ⟨_,?_,rfl⟩;have e5:w64 ((i:Int)+1)=((i+1:Nat):Int):=by rw [aG (by omega)]; simp
   have hd:decide ((i:Int)<(sd b:Int))=true:=by simp; exact hi
   have hz:(if (decide ((i:Int)<((q.L.drop (tp c (sd b))).length:Int)))=true then (idx (q.L.drop (tp c (sd b))) (i:Int)).bind fun x_60=>(some (x_60.Cells):Option ((List ab))) else (some (([]:List ab)):Option ((List ab))))=some (cs q.L (tp c (sd b)+i)):=by
    by_cases ho:i<(q.L.drop (tp c (sd b))).length
    ·rw [ae (by simpa using ho),bp ho];have ho2:tp c (sd b)+i<q.L.length:=by simp at ho; omega
     rw [Ea ho2];simp only [bsm,List.getElem_drop]
    ·rw [af (by simpa using ho),AQ (by simp at ho; omega)]
   simp only [hd,bz,e5];rw [hz];simp only [bsm];have hcl:(cs q.L (tp c (sd b)+i)).length<=1000000:=by
    by_cases ho:tp c (sd b)+i<q.L.length
    ·rw [Ea ho,(h.ok _ (aF ho)).2];have:=h.g.w2;omega
    ·rw [AQ (by omega)];simp
   rw [Aw _ hcl ha.1 ha.2];simp only [bsm];have hlt:i<(rs q.L (tp c (sd b)) (sd a) (sd b)).length:=by simp [rs]; exact hi
   rw [cU (by simp; omega),ax hlt];simp [rs])
  (fun q2 e=>⟨q2.1,by subst e; simp,by subst e; simp only; rw [aC (by simp [rs])]⟩)
  (by simp) (by omega)
 subst e4;rw [e3];simp only [bsm];rw [aG (by omega),dF]
theorem EU (h:Pv C s k g W q ks) (a b:Int):∃s' q' g' ks',lx s (some k) a b=some s'/\dx q a b=some q'/\Pv C s' k g' (sd a) q' ks'/\q'.L=rs q.L (tp (hc q.At W ks.length) (sd b)) (sd a) (sd b)/\Hd q'.At (sd a) (sd b):=by
 have hd:=tR q.At h.g.w1 h.g.h1;have hh2:=h.g.h2;have ha:=tF a;have hb:=tF b;have sdd:∀n:Int,aE 1 (aB n 1024)=(sd n:Int):=fun n=>by
  rw [dF,fq];unfold sd;omega
 have hc1:=pu q.At h.g.w1 h.g.w2 h.g.h1 h.g.h2;have h39:=H0 h a b;generalize hc q.At W ks.length=c at *;have hr:=hd.rr;have hcc:=hd.cc;have etp:aE 0 (w64 ((w64 (c.Row-(sd b:Int)))+1))=(tp c (sd b):Int):=by
  rw [aG (n:=c.Row-(sd b:Int)) (by omega),aG (by omega),fq];unfold tp;omega
 obtain ⟨s',ks',e1,g1,g2,g3,g4,g5⟩:=BV h ha.1 ha.2 hb.1 hb.2 (top:=tp c (sd b)) (by unfold tp; omega) rfl;have hgn:=zB (s:=s) (sd a:Int) (sd b:Int);rw [Bg ha.1 ha.2,Bg hb.1 hb.2] at hgn;have hp':s'.place_Pen[k]? = some ⟨some g,q.At,q.Auto⟩:=by rw [kT g4]; exact h.p
 have hmv:jq (c.Row-(tp c (sd b):Int)) c.Col (sd a:Int) (sd b:Int)=some ⟨c.Row-tp c (sd b),min c.Col ((sd a:Int)-1),false⟩:=by
  unfold jq;rw [pu _ ha.1 ha.2 hb.1 hb.2];simp only [bsm,hc,aV,ai.mk.injEq,mw,wQ];unfold tp;omega
 refine ⟨(s'.sp k ⟨some s.grid_Grid.length,q.At,q.Auto⟩).sp k ⟨some s.grid_Grid.length,⟨c.Row-tp c (sd b),min c.Col ((sd a:Int)-1),false⟩,q.Auto⟩,_,s.grid_Grid.length,ks',?_,h39,?_,rfl,⟨by simp only; unfold tp; omega,by simp only; omega,fun e=>by cases e⟩⟩
 ·unfold lx;simp only [bO,ez,bsm,h.p,ak,ba];rw [jB h.g,eW h.g];simp only [bsm,sdd];rw [hc1];simp only [bsm];rw [hgn];simp only [bsm,etp];rw [e1];simp only [bsm,hp'];rw [jj (cR hp')];simp only [bsm];rw [aG (by unfold tp; omega),hmv];simp only [bsm];rw [jj (by simp [Sto.sp]; exact cR hp')];rfl
 ·rw [xp];exact ⟨xS (cR hp'),g1.sp _ _,g2,g3,(rS g4).trans h.o,(h.f.step g5 (kT g4)).sp _⟩
end Go.Proofs.YtclmdpamofdoiaaGreatDoor
namespace Go.Proofs.YtclmdpamofdoiaaGreatDoor
open Go Go.Lt
variable {s C:Sto}{x f k g W H:Nat}{q P:aa}{ks:List Nat}{op:Option Nat}
structure Mo where
 P:aa
 G:List Int
 h:List Int
structure Sd (C s:Sto) (x f k:Nat) (m:Mo) (q:aa):Prop where
 sc:s.screen_Screen[x]? = some ⟨some f,some k⟩
 bt:Bts m.h
 fd:∃g W H ks op,Fd C s f k g W H m.P m.G m.h q ks op
def lay (P:aa) (G:List Int):Option aa:=fo sX P (cls pj pr G)
def mdo (m:Mo) (o:aM):Option Mo:=
 if o.Kind=0 then some ⟨m.P,m.G++(bC m.h o.Bytes).1,(bC m.h o.Bytes).2⟩
 else if o.Kind=1 then (lay m.P (m.G++(if m.h= [] then [] else [65533]))).map fun q=>⟨q,[],[]⟩
 else if o.Kind=13 then (lay m.P m.G).bind fun q=>(dx q o.A o.B).map fun q'=>⟨q',[],m.h⟩
 else if w38 o=0 then (lay m.P m.G).bind fun q=>(fX q o).map fun q'=>⟨q',[],m.h⟩
 else some m
def w40 (o:aM):Int:=if o.Kind=0\/o.Kind=1\/o.Kind=13 then 0 else w38 o
def e40 (o:aM):Er:=if o.Kind=0\/o.Kind=1\/o.Kind=13 then Er.nil else e38 o
theorem Fd.pen_work {h:List Int}(F:Fd C s f k g W H P [] h q ks none){s':Sto}{g' W':Nat}{q':aa}{ks':List Nat}(v:Pv s s' k g' W' q' ks') (hh:Hd q'.At W' ks'.length):Fd C s' f k g' W' ks'.length q' [] h q' ks' none:=by
 obtain ⟨d,hd,hdv⟩:=F.d;refine ⟨v.self,F.fr.trans F.v.oG F.v.oR v.f,F.fz.oth v.o,rfl,hh,rfl,F.gv,⟨d,?_,hdv⟩,fun _=>rfl,fun e=>by cases e⟩;rw [pN v.o];exact hd
theorem rR {m:Mo}(S:Sd C s x f k m q) (o:aM) (hb:Bts o.Bytes) (hl:o.Bytes.length<=9223372036854775807):∃s' m' q',eR s (some x) o=some (s',e40 o)/\mdo m o=some m'/\Sd C s' x f k m' q':=by
 obtain ⟨g,W,H,ks,op,F⟩:=S.fd;have hC:C.screen_Screen[x]? = some ⟨some f,some k⟩:=by rw [<-F.fz.sc]; exact S.sc
 have hs:∀{s':Sto}{g W H:Nat}{P:aa}{G h:List Int}{q:aa}{ks:List Nat}{op:Option Nat},Fd C s' f k g W H P G h q ks op->s'.screen_Screen[x]? = some ⟨some f,some k⟩:=fun F'=>by rw [F'.fz.sc]; exact hC
 unfold eR mdo e40;simp only [bO,ak,ba,bsm,aT,S.sc];by_cases k0:o.Kind=0
 ·obtain ⟨s',q',ks',op',b1,b2⟩:=CD F S.bt hl hb;rw [ae k0,ae k0,ae (.inl k0),b1];exact ⟨s',_,q',rfl,rfl,hs b2,uy S.bt hb,⟨_,_,_,_,_,b2⟩⟩
 rw [af k0,af k0];by_cases k1:o.Kind=1
 ·obtain ⟨s',q',ks',b1,b2,b3⟩:=CC F;rw [ae k1,ae k1,ae (.inr (.inl k1)),b1];unfold lay;rw [b3];exact ⟨s',_,q',rfl,rfl,hs b2,Bts.nil,⟨_,_,_,_,_,b2⟩⟩
 rw [af k1,af k1];by_cases k13:o.Kind=13
 ·obtain ⟨s2,b1,b2⟩:=uJ F;obtain ⟨s',q',g',ks',c1,c2,c3,c4,c5⟩:=EU b2.v o.A o.B;have hkl:ks'.length=sd o.B:=by rw [<-c3.len,c4]; simp [rs]
  rw [ae k13,ae k13,ae (.inr (.inr k13)),b1];have hl2:lay m.P m.G=some q:=F.l;simp only [bsm,hs b2,hl2];rw [c1,c2];have F2:=b2.pen_work c3 (by rw [hkl]; exact c5);exact ⟨s',_,q',rfl,rfl,hs F2,S.bt,⟨_,_,_,_,_,F2⟩⟩
 rw [af k13,af k13,af (by omega),wx];simp only [bsm,BC];by_cases hw:w38 o=0
 ·rw [af (by simp [hw]),ae hw];obtain ⟨s2,b1,b2⟩:=uJ F;obtain ⟨s',q',ks',c1,c2,c3,c4,c5,_⟩:=FF b2.v o hw;rw [b1];have hl2:lay m.P m.G=some q:=F.l;simp only [bsm,hs b2,hl2];rw [c1,c2];have he:e38 o=Er.nil:=by unfold e38; rw [hw]; rfl
  have F2:=b2.pen_work c3 (by rw [c4]; exact c5);exact ⟨s',_,q',by rw [he]; rfl,rfl,hs F2,S.bt,⟨_,_,_,_,_,F2⟩⟩
 ·rw [ae (by simpa using hw),af hw];exact ⟨s,m,q,rfl,rfl,S⟩
def vw (q:aa):dz:=⟨(q.L.getD 0 dl).Cells.length,(q.L.length:Int),q.L,q.At,q.Auto⟩
theorem qT {m:Mo}(S:Sd C s x f k m q):dP s (some x)=some (vw q):=by
 obtain ⟨g,W,H,ks,op,F⟩:=S.fd;unfold dP vw;simp only [bO,ak,ba,bsm,S.sc,F.v.p];rw [jB F.v.g,eW F.v.g,AJ F.v.g,F.v.l];simp only [bsm];have hl:=F.v.len;have h1:=F.v.g.h1;rw [gdl (show 0<q.L.length by omega),(F.v.ok _ (aF (show 0<q.L.length by omega))).2,hl]
theorem Sd.ok {m:Mo}(S:Sd C s x f k m q):∃W:Nat,1<=W/\W<=1024/\1<=q.L.length/\q.L.length<=1024/\(∀l∈q.L,Okl W l)/\(vw q).Wide=(W:Int)/\Hd q.At W q.L.length:=by
 obtain ⟨g,W,H,ks,op,F⟩:=S.fd;have hl:=F.v.len;have h1:=F.v.g.h1;have h2:=F.v.g.h2;refine ⟨W,F.v.g.w1,F.v.g.w2,by omega,by omega,F.v.ok,?_,by rw [hl,F.n]; exact F.hd⟩;unfold vw;rw [gdl (show 0<q.L.length by omega),(F.v.ok _ (aF (show 0<q.L.length by omega))).2]
theorem pK (s:Sto) (w h:Int):∃s',jQ s w h=some (s',some s.screen_Screen.length)/\Sd s' s' s.screen_Screen.length s.feed_Feeder.length s.place_Pen.length ⟨⟨bls (sd w) (sd h),⟨0,0,false⟩,true⟩,[],[]⟩ ⟨bls (sd w) (sd h),⟨0,0,false⟩,true⟩:=by
 obtain ⟨s1,ks,h1,v1⟩:=Ck (s:=s) w h;have hks:=v1.g.h1;have hW1:=v1.g.w1;obtain ⟨s2,h2,d2,e2⟩:=D6 v1.self ⟨by simp only; omega,by simp only; omega,fun e=>by cases e⟩;unfold jQ;rw [h1];simp only [bsm];rw [h2];simp only [bsm];have es:s1.screen_Screen=s.screen_Screen:=ye v1.o;have ef:s1.feed_Feeder=s.feed_Feeder:=pN v1.o;have es2:s2.screen_Screen=s1.screen_Screen:=by rw [e2]; rfl
 rw [es2,es,ef];rw [ef] at d2;refine ⟨_,rfl,⟨?_,Bts.nil,⟨s.grid_Grid.length,sd w,ks.length,ks,none,?_⟩⟩⟩
 ·have:(s2.add_screen_Screen ⟨some s.feed_Feeder.length,some s.place_Pen.length⟩).screen_Screen=s2.screen_Screen++ [⟨some s.feed_Feeder.length,some s.place_Pen.length⟩]:=rfl;rw [this,es2,es];simp
 ·obtain ⟨d,hd,hdv⟩:=d2.d;refine ⟨⟨d2.v.p,⟨d2.v.g.g,d2.v.g.r,d2.v.g.h1,d2.v.g.h2,d2.v.g.w1,d2.v.g.w2⟩,d2.v.nd,d2.v.l,rfl,d2.v.f.rgp ⟨rfl,rfl,rfl⟩ ⟨rfl,rfl,rfl⟩⟩,d2.v.f.rgp ⟨rfl,rfl,rfl⟩ ⟨rfl,rfl,rfl⟩,Fz.self _ _ _ (fun y hy=>?_) (cR hd),rfl,d2.hd,rfl,fun y hy=>by simp at hy,⟨d,hd,hdv⟩,fun _=>rfl,fun e=>by cases e⟩;have hy':s2.feed_Feeder[s.feed_Feeder.length]? = some y:=hy;rw [hd] at hy';cases hy';rfl
end Go.Proofs.YtclmdpamofdoiaaGreatDoor
namespace Go.Proofs.YtclmdpamofdoiaaGreatDoor
open Go Go.Lt
theorem DK {γ:Type}{x:Option (γ×Bool)}(h:x.map (fun q=>q.2)=some true):∃s,x=some (s,true):=by
 cases x with
 | none=>cases h
 | some q=>
  obtain ⟨a,b⟩:=q;simp only [fH,aV] at h;subst h;exact ⟨a,rfl⟩
theorem GU {f:Sto->Option (Sto×Bool)}{s:Sto}(h1:(f s).map (fun q=>q.2)=some true) (h2:((f s).bind fun q=>f q.1).map (fun q=>q.2)=some true):∃s1 s2,f s=some (s1,true)/\f s1=some (s2,true):=by
 obtain ⟨s1,e1⟩:=DK h1;rw [e1] at h2;obtain ⟨s2,e2⟩:=DK h2;exact ⟨s1,s2,e1,e2⟩
theorem wf8 {n:Int}(h:(Lit.int .u8 n).wf=true):0<=n/\n<=255:=by
 simp only [Lit.wf,IntKind.min,IntKind.max,IntKind.signed,IntKind.bits,av,an,ak,ba] at h;omega
end Go.Proofs.YtclmdpamofdoiaaGreatDoor
namespace Go.Proofs.YtclmdpamofdoiaaGreatDoor
open Go Go.Lt
variable {s C:Sto}{x f k g W H:Nat}{q P:aa}{ks:List Nat}{op:Option Nat}
def Obs (l:List aM):Prop:=∀o∈l,Bts o.Bytes/\o.Bytes.length<=9223372036854775807
theorem sG {α:Type}(f:α->Nat){l:List α}{i:Nat}(h:i<l.length):((l.take (i+1)).map f).sum=((l.take i).map f).sum+f l[i]:=by
 rw [ax h,bU,JB];simp
theorem yR {α:Type}(f:α->Nat) (l:List α) (i:Nat):((l.take i).map f).sum<=(l.map f).sum:=by
 conv=>rhs; rw [<-gZ i l]
 rw [bU,JB];omega
end Go.Proofs.YtclmdpamofdoiaaGreatDoor
namespace Go.Proofs.YtclmdpamofdoiaaGreatDoor
open Go Go.Lt
variable {s C:Sto}{x f k:Nat}{q q':aa}{F:aq}{m m':Mo}
def pD (l:List aM):Nat:=(l.map fun o=>o.Bytes.length).sum
theorem CB (l:List aM) (hl:l.length<=9223372036854775807) (hb:∀o∈l,o.Bytes.length<=4611686018427387904):∃t,fQ l=some t/\(t=false->l.length<=50/\pD l<=600):=by
 unfold fQ;refine nM (σ:=Int×Int) (τ:=Bool ⊕ Unit) (n:=min l.length 60) (fun i (s:Int×Int)=>s=((pD (l.take i):Int),(i:Int))/\pD (l.take i)<=600) (fun u=>match u with|.inl b=>b=true|.inr _=>pD (l.take (min l.length 60))<=600) (fun i s hi e=>?_) (fun s e=>?_) ⟨rfl,by simp [pD]⟩ (by omega) (fun u hu=>?_)
 ·obtain ⟨rfl,hs⟩:=e;have hil:i<l.length:=by omega
  have hbi:=hb _ (aF hil);have e1:pD (l.take (i+1))=pD (l.take i)+l[i].Bytes.length:=sG (fun o:aM=>o.Bytes.length) hil;simp only [bi,bsm];rw [ae (by simp; omega),bp hil];simp only [bsm,bi,bD];rw [aG (n:=(pD (l.take i):Int)+(l[i].Bytes.length:Int)) (by omega),aG (n:=(i:Int)+1) (by omega)];split
  ·exact .inr ⟨_,rfl,rfl⟩
  ·rename_i hn
   simp only [aD,an,GV] at hn;exact .inl ⟨_,rfl,by rw [e1]; simp,by rw [e1]; omega⟩
 ·obtain ⟨rfl,hs⟩:=e;simp only [bi,bsm];rw [af (by simp; omega)];exact ⟨_,rfl,hs⟩
 ·cases u with
  | inl b=>simp only at hu; exact ⟨b,rfl,fun h=>by rw [hu] at h; cases h⟩
  | inr u=>
   refine ⟨_,rfl,fun h=>?_⟩;have h1:l.length<=50:=by simp at h; omega
   rw [aC (by omega)] at hu;exact ⟨h1,hu⟩
structure Tm (F:aq) (m:Mo):Prop where
 p:m.P=F.P
 g:m.G=F.Group
 h:m.h=(bC [] F.Raw).2
 n:F.Parts=((bC [] F.Raw).1.length:Int)
 b:Bts F.Raw
theorem Sd.gv (S:Sd C s x f k m q):∀y∈m.G,vld y=true:=by
 obtain ⟨g,W,H,ks,op,F⟩:=S.fd;exact F.gv
theorem Sd.lay1 (S:Sd C s x f k m q):lay m.P m.G=some q:=by
 obtain ⟨g,W,H,ks,op,F⟩:=S.fd;exact F.l
theorem B9 (hv:∀y∈F.Group,vld y=true) (hb:Bts F.Raw) (hl:F.Raw.length<=1000000) (hg:F.Group.length<1000000) (b3:lay F.P (F.Group++(if (bC [] F.Raw).2= [] then [] else [65533]))=some q'):dQ F=some ⟨q',[],[],0⟩:=by
 unfold lay at b3;unfold dQ;rw [zf hb hl];simp only [bsm];have hgv:∀x∈F.Group++(if (bC [] F.Raw).2= [] then [] else [65533]),vld x=true:=fun x hx=>by
  rcases List.mem_append.1 hx with hx|hx
  ·exact hv x hx
  ·split at hx
   ·simp at hx
   ·rw [List.mem_singleton.1 hx]; rfl
 by_cases hh:(bC [] F.Raw).2= []
 ·rw [af (by rw [hh]; simp)];rw [ae hh,eM] at b3;simp only [bsm];have:=rU (F:=⟨⟨F.P.L,⟨F.P.At.Row,F.P.At.Col,F.P.At.Pending⟩,F.P.Auto⟩,F.Group,[],0⟩) hv (by simp only; omega) b3;rw [this];rfl
 ·have hpos:0<(bC [] F.Raw).2.length:=by
   cases hc:(bC [] F.Raw).2 with
   | nil=>exact absurd hc hh
   | cons _ _=>simp
  rw [ae (by simpa using hpos),Dr (by omega)];rw [af hh] at b3 hgv;simp only [bsm];have:=rU (F:=⟨⟨F.P.L,⟨F.P.At.Row,F.P.At.Col,F.P.At.Pending⟩,F.P.Auto⟩,F.Group++ [gi 65533],[],0⟩) hgv (by simp; omega) b3;rw [this];rfl
theorem Dz (T:Tm F m) (hv:∀y∈m.G,vld y=true) (hq:lay m.P m.G=some q){o:aM}(hb:Bts o.Bytes) (hl:F.Raw.length+o.Bytes.length<=1000000) (hg:F.Group.length<1000000) (hm:mdo m o=some m'):
  ∃F',fW F o=some (F',w40 o)/\Tm F' m'/\F'.Raw.length<=F.Raw.length+o.Bytes.length/\F'.Group.length<=F.Group.length+2*o.Bytes.length:=by
 obtain ⟨P,G,h⟩:=m;obtain ⟨p,g,hh,hn,hbt⟩:=T;simp only at p g hh hv hq hm;subst p g hh;unfold mdo at hm;unfold fW w40;simp only [aT] at hm|-;by_cases k0:o.Kind=0
 ·rw [ae k0] at hm;cases hm;rw [ae k0,ae (.inl k0),Cg hn hbt hb hl (by omega)];have hap:=oU [] F.Raw o.Bytes;have hlen:=xv (bC [] F.Raw).2 o.Bytes;refine ⟨_,rfl,⟨rfl,rfl,?_,rfl,fun y hy=>?_⟩,by simp,by simp only [aA]; omega⟩
  ·simp only [hap]
  ·rcases List.mem_append.1 hy with hy|hy
   ·exact hbt y hy
   ·exact hb y hy
 rw [af k0] at hm|-;by_cases k1:o.Kind=1
 ·rw [ae k1] at hm;rw [ae k1,ae (.inr (.inl k1))];simp only [lj] at hm;obtain ⟨q1,h1,rfl⟩:=hm;rw [B9 hv hbt (by omega) hg h1];exact ⟨_,rfl,⟨rfl,rfl,rfl,rfl,fun y hy=>by simp at hy⟩,by simp,by simp⟩
 rw [af k1] at hm|-;by_cases k13:o.Kind=13
 ·rw [ae k13] at hm;rw [ae k13,ae (.inr (.inr k13)),rU hv (by omega) hq];rw [hq] at hm;simp only [bsm,lj] at hm|-;obtain ⟨q1,h1,rfl⟩:=hm;rw [h1];exact ⟨_,rfl,⟨rfl,rfl,rfl,hn,hbt⟩,by simp,by simp⟩
 rw [af k13] at hm;rw [af k13,af (by omega),uZ];simp only [bsm];by_cases hw:w38 o=0
 ·rw [ae hw] at hm|-;rw [rU hv (by omega) hq];rw [hq] at hm;simp only [bsm,lj] at hm|-;obtain ⟨q1,h1,rfl⟩:=hm;rw [h1];exact ⟨_,rfl,⟨rfl,rfl,rfl,hn,hbt⟩,by simp,by simp⟩
 ·rw [af hw] at hm|-;cases hm;exact ⟨_,rfl,⟨rfl,rfl,rfl,hn,hbt⟩,by simp,by simp⟩
theorem yN (S:Sd C s x f k m q):eZ (vw q) (vw q)=some true:=by
 obtain ⟨W2,w1,w2,l1,l2,hok,hwd,hhd⟩:=S.ok;unfold eZ;have e1:(vw q).Lines=q.L:=rfl;rw [e1,Ao l2 w2 hok];simp [bT,bsm]
theorem vZ (S:Sd C s x f k m q):eY q=some (vw q):=by
 obtain ⟨g,W,H,ks,op,F⟩:=S.fd;unfold eY vw;have hl:=F.v.len;have h1:=F.v.g.h1;rw [qW F.v,gdl (show 0<q.L.length by omega),(F.v.ok _ (aF (show 0<q.L.length by omega))).2];rfl
def mr (m:Mo) (l:List aM):Option Mo:=l.foldl (fun a o=>a.bind fun m=>mdo m o) (some m)
theorem vI (m:Mo){l:List aM}{i:Nat}(h:i<l.length):mr m (l.take (i+1))=(mr m (l.take i)).bind fun m=>mdo m l[i]:=by
 rw [ax h];unfold mr;rw [lU];rfl
def Hit (m0:Mo) (l:List aM) (row:Int) (i:Nat):Prop:=∃m q,mr m0 (l.take i)=some m/\lay m.P m.G=some q/\q.At.Row=row
theorem Fy {m0:Mo}{l:List aM}{row:Int}{i:Nat}(h:mr m0 (l.take i)=some m) (hq:lay m.P m.G=some q):Hit m0 l row i↔q.At.Row=row:=by
 constructor
 ·rintro ⟨m1,q1,a,b,c⟩;rw [h] at a;cases a;rw [hq] at b;cases b;exact c
 ·exact fun e=>⟨m,q,h,hq,e⟩
theorem Ax (w h:Int):gN w h=some ⟨⟨bls (sd w) (sd h),⟨0,0,false⟩,true⟩,[],[],0⟩:=by
 obtain ⟨w1,w2⟩:=tF w;obtain ⟨h1,h2⟩:=tF h;unfold gN;rw [fq,dF,fq,dF,show max (1:Int) (min w 1024)=((sd w:Nat):Int) by unfold sd; omega,show max (1:Int) (min h 1024)=((sd h:Nat):Int) by unfold sd; omega,Cd w2 h2];rfl
abbrev mo0 (p:aZ):Mo:=⟨⟨bls (sd p.W) (sd p.H),⟨0,0,false⟩,true⟩,[],[]⟩
theorem Ih (p:aZ) (hb:Obs p.Ops):∀i,i<=p.Ops.length->∃(C s:Sto) (x f k:Nat) (m:Mo) (q:aa),Sd C s x f k m q/\mr (mo0 p) (p.Ops.take i)=some m
 | 0,_=>by
  obtain ⟨s',_,S⟩:=pK ⟨[],[],[],[],[],[]⟩ p.W p.H;exact ⟨_,_,_,_,_,_,_,S,rfl⟩
 | i+1,hi=>by
  obtain ⟨C,s,x,f,k,m,q,S,h⟩:=Ih p hb i (by omega);obtain ⟨hb1,hb2⟩:=hb _ (aF (show i<p.Ops.length by omega));obtain ⟨s',m',q',a1,a2,S'⟩:=rR S _ hb1 hb2;exact ⟨C,s',x,f,k,m',q',S',by rw [vI _ (show i<p.Ops.length by omega),h]; exact a2⟩
end Go.Proofs.YtclmdpamofdoiaaGreatDoor
namespace Go.Proofs.YtclmdpamofdoiaaGreatDoor
open Go Go.Lt
set_option maxRecDepth 100000 in
theorem BP:(dK ⟨[],[],[],[],[],[]⟩).map (fun q=>q.2)=some true:=by kernel_rfl
set_option maxRecDepth 100000 in
theorem BO:((dK ⟨[],[],[],[],[],[]⟩).bind fun q=>dK q.1).map (fun q=>q.2)=some true:=by kernel_rfl
theorem yq {p:aZ}{row:Int}{F:aq}{m:Mo}{i:Nat}(hb:Obs p.Ops) (hi:i<=p.Ops.length) (T:Tm F m) (hm:mr (mo0 p) (p.Ops.take i)=some m) (hg:F.Group.length<=1000000):∃q,cO F=some q/\(Hit (mo0 p) p.Ops row i↔q.At.Row=row)/\(∀y∈m.G,vld y=true)/\lay m.P m.G=some q:=by
 obtain ⟨C,s,x,f,k,m1,q,S,h1⟩:=Ih p hb i hi;rw [hm] at h1;cases h1;have hv:=S.gv;have hq:=S.lay1;have hv':=hv;have hq':=hq;rw [T.g] at hv';rw [T.p,T.g] at hq';exact ⟨q,Bj hv' hg hq',Fy hm hq,hv,hq⟩
end Go.Proofs.YtclmdpamofdoiaaGreatDoor
namespace Go.Proofs.YtclmdpamofdoiaaGreatDoor
open Go Go.Lt
variable {s C:Sto}{x f k:Nat}{q q':aa}{F:aq}{m m':Mo}
def la (l:List aM):Nat->List Int
  | 0=>[]
  | n+1=>la l n++(match l[n]? with|some o=>if w40 o=0 then [] else [(n:Int)]|none=>[])
theorem vM {l:List aM}{i:Nat}(hi:i<l.length) (h:w40 l[i]=0):la l (i+1)=la l i:=by
  show la l i++_=_;rw [ag hi];simp [h]
theorem ui {l:List aM}{i:Nat}(hi:i<l.length) (h:w40 l[i]≠0):la l (i+1)=la l i++ [(i:Int)]:=by
  show la l i++_=_;rw [ag hi];simp [h]
theorem vN (l:List aM):∀n,(la l n).length<=n
  | 0=>az 0
  | n+1=>by
    have h1:=vN l n;show (la l n++_).length<=_;rw [aA];have h2:(match l[n]? with|some o=>if w40 o=0 then [] else [(n:Int)]|none=>([]:List Int)).length<=1:=by
      split
      · split <;> simp
      · simp
    omega
theorem BB (o:aM):(e40 o).isNil=(w40 o==0):=by
  unfold e40 w40;split
  · rfl
  · exact BC o
theorem Gn (o:aM):0<=w40 o:=by
  unfold w40;split
  · omega
  · rcases Ah o with h|h|h <;> omega
theorem AU (i:Int){o:aM}(h:w40 o≠0):pR (.fault i (e40 o))=some (w38 o):=by
  unfold w40 at h;unfold e40;by_cases hk:o.Kind=0\/o.Kind=1\/o.Kind=13
  · rw [ae hk] at h
    exact absurd rfl h
  rw [af hk] at h;rw [af hk];unfold e38;rcases Ah o with h2|h2|h2
  · rw [h2]; rfl
  · rw [h2]; rfl
  · exact absurd h2 h
def Fu (l:List aM) (n:Nat) (e:Er):Prop:=(la l n= []/\e= .nil)\/∃(j:Nat) (o:aM) (t:List Int),la l n=(j:Int)::t/\l[j]? = some o/\w40 o≠0/\e= .fault (j:Int) (e40 o)
theorem An (S:Sd C s x f k m q) (l:List aM) (hl:l.length<=9223372036854775807) (hb:Obs l):
    ∃s' e m' q',fE s (some x) l=some (s',e)/\mr m l=some m'/\Sd C s' x f k m' q'/\Fu l l.length e:=by
  suffices h:∃r,fE s (some x) l=some r/\(∃m' q',mr m l=some m'/\Sd C r.1 x f k m' q'/\Fu l l.length r.2) by
    obtain ⟨r,h1,m',q',h2,h3,h4⟩:=h;exact ⟨r.1,r.2,m',q',h1,h2,h3,h4⟩
  unfold fE;refine nM (n:=l.length) (fun i (a:Er×Int×Sto)=>a.2.1=(i:Int)/\∃m' q',mr m (l.take i)=some m'/\Sd C a.2.2 x f k m' q'/\Fu l i a.1)
    (fun (u:Er×Sto)=>∃m' q',mr m l=some m'/\Sd C u.2 x f k m' q'/\Fu l l.length u.1) (fun i a hi hI=>?_) (fun a hI=>?_) ⟨rfl,m,q,rfl,S,.inl ⟨rfl,rfl⟩⟩ (by omega) (fun u hu=>⟨_,rfl,hu⟩)
  · obtain ⟨e,i',st⟩:=a
    obtain ⟨e1,m1,q1,hm,S1,hF⟩:=hI;simp only at e1 S1 hF;subst e1;simp only;rw [ae (dlt hi),dL hi hl];obtain ⟨hb1,hb2⟩:=hb _ (aF hi);obtain ⟨s',m2,q2,a1,a2,a3⟩:=rR S1 l[i] hb1 hb2;simp only [bp hi,bsm];rw [a1];simp only [bsm,bi,BB];have hm2:mr m (l.take (i+1))=some m2:=by rw [vI m hi,hm]; exact a2
    rcases hF with ⟨hn,rfl⟩|⟨j,o,t,h1,h2,h3,rfl⟩
    · by_cases hw:w40 l[i]=0
      · rw [af (by simp [hw])]
        exact .inl ⟨_,rfl,rfl,m2,q2,hm2,a3,.inl ⟨by rw [vM hi hw,hn],rfl⟩⟩
      · rw [ae (by simp [hw,Er.isNil])]
        exact .inl ⟨_,rfl,rfl,m2,q2,hm2,a3,.inr ⟨i,l[i],[],by rw [ui hi hw,hn]; rfl,ag hi,hw,rfl⟩⟩
    · rw [af (by simp [Er.isNil])]
      refine .inl ⟨_,rfl,rfl,m2,q2,hm2,a3,?_⟩;by_cases hw:w40 l[i]=0
      · exact .inr ⟨j,o,t,by rw [vM hi hw,h1],h2,h3,rfl⟩
      · exact .inr ⟨j,o,t++ [(i:Int)],by rw [ui hi hw,h1]; rfl,h2,h3,rfl⟩
  · obtain ⟨e,i',st⟩:=a
    obtain ⟨e1,m1,q1,hm,S1,hF⟩:=hI;simp only at e1 S1 hF;subst e1;refine ⟨_,by simp only; rw [af (by simp)],m1,q1,?_,S1,hF⟩;rw [<-hm,mB]
theorem Av (s:Sto) (p:aZ) (hl:p.Ops.length<=1000000):∃st,iw s p=some (st,la p.Ops p.Ops.length):=by
  suffices h:∃r,iw s p=some r/\r.2=la p.Ops p.Ops.length by
    obtain ⟨r,h1,h2⟩:=h;exact ⟨r.1,by rw [h1,<-h2]⟩
  obtain ⟨s3,h3,S3⟩:=pK s 1 1;unfold iw;rw [h3,bsm];generalize s.screen_Screen.length=x at *;generalize s.feed_Feeder.length=f at *;generalize s.place_Pen.length=k at *;refine nM (n:=p.Ops.length) (fun i (a:List Int×Int×Sto)=>∃st m q,a=(la p.Ops i,(i:Int),st)/\Sd s3 st x f k m q) (fun (u:List Int×Sto)=>u.1=la p.Ops p.Ops.length) (fun i a hi hI=>?_) (fun a hI=>?_) ⟨s3,_,_,rfl,S3⟩ (by omega) (fun u hu=>⟨_,rfl,hu⟩)
  · obtain ⟨st,m,q,rfl,S⟩:=hI
    left
    simp only;rw [ae (dlt hi),bp hi,bsm];obtain ⟨s',m',q',a1,_,S'⟩:=rR S (⟨p.Ops[i].Kind,p.Ops[i].A,0,[]⟩:aM) (fun y hy=>by cases hy) (cE _);rw [a1,bsm];have hw:w40 (⟨p.Ops[i].Kind,p.Ops[i].A,0,[]⟩:aM)=w40 p.Ops[i]:=rfl;simp only [BB,hw];by_cases h:w40 p.Ops[i]=0
    · rw [af (by simp [h]),bsm,dL hi (by omega)]
      exact ⟨_,rfl,s',m',q',by rw [vM hi h],S'⟩
    · rw [ae (by simp [h]),cU (by have:=vN p.Ops i; simp only [aK,aP]; omega),bsm,bsm,dL hi (by omega)]
      exact ⟨_,rfl,s',m',q',by rw [ui hi h],S'⟩
  · obtain ⟨st,m,q,rfl,S⟩:=hI
    exact ⟨_,by simp only; rw [af (by simp)],rfl⟩
structure Cu (p:aZ) (n:Nat) (F:aq) (m:Mo):Prop where
  t:Tm F m
  m:mr (mo0 p) (p.Ops.take (n-1))=some m
  r:F.Raw.length<=pD (p.Ops.take (n-1))
  g:F.Group.length<=2*pD (p.Ops.take (n-1))
theorem CZ {p:aZ}{most:Int}(hb:Obs p.Ops) (hL:p.Ops.length<=1000000) (hS:pD p.Ops<=600){n:Nat}(hn:n<=p.Ops.length) (K:Cu p n F m) (S:Sd C s x f k m' q) (hm':mr (mo0 p) (p.Ops.take n)=some m'):
    (most=n/\ot p most ⟨F,n,la p.Ops (n-1),none⟩ n (vw q)=some (⟨F,n,la p.Ops (n-1),some false⟩,false))\/∃F',Cu p (n+1) F' m'/\ot p most ⟨F,n,la p.Ops (n-1),none⟩ n (vw q)=some (⟨F',((n+1:Nat):Int),la p.Ops n,none⟩,true):=by
  have hsum:∀i,pD (p.Ops.take i)<=600:=fun i=>dt (yR (fun o:aM=>o.Bytes.length) p.Ops i) hS;by_cases h:most=n
  · left
    refine ⟨h,?_⟩;show nN _ _ _ _ _ _ _=_;unfold nN;rw [ae (by rw [aT]; exact h.symm)]
  · right
    obtain ⟨F',hstep,T',hr',hg'⟩:∃F',(if (decide ((n:Int)>0))=true then
 (idx p.Ops (w64 ((n:Int)-1))).bind fun m=>
 (fW F m).bind fun a=>
 if (decide (a.2>0))=true then
 (app (la p.Ops (n-1)) ([(w64 ((n:Int)-1))]:List Int)).bind fun n=>
 some (n,a.1)
 else
 some (la p.Ops (n-1),a.1)
 else
 some (la p.Ops (n-1),F))=some (la p.Ops n,F')/\Tm F' m'/\F'.Raw.length<=pD (p.Ops.take n)/\F'.Group.length<=2*pD (p.Ops.take n):=by
      obtain ⟨T,hm,hr1,hg1⟩:=K
      cases n with
      | zero=>
        rw [af (by simp)];obtain rfl:m=m':=by
          rw [hm] at hm';exact bj hm'
        exact ⟨F,rfl,T,hr1,hg1⟩
      | succ i=>
        have hi:i<p.Ops.length:=by omega
        have e2:pD (p.Ops.take (i+1))=pD (p.Ops.take i)+p.Ops[i].Bytes.length:=sG (fun o:aM=>o.Bytes.length) hi;have e3:=hsum (i+1);have hm0:mr (mo0 p) (p.Ops.take i)=some m:=hm;have hr0:F.Raw.length<=pD (p.Ops.take i):=hr1;have hg0:F.Group.length<=2*pD (p.Ops.take i):=hg1;obtain ⟨q,_,_,hv,hq⟩:=yq (row:=0) hb (show i<=p.Ops.length by omega) T hm0 (by omega);rw [vI _ hi,hm0] at hm';have h2m':mdo m p.Ops[i]=some m':=hm';obtain ⟨F',b1,T',b3,b4⟩:=Dz T hv hq (hb _ (aF hi)).1 (by omega) (by omega) h2m';rw [ae (by rw [an]; omega),show w64 (((i+1:Nat):Int)-1)=(i:Int) by rw [aG (by omega)]; omega,bp hi,bsm,b1,bsm];have hp:=Gn p.Ops[i];show ∃F',(if decide (w40 p.Ops[i]>0)=true then (app (la p.Ops i) [(i:Int)]).bind _ else some (la p.Ops i,_))=_/\_;by_cases hw:w40 p.Ops[i]=0
        · rw [af (by rw [hw]; simp),vM hi hw]
          exact ⟨F',rfl,T',by omega,by omega⟩
        · rw [ae (by rw [an]; omega),cU (by have:=vN p.Ops i; simp only [aK,aP]; omega),bsm,ui hi hw]
          exact ⟨F',rfl,T',by omega,by omega⟩
    refine ⟨F',⟨T',hm',hr',hg'⟩,?_⟩;show nN _ _ _ _ _ _ _=_;unfold nN;rw [af (by rw [aT]; exact fun e=>h e.symm)];simp only [Jk,ez,bsm];rw [af (by rw [an]; omega),hstep,bsm];have e3:=hsum n;obtain ⟨q2,hq,_,_,hl2⟩:=yq (row:=0) hb hn T' hm' (by omega);obtain rfl:q2=q:=bj (hl2.symm.trans S.lay1);simp only;rw [hq,bsm,vZ S,bsm,yN S,bsm,af (by simp),show w64 ((n:Int)+1)=((n+1:Nat):Int) by rw [aG (by omega)]; omega]
def Rs (p:aZ) (most:Int) (r:PS):Prop:=(r.st=some false/\r.n=most)\/(r.st=none/\r.n=((p.Ops.length+1:Nat):Int)/\r.bad=la p.Ops p.Ops.length/\∃m,Cu p (p.Ops.length+1) r.F m)
theorem Db (s:Sto) (p:aZ) (most:Int) (hb:Obs p.Ops) (hL:p.Ops.length<=1000000) (hS:pD p.Ops<=600):∃u,kC (ot p most) s p ⟨⟨⟨bls (sd p.W) (sd p.H),⟨0,0,false⟩,true⟩,[],[],0⟩,0,[],none⟩=some u/\Rs p most u.2:=by
  obtain ⟨s3,h3,S3⟩:=pK s p.W p.H;unfold kC;rw [h3,bsm,qT S3,bsm];generalize s.screen_Screen.length=x at *;generalize s.feed_Feeder.length=f at *;generalize s.place_Pen.length=k at *;have K0:Cu p 0 ⟨⟨bls (sd p.W) (sd p.H),⟨0,0,false⟩,true⟩,[],[],0⟩ (mo0 p):=⟨⟨rfl,rfl,rfl,rfl,fun y hy=>by simp at hy⟩,rfl,by simp,by simp⟩;rcases CZ (most:=most) hb hL hS (cE _) K0 S3 (show mr (mo0 p) (p.Ops.take 0)=some _ from rfl) with ⟨hm,hy⟩|⟨F',K',hy⟩
  · have hy':ot p most ⟨⟨⟨bls (sd p.W) (sd p.H),⟨0,0,false⟩,true⟩,[],[],0⟩,0,[],none⟩ 0 (vw ⟨bls (sd p.W) (sd p.H),⟨0,0,false⟩,true⟩)=_:=hy
    rw [hy',bsm,ae (by simp)];exact ⟨_,rfl,.inl ⟨rfl,hm.symm⟩⟩
  · have hy':ot p most ⟨⟨⟨bls (sd p.W) (sd p.H),⟨0,0,false⟩,true⟩,[],[],0⟩,0,[],none⟩ 0 (vw ⟨bls (sd p.W) (sd p.H),⟨0,0,false⟩,true⟩)=_:=hy
    rw [hy',bsm,af (by simp)];refine nM (n:=p.Ops.length) (fun i (b:Int×Sto×PS)=>∃st m q F,b=((i:Int),st,⟨F,((i+1:Nat):Int),la p.Ops i,none⟩)/\Sd s3 st x f k m q/\mr (mo0 p) (p.Ops.take i)=some m/\Cu p (i+1) F m) (fun u=>∃v:Sto×PS,(u= .inl v\/u= .inr v)/\Rs p most v.2) (fun i a hi hI=>?_) (fun a hI=>?_) ⟨s3,_,_,F',rfl,S3,rfl,K'⟩ (by omega) (fun u hu=>?_)
    · obtain ⟨st,m,q,F,rfl,S,hm,K⟩:=hI
      simp only;rw [ae (dlt hi),bp hi,bsm];obtain ⟨hb1,hb2⟩:=hb _ (aF hi);obtain ⟨s',m',q',a1,a2,S'⟩:=rR S p.Ops[i] hb1 hb2;rw [a1,bsm,qT S',bsm,dL hi (by omega)];have hm':mr (mo0 p) (p.Ops.take (i+1))=some m':=by rw [vI _ hi,hm]; exact a2
      rcases CZ (most:=most) hb hL hS (show i+1<=p.Ops.length by omega) K S' hm' with ⟨hM,hy⟩|⟨F',K',hy⟩
      · right
        have hy':ot p most ⟨F,((i+1:Nat):Int),la p.Ops i,none⟩ ((i+1:Nat):Int) (vw q')=_:=hy;rw [hy',bsm,ae (by simp)];exact ⟨_,rfl,_,.inl rfl,.inl ⟨rfl,hM.symm⟩⟩
      · left
        have hy':ot p most ⟨F,((i+1:Nat):Int),la p.Ops i,none⟩ ((i+1:Nat):Int) (vw q')=_:=hy;rw [hy',bsm,af (by simp)];exact ⟨_,rfl,s',m',q',F',rfl,S',hm',K'⟩
    · obtain ⟨st,m,q,F,rfl,S,hm,K⟩:=hI
      exact ⟨_,by simp only; rw [af (by simp)],(st,_),.inr rfl,.inr ⟨rfl,rfl,rfl,m,K⟩⟩
    · obtain ⟨v,hv,hr⟩:=hu
      rcases hv with rfl|rfl <;> exact ⟨v,rfl,hr⟩
theorem Hv (st:Sto){p:aZ}{most:Int}(hb:Obs p.Ops) (hL:p.Ops.length<=1000000) (hS:pD p.Ops<=600) (K:Cu p (p.Ops.length+1) F m):∃st',ik st p most F ((p.Ops.length+1:Nat):Int) (la p.Ops p.Ops.length)=some (st',true):=by
  unfold ik;by_cases h:((p.Ops.length+1:Nat):Int)=most
  · rw [ae (by rw [aT]; exact h)]
    exact ⟨_,rfl⟩
  · rw [af (by rw [aT]; exact h)]
    obtain ⟨s3,h3,S3⟩:=pK st p.W p.H;obtain ⟨s4,e,m',q,h4,hm,S4,hF⟩:=An S3 p.Ops (by omega) hb;have hFin:kV st p=some (s4,vw q,e):=by
      unfold kV;rw [h3,bsm,h4,bsm,qT S4,bsm]
    obtain ⟨s5,h5⟩:=Av s4 p hL;obtain ⟨T,hm0,hr,hg⟩:=K;simp only [rN,mB] at hm0 hr hg;obtain rfl:m=m':=bj (hm0.symm.trans hm);obtain ⟨q2,hq,_,_,hl2⟩:=yq (row:=0) hb (az _) T (by rw [mB]; exact hm0) (by omega);obtain rfl:q2=q:=bj (hl2.symm.trans S4.lay1);have hw:w64 ((p.Ops.length:Int)+1)=((p.Ops.length+1:Nat):Int):=by rw [aG (by omega)]; omega
    have hnil:e.isNil=(((la p.Ops p.Ops.length).length:Int)==0):=by
      rcases hF with ⟨a,rfl⟩|⟨j,o,t,a,_,_,rfl⟩
      · rw [a]; rfl
      · rw [a,aK,show ((((t.length+1:Nat):Int))==0)=false by rw [dA]; omega]
        rfl
    rw [hFin,bsm];simp only;rw [h5,bsm,hw];simp only [Jk,ez,hq,bsm,vZ S4,yN S4,dk,hnil,oO];rw [af (by simp)];have hlen:=vN p.Ops p.Ops.length;refine Cw (n:=(la p.Ops p.Ops.length).length) (fun i (b:Int)=>b=(i:Int)) (fun u=>u= .inr ()) (fun i a hi hI=>?_) (fun a hI=>?_) rfl (by omega) (fun u hu=>?_)
    · left
      subst hI;rw [ae (dlt hi),bp hi,bsm,bsm,af (by simp),dL hi (by omega)];exact ⟨_,rfl,rfl⟩
    · subst hI
      exact ⟨_,by rw [af (by simp)],rfl⟩
    · subst hu
      simp only;rcases hF with ⟨a,rfl⟩|⟨j,o,t,a,h6,h7,rfl⟩
      · rw [a]
        exact ⟨_,rfl⟩
      · have hj:idx (la p.Ops p.Ops.length) 0=some (j:Int):=by rw [a]; rfl
        have ho:idx p.Ops (j:Int)=some o:=by rw [tQ]; exact h6
        rw [show (((la p.Ops p.Ops.length).length:Int)==0)=false by rw [a,aK,dA]; omega,ez,hj,bsm];have hAt:rh (.fault (j:Int) (e40 o))=some (j:Int):=rfl;rw [hAt,bsm,show ((j:Int)==(j:Int))=true by simp,ip,bsm,ho,bsm,AU _ h7,bsm,uZ,bsm];simp
theorem wd (p:aZ) (most:Int) (hl:p.Ops.length<=9223372036854775807) (hb:Obs p.Ops) (hs:∀o∈p.Ops,o.Bytes.length<=4611686018427387904):∃st,er ⟨[],[],[],[],[],[]⟩ p most=some (st,true):=by
  unfold er;obtain ⟨s1,s2,h1,h2⟩:=GU BP BO;obtain ⟨t,ht,ht2⟩:=CB p.Ops hl hs;have hgr:∃g,fP p=some g/\(g=false->t=false):=by
    unfold fP;rw [ht,bsm]
    cases t with
    | true=>exact ⟨true,rfl,fun h=>by cases h⟩
    | false=>
      rw [ez,bi,bsm,bsm];exact ⟨_,rfl,fun _=>rfl⟩
  obtain ⟨g,hg,hgt⟩:=hgr;rw [h1];simp only [bsm,dk,ez,hg]
  cases g with
  | true=>
    rw [ae rfl,h2];exact ⟨_,rfl⟩
  | false=>
  rw [af (by simp)];obtain ⟨hL,hS⟩:=ht2 (hgt rfl);obtain ⟨⟨st,F',n',b',ss⟩,e1,hr⟩:=Db s1 p most hb (by omega) hS;rw [Ax,bsm,e1,bsm];rcases hr with ⟨r1,r2⟩|⟨r1,r2,r3,m,K⟩
  · simp only at r1 r2
    subst r1 r2;show ∃st',ik st p n' F' n' b'=some (st',true);unfold ik;rw [ae (by simp)];exact ⟨_,rfl⟩
  · simp only at r1 r2 r3 K
    subst r1 r2 r3;exact Hv st hb (by omega) hS K
end Go.Proofs.YtclmdpamofdoiaaGreatDoor
