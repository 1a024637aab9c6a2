/- Parts of the proofs of ScreenRuns: the walk through the code, and plain Lean. No condition. -/
import Derived.Test.YthokmpbbkpjhbaaGreatDoorSrE
import Derived.Test.YthokmpbbkpjhbaaGreatDoorSrB
import Derived.Test.YthokmpbbkpjhbaaGreatDoorSrD
import Derived.Test.YthokmpbbkpjhbaaGreatDoorSrA
import Derived.Test.YthokmpbbkpjhbaaGreatDoorProg
import Derived.Test.YthokmpbbkpjhbaaGreatDoorSrC
import Derived.KernelRfl
set_option linter.unusedVariables false
set_option linter.unusedSimpArgs false
namespace Go.Proofs.YthokmpbbkpjhbaaGreatDoor
open Go Go.Lt
variable {s:Sto} {k:Nat} {l p:List ab} {w:Bool}
theorem iZ {α:Type} {l:List α} {n:Nat} {f:Nat→α} (hl:l.length=n) (h:∀i,i < n→l[i]? = some (f i)):l=(List.range n).map f:=by
 apply bT;intro i;rcases aO i n with hi | hi
 ·rw [h i hi]; simp [hi]
 ·rw [aP (by omega),aP (by simp; exact hi)]
def trc (l:List ab) (c j:Nat):ab:=if kd l c=3∧(j=c∨j+1=c) then bl else l.getD j bl
def tr (l:List ab) (c:Nat):List ab:=(List.range l.length).map (trc l c)
theorem qp (l:List ab) (c:Nat):(tr l c).length=l.length:=by simp [tr]
theorem Ck {c j:Nat} (h:j < l.length):(tr l c)[j]? = some (trc l c j):=by simp [tr,h]
theorem Cj (l:List ab) (c j:Nat):(trc l c j).Kind=if kd l c=3∧(j=c∨j+1=c) then 0 else kd l j:=by
 unfold trc;split
 ·rfl
 ·exact ni l j
theorem AM (c j:Nat):kd (tr l c) j=if kd l c=3∧(j=c∨j+1=c) then 0 else kd l j:=by
 rcases aO j l.length with h | h
 ·rw [←Cj]; simp [kd,Ck h]
 ·rw [mp (by rw [qp]; exact h),mp (l:=l) h]; simp
theorem Fc {c:Nat} (h:kd l c≠3):tr l c=l:=by
 symm
 refine iZ rfl fun i hi=>?_;unfold trc;rw [af (by intro e; exact h e.1),aq,ag hi];rfl
theorem xe (hs:Snd l) (c:Nat):Snd (tr l c):=fun j hj=>by
 have hj':j < l.length:=by rw [qp] at hj; exact hj
 have he:(tr l c)[j]=trc l c j:=by
  have:=Ck (c:=c) hj';rw [ag hj] at this;exact be this
 have h2:=fun (h:kd l j=2)=>hs.two h;have h3:=fun (h:kd l j=3)=>hs.three h;have hc:=fun (h:kd l c=3)=>hs.three h;rw [he,Cj,AM,AM];refine ⟨?_,?_,?_⟩
 ·unfold trc;split
  ·rfl
  ·exact hs.rg hj'
 ·intro e;split at e
  ·cases e
  ·rename_i hn
   have:=h2 e;rw [af]
   ·exact this
   ·rintro ⟨q1,q2⟩;have:=hc q1;rcases q2 with rfl | q2
    ·exact hn ⟨q1,.inr rfl⟩
    ·obtain rfl:c=j+2:=by omega
     rw [show j+2 - 1=j+1 by omega] at this;omega
 ·intro e;split at e
  ·cases e
  ·rename_i hn
   have:=h3 e;refine ⟨this.1,?_⟩;rw [af]
   ·exact this.2
   ·rintro ⟨q1,q2⟩;have:=hc q1;rcases q2 with q2 | q2
    ·rw [←q2] at q1;omega
    ·exact hn ⟨q1,.inl (by omega)⟩
theorem vt (l:List ab) (c:Nat):kd (tr l c) c≠3:=by
 rw [AM];split
 ·decide
 ·rename_i h
  intro e;exact h ⟨e,.inl rfl⟩
theorem xg (hs:Snd l) (hl:l.length≤1024) (c:Nat):jD l c=some (tr l c):=by
 unfold jD;rcases aO c l.length with h | h
 ·have hd:decide ((c:Int) < (l.length:Int))=true:=by simp; exact h
  simp only [hd,gq,bc h,bsm];by_cases h3:kd l c=3
  ·have hb:(l[c].Kind==3)=true:=by rw [←kH h,h3]; rfl
   obtain ⟨h0,_⟩:=hs.three h3;have e1:w64 ((c:Int) - 1)=((c - 1:Nat):Int):=by rw [aF (by omega)]; omega
   rw [hb,ae rfl,e1,bc (by omega:c - 1 < l.length)];simp only [bsm];rw [kN (by omega)];simp only [bsm];rw [bc (by rw [cq]; exact h)];simp only [bsm];rw [kN (by rw [cq]; exact h)];simp only [bsm]
   congr 1
   refine iZ (by simp) fun i hi=>?_;unfold trc;by_cases q1:c=i
   ·subst q1;rw [bq (by rw [cq]; exact h),ae ⟨h3,.inl rfl⟩];rfl
   ·rw [aY q1];by_cases q2:c - 1=i
    ·subst q2;rw [bq (by omega),ae ⟨h3,.inr (by omega)⟩];rfl
    ·rw [aY q2,af (by rintro ⟨_,q⟩; omega),aq,ag hi];rfl
  ·have hb:(l[c].Kind==3)=false:=by rw [←kH h]; simp [h3]
   rw [hb,af (by decide),Fc h3]
 ·have hd:decide ((c:Int) < (l.length:Int))=false:=by simp; exact h
  simp only [hd,gt,bsm];rw [af (by decide),Fc (by rw [mp h]; decide)]
theorem xf (hl:l.length≤1024) (c:Nat):dH l c=some (tr l c):=by
 unfold dH;refine xP (vu (n:=l.length) (trc l c) (t:=tr l c) (fun i hi=>?_) ?_ (by omega)) rfl
 ·simp only [dlt hi,bm,bc hi,bsm,er hi (by omega),br];have hz:bI (decide ((c:Int) < (l.length:Int))) ((idx l c).bind fun x_29=>some (x_29.Kind==3))=some (kd l c==3):=by
   rcases aO c l.length with h | h
   ·have hd:decide ((c:Int) < (l.length:Int))=true:=by simp; exact h
    simp only [hd,gq,bc h,bsm,←kH h]
   ·have hd:decide ((c:Int) < (l.length:Int))=false:=by simp; exact h
    simp only [hd,gt];rw [mp h];rfl
  simp only [hz,bsm,aZ];rw [show (kd l c==3 && ((i:Int)==(c:Int) || ((i+1:Nat):Int)==(c:Int)))=decide (kd l c=3∧(i=c∨i+1=c)) by
   rw [ci];simp only [aw,aD,aV,an];omega]
  have hx:(if decide (kd l c=3∧(i=c∨i+1=c))=true then (some (0,([]:List Int)):Option (Int×(List Int))) else (some (l[i].Kind,l[i].Text):Option (Int×(List Int))))=some ((trc l c i).Kind,(trc l c i).Text):=by
   unfold trc;split
   ·rename_i h
    rw [ae (rK h)];rfl
   ·rename_i h
    rw [af (by simpa using h),aq,ag hi];rfl
  rw [hx];simp only [bsm];rw [cK (by simp; omega)];rfl
 ·simp only [dnl];rfl
def inx (l:List ab) (c n j:Nat):ab:=if j < c then (tr l c).getD j bl else if j < c+n then bl else (tr l c).getD (j - n) bl
def uA (l:List ab) (c n j:Nat):ab:=if j+1=l.length∧(inx l c n j).Kind=2 then bl else inx l c n j
def vB (l:List ab) (c n:Nat):List ab:=(List.range l.length).map (uA l c n)
theorem oB (l:List ab) (c n:Nat):(vB l c n).length=l.length:=by simp [vB]
theorem yM {c n j:Nat} (h:j < l.length):(vB l c n)[j]? = some (uA l c n j):=by simp [vB,h]
theorem vA (l:List ab) (c n j:Nat):(inx l c n j).Kind=if j < c then kd (tr l c) j else if j < c+n then 0 else kd (tr l c) (j - n):=by
 unfold inx;split
 ·exact ni _ _
 ·split
  ·rfl
  ·exact ni _ _
theorem sW (l:List ab) (c n j:Nat) (h:j < l.length):kd (vB l c n) j=if j+1=l.length∧(inx l c n j).Kind=2 then 0 else (inx l c n j).Kind:=by
 rw [show kd (vB l c n) j=(uA l c n j).Kind by simp [kd,yM h]];unfold uA;split <;> rfl
theorem sO (hs:Snd l) (j:Nat):rgt (l.getD j bl)=true:=by
 rcases aO j l.length with h | h
 ·exact hs.rg h
 ·rw [aq,aP h];rfl
theorem EE {A:Prop} [Decidable A] {X:Int} (h:(if A∧X=2 then (0:Int) else X)=2):X=2∧¬A:=by
 by_cases q:A∧X=2
 ·rw [ae q] at h; omega
 ·rw [af q] at h; exact ⟨h,fun a=>q ⟨a,h⟩⟩
theorem BO {A:Prop} [Decidable A] {X:Int} (h:(if A∧X=2 then (0:Int) else X)=3):X=3:=by
 by_cases q:A∧X=2
 ·rw [ae q] at h; omega
 ·rwa [af q] at h
theorem Db {A:Prop} [Decidable A] {X:Int} (h:X≠2):(if A∧X=2 then (0:Int) else X)=X:=af fun q=>h q.2
theorem yL (hs:Snd l) (c n:Nat):Snd (vB l c n):=fun j hj=>by
 have hj':j < l.length:=by rw [oB] at hj; exact hj
 have he:(vB l c n)[j]=uA l c n j:=by
  have:=yM (c:=c) (n:=n) hj';rw [ag hj] at this;exact be this
 have ht:=xe hs c;have hlen:=qp l c;have hat:=vt l c;rw [←kH hj,he];refine ⟨?_,?_,?_⟩
 ·unfold uA;split
  ·rfl
  ·unfold inx;split
   ·exact sO ht j
   ·split
    ·rfl
    ·exact sO ht (j - n)
 ·intro e;rw [sW l c n j hj',vA] at e;obtain ⟨e,hl⟩:=EE e
  ·rw [sW l c n (j+1) (by omega),vA];have key:(if j+1 < c then kd (tr l c) (j+1) else if j+1 < c+n then 0 else kd (tr l c) (j+1 - n))=3:=by
    split at e
    ·have h3:=ht.two e;rw [ae]
     ·exact h3
     ·rcases aO (j+1) c with q | q
      ·exact q
      ·obtain rfl:c=j+1:=by omega
       exact absurd h3 hat
    ·split at e
     ·cases e
     ·have h3:=ht.two e;rw [af (by omega),af (by omega),show j+1 - n=j - n+1 by omega];exact h3
   rw [key];exact Db (by decide)
 ·intro e;rw [sW l c n j hj',vA] at e;have e':=BO e;split at e'
  ·obtain ⟨h0,h2⟩:=ht.three e';refine ⟨h0,?_⟩;rw [sW l c n (j - 1) (by omega),vA,af (by rintro ⟨q,_⟩; omega),ae (by omega)];exact h2
  ·split at e'
   ·cases e'
   ·obtain ⟨h0,h2⟩:=ht.three e';have hne:j - n≠c:=by
     intro q;rw [q] at e';exact hat e'
    refine ⟨by omega,?_⟩;rw [sW l c n (j - 1) (by omega),vA,af (by rintro ⟨q,_⟩; omega),af (by omega),af (by omega),show j - 1 - n=j - n - 1 by omega];exact h2
theorem F7 (hl:l.length≤1024) {c n:Nat} (hc:c < l.length) (h1:1≤n) (hn:c+n≤l.length):jo (tr l c) n c=some (vB l c n):=by
 unfold jo;have htl:=qp l c;rw [uh,show (max 0 (min (n:Int) 1024)).toNat=n by omega];simp only [bsm];have hi:jM (tr l c) c (List.replicate n bl)=some ((tr l c).take c++List.replicate n bl++(tr l c).drop c):=by
  unfold jM;rw [ae (by rw [htl,lm]; unfold far; omega),bU]
 rw [hi];simp only [bsm];have hO:slc ((tr l c).take c++List.replicate n bl++(tr l c).drop c) 0 ((tr l c).length:Int)=some ((List.range l.length).map (inx l c n)):=by
  have:=nU (xs:=(tr l c).take c++List.replicate n bl++(tr l c).drop c) (i:=0) (j:=(tr l c).length) (by omega) (by simp [htl]; omega);rw [show ((0:Nat):Int)=0 by rfl] at this;rw [this]
  congr 1
  refine iZ (by simp [htl]; omega) fun i hi=>?_;rw [jy,aS,ae (by omega),aK];unfold inx;have htk:((tr l c).take c).length=c:=by simp [htl]; omega
  split
  ·rename_i q
   rw [aI (by omega),aS,ae q,aq,ag (by omega:i < (tr l c).length)];rfl
  ·rename_i q
   rw [bh (by omega),htk];split
   ·rw [aI (by simp; omega),nf,ae (by omega)]
   ·rw [bh (by simp; omega),lm,bM,show c+(i - c - n)=i - n by omega,aq,ag (by omega:i - n < (tr l c).length)];rfl
 rw [hO];simp only [bsm];have e1:w64 (((tr l c).length:Int) - 1)=((l.length - 1:Nat):Int):=by rw [aF (by omega),htl]; omega
 rw [e1,bc (by simp; omega)];simp only [bsm,dR,xY];by_cases hk:(inx l c n (l.length - 1)).Kind=2
 ·rw [ae (by rw [hk]; rfl),kN (by simp; omega)];simp only [bsm]
  congr 1
  refine iZ (by simp) fun i hi=>?_;unfold uA;by_cases q:l.length - 1=i
  ·subst q;rw [bq (by simp; omega),ae ⟨by omega,hk⟩];rfl
  ·rw [aY q,af (by rintro ⟨q,_⟩; omega)];simp [hi]
 ·rw [af (by simp; exact hk)];simp only [bsm]
  congr 1
  refine iZ (by simp) fun i hi=>?_;unfold uA;by_cases q:l.length - 1=i
  ·subst q;rw [af (by rintro ⟨_,q⟩; exact hk q)];simp [hi]
  ·rw [af (by rintro ⟨q,_⟩; omega)];simp [hi]
def tt (l:List ab) (c n:Nat):List ab:=tr (tr l c) (c+n)
theorem zz (l:List ab) (c n:Nat):(tt l c n).length=l.length:=by simp [tt,qp]
def dlx (l:List ab) (c n j:Nat):ab:=if j < c then (tt l c n).getD j bl else if j+n < l.length then (tt l c n).getD (j+n) bl else bl
def vF (l:List ab) (c n:Nat):List ab:=(List.range l.length).map (dlx l c n)
theorem oM (l:List ab) (c n:Nat):(vF l c n).length=l.length:=by simp [vF]
theorem yZ {c n j:Nat} (h:j < l.length):(vF l c n)[j]? = some (dlx l c n j):=by simp [vF,h]
theorem rb (l:List ab) (c n j:Nat) (h:j < l.length):kd (vF l c n) j=if j < c then kd (tt l c n) j else if j+n < l.length then kd (tt l c n) (j+n) else 0:=by
 rw [show kd (vF l c n) j=(dlx l c n j).Kind by simp [kd,yZ h]];unfold dlx;split
 ·exact ni _ _
 ·split
  ·exact ni _ _
  ·rfl
theorem yY (hs:Snd l) (c n:Nat):Snd (vF l c n):=fun j hj=>by
 have hj':j < l.length:=by rw [oM] at hj; exact hj
 have he:(vF l c n)[j]=dlx l c n j:=by
  have:=yZ (c:=c) (n:=n) hj';rw [ag hj] at this;exact be this
 have ht:Snd (tt l c n):=xe (xe hs c) (c+n);have hlen:=zz l c n;have hat1:kd (tt l c n) c≠3:=by
  unfold tt;rw [AM];split
  ·decide
  ·exact vt l c
 have hat2:kd (tt l c n) (c+n)≠3:=vt _ _;rw [←kH hj,he];refine ⟨?_,?_,?_⟩
 ·unfold dlx;split
  ·exact sO ht j
  ·split
   ·exact sO ht _
   ·rfl
 ·intro e;rw [rb l c n j hj'] at e;split at e
  ·have h3:=ht.two e;have hlt:=un (l:=tt l c n) (j:=j+1) (by omega);rw [rb l c n (j+1) (by omega),ae]
   ·exact h3
   ·rcases aO (j+1) c with q | q
    ·exact q
    ·obtain rfl:c=j+1:=by omega
     exact absurd h3 hat1
  ·split at e
   ·have h3:=ht.two e;have hlt:=un (l:=tt l c n) (j:=j+n+1) (by omega);rw [rb l c n (j+1) (by omega),af (by omega),ae (by omega),show j+1+n=j+n+1 by omega];exact h3
   ·omega
 ·intro e;rw [rb l c n j hj'] at e;split at e
  ·obtain ⟨h0,h2⟩:=ht.three e;refine ⟨h0,?_⟩;rw [rb l c n (j - 1) (by omega),ae (by omega)];exact h2
  ·split at e
   ·obtain ⟨h0,h2⟩:=ht.three e;have hne:j≠c:=by
     intro q;rw [q] at e;exact hat2 e
    refine ⟨by omega,?_⟩;rw [rb l c n (j - 1) (by omega),af (by omega),ae (by omega),show j - 1+n=j+n - 1 by omega];exact h2
   ·omega
theorem Gj (hs:Snd l) (hl:l.length≤1024) {c n:Nat} (hc:c < l.length) (h1:1≤n) (hn:c+n≤l.length):jp (tr l c) n c=some (vF l c n):=by
 unfold jp;have htl:=zz l c n;have e1:w64 ((c:Int)+(n:Int))=((c+n:Nat):Int):=by rw [aF (by omega)]; simp
 rw [e1,xg (xe hs c) (by rw [qp]; exact hl)];simp only [bsm];rw [show tr (tr l c) (c+n)=tt l c n by rfl];have hd:jN (tt l c n) c ((c+n:Nat):Int)=some ((tt l c n).take c++(tt l c n).drop (c+n)):=by
  unfold jN;rw [ae (by rw [htl]; omega),bU,bU]
 rw [hd,uh,show (max 0 (min (n:Int) 1024)).toNat=n by omega];simp only [bsm];rw [cK (by simp [htl]; omega)];simp only [bsm]
 congr 1
 refine iZ (by simp [htl]; omega) fun i hi=>?_;unfold dlx;have htk:((tt l c n).take c).length=c:=by simp [htl]; omega
 rw [aK];split
 ·rename_i q
  rw [aI (by omega),aS,ae q,aq,ag (by omega:i < (tt l c n).length)];rfl
 ·rename_i q
  rw [bh (by omega),htk];split
  ·rw [aI (by simp [htl]; omega),bM,show c+n+(i - c)=i+n by omega,aq,ag (by omega:i+n < (tt l c n).length)];rfl
  ·rw [bh (by simp [htl]; omega),nf,ae (by simp [htl]; omega)]
theorem yz (h:p.length=l.length):pl l 0 p=p:=by
 symm
 refine iZ h fun i hi=>?_;unfold pc;rw [ae ⟨cG _,by omega⟩,nH,aq,ag (by omega)];rfl
theorem yy (h1:1≤l.length):pw l w 0 l.length=false:=by
 unfold pw tch;rw [show decide (0 < l.length)=true by simp; omega,show decide (0≤l.length - 1)=true by simp,show decide (l.length - 1 < 0+l.length)=true by simp; omega];simp
def mvs (col n:Int) (m:Nat):Bool:=decide (0≤col) && decide (col < (m:Int)) && decide (1≤n)
def ish (l:List ab) (w:Bool) (col n:Int):bf:=if mvs col n l.length=true then ⟨vB l col.toNat (min n ((l.length:Int) - col)).toNat,false⟩ else ⟨l,w⟩
def dsh (l:List ab) (w:Bool) (col n:Int):bf:=if mvs col n l.length=true then ⟨vF l col.toNat (min n ((l.length:Int) - col)).toNat,false⟩ else ⟨l,w⟩
theorem EF (hs:Snd l) (col n:Int):Snd (ish l w col n).cells:=by
 unfold ish;split
 ·exact yL hs _ _
 ·exact hs
theorem ES (hs:Snd l) (col n:Int):Snd (dsh l w col n).cells:=by
 unfold dsh;split
 ·exact yY hs _ _
 ·exact hs
theorem EG (col n:Int):(ish l w col n).cells.length=l.length:=by
 unfold ish;split
 ·exact oB _ _ _
 ·rfl
theorem ET (col n:Int):(dsh l w col n).cells.length=l.length:=by
 unfold dsh;split
 ·exact oM _ _ _
 ·rfl
theorem uN {col n:Int} {m:Nat}:(decide (col < 0) || decide (col≥(m:Int)) || decide (n < 1))= !mvs col n m:=by
 rw [ci];simp only [mvs,aD,dv,GO,an,kp];omega
theorem xw {col n:Int} {m:Nat} (h:mvs col n m=true):∃c e:Nat,col=(c:Int)∧min n ((m:Int) - col)=(e:Int)∧c < m∧1≤e∧c+e≤m:=by
 simp only [mvs,aw,an] at h;exact ⟨col.toNat,(min n ((m:Int) - col)).toNat,by omega,by omega,by omega,by omega,by omega⟩
theorem Bg (h:s.row_Row[k]? = some ⟨l,w⟩) (hs:Snd l) (hl:l.length≤1024) (col n:Int):ke s (some k) col n=some (s.sr k (ish l w col n)):=by
 unfold ke ei;simp only [iS h,bsm,br,uN];unfold ish;by_cases hm:mvs col n l.length=true
 ·obtain ⟨c,e,rfl,he,h1,h2,h3⟩:=xw hm;rw [af (by rw [hm]; decide),ae hm,qZ h (by omega) hs.sht];simp only [bsm,xg hs hl];have e1:aB n (w64 ((l.length:Int) - (c:Int)))=(e:Int):=by rw [aF (by omega),dq]; exact he
  rw [e1,F7 hl h1 h2 h3,he];simp only [bsm,bU];have:=ou h hs hl (yL hs c e) (a:=0) (by rw [oB]; omega) (by rw [oB]; omega);rw [show ((0:Nat):Int)=0 by rfl] at this;rw [this,yz (oB l c e),oB,yy (by omega)];rfl
 ·rw [ae (by simpa using hm),af hm,yj h];rfl
theorem Bh (h:s.row_Row[k]? = some ⟨l,w⟩) (hs:Snd l) (hl:l.length≤1024) (col n:Int):kf s (some k) col n=some (s.sr k (dsh l w col n)):=by
 unfold kf ej;simp only [iS h,bsm,br,uN];unfold dsh;by_cases hm:mvs col n l.length=true
 ·obtain ⟨c,e,rfl,he,h1,h2,h3⟩:=xw hm;rw [af (by rw [hm]; decide),ae hm,qZ h (by omega) hs.sht];simp only [bsm,xg hs hl];have e1:aB n (w64 ((l.length:Int) - (c:Int)))=(e:Int):=by rw [aF (by omega),dq]; exact he
  rw [e1,Gj hs hl h1 h2 h3,he];simp only [bsm,bU];have:=ou h hs hl (yY hs c e) (a:=0) (by rw [oM]; omega) (by rw [oM]; omega);rw [show ((0:Nat):Int)=0 by rfl] at this;rw [this,yz (oM l c e),oM,yy (by omega)];rfl
 ·rw [ae (by simpa using hm),af hm,yj h];rfl
theorem Ef (hl:l.length≤1024) (col n:Int) (w:Bool):fa l col n=some ((ish l w col n).cells,mvs col n l.length):=by
 unfold fa;simp only [bsm,br,uN];unfold ish;by_cases hm:mvs col n l.length=true
 ·rw [hm];obtain ⟨c,e,rfl,he,h1,h2,h3⟩:=xw hm;have e1:aB n (w64 ((l.length:Int) - (c:Int)))=(e:Int):=by rw [aF (by omega),dq]; exact he
  rw [af (by decide),ae rfl,xf hl,e1,he];simp only [bsm,bU];refine xP (vu (n:=l.length) (uA l c e) (t:=vB l c e) (fun i hi=>?_) ?_ (by omega)) rfl
  ·have e2:w64 ((c:Int)+(e:Int))=((c+e:Nat):Int):=by rw [aF (by omega)]; simp
   simp only [dlt hi,bm,er hi (by omega),e2,aZ,bsm];have htl:=qp l c;have hx:((if decide ((i:Int) < (c:Int))=true then (idx (tr l c) (i:Int)).bind fun x=>(some (x.Kind,x.Text):Option (Int×(List Int))) else (some (0,([]:List Int)):Option (Int×(List Int)))).bind fun z=>
     if decide ((i:Int)≥((c+e:Nat):Int))=true then (idx (tr l c) (w64 ((i:Int) - (e:Int)))).bind fun x=>(some (x.Kind,x.Text):Option (Int×(List Int))) else (some (z.1,z.2):Option (Int×(List Int))))=some ((inx l c e i).Kind,(inx l c e i).Text):=by
    unfold inx;by_cases q1:i < c
    ·rw [ae (by simp; omega),bc (by omega:i < (tr l c).length)];simp only [bsm];rw [af (by simp; omega),ae q1,aq,ag (by omega:i < (tr l c).length)];rfl
    ·rw [af (by simp; omega),af q1];simp only [bsm];by_cases q2:i < c+e
     ·rw [af (by simp; omega),ae q2];rfl
     ·have e3:w64 ((i:Int) - (e:Int))=((i - e:Nat):Int):=by rw [aF (by omega)]; omega
      rw [ae (by simp; omega),af q2,e3,bc (by omega:i - e < (tr l c).length),aq,ag (by omega:i - e < (tr l c).length)];rfl
   refine (Ii _ _ _).symm.trans ?_;rw [hx];simp only [bsm];have hy:(if (((i+1:Nat):Int)==(l.length:Int) && (inx l c e i).Kind==2)=true then (some (0,([]:List Int)):Option (Int×(List Int))) else (some ((inx l c e i).Kind,(inx l c e i).Text):Option (Int×(List Int))))=some ((uA l c e i).Kind,(uA l c e i).Text):=by
    unfold uA;by_cases q:i+1=l.length∧(inx l c e i).Kind=2
    ·rw [ae (by simp only [aw,aV]; omega),ae q];rfl
    ·rw [af (by simp only [aw,aV]; omega),af q]
   rw [hy];simp only [bsm];rw [cK (by simp; omega)];rfl
  ·simp only [dnl];rfl
 ·rw [ae (by simpa using hm),af hm];simp only [tD] at hm;rw [hm]
theorem Eg (hl:l.length≤1024) (col n:Int) (w:Bool):fc l col n=some ((dsh l w col n).cells,mvs col n l.length):=by
 unfold fc;simp only [bsm,br,uN];unfold dsh;by_cases hm:mvs col n l.length=true
 ·rw [hm];obtain ⟨c,e,rfl,he,h1,h2,h3⟩:=xw hm;have e1:aB n (w64 ((l.length:Int) - (c:Int)))=(e:Int):=by rw [aF (by omega),dq]; exact he
  have e2:w64 ((c:Int)+(e:Int))=((c+e:Nat):Int):=by rw [aF (by omega)]; simp
  rw [af (by decide),ae rfl,xf hl,e1,he];simp only [bsm,bU,e2];rw [xf (by rw [qp]; exact hl)];simp only [bsm];rw [show tr (tr l c) (c+e)=tt l c e by rfl];refine xP (vu (n:=l.length) (dlx l c e) (t:=vF l c e) (fun i hi=>?_) ?_ (by omega)) rfl
  ·have htl:=zz l c e;have e3:w64 ((i:Int)+(e:Int))=((i+e:Nat):Int):=by rw [aF (by omega)]; simp
   simp only [dlt hi,bm,er hi (by omega),e3];have hx:(if decide ((i:Int) < (c:Int))=true then (idx (tt l c e) (i:Int)).bind fun x=>(some (x.Kind,x.Text):Option (Int×(List Int))) else if decide (((i+e:Nat):Int) < (l.length:Int))=true then (idx (tt l c e) ((i+e:Nat):Int)).bind fun x=>(some (x.Kind,x.Text):Option (Int×(List Int))) else (some (0,([]:List Int)):Option (Int×(List Int))))=some ((dlx l c e i).Kind,(dlx l c e i).Text):=by
    unfold dlx;by_cases q1:i < c
    ·rw [ae (by simp; omega),bc (by omega:i < (tt l c e).length),ae q1,aq,ag (by omega:i < (tt l c e).length)];rfl
    ·rw [af (by simp; omega),af q1];by_cases q2:i+e < l.length
     ·rw [ae (by simp only [an]; omega),ae q2,bc (by omega:i+e < (tt l c e).length),aq,ag (by omega:i+e < (tt l c e).length)];rfl
     ·rw [af (by simp only [an]; omega),af q2];rfl
   rw [hx];simp only [bsm];rw [cK (by simp; omega)];rfl
  ·simp only [dnl];rfl
 ·rw [ae (by simpa using hm),af hm];simp only [tD] at hm;rw [hm]
end Go.Proofs.YthokmpbbkpjhbaaGreatDoor
namespace Go.Proofs.YthokmpbbkpjhbaaGreatDoor
open Go Go.Lt
variable {s C:Sto} {g k W:Nat} {ks:List Nat} {q:aa}
def w38 (o:aL):Int:=if o.Kind < 2∨12 < o.Kind then 5 else if (o.Kind=3∨o.Kind=4)∧(o.A < 0∨2 < o.A) then 3 else 0
def e38 (o:aL):Er:=if w38 o=5 then .sent 4 else if w38 o=3 then .sent 0 else .nil
theorem zx (o:aL):w38 o=5∨w38 o=3∨w38 o=0:=by
  unfold w38
  repeat' split
  all_goals simp
theorem yw (o:aL):fw o=some (w38 o):=by
  unfold fw w38;simp only [br,bsm,aZ];by_cases h:o.Kind < 2∨12 < o.Kind
  · rw [ae h,ae (by simp only [aD,an]; omega)]
  · rw [af h,af (by simp only [aD,an]; omega)]
    by_cases h2:(o.Kind=3∨o.Kind=4)∧(o.A < 0∨2 < o.A)
    · rw [ae h2,ae (by simp only [aw,aD,an,aV]; omega)]
    · rw [af h2,af (by simp only [aw,aD,an,aV]; omega)]
def BV (n:Int):Bool:=decide (2≤n) && decide (n≤12)
theorem BU (n:Int):mJ n=some (BV n):=by
  unfold mJ BV;simp only [aZ,bsm,zW]
theorem Hr (o:aL):BV o.Kind=(w38 o != 5):=by
  rw [ci];unfold BV w38;simp only [aw,an,mV,wQ]
  repeat' split
  all_goals omega
theorem vD (o:aL):kD o=some (e38 o):=by
  unfold kD;rw [BU];have hd:BV o.Kind= !decide (o.Kind < 2∨12 < o.Kind):=by
    rw [ci];simp only [BV,aw,an,dv,kp];omega
  simp only [bsm,hd,aZ,br,Bool.not_not];unfold e38;by_cases h:o.Kind < 2∨12 < o.Kind
  · have e:w38 o=5:=by unfold w38; rw [ae h]
    rw [ae (by simpa using h),ae e]
  · rw [af (by simpa using h)]
    by_cases h2:(o.Kind=3∨o.Kind=4)∧(o.A < 0∨2 < o.A)
    · have e:w38 o=3:=by unfold w38; rw [af h,ae h2]
      rw [ae (by simp only [aw,aD,an,mV,wQ]; omega),e];rfl
    · have e:w38 o=0:=by unfold w38; rw [af h,af h2]
      rw [af (by simp only [aw,aD,an,mV,wQ]; omega),e];rfl
theorem AY (o:aL):(e38 o).isNil=(w38 o==0):=by
  unfold e38;rcases zx o with h | h | h <;> rw [h] <;> rfl
def lt (r:bf):ak:=⟨r.cells,r.wrap⟩
theorem DR (h:Pv C s k g W q ks) {i:Nat} (hi:i < ks.length) (x a b:Int):cN q i x a b=some ⟨q.L.set i (lt (ac (q.L.getD i dl).Cells (q.L.getD i dl).Wrap x a b)),q.At,q.Auto⟩:=by
  have hl:=h.len;have hlt:i < q.L.length:=by omega
  have hok:=h.ok _ (aG hlt);have w2:=h.g.w2;unfold cN;rw [bc hlt];simp only [bsm];rw [Eh _ _ (by rw [hok.2]; exact w2)];simp only [bsm];rw [sP h hi,gdl hlt];rfl
theorem Pv.ac (h:Pv C s k g W q ks) {i:Nat} (hi:i < ks.length) (x a b:Int):Pv C (s.sr ks[i] (ac (q.L.getD i dl).Cells (q.L.getD i dl).Wrap x a b)) k g W ⟨q.L.set i (lt (Go.Proofs.YthokmpbbkpjhbaaGreatDoor.ac (q.L.getD i dl).Cells (q.L.getD i dl).Wrap x a b)),q.At,q.Auto⟩ ks:=by
  have hl:=h.len;have hlt:i < q.L.length:=by omega
  have hok:=h.ok _ (aG hlt);have e:q.L.getD i dl=q.L[i]:=gdl hlt;rw [e];exact h.row hi (GA hok.1 x a b) (by rw [GB]; exact hok.2)
theorem Pv.rw_ (h:Pv C s k g W q ks) {i:Nat} (hi:i < ks.length):s.row_Row[ks[i]]? = some ⟨(q.L.getD i dl).Cells,(q.L.getD i dl).Wrap⟩∧Snd (q.L.getD i dl).Cells∧(q.L.getD i dl).Cells.length=W:=by
  have hl:=h.len;have hlt:i < q.L.length:=by omega
  have hok:=h.ok _ (aG hlt);obtain ⟨r,h1,h2,h3⟩:=h.g.at hi;have e:q.L[i]=⟨r.cells,r.wrap⟩:=by rw [h.at hi,nk h1]
  rw [gdl hlt,e];exact ⟨h1,h2,h3⟩
def md (mode:Int):Int:=if mode=0 then 2 else if mode=1 then 1 else 3
theorem xa (h:Pv C s k g W q ks) {i:Nat} (hi:i < ks.length) (hr:q.At.Row=(i:Int)) (mode:Int):lA s (some k) mode=some (s.sr ks[i] (ac (q.L.getD i dl).Cells (q.L.getD i dl).Wrap (md mode) q.At.Col 0)):=by
  obtain ⟨r1,r2,r3⟩:=h.rw_ hi;have w2:=h.g.w2;unfold lA md;simp only [bsm,h.p,hr];rw [eY h.g hi];simp only [bsm];by_cases h0:mode=0
  · rw [ae (by simpa using h0),ae h0,yU r1 r2 (by omega) _ 0]
    rfl
  · rw [af (by simpa using h0),af h0]
    by_cases h1:mode=1
    · rw [ae (by simpa using h1),ae h1,Aa r1 r2 (by omega) _ 0]
      rfl
    · rw [af (by simpa using h1),af h1,wZ r1 r2 (by omega) q.At.Col 0]
      rfl
def eS (cond:Nat→Bool) (L:List ak):Nat→List ak
  | 0=>L
  | i+1=>if cond i=true then (eS cond L i).set i (lt (ac ((eS cond L i).getD i dl).Cells ((eS cond L i).getD i dl).Wrap 3 0 0)) else eS cond L i
def cnd (mode:Int) (row:Int) (i:Nat):Bool:=mode==2 || (mode==0 && decide ((i:Int) > row)) || (mode==1 && decide ((i:Int) < row))
theorem yn (h:Pv C s k g W q ks) (mode:Int) {H:Int} (hH:H=(ks.length:Int)):∃s',(cE (σ:=Int×Sto) (τ:=Sto) ((H - 0).toNat+1) (fun s_12=>
 if (decide (s_12.1 < H))=true then
 ((orE (mode==2) ((bI (mode==0) ((s_12.2.place_Pen[k]?).bind fun o_32=>
 some (decide (s_12.1 > o_32.At.Row)))).bind fun d_25=>
 some d_25)).bind fun d_21=>
 (orE d_21 ((bI (mode==1) ((s_12.2.place_Pen[k]?).bind fun o_45=>
 some (decide (s_12.1 < o_45.At.Row)))).bind fun d_38=>
 some d_38)).bind fun d_34=>
 if d_34=true then
 (s_12.2.place_Pen[k]?).bind fun o_51=>
 (bw s_12.2 o_51.G s_12.1).bind fun x_53=>
 (km s_12.2 x_53).bind fun x_54=>
 (some (x_54):Option (Sto))
 else
 (some (s_12.2):Option (Sto))).bind fun z_15=>
 some (.inl ((w64 (s_12.1+1)),z_15))
 else
 some (.inr (s_12.2))) (0,s))=some s'∧Pv C s' k g W ⟨eS (cnd mode q.At.Row) q.L ks.length,q.At,q.Auto⟩ ks:=by
  subst hH;have hh:=h.g.h2;refine dV (n:=ks.length) (fun i st=>st.1=(i:Int)∧Pv C st.2 k g W ⟨eS (cnd mode q.At.Row) q.L i,q.At,q.Auto⟩ ks) (fun st=>Pv C st k g W ⟨eS (cnd mode q.At.Row) q.L ks.length,q.At,q.Auto⟩ ks) (fun i st hi hI=>?_) (fun st hI=>?_) ⟨rfl,h⟩ (by omega)
  · obtain ⟨i',st⟩:=st
    obtain ⟨e,v⟩:=hI;simp only at e v;subst e;simp only;rw [ae (dlt hi)];have hp:=v.p;simp only at hp;simp only [hp,bsm,aZ,br];rw [er hi (by omega)];by_cases hc:cnd mode q.At.Row i=true
    · rw [ae (show (mode==2 || mode==0 && decide ((i:Int) > q.At.Row) || mode==1 && decide ((i:Int) < q.At.Row))=true from hc),eY v.g hi]
      obtain ⟨r1,r2,r3⟩:=v.rw_ hi;simp only [bsm];have w2:=h.g.w2;rw [wZ r1 r2 (by omega) 0 0];refine .inl ⟨_,rfl,rfl,?_⟩;simp only [eS];rw [ae hc];exact v.ac hi 3 0 0
    · rw [af (show ¬(mode==2 || mode==0 && decide ((i:Int) > q.At.Row) || mode==1 && decide ((i:Int) < q.At.Row))=true from hc)]
      refine .inl ⟨_,rfl,rfl,?_⟩;simp only [eS];rw [af hc];exact v
  · obtain ⟨i',st⟩:=st
    obtain ⟨e,v⟩:=hI;simp only at e v;subst e;exact ⟨st,by simp,v⟩
theorem zT (h:Pv C s k g W q ks) (kind mode:Int):(cE (σ:=Int×(List ak)×Int×Int×Bool×Bool) (τ:=((List ak)×Int×Int×Bool×Bool)) (((q.L.length:Int) - 0).toNat+1) (fun s_23=>
 (bI (decide (s_23.1 < (s_23.2.1.length:Int))) (some (kind==4))).bind fun d_29=>
 if d_29=true then
 ((orE (mode==2) ((bI (mode==0) (some (decide (s_23.1 > s_23.2.2.1)))).bind fun d_41=>
 some d_41)).bind fun d_37=>
 (orE d_37 ((bI (mode==1) (some (decide (s_23.1 < s_23.2.2.1)))).bind fun d_52=>
 some d_52)).bind fun d_48=>
 if d_48=true then
 (cN (⟨s_23.2.1,(⟨s_23.2.2.1,s_23.2.2.2.1,s_23.2.2.2.2.1⟩:ai),s_23.2.2.2.2.2⟩:aa) s_23.1 3 0 0).bind fun x_62=>
 (some (x_62.L,x_62.At.Row,x_62.At.Col,x_62.At.Pending,x_62.Auto):Option ((List ak)×Int×Int×Bool×Bool))
 else
 (some (s_23.2.1,s_23.2.2.1,s_23.2.2.2.1,s_23.2.2.2.2.1,s_23.2.2.2.2.2):Option ((List ak)×Int×Int×Bool×Bool))).bind fun z_34=>
 some (.inl ((w64 (s_23.1+1)),z_34.1,z_34.2.1,z_34.2.2.1,z_34.2.2.2.1,z_34.2.2.2.2))
 else
 some (.inr (s_23.2.1,s_23.2.2.1,s_23.2.2.2.1,s_23.2.2.2.2.1,s_23.2.2.2.2.2))) (0,q.L,q.At.Row,q.At.Col,q.At.Pending,q.Auto))=
    some (if kind=4 then eS (cnd mode q.At.Row) q.L ks.length else q.L,q.At.Row,q.At.Col,q.At.Pending,q.Auto):=by
  have hh:=h.g.h2;have hl:=h.len;by_cases hk:kind=4
  · subst hk
    rw [ae rfl];obtain ⟨t,h1,h2⟩:=dV (σ:=Int×(List ak)×Int×Int×Bool×Bool) (τ:=((List ak)×Int×Int×Bool×Bool)) (n:=ks.length) (fuel:=((q.L.length:Int) - 0).toNat+1) (s:=(0,q.L,q.At.Row,q.At.Col,q.At.Pending,q.Auto))
      (fun i st=>st=((i:Int),eS (cnd mode q.At.Row) q.L i,q.At.Row,q.At.Col,q.At.Pending,q.Auto)∧∃s',Pv C s' k g W ⟨eS (cnd mode q.At.Row) q.L i,q.At,q.Auto⟩ ks) (fun t=>t=(eS (cnd mode q.At.Row) q.L ks.length,q.At.Row,q.At.Col,q.At.Pending,q.Auto))
      (step:=fun s_23=>
 (bI (decide (s_23.1 < (s_23.2.1.length:Int))) (some ((4:Int)==4))).bind fun d_29=>
 if d_29=true then
 ((orE (mode==2) ((bI (mode==0) (some (decide (s_23.1 > s_23.2.2.1)))).bind fun d_41=>
 some d_41)).bind fun d_37=>
 (orE d_37 ((bI (mode==1) (some (decide (s_23.1 < s_23.2.2.1)))).bind fun d_52=>
 some d_52)).bind fun d_48=>
 if d_48=true then
 (cN (⟨s_23.2.1,(⟨s_23.2.2.1,s_23.2.2.2.1,s_23.2.2.2.2.1⟩:ai),s_23.2.2.2.2.2⟩:aa) s_23.1 3 0 0).bind fun x_62=>
 (some (x_62.L,x_62.At.Row,x_62.At.Col,x_62.At.Pending,x_62.Auto):Option ((List ak)×Int×Int×Bool×Bool))
 else
 (some (s_23.2.1,s_23.2.2.1,s_23.2.2.2.1,s_23.2.2.2.2.1,s_23.2.2.2.2.2):Option ((List ak)×Int×Int×Bool×Bool))).bind fun z_34=>
 some (.inl ((w64 (s_23.1+1)),z_34.1,z_34.2.1,z_34.2.2.1,z_34.2.2.2.1,z_34.2.2.2.2))
 else
 some (.inr (s_23.2.1,s_23.2.2.1,s_23.2.2.2.1,s_23.2.2.2.2.1,s_23.2.2.2.2.2)))
      (fun i st hi hI=>by
        obtain ⟨rfl,s',v⟩:=hI;have hvl:(eS (cnd mode q.At.Row) q.L i).length=ks.length:=v.len;simp only [aZ,bsm,br];rw [ae (by simp [hvl,hi]),er hi (by omega)];by_cases hc:cnd mode q.At.Row i=true
        · rw [ae (show (mode==2 || mode==0 && decide ((i:Int) > q.At.Row) || mode==1 && decide ((i:Int) < q.At.Row))=true from hc)]
          have ha:=DR v hi 3 0 0;rw [show (⟨eS (cnd mode q.At.Row) q.L i,⟨q.At.Row,q.At.Col,q.At.Pending⟩,q.Auto⟩:aa)=⟨eS (cnd mode q.At.Row) q.L i,q.At,q.Auto⟩ from rfl,ha];refine .inl ⟨_,rfl,?_,s'.sr ks[i] (ac ((eS (cnd mode q.At.Row) q.L i).getD i dl).Cells ((eS (cnd mode q.At.Row) q.L i).getD i dl).Wrap 3 0 0),?_⟩
          · simp only [eS]
            rw [ae hc]
          · simp only [eS]
            rw [ae hc];exact v.ac hi 3 0 0
        · rw [af (show ¬(mode==2 || mode==0 && decide ((i:Int) > q.At.Row) || mode==1 && decide ((i:Int) < q.At.Row))=true from hc)]
          refine .inl ⟨_,rfl,?_,s',?_⟩
          · simp only [eS]
            rw [af hc]
          · simp only [eS]
            rw [af hc];exact v)
      (fun st hI=>by
        obtain ⟨rfl,s',v⟩:=hI;have hvl:(eS (cnd mode q.At.Row) q.L ks.length).length=ks.length:=v.len;refine ⟨_,?_,rfl⟩;simp only [aZ,bsm];rw [af (by simp [hvl])])
      ⟨rfl,s,h⟩ (by omega)
    rw [h1,h2]
  · rw [af hk]
    have hf:(kind==4)=false:=by simpa using hk
    rw [show ((q.L.length:Int) - 0).toNat+1=q.L.length+1 by omega];simp only [cE,hf,aZ,DV,bsm,aj,aU]
theorem Cf (h:Pv C s k g W q ks) {i:Nat} (hi:i < ks.length) {c:List ab} {done:Bool} {r:bf} (hc:c=r.cells) (hd:done=true→r.wrap=false) (hn:done=false→r=⟨(q.L.getD i dl).Cells,(q.L.getD i dl).Wrap⟩) {z:aa} (hz:z=q):
    (if done=true then (bZ z i ⟨c,false⟩).bind fun x_172=>(some (x_172.L,x_172.At.Row,x_172.At.Col,x_172.At.Pending,x_172.Auto):Option ((List ak)×Int×Int×Bool×Bool))
     else (some (z.L,z.At.Row,z.At.Col,z.At.Pending,z.Auto):Option ((List ak)×Int×Int×Bool×Bool)))=some (q.L.set i (lt r),q.At.Row,q.At.Col,q.At.Pending,q.Auto):=by
  subst hz hc;have hl:=h.len
  cases done with
  | true=>
    rw [ae rfl,sP h hi];simp only [bsm];unfold lt;rw [hd rfl]
  | false=>
    rw [af (by simp),hn rfl];unfold lt;rw [gdl (show i < z.L.length by omega),GL]
theorem Dc {l:List ab} {w:Bool} {a b:Int}:(mvs a b l.length=true→(ish l w a b).wrap=false)∧(mvs a b l.length=false→ish l w a b=⟨l,w⟩):=by
  unfold ish;refine ⟨fun h=>by rw [ae h],fun h=>by rw [af (by rw [h]; simp)]⟩
theorem Dn {l:List ab} {w:Bool} {a b:Int}:(mvs a b l.length=true→(dsh l w a b).wrap=false)∧(mvs a b l.length=false→dsh l w a b=⟨l,w⟩):=by
  unfold dsh;refine ⟨fun h=>by rw [ae h],fun h=>by rw [af (by rw [h]; simp)]⟩
theorem AL (h:Pv C s k g W q ks) {i:Nat} (hi:i < ks.length) (hr:q.At.Row=(i:Int)) (kind:Int) {mode:Int} (hm:0≤mode∧mode≤2):∃L1,L1=q.L.set i (lt (ac (q.L.getD i dl).Cells (q.L.getD i dl).Wrap (md mode) q.At.Col 0))∧
    fv q kind mode=some ⟨if kind=4 then eS (cnd mode q.At.Row) L1 ks.length else L1,q.At,q.Auto⟩:=by
  refine ⟨_,rfl,?_⟩;unfold fv;have hidx:idx ([2,1,3]:List Int) mode=some (md mode):=by
    have:mode=0∨mode=1∨mode=2:=by omega
    rcases this with e | e | e <;> rw [e] <;> rfl
  have v:=h.ac hi (md mode) q.At.Col 0;have e0:cN q q.At.Row (md mode) q.At.Col 0=some ⟨q.L.set i (lt (ac (q.L.getD i dl).Cells (q.L.getD i dl).Wrap (md mode) q.At.Col 0)),q.At,q.Auto⟩:=by
    rw [hr];exact DR h hi _ _ _
  rw [hidx];simp only [bsm];rw [e0];simp only [bsm];have:=zT v kind mode;simp only at this;rw [this];rfl
theorem EP (h:Pv C s k g W q ks) (o:aL) (hw:w38 o=0):∃s' q' ks',oH s (some k) o=some (s',Er.nil)∧fG q o=some q'∧Pv C s' k g W q' ks'∧ks'.length=ks.length∧Hd q'.At W ks.length∧q'.At.Pending=false:=by
  have hh:=h.g.h2;have h1:=h.g.h1;have w1:=h.g.w1;have w2:=h.g.w2;have hkind:2≤o.Kind∧o.Kind≤12:=by
    unfold w38 at hw;split at hw
    · cases hw
    · omega
  have hmode:(o.Kind=3∨o.Kind=4)→0≤o.A∧o.A≤2:=fun e=>by
    unfold w38 at hw;rw [af (by omega)] at hw;split at hw
    · cases hw
    · omega
  have hnil:e38 o=Er.nil:=by unfold e38; rw [hw]; rfl
  have hd0:=sX q.At w1 h1;have hv:Pv C (s.sp k ⟨some g,⟨(hc q.At W ks.length).Row,(hc q.At W ks.length).Col,false⟩,q.Auto⟩) k g W ⟨q.L,⟨(hc q.At W ks.length).Row,(hc q.At W ks.length).Col,false⟩,q.Auto⟩ ks:=h.set _ _;have hd:Hd ⟨(hc q.At W ks.length).Row,(hc q.At W ks.length).Col,false⟩ W ks.length:=⟨hd0.rr,hd0.cc,fun e=>by cases e⟩;unfold oH fG;rw [vD,hnil,oy h];simp only [bsm,Er.isNil,cP,aj,aU,bL,fh,h.p];rw [jm h.g,eL h.g];simp only [bsm];rw [oN _ w1 w2 h1 hh];simp only [bsm];rw [iR (cz h.p)];simp only [bsm];rw [iR (by simp [Sto.sp]; exact cz h.p),wE];simp only [bsm];generalize hc q.At W ks.length=c at *;obtain ⟨i,hi⟩:∃i:Nat,c.Row=(i:Int):=⟨c.Row.toNat,by have:=hd.rr; simp only at this; omega⟩;have hik:i < ks.length:=by have:=hd.rr; simp only at this; omega
  have hlen:=hv.len;simp only at hlen;obtain ⟨c1,c2,c3⟩:=c;simp only at hi hv hd;subst hi;simp only;rw [bc (show i < q.L.length by omega)];simp only [bsm];generalize s.sp k ⟨some g,⟨(i:Int),c2,false⟩,q.Auto⟩=s1 at *;obtain ⟨L,⟨_,_,_⟩,au⟩:=q;simp only at hv hlen⊢;obtain ⟨r1,r2,r3⟩:=hv.rw_ hik;simp only at r1 r2 r3;obtain ⟨kd_,A,B,bs⟩:=o;simp only at hkind hmode⊢;have hcell:L[i]'(by omega)=L.getD i dl:=(gdl (by omega)).symm;rw [hcell];have:kd_=2∨kd_=3∨kd_=4∨kd_=5∨kd_=6∨kd_=7∨kd_=8∨kd_=9∨kd_=10∨kd_=11∨kd_=12:=by omega
  have hcc:=hd.cc;simp only at hcc;rcases this with e | e | e | e | e | e | e | e | e | e | e <;> subst e <;> simp only [Int.reduceBEq,aj,aU,bm,bsm]
  ·
    unfold fT;simp only [bsm,hv.p];rw [eY hv.g hik];simp only [bsm,Int.reduceBEq,bm];rw [jm hv.g,eL hv.g];simp only [bsm];unfold jd;rw [oN _ w1 w2 h1 hh,qu hv,hlen];simp only [bsm];rw [yv _ w1 w2 h1 hh,iR (cz hv.p)];exact ⟨_,_,ks,rfl,rfl,hv.set (hc ⟨A,B,false⟩ W ks.length) au,rfl,sX _ w1 h1,by simp [hc]⟩
  ·
    have hm:=hmode (.inl rfl);obtain ⟨L1,e1,e2⟩:=AL hv hik rfl 3 hm;simp only at e1;rw [e2];unfold fT;simp only [bsm,hv.p];rw [eY hv.g hik];simp only [bsm,Int.reduceBEq,aj,aU,bm];rw [xa hv hik rfl A];refine ⟨_,_,ks,rfl,rfl,?_,rfl,hd,rfl⟩;have:=hv.ac hik (md A) c2 0;simp only at this;rw [af (by decide),e1];exact this
  ·
    have hm:=hmode (.inr rfl);obtain ⟨L1,e1,e2⟩:=AL hv hik rfl 4 hm;simp only at e1;rw [e2];unfold fT;simp only [bsm,hv.p];rw [eY hv.g hik];simp only [bsm,Int.reduceBEq,aj,aU,bm];unfold mx;rw [xa hv hik rfl A];have hv2:=hv.ac hik (md A) c2 0;simp only at hv2;rw [←e1] at hv2;simp only [bsm,hv2.p];rw [eL hv2.g];simp only [bsm];obtain ⟨s',l1,l2⟩:=yn hv2 A rfl;rw [l1];exact ⟨_,_,ks,rfl,rfl,l2,rfl,hd,rfl⟩
  ·
    unfold fT;simp only [bsm,hv.p];rw [eY hv.g hik];simp only [bsm,Int.reduceBEq,aj,aU,bm];rw [yV r1 r2 (by omega),DR hv hik];exact ⟨_,_,ks,rfl,rfl,hv.ac hik 4 c2 A,rfl,hd,rfl⟩
  ·
    have hsn:=EF (w:=(L.getD i dl).Wrap) r2 c2 A;have hlw:=EG (l:=(L.getD i dl).Cells) (w:=(L.getD i dl).Wrap) c2 A;have hdn:=Dc (l:=(L.getD i dl).Cells) (w:=(L.getD i dl).Wrap) (a:=c2) (b:=A);unfold fT;simp only [bsm,hv.p];rw [eY hv.g hik];simp only [bsm,Int.reduceBEq,aj,aU,bm];rw [Bg r1 r2 (by omega),Ef (by omega) _ _ (L.getD i dl).Wrap];simp only [bsm];have:=Cf hv hik (c:=(ish (L.getD i dl).Cells (L.getD i dl).Wrap c2 A).cells) (done:=mvs c2 A (L.getD i dl).Cells.length) (r:=ish (L.getD i dl).Cells (L.getD i dl).Wrap c2 A) rfl hdn.1 hdn.2 rfl;simp only at this;rw [this];exact ⟨_,_,ks,rfl,rfl,hv.row hik hsn (by rw [hlw]; exact r3),rfl,hd,rfl⟩
  ·
    have hsn:=ES (w:=(L.getD i dl).Wrap) r2 c2 A;have hlw:=ET (l:=(L.getD i dl).Cells) (w:=(L.getD i dl).Wrap) c2 A;have hdn:=Dn (l:=(L.getD i dl).Cells) (w:=(L.getD i dl).Wrap) (a:=c2) (b:=A);unfold fT;simp only [bsm,hv.p];rw [eY hv.g hik];simp only [bsm,Int.reduceBEq,aj,aU,bm];rw [Bh r1 r2 (by omega),Eg (by omega) _ _ (L.getD i dl).Wrap];simp only [bsm];have:=Cf hv hik (c:=(dsh (L.getD i dl).Cells (L.getD i dl).Wrap c2 A).cells) (done:=mvs c2 A (L.getD i dl).Cells.length) (r:=dsh (L.getD i dl).Cells (L.getD i dl).Wrap c2 A) rfl hdn.1 hdn.2 rfl;simp only at this;rw [this];exact ⟨_,_,ks,rfl,rfl,hv.row hik hsn (by rw [hlw]; exact r3),rfl,hd,rfl⟩
  ·
    obtain ⟨s',ks',u1,⟨u2,u3,u4,u5⟩,u6,u7⟩:=yX hv.g hv.nd (i:Int) (ks.length:Int) A;have hm:=qv (W:=W) (L:=L) (by omega) w2 (fun x hx=>(hv.ok x hx).2) (i:Int) (ks.length:Int) A false;rw [hlen] at hm⊢;unfold iX;simp only [bsm,hv.p];rw [eL hv.g];simp only [bsm,Int.reduceBEq,aj,aU,bm];rw [u1,hm];have hp:s'.place_Pen[k]? = some ⟨some g,⟨(i:Int),c2,false⟩,au⟩:=by rw [kA u6]; exact hv.p
    simp only [bsm,hp,dp];rw [iR (cz hp)];refine ⟨_,_,ks',rfl,rfl,⟨xi (cz hp),u2.sp _ _,u3,?_,(qY u6).trans hv.o,(hv.f.step u7 (kA u6)).sp _⟩,u4,⟨hd.rr,by simp only; omega,fun e=>by cases e⟩,rfl⟩;exact u5.trans (by rw [hv.l])
  ·
    obtain ⟨s',ks',u1,⟨u2,u3,u4,u5⟩,u6,u7⟩:=zy hv.g hv.nd (i:Int) (ks.length:Int) A;have hm:=qv (W:=W) (L:=L) (by omega) w2 (fun x hx=>(hv.ok x hx).2) (i:Int) (ks.length:Int) A true;rw [hlen] at hm⊢;unfold iX;simp only [bsm,hv.p];rw [eL hv.g];simp only [bsm,Int.reduceBEq,aj,aU,bm];rw [u1,hm];have hp:s'.place_Pen[k]? = some ⟨some g,⟨(i:Int),c2,false⟩,au⟩:=by rw [kA u6]; exact hv.p
    simp only [bsm,hp,dp];rw [iR (cz hp)];refine ⟨_,_,ks',rfl,rfl,⟨xi (cz hp),u2.sp _ _,u3,?_,(qY u6).trans hv.o,(hv.f.step u7 (kA u6)).sp _⟩,u4,⟨hd.rr,by simp only; omega,fun e=>by cases e⟩,rfl⟩;exact u5.trans (by rw [hv.l])
  ·
    obtain ⟨s',ks',u1,⟨u2,u3,u4,u5⟩,u6,u7⟩:=zy hv.g hv.nd 0 (ks.length:Int) A;have hm:=qv (W:=W) (L:=L) (by omega) w2 (fun x hx=>(hv.ok x hx).2) 0 (ks.length:Int) A true;rw [hlen] at hm⊢;unfold iX;simp only [bsm,hv.p];rw [eL hv.g];simp only [bsm,Int.reduceBEq,aj,aU,bm];rw [u1,hm];refine ⟨_,_,ks',rfl,rfl,⟨by rw [kA u6]; exact hv.p,u2,u3,?_,(qY u6).trans hv.o,hv.f.step u7 (kA u6)⟩,u4,hd,rfl⟩;exact u5.trans (by rw [hv.l])
  ·
    obtain ⟨s',ks',u1,⟨u2,u3,u4,u5⟩,u6,u7⟩:=yX hv.g hv.nd 0 (ks.length:Int) A;have hm:=qv (W:=W) (L:=L) (by omega) w2 (fun x hx=>(hv.ok x hx).2) 0 (ks.length:Int) A false;rw [hlen] at hm⊢;unfold iX;simp only [bsm,hv.p];rw [eL hv.g];simp only [bsm,Int.reduceBEq,aj,aU,bm];rw [u1,hm];refine ⟨_,_,ks',rfl,rfl,⟨by rw [kA u6]; exact hv.p,u2,u3,?_,(qY u6).trans hv.o,hv.f.step u7 (kA u6)⟩,u4,hd,rfl⟩;exact u5.trans (by rw [hv.l])
  ·
    unfold fT;simp only [bsm,hv.p];rw [eY hv.g hik];simp only [bsm,Int.reduceBEq,aj,aU,bm];rw [iR (cz hv.p)];exact ⟨_,_,ks,rfl,rfl,hv.set ⟨(i:Int),c2,false⟩ (A != 0),rfl,hd,rfl⟩
end Go.Proofs.YthokmpbbkpjhbaaGreatDoor
namespace Go.Proofs.YthokmpbbkpjhbaaGreatDoor
open Go Go.Lt
variable {s C:Sto} {g k W:Nat} {ks:List Nat} {q:aa} {l:List ab}
def rzc (l:List ab) (w j:Nat):ab:=if j < l.length∧(j+1 < w∨kd l j≠2) then l.getD j bl else bl
def rz (l:List ab) (w:Nat):List ab:=(List.range w).map (rzc l w)
theorem tI (l:List ab) (w:Nat):(rz l w).length=w:=by simp [rz]
theorem xm {w j:Nat} (h:j < w):(rz l w)[j]? = some (rzc l w j):=by simp [rz,h]
theorem Fk {w j:Nat} (h:j < w):kd (rz l w) j=(rzc l w j).Kind:=by simp [kd,xm h]
theorem xl (l:List ab) (w j:Nat):(rzc l w j).Kind=if j < l.length∧(j+1 < w∨kd l j≠2) then kd l j else 0:=by
 unfold rzc;split
 ·exact ni l j
 ·rfl
theorem CB (hs:Snd l) (w:Nat):Snd (rz l w):=fun j hj=>by
 have hjw:j < w:=by rw [tI] at hj; exact hj
 have e:(rz l w)[j]=rzc l w j:=by
  have:=xm (l:=l) hjw;rw [ag hj] at this;exact be this
 rw [e];refine ⟨?_,fun h2=>?_,fun h3=>?_⟩
 ·unfold rzc;split
  ·rename_i h; exact hs.rg h.1
  ·rfl
 ·rw [xl] at h2;split at h2
  ·rename_i h
   have h4:=hs.two h2;have h5:j+1 < l.length:=un (by rw [h4]; decide);have h6:j+1 < w:=by omega
   rw [Fk h6,xl,ae ⟨h5,.inr (by rw [h4]; decide)⟩,h4]
  ·cases h2
 ·rw [xl] at h3;split at h3
  ·rename_i h
   obtain ⟨h4,h5⟩:=hs.three h3;have h6:j - 1 < l.length:=by omega
   refine ⟨h4,?_⟩;rw [Fk (by omega),xl,ae ⟨h6,.inl (by omega)⟩,h5]
  ·cases h3
theorem FI (w:Nat):rz [] w=List.replicate w bl:=by
 refine bT fun j=>?_;rcases aO j w with h | h
 ·rw [xm h,nf,ae h];unfold rzc;rw [af (by simp)]
 ·rw [aP (by rw [tI]; exact h),aP (by simpa using h)]
theorem EO {n:Nat} (hn:n≤l.length) (hl:l.length≤1024):oF l n=some (if 0 < n∧kd l (n - 1)=2 then (l.take n).set (n - 1) bl else l.take n):=by
 unfold oF;rw [show (0:Int)=((0:Nat):Int) from rfl,nU (cG _) hn,jy,nH];simp only [bsm];by_cases h0:0 < n
 ·have e:w64 ((n:Int) - 1)=((n - 1:Nat):Int):=by rw [aF (by omega)]; omega
  have hlt:n - 1 < (l.take n).length:=by simp; omega
  have hk:(l.take n)[n - 1].Kind=kd l (n - 1):=by rw [List.getElem_take,kH (by omega)]
  rw [show decide ((n:Int) > ((0:Nat):Int))=true by simpa using h0,e,bc hlt];simp only [gq,bsm,hk];by_cases h2:kd l (n - 1)=2
  ·rw [ae (by simpa using h2),ae ⟨h0,h2⟩,kN hlt];rfl
  ·rw [af (by simpa using h2),af (fun h=>h2 h.2)];rfl
 ·rw [show decide ((n:Int) > ((0:Nat):Int))=false by simpa using h0,af (fun h=>h0 h.1)];simp only [gt,bsm,aj,aU]
theorem Gk (hs:Snd l) {w n:Nat} (hn:n=min w l.length) (w1:1≤w) (l1:1≤l.length):(if 0 < n∧kd l (n - 1)=2 then (l.take n).set (n - 1) bl else l.take n)++List.replicate (w - n) bl=rz l w:=by
 have hlen:(if 0 < n∧kd l (n - 1)=2 then (l.take n).set (n - 1) bl else l.take n).length=n:=by split <;> simp <;> omega
 refine bT fun j=>?_;rcases aO j w with h | h
 ·rw [xm h];rcases aO j n with hj | hj
  ·rw [aI (by omega)];have hjl:j < l.length:=by omega
   have g:l.getD j bl=l[j]:=by rw [aq,ag hjl]; rfl
   unfold rzc;split
   ·rename_i h2
    rw [lB];by_cases e:n - 1=j
    ·subst e;rw [ae rfl,ae (by simp; omega),af];rintro ⟨_,h5 | h5⟩
     ·have:=hs.two h2.2;have:=un (l:=l) (j:=n - 1+1) (by omega);omega
     ·exact h5 h2.2
    ·rw [af e,aS,ae hj,ag hjl,ae ⟨hjl,by omega⟩,g]
   ·rename_i h2
    rw [aS,ae hj,ag hjl,ae,g];refine ⟨hjl,?_⟩;by_cases e:j+1 < w
    ·exact .inl e
    ·right
     intro h3;exact h2 ⟨by omega,by rw [show n - 1=j by omega]; exact h3⟩
  ·rw [bh (by omega),hlen,nf,ae (by omega)];unfold rzc;rw [af (by omega)]
 ·rw [aP (by rw [aA,hlen,lm]; omega),aP (by rw [tI]; exact h)]
theorem zZ {wr:Bool} (h:s.row_Row[k]? = some ⟨l,wr⟩) (hs:Snd l) (l1:1≤l.length) (l2:l.length≤1024) {w:Nat} (w1:1≤w) (w2:w≤1024):
  jG s (some k) w=some (s.add_row_Row ⟨rz l w,false⟩,some s.row_Row.length):=by
 have e1:aE 1 (aB (w:Int) 1024)=(w:Int):=by rw [dq,eX]; omega
 unfold jG;rw [e1];simp only [bL,aj,aU,qZ h (by omega) hs.sht,iS h,bsm];obtain ⟨n,hn⟩:∃n,n=min w l.length:=⟨_,rfl⟩;rw [show aB (w:Int) (l.length:Int)=(n:Int) by rw [dq]; omega,EO (by omega) l2];have hlen:(if 0 < n∧kd l (n - 1)=2 then (l.take n).set (n - 1) bl else l.take n).length=n:=by split <;> simp <;> omega
 have hcr:=Gk hs hn w1 l1;generalize (if 0 < n∧kd l (n - 1)=2 then (l.take n).set (n - 1) bl else l.take n)=c at *;simp only [bsm];rw [hlen,aF (by omega),uh];simp only [bsm];rw [show (max 0 (min ((w:Int) - (n:Int)) 1024)).toNat=w - n by omega,cK (by simp; omega),hcr];simp only [bsm];unfold tc;rw [CJ (by rw [tI]; exact w1) (by rw [tI]; exact w2) (CB hs w)];rfl
theorem zJ (l:List ab) (hl:l.length≤1000000) {w:Nat} (w1:1≤w) (w2:w≤1024):dU l w=some (rz l w):=by
 have e1:aE 1 (aB (w:Int) 1024)=(w:Int):=by rw [dq,eX]; omega
 unfold dU;rw [e1,nV _ (by omega),show (⟨0,[]⟩:ab)=bl from rfl,bU];simp only [bsm];obtain ⟨t,h3,h4⟩:=dV (σ:=(List ab)×Int) (τ:=(List ab)) (n:=min w l.length) (fuel:=((w:Int) - 0).toNat+1) (s:=(List.replicate w bl,0))
  (fun i q=>q=((List.range w).map (fun j=>if j < i then rzc l w j else bl),(i:Int))) (fun t=>t=rz l w)
  (step:=fun s_14=>
 (bI (decide (s_14.2 < (w:Int))) (some (decide (s_14.2 < (l.length:Int))))).bind fun d_18=>
 if d_18=true then
 ((orE (decide ((w64 (s_14.2+1)) < (w:Int))) ((idx l s_14.2).bind fun x_34=>
 some (x_34.Kind != 2))).bind fun d_30=>
 if d_30=true then
 (idx l s_14.2).bind fun x_43=>
 (idx s_14.1 s_14.2).bind fun x_45=>
 (pb s_14.1 s_14.2 x_43).bind fun w_46=>
 (some (w_46):Option ((List ab)))
 else
 (some (s_14.1):Option ((List ab)))).bind fun z_25=>
 some (.inl (z_25,(w64 (s_14.2+1))))
 else
 some (.inr (s_14.1)))
  (fun i q hi e=>by
   subst e;refine .inl ⟨_,?_,rfl⟩;have e5:w64 ((i:Int)+1)=((i+1:Nat):Int):=by rw [aF (by omega)]; simp
   have hil:i < l.length:=by omega
   have hd:(decide ((i:Int) < (w:Int)) && decide ((i:Int) < (l.length:Int)))=true:=by simp; omega
   have hlt:i < ((List.range w).map (fun j=>if j < i then rzc l w j else bl)).length:=by simp; omega
   have ho:(orE (decide (((i+1:Nat):Int) < (w:Int))) ((idx l (i:Int)).bind fun x_34=>some (x_34.Kind != 2)))=some (decide (i+1 < w∨kd l i≠2)):=by
    rw [bc hil];simp only [bsm,br,←kH hil,aR];rw [ci];simp only [aD,an,mV];omega
   simp only [aZ,bsm,hd,bm,e5];rw [ho];simp only [bsm];have hnext:∀c:ab,c=rzc l w i→((List.range w).map (fun j=>if j < i then rzc l w j else bl)).set i c=(List.range w).map (fun j=>if j < i+1 then rzc l w j else bl):=fun c hc=>by
    refine bT fun j=>?_;rw [lB];by_cases e:i=j
    ·subst e;rw [ae rfl,ae hlt,bE,dm (by omega),hc];simp
    ·rw [af e,bE,bE];rcases aO j w with hj | hj
     ·rw [dm hj];simp only [fp,aR];by_cases h5:j < i
      ·rw [ae h5,ae (by omega)]
      ·rw [af h5,af (by omega)]
     ·rw [aP (by simpa using hj)];rfl
   by_cases hc:i+1 < w∨kd l i≠2
   ·rw [ae (by simpa using hc),bc hil,bc hlt];simp only [bsm];rw [kN hlt,hnext l[i] (by
     unfold rzc;rw [ae ⟨hil,hc⟩,aq,ag hil];rfl)]
    rfl
   ·rw [af (by simpa using hc)];simp only [bsm];have hb:rzc l w i=bl:=by
     unfold rzc;rw [af (fun h=>hc h.2)]
    have:=hnext bl hb.symm;rw [←this]
    congr 3
    refine (bT fun j=>?_).symm;rw [lB];by_cases e:i=j
    ·subst e;rw [ae rfl,ae hlt,bE,dm (by omega)];simp
    ·rw [af e])
  (fun q e=>⟨q.1,by
   subst e;have hd:(decide (((min w l.length:Nat):Int) < (w:Int)) && decide (((min w l.length:Nat):Int) < (l.length:Int)))=false:=by
    rw [zw];simp only [wQ,aw,an];omega
   simp only [aZ,bsm,hd,aj,aU],by
   subst e;simp only;unfold rz;refine dk fun j hj=>?_;rw [List.mem_range] at hj;by_cases h5:j < min w l.length
   ·rw [ae h5]
   ·rw [af h5];unfold rzc;rw [af (by omega)]⟩)
  (by
   simp only [Ce,aU,gS];refine ⟨?_,rfl⟩;rw [IC,rT]) (by omega)
 subst h4;rw [h3];rfl
def cs (L:List ak) (n:Nat):List ab:=(L.getD n ⟨[],false⟩).Cells
def rs (L:List ak) (top w h:Nat):List ak:=(List.range h).map fun m=>⟨rz (cs L (top+m)) w,false⟩
def rsi (L:List ak) (top w h i:Nat):List ak:=(List.range h).map fun m=>if m < i then ⟨rz (cs L (top+m)) w,false⟩ else ⟨List.replicate w bl,false⟩
theorem Ac {L:List ak} {n:Nat} (h:L.length≤n):cs L n= []:=by
 unfold cs;rw [aq,aP h];rfl
theorem Dq {L:List ak} {n:Nat} (h:n < L.length):cs L n=L[n].Cells:=by
 unfold cs;rw [aq,ag h];rfl
theorem AA (L:List ak) (top w:Nat) {h i:Nat} (hi:i < h):(rsi L top w h i).set i ⟨rz (cs L (top+i)) w,false⟩=rsi L top w h (i+1):=by
 unfold rsi;refine bT fun j=>?_;rw [lB,db,rT];by_cases e:i=j
 ·subst e;rw [ae rfl,ae hi,bE,dm hi];simp
 ·rw [af e,bE,bE];rcases aO j h with hj | hj
  ·rw [dm hj];simp only [fp,aR];by_cases h5:j < i
   ·rw [ae h5,ae (by omega)]
   ·rw [af h5,af (by omega)]
  ·rw [aP (by simpa using hj)];rfl
theorem CG (L:List ak) {top w h i:Nat} (ho:L.length≤top+i) (hi:i < h):rsi L top w h (i+1)=rsi L top w h i:=by
 rw [←AA L top w hi,Ac ho,FI];refine bT fun j=>?_;rw [lB];by_cases e:i=j
 ·subst e;unfold rsi;rw [ae rfl,ae (by simp; exact hi),bE,dm hi];simp
 ·rw [af e]
theorem Ed (L:List ak) (top w h:Nat):rsi L top w h h=rs L top w h:=by
 unfold rsi rs;refine dk fun m hm=>?_;rw [List.mem_range] at hm;rw [ae hm]
theorem CF (L:List ak) (top w h:Nat):rsi L top w h 0=bls w h:=by
 unfold rsi bls;simp only [Ce,aU];rw [IC,rT]
theorem FX {xs:List Nat} (nd:xs.Nodup) {x i:Nat} (hx:x∉xs):(xs.set i x).Nodup:=by
 rw [List.Nodup,List.pairwise_iff_getElem] at *;intro a b ha hb hab;rw [cq] at ha hb;rw [Iu,Iu];split
 ·split
  ·omega
  ·exact fun e=>hx (e▸ aG hb)
 ·split
  ·exact fun e=>hx (e▸ aG ha)
  ·exact nd a b ha hb hab
theorem Gw.sgo {g2:Nat} (h:Gw s g ks W) (hne:g2≠g) (x:bF):Gw (s.sg g2 x) g ks W:=
 ⟨by rw [←h.g]; simp [Sto.sg,aY hne],h.r,h.h1,h.h2,h.w1,h.w2⟩
theorem Gw.addg (h:Gw s g ks W) (x:bF):Gw (s.add_grid_Grid x) g ks W:=
 ⟨by rw [←h.g]; simp only [Sto.add_grid_Grid]; exact aI (cz h.g),h.r,h.h1,h.h2,h.w1,h.w2⟩
theorem Rf.more {s':Sto} {g2:Nat} {ks':List Nat} (h:Rf s s' g ks g2 ks') (hg2:s.grid_Grid.length≤g2) (xs:List bf) (x:bF) (i:Nat):Rf s ((s'.addr xs).sg g2 x) g ks g2 (ks'.set i s'.row_Row.length):=by
 have e:((s'.addr xs).sg g2 x).row_Row=s'.row_Row++xs:=rfl;have e2:((s'.addr xs).sg g2 x).grid_Grid=s'.grid_Grid.set g2 x:=rfl;have hr:=h.rl;refine ⟨by rw [e2,cq]; exact h.gl,by rw [e,aA]; omega,fun j a b=>by rw [e2,aY (by omega)]; exact h.gr j a b,fun j a b=>by rw [e,aI (by omega)]; exact h.rw j a b,h.ng,fun r hr=>?_⟩;rcases DW hr with q | rfl
 ·exact h.nr r q
 ·exact .inr h.rl
theorem Rf.begun (xs:List bf) (x:bF) {g2:Nat} (hg2:g2=s.grid_Grid.length) (m:Nat):Rf s ((s.addr xs).add_grid_Grid x) g ks g2 (List.range' s.row_Row.length m):=by
 subst hg2;refine ⟨by simp [Sto.add_grid_Grid,Sto.addr],by simp [Sto.add_grid_Grid,Sto.addr],fun j hj _=>?_,fun j hj _=>?_,.inr (az _),fun r hr=> .inr (List.mem_range'_1.1 hr).1⟩
 ·simp only [Sto.add_grid_Grid,Sto.addr]; exact aI hj
 ·simp only [Sto.add_grid_Grid,Sto.addr]; exact aI hj
theorem Bf (h:Pv C s k g W q ks) {w hh top:Nat} (w1:1≤w) (w2:w≤1024) (h1:1≤hh) (h2:hh≤1024) (ht:top≤1024) {g2:Nat} (hg2:g2=s.grid_Grid.length):
  ∃s' ks',cE (σ:=Int×Sto) (τ:=Sto) (((hh:Int) - 0).toNat+1) (fun s_54=>
 if (decide (s_54.1 < (hh:Int)))=true then
 ((s_54.2.place_Pen[k]?).bind fun o_64=>
 (bw s_54.2 o_64.G (w64 ((top:Int)+s_54.1))).bind fun x_68=>
 if (!x_68.isNone)=true then
 (jG s_54.2 x_68 (w:Int)).bind fun x_78=>
 (eE x_78.1 (some g2) s_54.1 x_78.2).bind fun x_79=>
 (some (x_79.1):Option (Sto))
 else
 (some (s_54.2):Option (Sto))).bind fun z_57=>
 some (.inl ((w64 (s_54.1+1)),z_57))
 else
 some (.inr (s_54.2))) (0,(s.addr ((bls w hh).map lr)).add_grid_Grid ⟨(List.range' s.row_Row.length hh).map some⟩)=some s'∧
  Gw s' g2 ks' w∧ks'.Nodup∧ks'.map (ln s')=rs q.L top w hh∧s'.rst=s.rst∧Rf s s' g ks g2 ks':=by
 have hb:(bls w hh).length=hh:=by simp [bls]
 have h0:((bls w hh)[0]'(by omega)).Cells.length=w:=by simp [bls]
 obtain ⟨b1,b2⟩:=Fl (s:=s) (L:=bls w hh) (by omega) (by omega) (DE w1 w2 h1);rw [h0,←hg2] at b1;rw [hb] at b1 b2;have hgl:=cz h.g.g;obtain ⟨t,e1,e2⟩:=dV (σ:=Int×Sto) (τ:=Sto) (n:=hh) (fuel:=((hh:Int) - 0).toNat+1) (s:=(0,(s.addr ((bls w hh).map lr)).add_grid_Grid ⟨(List.range' s.row_Row.length hh).map some⟩))
  (fun i q2=>q2.1=(i:Int)∧q2.2.rst=s.rst∧Gw q2.2 g ks W∧ks.map (ln q2.2)=q.L∧∃ks',Gw q2.2 g2 ks' w∧ks'.Nodup∧ks'.length=hh∧ks'.map (ln q2.2)=rsi q.L top w hh i∧Rf s q2.2 g ks g2 ks')
  (fun t=>t.rst=s.rst∧∃ks',Gw t g2 ks' w∧ks'.Nodup∧ks'.map (ln t)=rs q.L top w hh∧Rf s t g ks g2 ks')
  (step:=fun s_54=>
 if (decide (s_54.1 < (hh:Int)))=true then
 ((s_54.2.place_Pen[k]?).bind fun o_64=>
 (bw s_54.2 o_64.G (w64 ((top:Int)+s_54.1))).bind fun x_68=>
 if (!x_68.isNone)=true then
 (jG s_54.2 x_68 (w:Int)).bind fun x_78=>
 (eE x_78.1 (some g2) s_54.1 x_78.2).bind fun x_79=>
 (some (x_79.1):Option (Sto))
 else
 (some (s_54.2):Option (Sto))).bind fun z_57=>
 some (.inl ((w64 (s_54.1+1)),z_57))
 else
 some (.inr (s_54.2)))
  (fun i q2 hi ⟨e,hp,hg,hl,ks',c1,c2,c3,c4,c5⟩=>by
   obtain ⟨j,st⟩:=q2;simp only at e hp hg hl c1 c2 c3 c4 c5;subst e;have e5:w64 ((i:Int)+1)=((i+1:Nat):Int):=by rw [aF (by omega)]; simp
   have e6:w64 ((top:Int)+(i:Int))=((top+i:Nat):Int):=by rw [aF (by omega)]; simp
   have hd:decide ((i:Int) < (hh:Int))=true:=by simp; exact hi
   simp only [hd,bm,kA hp,h.p,bsm,e5,e6];have hlen:=h.len;by_cases ho:top+i < ks.length
   ·rw [eY hg ho];simp only [bsm,bL,eB,bm];obtain ⟨r,r1,r2,r3⟩:=hg.at ho;have hr:=zZ (l:=r.cells) (wr:=r.wrap) r1 r2 (by rw [r3]; exact hg.w1) (by rw [r3]; exact hg.w2) w1 w2;rw [hr];simp only [bsm];have ea:st.add_row_Row ⟨rz r.cells w,false⟩=st.addr [⟨rz r.cells w,false⟩]:=by simp [Sto.add_row_Row,Sto.addr]
    rw [ea];have c1':=c1.addr (xs:=[⟨rz r.cells w,false⟩]);have hg':=hg.addr (xs:=[⟨rz r.cells w,false⟩]);have hnew:(st.addr [⟨rz r.cells w,false⟩]).row_Row[st.row_Row.length]? = some ⟨rz r.cells w,false⟩:=by simp [Sto.addr]
    have hrw:Rw (st.addr [⟨rz r.cells w,false⟩]) w st.row_Row.length:=⟨_,hnew,CB r2 w,tI _ _⟩;rw [yP c1' (show i < ks'.length by omega) hrw];simp only [bsm];have hL:cs q.L (top+i)=r.cells:=by
     rw [Dq (by rw [←hl]; simpa using ho)];have:q.L[top+i]? = (ks.map (ln st))[top+i]? :=by rw [hl]
     rw [ag (by rw [←hl]; simpa using ho),bE,ag ho,fp,nk r1] at this;rw [be this]
    refine .inl ⟨_,rfl,rfl,hp,hg'.sgo (by omega) _,?_,ks'.set i st.row_Row.length,c1'.set hrw,FX c2 fun hm=>absurd (c1.r _ hm).lt (Nat.lt_irrefl _),by rw [cq]; exact c3,?_,c5.more (by omega) _ _ _⟩
    ·rw [←hl];refine dk fun x hx=>?_;rw [yI];exact vp (hg.r x hx).lt
    ·rw [←AA _ _ _ hi,←c4,hL,List.map_set,yI,nk hnew]
     congr 1
     refine dk fun x hx=>?_;rw [yI];exact vp (c1.r x hx).lt
   ·rw [sZ hg (.inr (by omega))];simp only [bsm,Option.isNone_none,cP,aj,aU];exact .inl ⟨_,rfl,rfl,hp,hg,hl,ks',c1,c2,c3,by rw [CG _ (by omega) hi]; exact c4,c5⟩)
  (fun q2 ⟨e,hp,_,_,ks',c1,c2,_,c4,c5⟩=>⟨q2.2,by
   have hd:decide (q2.1 < (hh:Int))=false:=by rw [e]; simp
   simp only [hd,aj,aU],hp,ks',c1,c2,by rw [c4,Ed],c5⟩)
  ⟨rfl,rfl,(h.g.addr (xs:=(bls w hh).map lr)).addg _,by
   rw [←h.l];refine dk fun x hx=>?_;exact vp (h.g.r x hx).lt,_,b1,Io,by simp,by rw [CF]; exact b2,Rf.begun _ _ hg2 _⟩ (by omega)
 obtain ⟨p1,ks',p2,p3,p4,p5⟩:=e2;exact ⟨t,ks',e1,p2,p3,p4,p1,p5⟩
def tp (c:ai) (h:Nat):Nat:=(c.Row - h+1).toNat
theorem GZ (h:Pv C s k g W q ks) (a b:Int):di q a b=some ⟨rs q.L (tp (hc q.At W ks.length) (sd b)) (sd a) (sd b),⟨(hc q.At W ks.length).Row - tp (hc q.At W ks.length) (sd b),min (hc q.At W ks.length).Col ((sd a:Int) - 1),false⟩,q.Auto⟩:=by
 have hd:=sX q.At h.g.w1 h.g.h1;have hl:=h.len;have hh2:=h.g.h2;have ha:=sL a;have hb:=sL b;have side:∀n:Int,bY n=some (sd n:Int):=fun n=>by
  unfold bY;by_cases h1:n < 1
  ·rw [ae (by simpa using h1)]
   congr 1
   unfold sd;omega
  ·rw [af (by simpa using h1)];by_cases h2:n > 1024
   ·rw [ae (by simpa using h2)]
    congr 1
    unfold sd;omega
   ·rw [af (by simpa using h2)]
    congr 1
    unfold sd;omega
 unfold di;rw [oy h];generalize hc q.At W ks.length=c at *;have hr:=hd.rr;simp only [bsm,side];obtain ⟨t,e1,e2⟩:=dV (σ:=(List ak)×Int) (τ:=((List ak)×Int)) (n:=tp c (sd b)) (fuel:=(c.Row - (sd b:Int)).toNat+2) (s:=(q.L,c.Row))
  (fun i q2=>q2=(q.L.drop i,c.Row - i)) (fun t=>t=(q.L.drop (tp c (sd b)),c.Row - tp c (sd b)))
  (step:=fun s_25=>
 if (decide (s_25.2≥(sd b:Int)))=true then
 (slc s_25.1 1 s_25.1.length).bind fun x_32=>
 some (.inl (x_32,(w64 (s_25.2 - 1))))
 else
 some (.inr (s_25.1,s_25.2)))
  (fun i q2 hi e=>by
   subst e;refine .inl ⟨_,?_,rfl⟩;unfold tp at hi;have hd:decide (c.Row - (i:Int)≥(sd b:Int))=true:=by simp; omega
   simp only [hd,bm];rw [show (1:Int)=((1:Nat):Int) from rfl,nU (by simp; omega) (az _),aF (by omega)];simp only [bsm,de];rw [aC (by simp; omega)]
   congr 3
   omega)
  (fun q2 e=>⟨q2,by
   subst e;have hd:decide (c.Row - (tp c (sd b):Int)≥(sd b:Int))=false:=by
    unfold tp;simp;omega
   simp only [hd,aj,aU],e⟩)
  (by simp) (by unfold tp; omega)
 subst e2;rw [e1];simp only [bsm];obtain ⟨t,e3,e4⟩:=dV (σ:=(List ak)×Int) (τ:=(List ak)) (n:=sd b) (fuel:=((sd b:Int) - 0).toNat+1) (s:=(([]:List ak),0))
  (fun i q2=>q2=((rs q.L (tp c (sd b)) (sd a) (sd b)).take i,(i:Int))) (fun t=>t=rs q.L (tp c (sd b)) (sd a) (sd b))
  (step:=fun s_45=>
 if (decide (s_45.2 < (sd b:Int)))=true then
 (if (decide (s_45.2 < ((q.L.drop (tp c (sd b))).length:Int)))=true then
 (idx (q.L.drop (tp c (sd b))) s_45.2).bind fun x_60=>
 (some (x_60.Cells):Option ((List ab)))
 else
 (some (([]:List ab)):Option ((List ab)))).bind fun z_52=>
 (dU z_52 (sd a:Int)).bind fun x_68=>
 (app s_45.1 ([(⟨x_68,false⟩:ak)]:List ak)).bind fun x_71=>
 some (.inl (x_71,(w64 (s_45.2+1))))
 else
 some (.inr (s_45.1)))
  (fun i q2 hi e=>by
   subst e;refine .inl ⟨_,?_,rfl⟩;have e5:w64 ((i:Int)+1)=((i+1:Nat):Int):=by rw [aF (by omega)]; simp
   have hd:decide ((i:Int) < (sd b:Int))=true:=by simp; exact hi
   have hz:(if (decide ((i:Int) < ((q.L.drop (tp c (sd b))).length:Int)))=true then (idx (q.L.drop (tp c (sd b))) (i:Int)).bind fun x_60=>(some (x_60.Cells):Option ((List ab))) else (some (([]:List ab)):Option ((List ab))))=some (cs q.L (tp c (sd b)+i)):=by
    by_cases ho:i < (q.L.drop (tp c (sd b))).length
    ·rw [ae (by simpa using ho),bc ho];have ho2:tp c (sd b)+i < q.L.length:=by simp at ho; omega
     rw [Dq ho2];simp only [bsm,List.getElem_drop]
    ·rw [af (by simpa using ho),Ac (by simp at ho; omega)]
   simp only [hd,bm,e5];rw [hz];simp only [bsm];have hcl:(cs q.L (tp c (sd b)+i)).length≤1000000:=by
    by_cases ho:tp c (sd b)+i < q.L.length
    ·rw [Dq ho,(h.ok _ (aG ho)).2];have:=h.g.w2;omega
    ·rw [Ac (by omega)];simp
   rw [zJ _ hcl ha.1 ha.2];simp only [bsm];have hlt:i < (rs q.L (tp c (sd b)) (sd a) (sd b)).length:=by simp [rs]; exact hi
   rw [cK (by simp; omega),av hlt];simp [rs])
  (fun q2 e=>⟨q2.1,by subst e; simp,by subst e; simp only; rw [aC (by simp [rs])]⟩)
  (by simp) (by omega)
 subst e4;rw [e3];simp only [bsm];rw [aF (by omega),dq]
theorem D6 (h:Pv C s k g W q ks) (a b:Int):∃s' q' g' ks',kQ s (some k) a b=some s'∧di q a b=some q'∧Pv C s' k g' (sd a) q' ks'∧q'.L=rs q.L (tp (hc q.At W ks.length) (sd b)) (sd a) (sd b)∧Hd q'.At (sd a) (sd b):=by
 have hd:=sX q.At h.g.w1 h.g.h1;have hh2:=h.g.h2;have ha:=sL a;have hb:=sL b;have sdd:∀n:Int,aE 1 (aB n 1024)=(sd n:Int):=fun n=>by
  rw [dq,eX];unfold sd;omega
 have hc1:=oN q.At h.g.w1 h.g.w2 h.g.h1 h.g.h2;have h39:=GZ h a b;generalize hc q.At W ks.length=c at *;have hr:=hd.rr;have hcc:=hd.cc;have etp:aE 0 (w64 ((w64 (c.Row - (sd b:Int)))+1))=(tp c (sd b):Int):=by
  rw [aF (n:=c.Row - (sd b:Int)) (by omega),aF (by omega),eX];unfold tp;omega
 obtain ⟨s',ks',e1,g1,g2,g3,g4,g5⟩:=Bf h ha.1 ha.2 hb.1 hb.2 (top:=tp c (sd b)) (by unfold tp; omega) rfl;have hgn:=yQ (s:=s) (sd a:Int) (sd b:Int);rw [Az ha.1 ha.2,Az hb.1 hb.2] at hgn;have hp':s'.place_Pen[k]? = some ⟨some g,q.At,q.Auto⟩:=by rw [kA g4]; exact h.p
 have hmv:jd (c.Row - (tp c (sd b):Int)) c.Col (sd a:Int) (sd b:Int)=some ⟨c.Row - tp c (sd b),min c.Col ((sd a:Int) - 1),false⟩:=by
  unfold jd;rw [oN _ ha.1 ha.2 hb.1 hb.2];simp only [bsm,hc,aR,ai.mk.injEq,lY,vW];unfold tp;omega
 refine ⟨(s'.sp k ⟨some s.grid_Grid.length,q.At,q.Auto⟩).sp k ⟨some s.grid_Grid.length,⟨c.Row - tp c (sd b),min c.Col ((sd a:Int) - 1),false⟩,q.Auto⟩,_,s.grid_Grid.length,ks',?_,h39,?_,rfl,⟨by simp only; unfold tp; omega,by simp only; omega,fun e=>by cases e⟩⟩
 ·unfold kQ;simp only [bL,fh,bsm,h.p,aj,aU];rw [jm h.g,eL h.g];simp only [bsm,sdd];rw [hc1];simp only [bsm];rw [hgn];simp only [bsm,etp];rw [e1];simp only [bsm,hp'];rw [iR (cz hp')];simp only [bsm];rw [aF (by unfold tp; omega),hmv];simp only [bsm];rw [iR (by simp [Sto.sp]; exact cz hp')];rfl
 ·rw [wE];exact ⟨xi (cz hp'),g1.sp _ _,g2,g3,(qY g4).trans h.o,(h.f.step g5 (kA g4)).sp _⟩
end Go.Proofs.YthokmpbbkpjhbaaGreatDoor
namespace Go.Proofs.YthokmpbbkpjhbaaGreatDoor
open Go Go.Lt
variable {s C:Sto} {x f k g W H:Nat} {q P:aa} {ks:List Nat} {op:Option Nat}
structure Mo where
 P:aa
 G:List Int
 h:List Int
structure Sd (C s:Sto) (x f k:Nat) (m:Mo) (q:aa):Prop where
 sc:s.screen_Screen[x]? = some ⟨some f,some k⟩
 bt:Bts m.h
 fd:∃g W H ks op,Fd C s f k g W H m.P m.G m.h q ks op
def lay (P:aa) (G:List Int):Option aa:=fo rX P (cls pj pr G)
def mdo (m:Mo) (o:aL):Option Mo:=
 if o.Kind=0 then some ⟨m.P,m.G++(bv m.h o.Bytes).1,(bv m.h o.Bytes).2⟩
 else if o.Kind=1 then (lay m.P (m.G++(if m.h= [] then [] else [65533]))).map fun q=>⟨q,[],[]⟩
 else if o.Kind=13 then (lay m.P m.G).bind fun q=>(di q o.A o.B).map fun q'=>⟨q',[],m.h⟩
 else if w38 o=0 then (lay m.P m.G).bind fun q=>(fG q o).map fun q'=>⟨q',[],m.h⟩
 else some m
def w40 (o:aL):Int:=if o.Kind=0∨o.Kind=1∨o.Kind=13 then 0 else w38 o
def e40 (o:aL):Er:=if o.Kind=0∨o.Kind=1∨o.Kind=13 then Er.nil else e38 o
theorem Fd.pen_work {h:List Int} (F:Fd C s f k g W H P [] h q ks none) {s':Sto} {g' W':Nat} {q':aa} {ks':List Nat} (v:Pv s s' k g' W' q' ks') (hh:Hd q'.At W' ks'.length):Fd C s' f k g' W' ks'.length q' [] h q' ks' none:=by
 obtain ⟨d,hd,hdv⟩:=F.d;refine ⟨v.self,F.fr.trans F.v.oG F.v.oR v.f,F.fz.oth v.o,rfl,hh,rfl,F.gv,⟨d,?_,hdv⟩,fun _=>rfl,fun e=>by cases e⟩;rw [ph v.o];exact hd
theorem wI {m:Mo} (S:Sd C s x f k m q) (o:aL) (hb:Bts o.Bytes) (hl:o.Bytes.length≤9223372036854775807):∃s' m' q',eH s (some x) o=some (s',e40 o)∧mdo m o=some m'∧Sd C s' x f k m' q':=by
 obtain ⟨g,W,H,ks,op,F⟩:=S.fd;have hC:C.screen_Screen[x]? = some ⟨some f,some k⟩:=by rw [←F.fz.sc]; exact S.sc
 have hs:∀{s':Sto} {g W H:Nat} {P:aa} {G h:List Int} {q:aa} {ks:List Nat} {op:Option Nat},Fd C s' f k g W H P G h q ks op→s'.screen_Screen[x]? = some ⟨some f,some k⟩:=fun F'=>by rw [F'.fz.sc]; exact hC
 unfold eH mdo e40;simp only [bL,aj,aU,bsm,aV,S.sc];by_cases k0:o.Kind=0
 ·obtain ⟨s',q',ks',op',b1,b2⟩:=BT F S.bt hl hb;rw [ae k0,ae k0,ae (.inl k0),b1];exact ⟨s',_,q',rfl,rfl,hs b2,tL S.bt hb,⟨_,_,_,_,_,b2⟩⟩
 rw [af k0,af k0];by_cases k1:o.Kind=1
 ·obtain ⟨s',q',ks',b1,b2,b3⟩:=BS F;rw [ae k1,ae k1,ae (.inr (.inl k1)),b1];unfold lay;rw [b3];exact ⟨s',_,q',rfl,rfl,hs b2,Bts.nil,⟨_,_,_,_,_,b2⟩⟩
 rw [af k1,af k1];by_cases k13:o.Kind=13
 ·obtain ⟨s2,b1,b2⟩:=tX F;obtain ⟨s',q',g',ks',c1,c2,c3,c4,c5⟩:=D6 b2.v o.A o.B;have hkl:ks'.length=sd o.B:=by rw [←c3.len,c4]; simp [rs]
  rw [ae k13,ae k13,ae (.inr (.inr k13)),b1];have hl2:lay m.P m.G=some q:=F.l;simp only [bsm,hs b2,hl2];rw [c1,c2];have F2:=b2.pen_work c3 (by rw [hkl]; exact c5);exact ⟨s',_,q',rfl,rfl,hs F2,S.bt,⟨_,_,_,_,_,F2⟩⟩
 rw [af k13,af k13,af (by omega),vD];simp only [bsm,AY];by_cases hw:w38 o=0
 ·rw [af (by simp [hw]),ae hw];obtain ⟨s2,b1,b2⟩:=tX F;obtain ⟨s',q',ks',c1,c2,c3,c4,c5,_⟩:=EP b2.v o hw;rw [b1];have hl2:lay m.P m.G=some q:=F.l;simp only [bsm,hs b2,hl2];rw [c1,c2];have he:e38 o=Er.nil:=by unfold e38; rw [hw]; rfl
  have F2:=b2.pen_work c3 (by rw [c4]; exact c5);exact ⟨s',_,q',by rw [he]; rfl,rfl,hs F2,S.bt,⟨_,_,_,_,_,F2⟩⟩
 ·rw [ae (by simpa using hw),af hw];exact ⟨s,m,q,rfl,rfl,S⟩
def vw (q:aa):gu:=⟨(q.L.getD 0 dl).Cells.length,(q.L.length:Int),q.L,q.At,q.Auto⟩
theorem ym {m:Mo} (S:Sd C s x f k m q):df s (some x)=some (vw q):=by
 obtain ⟨g,W,H,ks,op,F⟩:=S.fd;unfold df vw;simp only [bL,aj,aU,bsm,S.sc,F.v.p];rw [jm F.v.g,eL F.v.g,zV F.v.g,F.v.l];simp only [bsm];have hl:=F.v.len;have h1:=F.v.g.h1;rw [gdl (show 0 < q.L.length by omega),(F.v.ok _ (aG (show 0 < q.L.length by omega))).2,hl]
theorem Sd.ok {m:Mo} (S:Sd C s x f k m q):∃W:Nat,1≤W∧W≤1024∧1≤q.L.length∧q.L.length≤1024∧(∀l∈q.L,Okl W l)∧(vw q).Wide=(W:Int)∧Hd q.At W q.L.length:=by
 obtain ⟨g,W,H,ks,op,F⟩:=S.fd;have hl:=F.v.len;have h1:=F.v.g.h1;have h2:=F.v.g.h2;refine ⟨W,F.v.g.w1,F.v.g.w2,by omega,by omega,F.v.ok,?_,by rw [hl,F.n]; exact F.hd⟩;unfold vw;rw [gdl (show 0 < q.L.length by omega),(F.v.ok _ (aG (show 0 < q.L.length by omega))).2]
theorem zC (s:Sto) (w h:Int):∃s',kB s w h=some (s',some s.screen_Screen.length)∧Sd s' s' s.screen_Screen.length s.feed_Feeder.length s.place_Pen.length ⟨⟨bls (sd w) (sd h),⟨0,0,false⟩,true⟩,[],[]⟩ ⟨bls (sd w) (sd h),⟨0,0,false⟩,true⟩:=by
 obtain ⟨s1,ks,h1,v1⟩:=BE (s:=s) w h;have hks:=v1.g.h1;have hW1:=v1.g.w1;obtain ⟨s2,h2,d2,e2⟩:=Dm v1.self ⟨by simp only; omega,by simp only; omega,fun e=>by cases e⟩;unfold kB;rw [h1];simp only [bsm];rw [h2];simp only [bsm];have es:s1.screen_Screen=s.screen_Screen:=xu v1.o;have ef:s1.feed_Feeder=s.feed_Feeder:=ph v1.o;have es2:s2.screen_Screen=s1.screen_Screen:=by rw [e2]; rfl
 rw [es2,es,ef];rw [ef] at d2;refine ⟨_,rfl,⟨?_,Bts.nil,⟨s.grid_Grid.length,sd w,ks.length,ks,none,?_⟩⟩⟩
 ·have:(s2.add_screen_Screen ⟨some s.feed_Feeder.length,some s.place_Pen.length⟩).screen_Screen=s2.screen_Screen++ [⟨some s.feed_Feeder.length,some s.place_Pen.length⟩]:=rfl;rw [this,es2,es];simp
 ·obtain ⟨d,hd,hdv⟩:=d2.d;refine ⟨⟨d2.v.p,⟨d2.v.g.g,d2.v.g.r,d2.v.g.h1,d2.v.g.h2,d2.v.g.w1,d2.v.g.w2⟩,d2.v.nd,d2.v.l,rfl,d2.v.f.rgp ⟨rfl,rfl,rfl⟩ ⟨rfl,rfl,rfl⟩⟩,d2.v.f.rgp ⟨rfl,rfl,rfl⟩ ⟨rfl,rfl,rfl⟩,Fz.self _ _ _ (fun y hy=>?_) (cz hd),rfl,d2.hd,rfl,fun y hy=>by simp at hy,⟨d,hd,hdv⟩,fun _=>rfl,fun e=>by cases e⟩;have hy':s2.feed_Feeder[s.feed_Feeder.length]? = some y:=hy;rw [hd] at hy';cases hy';rfl
end Go.Proofs.YthokmpbbkpjhbaaGreatDoor
namespace Go.Proofs.YthokmpbbkpjhbaaGreatDoor
open Go Go.Lt
theorem CZ {γ:Type} {x:Option (γ×Bool)} (h:x.map (fun q=>q.2)=some true):∃s,x=some (s,true):=by
 cases x with
 | none=>cases h
 | some q=>
  obtain ⟨a,b⟩:=q;simp only [fp,aR] at h;subst h;exact ⟨a,rfl⟩
theorem FV {f:Sto→Option (Sto×Bool)} {s:Sto} (h1:(f s).map (fun q=>q.2)=some true) (h2:((f s).bind fun q=>f q.1).map (fun q=>q.2)=some true):∃s1 s2,f s=some (s1,true)∧f s1=some (s2,true):=by
 obtain ⟨s1,e1⟩:=CZ h1;rw [e1] at h2;obtain ⟨s2,e2⟩:=CZ h2;exact ⟨s1,s2,e1,e2⟩
theorem wf8 {n:Int} (h:(Lit.int .u8 n).wf=true):0≤n∧n≤255:=by
 simp only [Lit.wf,IntKind.min,IntKind.max,IntKind.signed,IntKind.bits,aw,an,aj,aU] at h;omega
end Go.Proofs.YthokmpbbkpjhbaaGreatDoor
namespace Go.Proofs.YthokmpbbkpjhbaaGreatDoor
open Go Go.Lt
variable {s C:Sto} {x f k g W H:Nat} {q P:aa} {ks:List Nat} {op:Option Nat}
set_option maxRecDepth 100000 in
theorem A8:(dx ⟨[],[],[],[],[],[]⟩).map (fun q=>q.2)=some true:=by kernel_rfl
set_option maxRecDepth 100000 in
theorem A7:((dx ⟨[],[],[],[],[],[]⟩).bind fun q=>dx q.1).map (fun q=>q.2)=some true:=by kernel_rfl
def Obs (l:List aL):Prop:=∀o∈l,Bts o.Bytes∧o.Bytes.length≤9223372036854775807
theorem rH {α:Type} (f:α→Nat) {l:List α} {i:Nat} (h:i < l.length):((l.take (i+1)).map f).sum=((l.take i).map f).sum+f l[i]:=by
 rw [av h,bG,IB];simp
theorem yh {α:Type} (f:α→Nat) (l:List α) (i:Nat):((l.take i).map f).sum≤(l.map f).sum:=by
 conv=>rhs; rw [←gK i l]
 rw [bG,IB];omega
end Go.Proofs.YthokmpbbkpjhbaaGreatDoor
namespace Go.Proofs.YthokmpbbkpjhbaaGreatDoor
open Go Go.Lt
variable {s C:Sto} {x f k:Nat} {q q':aa} {F:ao} {m m':Mo}
def ol (l:List aL):Nat:=(l.map fun o=>o.Bytes.length).sum
theorem BR (l:List aL) (hl:l.length≤9223372036854775807) (hb:∀o∈l,o.Bytes.length≤4611686018427387904):∃t,fB l=some t∧(t=false→l.length≤50∧ol l≤600):=by
 unfold fB;refine oA (σ:=Int×Int) (τ:=Bool ⊕ Unit) (n:=min l.length 60) (fun i (s:Int×Int)=>s=((ol (l.take i):Int),(i:Int))∧ol (l.take i)≤600) (fun u=>match u with | .inl b=>b=true | .inr _=>ol (l.take (min l.length 60))≤600) (fun i s hi e=>?_) (fun s e=>?_) ⟨rfl,by simp [ol]⟩ (by omega) (fun u hu=>?_)
 ·obtain ⟨rfl,hs⟩:=e;have hil:i < l.length:=by omega
  have hbi:=hb _ (aG hil);have e1:ol (l.take (i+1))=ol (l.take i)+l[i].Bytes.length:=rH (fun o:aL=>o.Bytes.length) hil;simp only [aZ,bsm];rw [ae (by simp; omega),bc hil];simp only [bsm,aZ,br];rw [aF (n:=(ol (l.take i):Int)+(l[i].Bytes.length:Int)) (by omega),aF (n:=(i:Int)+1) (by omega)];split
  ·exact .inr ⟨_,rfl,rfl⟩
  ·rename_i hn
   simp only [aD,an,FW] at hn;exact .inl ⟨_,rfl,by rw [e1]; simp,by rw [e1]; omega⟩
 ·obtain ⟨rfl,hs⟩:=e;simp only [aZ,bsm];rw [af (by simp; omega)];exact ⟨_,rfl,hs⟩
 ·cases u with
  | inl b=>simp only at hu; exact ⟨b,rfl,fun h=>by rw [hu] at h; cases h⟩
  | inr u=>
   refine ⟨_,rfl,fun h=>?_⟩;have h1:l.length≤50:=by simp at h; omega
   rw [aC (by omega)] at hu;exact ⟨h1,hu⟩
structure Tm (F:ao) (m:Mo):Prop where
 p:m.P=F.P
 g:m.G=F.Group
 h:m.h=(bv [] F.Raw).2
 n:F.Parts=((bv [] F.Raw).1.length:Int)
 b:Bts F.Raw
theorem Sd.gv (S:Sd C s x f k m q):∀y∈m.G,vld y=true:=by
 obtain ⟨g,W,H,ks,op,F⟩:=S.fd;exact F.gv
theorem Sd.lay1 (S:Sd C s x f k m q):lay m.P m.G=some q:=by
 obtain ⟨g,W,H,ks,op,F⟩:=S.fd;exact F.l
theorem Br (hv:∀y∈F.Group,vld y=true) (hb:Bts F.Raw) (hl:F.Raw.length≤1000000) (hg:F.Group.length < 1000000) (b3:lay F.P (F.Group++(if (bv [] F.Raw).2= [] then [] else [65533]))=some q'):dE F=some ⟨q',[],[],0⟩:=by
 unfold lay at b3;unfold dE;rw [yu hb hl];simp only [bsm];have hgv:∀x∈F.Group++(if (bv [] F.Raw).2= [] then [] else [65533]),vld x=true:=fun x hx=>by
  rcases List.mem_append.1 hx with hx | hx
  ·exact hv x hx
  ·split at hx
   ·simp at hx
   ·rw [List.mem_singleton.1 hx]; rfl
 by_cases hh:(bv [] F.Raw).2= []
 ·rw [af (by rw [hh]; simp)];rw [ae hh,eC] at b3;simp only [bsm];have:=ra (F:=⟨⟨F.P.L,⟨F.P.At.Row,F.P.At.Col,F.P.At.Pending⟩,F.P.Auto⟩,F.Group,[],0⟩) hv (by simp only; omega) b3;rw [this];rfl
 ·have hpos:0 < (bv [] F.Raw).2.length:=by
   cases hc:(bv [] F.Raw).2 with
   | nil=>exact absurd hc hh
   | cons _ _=>simp
  rw [ae (by simpa using hpos),CH (by omega)];rw [af hh] at b3 hgv;simp only [bsm];have:=ra (F:=⟨⟨F.P.L,⟨F.P.At.Row,F.P.At.Col,F.P.At.Pending⟩,F.P.Auto⟩,F.Group++ [fM 65533],[],0⟩) hgv (by simp; omega) b3;rw [this];rfl
theorem CP (T:Tm F m) (hv:∀y∈m.G,vld y=true) (hq:lay m.P m.G=some q) {o:aL} (hb:Bts o.Bytes) (hl:F.Raw.length+o.Bytes.length≤1000000) (hg:F.Group.length < 1000000) (hm:mdo m o=some m'):
  ∃F',gX F o=some (F',w40 o)∧Tm F' m'∧F'.Raw.length≤F.Raw.length+o.Bytes.length∧F'.Group.length≤F.Group.length+2 * o.Bytes.length:=by
 obtain ⟨P,G,h⟩:=m;obtain ⟨p,g,hh,hn,hbt⟩:=T;simp only at p g hh hv hq hm;subst p g hh;unfold mdo at hm;unfold gX w40;simp only [aV] at hm⊢;by_cases k0:o.Kind=0
 ·rw [ae k0] at hm;cases hm;rw [ae k0,ae (.inl k0),BA hn hbt hb hl (by omega)];have hap:=ow [] F.Raw o.Bytes;have hlen:=wK (bv [] F.Raw).2 o.Bytes;refine ⟨_,rfl,⟨rfl,rfl,?_,rfl,fun y hy=>?_⟩,by simp,by simp only [aA]; omega⟩
  ·simp only [hap]
  ·rcases List.mem_append.1 hy with hy | hy
   ·exact hbt y hy
   ·exact hb y hy
 rw [af k0] at hm⊢;by_cases k1:o.Kind=1
 ·rw [ae k1] at hm;rw [ae k1,ae (.inr (.inl k1))];simp only [kL] at hm;obtain ⟨q1,h1,rfl⟩:=hm;rw [Br hv hbt (by omega) hg h1];exact ⟨_,rfl,⟨rfl,rfl,rfl,rfl,fun y hy=>by simp at hy⟩,by simp,by simp⟩
 rw [af k1] at hm⊢;by_cases k13:o.Kind=13
 ·rw [ae k13] at hm;rw [ae k13,ae (.inr (.inr k13)),ra hv (by omega) hq];rw [hq] at hm;simp only [bsm,kL] at hm⊢;obtain ⟨q1,h1,rfl⟩:=hm;rw [h1];exact ⟨_,rfl,⟨rfl,rfl,rfl,hn,hbt⟩,by simp,by simp⟩
 rw [af k13] at hm;rw [af k13,af (by omega),yw];simp only [bsm];by_cases hw:w38 o=0
 ·rw [ae hw] at hm⊢;rw [ra hv (by omega) hq];rw [hq] at hm;simp only [bsm,kL] at hm⊢;obtain ⟨q1,h1,rfl⟩:=hm;rw [h1];exact ⟨_,rfl,⟨rfl,rfl,rfl,hn,hbt⟩,by simp,by simp⟩
 ·rw [af hw] at hm⊢;cases hm;exact ⟨_,rfl,⟨rfl,rfl,rfl,hn,hbt⟩,by simp,by simp⟩
theorem Ch (S:Sd C s x f k m q):ga (vw q) (vw q)=some true:=by
 obtain ⟨W2,w1,w2,l1,l2,hok,hwd,hhd⟩:=S.ok;unfold ga;have e1:(vw q).Lines=q.L:=rfl;rw [e1,zD l2 w2 hok];simp [bI,bsm]
theorem zK (S:Sd C s x f k m q):fZ q=some (vw q):=by
 obtain ⟨g,W,H,ks,op,F⟩:=S.fd;unfold fZ vw;have hl:=F.v.len;have h1:=F.v.g.h1;rw [qu F.v,gdl (show 0 < q.L.length by omega),(F.v.ok _ (aG (show 0 < q.L.length by omega))).2];rfl
def mr (m:Mo) (l:List aL):Option Mo:=l.foldl (fun a o=>a.bind fun m=>mdo m o) (some m)
theorem AK (m:Mo) {l:List aL} {i:Nat} (h:i < l.length):mr m (l.take (i+1))=(mr m (l.take i)).bind fun m=>mdo m l[i]:=by
  rw [av h];unfold mr;rw [lC];rfl
def Non (l:List aL) (n:Nat):Prop:=∀j o,j < n→l[j]? = some o→w40 o=0
def Fst (l:List aL) (n j:Nat) (o:aL):Prop:=j < n∧l[j]? = some o∧w40 o≠0∧Non l j
def Fe (l:List aL) (n:Nat) (e:Er):Prop:=(e= .nil∧Non l n)∨∃j o,Fst l n j o∧e= .fault (j:Int) (e40 o)
def Fa (l:List aL) (n:Nat) (a w:Int):Prop:=(a= -1∧w=0∧Non l n)∨∃j o,Fst l n j o∧a=(j:Int)∧w=w40 o
theorem Non.zero (l:List aL):Non l 0:=fun j o h=>by omega
theorem Non.succ {l:List aL} {i:Nat} (h:Non l i) (hi:i < l.length) (hw:w40 l[i]=0):Non l (i+1):=fun j o hj ho=>by
  by_cases e:j=i
  · subst e
    rw [ag hi] at ho;cases ho;exact hw
  · exact h j o (by omega) ho
theorem Fst.succ {l:List aL} {i j:Nat} {o:aL} (h:Fst l i j o):Fst l (i+1) j o:=⟨Ik h.1,h.2⟩
theorem Fst.new {l:List aL} {i:Nat} (h:Non l i) (hi:i < l.length) (hw:w40 l[i]≠0):Fst l (i+1) i l[i]:=⟨It i,ag hi,hw,h⟩
theorem Fst.not {l:List aL} {i j:Nat} {o:aL} (h:Fst l i j o) (k:Non l i):False:=h.2.2.1 (k j o h.1 h.2.1)
theorem Fst.one {l:List aL} {i j j':Nat} {o o':aL} (h:Fst l i j o) (k:Fst l i j' o'):j=j'∧o=o':=by
  have e:j=j':=by
    rcases Ij j j' with e | e | e
    · exact absurd (k.2.2.2 j o e h.2.1) h.2.2.1
    · exact e
    · exact absurd (h.2.2.2 j' o' e k.2.1) k.2.2.1
  subst e;have:=h.2.1.symm.trans k.2.1;cases this;exact ⟨rfl,rfl⟩
theorem ER (o:aL):(e40 o).isNil=(w40 o==0):=by
  unfold e40 w40;split
  · rfl
  · exact AY o
theorem Fu (o:aL):0≤w40 o:=by
  unfold w40;split
  · omega
  · rcases zx o with h | h | h <;> omega
theorem ve (S:Sd C s x f k m q) (l:List aL) (hl:l.length≤9223372036854775807) (hb:Obs l):
    ∃s' e m' q',dY s (some x) l=some (s',e)∧mr m l=some m'∧Sd C s' x f k m' q'∧Fe l l.length e:=by
  suffices h:∃r,dY s (some x) l=some r∧(∃m' q',mr m l=some m'∧Sd C r.1 x f k m' q'∧Fe l l.length r.2) by
    obtain ⟨r,h1,m',q',h2,h3,h4⟩:=h;exact ⟨r.1,r.2,m',q',h1,h2,h3,h4⟩
  unfold dY;refine oA (n:=l.length) (fun i (a:Er×Int×Sto)=>a.2.1=(i:Int)∧∃m' q',mr m (l.take i)=some m'∧Sd C a.2.2 x f k m' q'∧Fe l i a.1)
    (fun (u:Er×Sto)=>∃m' q',mr m l=some m'∧Sd C u.2 x f k m' q'∧Fe l l.length u.1) (fun i a hi hI=>?_) (fun a hI=>?_) ⟨rfl,m,q,rfl,S,.inl ⟨rfl,Non.zero l⟩⟩ (by omega) (fun u hu=>⟨_,rfl,hu⟩)
  · obtain ⟨e,i',st⟩:=a
    obtain ⟨e1,m1,q1,hm,S1,hF⟩:=hI;simp only at e1 S1 hF;subst e1;simp only;rw [ae (dlt hi),er hi hl];obtain ⟨hb1,hb2⟩:=hb _ (aG hi);obtain ⟨s',m2,q2,a1,a2,a3⟩:=wI S1 l[i] hb1 hb2;simp only [bc hi,bsm];rw [a1];simp only [bsm,aZ,ER];have hm2:mr m (l.take (i+1))=some m2:=by rw [AK m hi,hm]; exact a2
    rcases hF with ⟨rfl,hn⟩ | ⟨j,o,h1,rfl⟩
    · by_cases hw:w40 l[i]=0
      · rw [af (by simp [hw])]
        exact .inl ⟨_,rfl,rfl,m2,q2,hm2,a3,.inl ⟨rfl,hn.succ hi hw⟩⟩
      · rw [ae (by simp [hw,Er.isNil])]
        exact .inl ⟨_,rfl,rfl,m2,q2,hm2,a3,.inr ⟨i,l[i],Fst.new hn hi hw,rfl⟩⟩
    · rw [af (by simp [Er.isNil])]
      exact .inl ⟨_,rfl,rfl,m2,q2,hm2,a3,.inr ⟨j,o,h1.succ,rfl⟩⟩
  · obtain ⟨e,i',st⟩:=a
    obtain ⟨e1,m1,q1,hm,S1,hF⟩:=hI;simp only at e1 S1 hF;subst e1;refine ⟨_,by simp only; rw [af (by simp)],m1,q1,?_,S1,hF⟩;rw [←hm,om]
theorem Obs.take {l:List aL} (h:Obs l) (i:Nat):Obs (l.take i):=fun o ho=>h o (cO ho)
theorem Bv {w h:Int} (S:Sd C s x f k m q) (l:List aL) (hl:l.length≤50) (hb:Obs l) (hs:ol l≤600) {F0:ao} (hN:fm w h=some F0) (T0:Tm F0 m) (hr:F0.Raw= []) (hg:F0.Group= []):
    ∃F' a y m',fk w h l=some (F',a,y)∧mr m l=some m'∧Tm F' m'∧F'.Raw.length≤ol l∧F'.Group.length≤2 * ol l∧Fa l l.length a y:=by
  suffices h:∃r,fk w h l=some r∧∃m',mr m l=some m'∧Tm r.1 m'∧r.1.Raw.length≤ol l∧r.1.Group.length≤2 * ol l∧Fa l l.length r.2.1 r.2.2 by
    obtain ⟨r,h1,m',h2⟩:=h;exact ⟨r.1,r.2.1,r.2.2,m',h1,h2⟩
  unfold fk;rw [hN];simp only [bsm];refine oA (n:=l.length) (fun i a=>∃(F:ao) (m1:Mo) (t y:Int),a=(t,y,(i:Int),F.P.L,F.P.At.Row,F.P.At.Col,F.P.At.Pending,F.P.Auto,F.Group,F.Raw,F.Parts)∧mr m (l.take i)=some m1∧Tm F m1∧F.Raw.length≤ol (l.take i)∧F.Group.length≤2 * ol (l.take i)∧Fa l i t y)
    (fun u=>∃(F:ao) (m1:Mo) (t y:Int),u=(t,y,F.P.L,F.P.At.Row,F.P.At.Col,F.P.At.Pending,F.P.Auto,F.Group,F.Raw,F.Parts)∧mr m l=some m1∧Tm F m1∧F.Raw.length≤ol l∧F.Group.length≤2 * ol l∧Fa l l.length t y) (fun i a hi hI=>?_) (fun a hI=>?_)
    ⟨F0,m,-1,0,rfl,rfl,T0,by rw [hr]; simp,by rw [hg]; simp,.inl ⟨rfl,rfl,Non.zero l⟩⟩ (by omega) (fun u hu=>?_)
  · obtain ⟨F,m1,t,y,rfl,hm,T,h1,h2,hF⟩:=hI
    simp only;rw [ae (dlt hi),er hi (by omega)];obtain ⟨hb1,hb2⟩:=hb _ (aG hi);have e1:ol (l.take (i+1))=ol (l.take i)+l[i].Bytes.length:=rH (fun o:aL=>o.Bytes.length) hi;have e2:ol (l.take (i+1))≤ol l:=yh (fun o:aL=>o.Bytes.length) l (i+1);obtain ⟨s1,_,m1',q1,_,b2,S1,_⟩:=ve S (l.take i) (by simp; omega) (hb.take i);obtain rfl:m1=m1':=by rw [hm] at b2; exact be b2
    obtain ⟨_,m2,_,_,a2,_⟩:=wI S1 l[i] hb1 hb2;have hm2:mr m (l.take (i+1))=some m2:=by rw [AK m hi,hm]; exact a2
    obtain ⟨F',c1,T',c3,c4⟩:=CP T S1.gv S1.lay1 hb1 (by omega) (by omega) a2;have hFe:(⟨(⟨F.P.L,(⟨F.P.At.Row,F.P.At.Col,F.P.At.Pending⟩:ai),F.P.Auto⟩:aa),F.Group,F.Raw,F.Parts⟩:ao)=F:=rfl;simp only [bc hi,bsm];rw [hFe,c1];simp only [bsm,aZ];have hp:=Fu l[i];rcases hF with ⟨rfl,rfl,hn⟩ | ⟨j,o,g1,rfl,rfl⟩
    · by_cases hw:w40 l[i]=0
      · rw [af (by simp [hw])]
        exact .inl ⟨_,rfl,F',m2,_,_,rfl,hm2,T',by omega,by omega,.inl ⟨rfl,rfl,hn.succ hi hw⟩⟩
      · rw [ae (by simp; omega)]
        exact .inl ⟨_,rfl,F',m2,_,_,rfl,hm2,T',by omega,by omega,.inr ⟨i,l[i],Fst.new hn hi hw,rfl,rfl⟩⟩
    · rw [af (by simp)]
      exact .inl ⟨_,rfl,F',m2,_,_,rfl,hm2,T',by omega,by omega,.inr ⟨j,o,g1.succ,rfl,rfl⟩⟩
  · obtain ⟨F,m1,t,y,rfl,hm,T,h1,h2,hF⟩:=hI
    rw [om] at hm h1 h2;exact ⟨_,by simp only; rw [af (by simp)],F,m1,t,y,rfl,hm,T,h1,h2,hF⟩
  · obtain ⟨F,m1,t,y,rfl,hm,T,h1,h2,hF⟩:=hu
    exact ⟨_,rfl,m1,hm,T,h1,h2,hF⟩
theorem Ad (i:Int) {o:aL} (h:w40 o≠0):mu (.fault i (e40 o))=some (w40 o):=by
  unfold w40 at h⊢;unfold e40;by_cases hk:o.Kind=0∨o.Kind=1∨o.Kind=13
  · rw [ae hk] at h
    exact absurd rfl h
  rw [af hk] at h;rw [af hk,af hk];unfold e38;rcases zx o with h2 | h2 | h2
  · rw [h2]; rfl
  · rw [h2]; rfl
  · exact absurd h2 h
theorem zL (w h:Int):fm w h=some ⟨⟨bls (sd w) (sd h),⟨0,0,false⟩,true⟩,[],[],0⟩:=by
  have h1:=sL w;have h2:=sL h;unfold fm;rw [eX,dq,eX,dq,show max (1:Int) (min w 1024)=(sd w:Int) by unfold sd; omega,show max (1:Int) (min h 1024)=(sd h:Int) by unfold sd; omega,Bw h1.2 h2.2];rfl
theorem uy (d:gi) (l:List aL) (hl:l.length≤9223372036854775807) (hb:Obs l) (hs:∀o∈l,o.Bytes.length≤4611686018427387904):∃st,dN ⟨[],[],[],[],[],[]⟩ d l=some (st,true):=by
  unfold dN;obtain ⟨s1,s2,h1,h2⟩:=FV A8 A7;obtain ⟨t,ht,ht2⟩:=BR l hl hs;rw [h1];simp only [bsm,cP,fh,ht];by_cases hg:t=true
  · rw [ae hg,h2]
    exact ⟨_,rfl⟩
  rw [af hg];obtain ⟨hL,hS⟩:=ht2 (by simpa using hg);generalize w64 (1+w64 ((IntKind.u64.wrap d.H).tmod 6))=H;obtain ⟨s3,h3,S3⟩:=zC s1 d.W H;rw [h3];simp only [bsm];generalize s1.screen_Screen.length=x at *;generalize s1.feed_Feeder.length=f at *;generalize s1.place_Pen.length=k at *;obtain ⟨s4,e,m1,q1,a1,a2,S4,a4⟩:=ve S3 l hl hb;obtain ⟨F,a,y,m2,b1,b2,T,b4,b5,b6⟩:=Bv S3 l hL hb hS (zL d.W H) ⟨rfl,rfl,rfl,rfl,fun y hy=>by simp at hy⟩ rfl rfl;obtain rfl:m1=m2:=by rw [a2] at b2; exact be b2
  rw [a1,b1];simp only [bsm];rw [ym S4];have hv':=S4.gv;have hq':=S4.lay1;rw [T.g] at hv';rw [T.p,T.g] at hq';simp only [bsm];rw [AD hv' (by omega) hq'];simp only [bsm];rw [zK S4];simp only [bsm];rw [Ch S4];simp only [bsm,cP,fh];have hfin:∀st:Sto,∃r,((df st (none:Option Nat)).bind fun g=>
 (eH st (none:Option Nat) (⟨0,0,0,([]:List Int)⟩:aL)).bind fun c=>
 (mu c.2).bind fun w=>
 (bI (w==8) (some (g.Wide==0))).bind fun p=>
 (bI p (some ((g.Lines.length:Int)==0))).bind fun h=>
 (bI h ((iU c.1 (none:Option Nat)).bind fun k=>
 some (k==0))).bind fun i=>
 (bI i ((iT c.1 (none:Option Nat)).bind fun l=>
 some ((l.length:Int)==0))).bind fun j=>
 some (c.1,j))=some (r,true):=fun st=>⟨st,rfl⟩
  rcases a4 with ⟨rfl,hn⟩ | ⟨j,o,hj,rfl⟩
  · rcases b6 with ⟨rfl,rfl,_⟩ | ⟨j',o',hj',_⟩
    · rw [af (by simp [Er.isNil])]
      simp only [show decide ((-1:Int)≥0)=false from rfl,gt,bsm,aj,aU];exact hfin s4
    · exact absurd hn fun h=>hj'.not h
  · rcases b6 with ⟨rfl,rfl,hn⟩ | ⟨j',o',hj',rfl,rfl⟩
    · exact absurd hn fun h=>hj.not h
    · obtain ⟨rfl,rfl⟩:=hj.one hj'
      rw [af (by simp [Er.isNil])];have h0:decide (((j:Nat):Int)≥0)=true:=by simp
      rw [h0,gq,Ad _ hj.2.2.1];simp only [bsm,Ih,fh,td,aj,aU];exact hfin s4
end Go.Proofs.YthokmpbbkpjhbaaGreatDoor
