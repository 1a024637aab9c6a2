/- Parts of the proofs of MirrorGroups: the walk through the code, and plain Lean. No condition. -/
import Derived.Test.YtclmdpamofdoiaaGreatDoorMgC
import Derived.Test.YtclmdpamofdoiaaGreatDoorMgB
import Derived.Test.YtclmdpamofdoiaaGreatDoorMgA
import Derived.Test.YtclmdpamofdoiaaGreatDoorProg
import Derived.KernelRfl
set_option linter.unusedVariables false
set_option linter.unusedSimpArgs false
namespace Go.Proofs.YtclmdpamofdoiaaGreatDoor
open Go Go.Lt
theorem qZ {c:List Int} {k n:Nat} (h1:1≤k) (hk:k < n) (hlt:k < c.length) (hb:bg (c.take k)=(n:Int)):
  bg (c.take (k+1))=if (if k=1 then slo (c.headD 0) else 128)≤c[k]∧c[k]≤(if k=1 then shi (c.headD 0) else 191) then (n:Int) else 0:=by
 have hn:=(og (c.take k)).2;have:k=1∨k=2∨k=3:=by omega
 rcases this with rfl | rfl | rfl
 ·match c,hlt,hb with
  | a :: b :: t,_,hb=>
   simp only [be,ba,bg] at hb⊢;simp only [tD,lB,lA,mG];by_cases g:slo a≤b∧b≤shi a
   ·rw [aj ⟨by omega,g⟩,aj g,hb]
   ·rw [am (fun q=>g q.2),am g]
 ·match c,hlt,hb with
  | a :: b :: x :: t,_,hb=>
   simp only [be,ba,bg] at hb⊢;simp only [lB,lA,show ¬(2:Nat)=1 by decide,jl];split at hb
   ·rename_i q
    by_cases g:128≤x∧x≤191
    ·rw [aj ⟨by omega,q.2.1,q.2.2,g⟩,aj g,hb]
    ·rw [am (fun q=>g q.2.2.2),am g]
   ·omega
 ·match c,hlt,hb with
  | a :: b :: x :: y :: t,_,hb=>
   simp only [be,ba,bg] at hb⊢;simp only [lB,lA,show ¬(3:Nat)=1 by decide,jl];split at hb
   ·rename_i q
    have:=mh a;by_cases g:128≤y∧y≤191
    ·rw [aj ⟨by omega,q.2.1,q.2.2.1,q.2.2.2.1,q.2.2.2.2,g⟩,aj g];omega
    ·rw [am (fun q=>g ⟨q.2.2.2.2.2.1,q.2.2.2.2.2.2⟩),am g]
   ·omega
theorem ot {c:List Int} (hc:c≠ []) (hb:Bts c) (hl:c.length≤1000000):∃k n:Nat,cQ c=some ((k:Int),(n:Int))∧GK c k∧(k=0→n=0)∧(0 < k→bg (c.take k)=(n:Int)∧k≤n):=by
 obtain ⟨a,t,rfl⟩:∃a t,c=a :: t:=by
  cases c with
  | nil=>exact absurd rfl hc
  | cons a t=>exact ⟨a,t,rfl⟩
 have ha:=hb a (by simp);have h0:idx (a :: t) 0=some a:=rfl;have hld:=mh a;unfold cQ;rw [h0];simp only [bsm];rw [nO ha];simp only [bsm];obtain ⟨n,hn⟩:∃n:Nat,ld a=(n:Int):=⟨(ld a).toNat,by omega⟩;rw [hn];by_cases h2:n < 2
 ·rw [aj (by rw [aq]; omega)];refine ⟨n,n,rfl,⟨by simp only [af]; omega,fun m m1 m2=>by omega,fun hk=>?_,fun hk=>?_,fun hk hw=>?_⟩,fun h=>h,fun hk=>⟨?_,ah _⟩⟩
  ·subst hk;simp only [be,ba,bg];exact hn
  ·obtain rfl:n=1:=by omega
   simp only [be,ba,bg];omega
  ·obtain rfl:n=1:=by omega
   simp only [be,ba,bg] at hw;omega
  ·obtain rfl:n=1:=by omega
   simp only [be,ba,bg];exact hn
 ·rw [am (by rw [aq]; omega),ov ha (by omega)];simp only [bsm]
  suffices h:∃t',cw (σ:=Int×Int×Int) (τ:=Int) (((n:Int) - 1).toNat+1) (fun s=>
    (bS (decide (s.2.2 < (n:Int))) (some (decide (s.2.2 < ((a :: t).length:Int))))).bind fun d=>
    (bS d ((idx (a :: t) s.2.2).bind fun i=>some (decide (i≥s.1)))).bind fun e=>
    (bS e ((idx (a :: t) s.2.2).bind fun j=>some (decide (j≤s.2.1)))).bind fun f=>
    if f=true then some (.inl (128,191,(w64 (s.2.2+1)))) else some (.inr (s.2.2))) (slo a,shi a,1)=some t'∧∃k:Nat,t'=(k:Int)∧1≤k∧k≤n∧k≤(a :: t).length∧(∀m,1≤m→m≤k→bg ((a :: t).take m)=(n:Int))∧(k=n∨k=(a :: t).length∨bg ((a :: t).take (k+1))=0) by
   obtain ⟨t',h1,k,rfl,k1,kn,kl,hI,hE⟩:=h;rw [h1];simp only [bsm];refine ⟨k,n,rfl,⟨kl,fun m m1 m2=>by rw [hI m m1 (by omega)]; omega,fun h=>by omega,fun _=>by rw [hI k k1 (ah _)]; omega,fun _ hw=>?_⟩,fun h=>by omega,fun _=>⟨hI k k1 (ah _),kn⟩⟩;rw [hI k k1 (ah _)] at hw;rcases hE with h | h | h
   ·omega
   ·exact .inl h
   ·exact .inr h
  refine kx (fun s=>∃k:Nat,s=((if k=1 then slo a else 128),(if k=1 then shi a else 191),(k:Int))∧1≤k∧k≤n∧k≤(a :: t).length∧∀m,1≤m→m≤k→bg ((a :: t).take m)=(n:Int)) (fun s=>n - s.2.2.toNat) _ (fun s hs=>?_) _ _ ⟨1,rfl,ah _,by omega,by simp only [af]; omega,fun m m1 m2=>?_⟩ (by simp only; omega)
  ·obtain ⟨k,rfl,k1,kn,kl,hI⟩:=hs;simp only;by_cases hk:k < n∧k < (a :: t).length
   ·have hnx:=qZ k1 hk.1 hk.2 (hI k k1 (ah _));rw [tD] at hnx;rw [show decide ((k:Int) < (n:Int))=true by rw [aq]; omega,dlt hk.2,cr,Bool.and_self];simp only [bsm];rw [iA,fF hk.2];simp only [bsm];rw [cr];simp only [bsm];by_cases g:(if k=1 then slo a else 128)≤(a :: t)[k]∧(a :: t)[k]≤(if k=1 then shi a else 191)
    ·rw [aj (by rw [aF,aq,aq]; exact g)];rw [aj g] at hnx;refine .inl ⟨_,rfl,⟨k+1,?_,by omega,by omega,by omega,fun m m1 m2=>?_⟩,?_⟩
     ·rw [am (by omega),am (by omega),bj (by omega)];simp
     ·by_cases hm:m≤k
      ·exact hI m m1 hm
      ·obtain rfl:m=k+1:=by omega
       exact hnx
     ·show n - (w64 ((k:Int)+1)).toNat < n - ((k:Int)).toNat;rw [bj (by omega)];omega
    ·rw [am (by rw [aF,aq,aq]; exact g)];rw [am g] at hnx;exact .inr ⟨_,rfl,k,rfl,k1,kn,kl,hI,.inr (.inr hnx)⟩
   ·have hd:(bS (decide ((k:Int) < (n:Int))) (some (decide ((k:Int) < ((a :: t).length:Int)))))=some false:=by
     rw [cr]
     congr 1
     rw [rT,eF,eF];omega
    rw [hd];simp only [bsm,gK,bh,jl];refine .inr ⟨_,rfl,k,rfl,k1,kn,kl,hI,?_⟩;omega
  ·obtain rfl:m=1:=by omega
   simp only [be,ba,bg];exact hn
theorem oq {f:List Int} (hb:Bts f) (hne:f≠ []) (hw:bg f=(f.length:Int)):eD f=some (vl f):=by
 obtain ⟨a,t,rfl⟩:∃a t,f=a :: t:=by
  cases f with
  | nil=>exact absurd rfl hne
  | cons a t=>exact ⟨a,t,rfl⟩
 have ha:=hb a (by simp);have h0:idx (a :: t) 0=some a:=rfl;have hle:=(og (a :: t)).2;have htl:t.length≤3:=by simp only [af] at hw; omega
 have hbp:∀i,1≤i→i≤(a :: t).length→bg ((a :: t).take i)=bg (a :: t):=fun i h1 h2=>lV (by rw [hw]; simp only [af]; omega) h1 h2;have hl1:ld a=((a :: t).length:Int):=by
  have h:bg [a]=bg (a :: t):=hbp 1 (ah _) (by simp);exact h.trans hw
 unfold eD;rw [h0];simp only [bsm];rw [qe ha (by rw [hl1]; simp only [af]; omega)];simp only [bsm];have hs:=kb (xs:=a :: t) (i:=1) (j:=(a :: t).length) (by simp) (ah _);rw [show ((1:Nat):Int)=1 from rfl,sF,fy,au (by simp)] at hs;rw [hs];simp only [bsm];have htake:∀i,(a :: t).take (i+1)=a :: t.take i:=fun i=>rfl;have hv:∀i,i≤t.length→0≤vl (a :: t.take i)∧vl (a :: t.take i)≤2000000000∧(i < t.length→vl (a :: t.take i)≤131071):=by
  intro i hi;by_cases hlt:i < t.length
  ·have hh:Hh (a :: t.take i):=by
    refine .inr ?_;rw [←htake,hbp (i+1) (by omega) (by simp only [af]; omega),hw];simp only [ae,af];omega
   have:=rk hh (fun x hx=>hb x (by rw [←htake] at hx; exact ep hx)) (by simp);exact ⟨this.1,by omega,fun _=>this.2⟩
  ·rw [au (by omega)];have:=lX hb hw (by simp);exact ⟨this.2.1,this.2.2,fun h=>by omega⟩
 have hlast:=hv t.length (ah _);rw [kO] at hlast;have h32:w32 (vl (a :: t))=vl (a :: t):=by
  rw [pK (by omega)]
 refine fE (n:=t.length) (fun i s=>s=(vl (a :: t.take i),(i:Int))) (fun u=>u=vl (a :: t)) (fun i s hi e=>?_) (fun s e=>?_) rfl (by omega) (fun u e=>by rw [e,h32])
 ·left
  subst e;simp only;rw [aj (dlt hi),fF hi];simp only [bsm];have hx:128≤t[i]∧t[i]≤191:=by
   have hk:=hbp (i+2) (by omega) (by simp only [af]; omega);rw [hw] at hk;rw [htake,aA hi] at hk;have hh:i=0∨i=1∨i=2:=by omega
   have hq:=hb t[i] (mF _ (cL hi));rcases hh with rfl | rfl | rfl
   ·simp only [ba,aG,bg] at hk;split at hk
    ·rename_i q
     unfold slo shi at q;have h1:=q.2.1;have h2:=q.2.2;split at h1 <;> split at h2 <;> (try split at h1) <;> (try split at h2) <;> omega
    ·simp only [af] at hk; omega
   ·match t,hi,hk with
    | b :: x :: t',_,hk=>
     simp only [be,ba,bp,aG,bg] at hk;split at hk
     ·rename_i q
      exact q.2.2.2
     ·simp only [af] at hk; omega
   ·match t,hi,hk with
    | b :: x :: y :: t',_,hk=>
     simp only [be,ba,bp,aG,bg] at hk;split at hk
     ·rename_i q
      exact ⟨q.2.2.2.2.2.1,q.2.2.2.2.2.2⟩
     ·simp only [af] at hk; omega
  obtain ⟨v0,_,v2⟩:=hv i (by omega);have v3:=v2 hi;have hsn:=oG (h:=a :: t.take i) (by simp) t[i];rw [bp,←aA hi] at hsn;have hbits:qm .i64 (w64 (vl (a :: t.take i) * 2 ^ 6)) (w64 (jS .u8 t[i] 63))=vl (a :: t.take (i+1)):=by
   rw [hsn];obtain ⟨x,hx'⟩:∃x:Nat,vl (a :: t.take i)=(x:Int):=⟨(vl (a :: t.take i)).toNat,by omega⟩;obtain ⟨y,hy⟩:∃y:Nat,t[i] - 128=(y:Int):=⟨(t[i] - 128).toNat,by omega⟩;rw [pN (by omega) (by omega),hx',hy,show ((x:Int) * 2 ^ 6)=(x:Int) * 64 from rfl,bj (by omega),bj (by omega),rH (by omega) (by omega)];simp
  rw [hbits,fW hi (by omega)];exact ⟨_,rfl,rfl⟩
 ·subst e;exact ⟨_,by simp only; rw [am (by simp)],by rw [kO]⟩
theorem oS {c:List Int} (hc:c≠ []) (hb:Bts c) (hl:c.length≤1000000) (a:Int):∃(g:aY) (k n:Nat),eP c a=some g∧cQ c=some ((k:Int),(n:Int))∧GK c k∧(k=0→n=0)∧(0 < k→bg (c.take k)=(n:Int)∧k≤n)∧
  g.R=(if 0 < k then (if bg (c.take k)=k then vl (c.take k) else 65533) else 65533)∧g.At=a∧g.Len=((max k 1:Nat):Int)∧(g.Bad=false↔0 < k∧k=n):=by
 obtain ⟨k,n,h1,hk,h0,hp⟩:=ot hc hb hl;unfold eP;rw [h1];simp only [bsm];by_cases hz:k=0
 ·subst hz;rw [aj (by rfl)];exact ⟨_,0,n,rfl,rfl,hk,h0,hp,rfl,rfl,rfl,by simp⟩
 ·rw [am (by rw [dz]; omega)];obtain ⟨p1,p2⟩:=hp (by omega);by_cases ht:k < n
  ·rw [aj (by rw [aq]; omega)];refine ⟨_,k,n,rfl,rfl,hk,h0,hp,?_,rfl,?_,?_⟩
   ·rw [aj (by omega),am (by omega)]
   ·simp only; omega
   ·simp only [Bool.true_eq_false,eW]; omega
  ·obtain rfl:k=n:=by omega
   have hkl:=hk.le;have hs:=kb (xs:=c) (i:=0) (j:=k) (bT _) hkl;rw [show ((0:Nat):Int)=0 from rfl,fy,om] at hs;have hlen:(c.take k).length=k:=by rw [ae]; omega
   rw [am (by rw [aq]; omega),hs];simp only [bsm];rw [oq (fun x hx=>hb x (ep hx)) (fun e=>by rw [e] at hlen; rw [ao] at hlen; omega) (by rw [p1,hlen])];simp only [bsm];refine ⟨_,k,k,rfl,rfl,hk,h0,hp,?_,rfl,?_,?_⟩
   ·rw [aj (by omega),aj p1]
   ·simp only; omega
   ·exact ⟨fun _=>⟨by omega,rfl⟩,fun _=>rfl⟩
theorem pp {c:List Int} {k:Nat} (h:GK c k) (hlt:max k 1 < c.length):(aC [] c).2=(aC [] (c.drop (max k 1))).2:=by
 have hc:c≠ []:=fun e=>by rw [e] at hlt; simp at hlt
 by_cases hk:0 < k
 ·rw [show max k 1=k by omega] at hlt⊢;by_cases hw:bg (c.take k)=k
  ·rw [iE h hk hw]
  ·have hge:=oh (h.p hk);rw [ae] at hge;rw [mX h hk (by omega) hlt]
 ·rw [show max k 1=1 by omega];rw [kT hc (h.z (by omega))]
def qB (p:List Int) (l:List aY):Prop:=∃(l0:List aY) (g:aY) (a k n:Nat),l=l0++ [g]∧a < p.length∧g.At=(a:Int)∧cQ (p.drop a)=some ((k:Int),(n:Int))∧GK (p.drop a) k∧(k=0→n=0)∧(0 < k→bg ((p.drop a).take k)=(n:Int)∧k≤n)∧
 g.Len=((max k 1:Nat):Int)∧p.length=a+max k 1∧(g.Bad=false↔0 < k∧k=n)∧(aC [] p).2=(aC [] (p.drop a)).2
theorem kr {α:Type} {xs:List α} {i:Nat} (h:i≤xs.length):slc xs (i:Int) (xs.length:Int)=some (xs.drop i):=by
 rw [kb h (ah _),au (by simp)]
theorem lY {p:List Int} (hp:Bts p) (hl:p.length≤1000000):∃l,dY p=some l∧l.map (·.R)=jc p∧l.length≤p.length∧(p= []∧l= []∨qB p l):=by
 unfold dY;refine nb (fun s=>∃a:Nat,s.2=(a:Int)∧a≤p.length∧s.1.length≤a∧s.1.map (·.R)++jc (p.drop a)=jc p∧(a < p.length→(aC [] p).2=(aC [] (p.drop a)).2)∧(a=p.length→p= []∧s.1= []∨qB p s.1)) (fun s=>p.length - s.2.toNat) (fun t=>t.map (·.R)=jc p∧t.length≤p.length∧(p= []∧t= []∨qB p t)) (fun s hs=>?_) ⟨0,rfl,bT _,ah _,rfl,fun _=>rfl,fun h=> .inl ⟨dr h.symm,rfl⟩⟩ (by simp) (fun t ht=>⟨t,rfl,ht⟩);obtain ⟨out,n⟩:=s;obtain ⟨a,e,ha,ho,hI,hH,hL⟩:=hs;simp only at e ho hI hL;subst e;simp only;by_cases hlt:a < p.length
 ·have hcl:(p.drop a).length=p.length - a:=by simp
  have hne:p.drop a≠ []:=fun e=>by rw [e] at hcl; simp at hcl; omega
  obtain ⟨g,k,n,g1,g2,g3,g4,g5,g6,g7,g8,g9⟩:=oS hne (fun x hx=>hp x (eq hx)) (by omega) (a:Int);have hkl:=g3.le;have htp:=mS g3 hne;rw [aj (dlt hlt),kr ha];simp only [bsm];rw [g1];simp only [bsm];rw [dU (by simp only [af,ao]; omega)];simp only [bsm];have e5:w64 ((a:Int)+g.Len)=((a+max k 1:Nat):Int):=by rw [g8,bj (by omega)]; simp
  rw [e5];refine .inl ⟨_,rfl,⟨a+max k 1,rfl,by omega,by simp only [ab,af,ao]; omega,?_,fun h=>?_,fun h=> .inr ⟨out,g,a,k,n,rfl,hlt,g7,g2,g3,g4,g5,g8,by omega,g9,hH hlt⟩⟩,by simp only; omega⟩
  ·simp only [iV,ne,rP,aB,bp,aG];rw [←hI,htp,bu,g6]
  ·rw [hH hlt,pp g3 (by omega),bu]
 ·rw [am (by simp; omega)];refine .inr ⟨_,rfl,?_,by omega,hL (by omega)⟩;rw [bC (by omega),nJ,bF] at hI;exact hI
theorem oR {p:List Int} (hp:Bts p) (hl:p.length≤1000000):∃t,eQ p=some t∧(t > 0↔(aC [] p).2≠ []):=by
 obtain ⟨l,h1,h2,h3,h4⟩:=lY hp hl;unfold eQ;rw [h1];simp only [bsm];rcases h4 with ⟨rfl,rfl⟩ | ⟨l0,g,a,k,n,rfl,ha,g7,g2,g3,g4,g5,g8,g10,g9,g11⟩
 ·exact ⟨0,rfl,by simp [aC]⟩
 ·have hlen:(l0++ [g]).length=l0.length+1:=by simp
  have hi:idx (l0++ [g]) (w64 (((l0++ [g]).length:Int) - 1))=some g:=by
   rw [hlen,bj (by rw [hlen] at h3; omega),show ((l0.length+1:Nat):Int) - 1=(l0.length:Int) by omega,lU,ay (ah _),dJ];rfl
  rw [am (by rw [dz]; omega),hi];simp only [bsm];rw [g7,kr (by omega)];simp only [bsm];rw [g2];simp only [bsm,da];rw [g11];have hcl:(p.drop a).length=max k 1:=by simp; omega
  have hne:p.drop a≠ []:=fun e=>by rw [e] at hcl; simp at hcl; omega
  by_cases hk:0 < k
  ·obtain ⟨p1,p2⟩:=g5 hk;have hc:(p.drop a).length=k:=by omega
   by_cases hw:k=n
   ·rw [aj (by rw [aN,aN,aq]; exact .inr (by omega))];refine ⟨0,rfl,?_⟩;rw [iE g3 hk (by rw [p1,hw]),bC (l:=p.drop a) (i:=k) (by omega)];simp [aC]
   ·have hb:g.Bad=true:=by
     cases hb:g.Bad with
     | true=>rfl
     | false=>exact absurd (g9.1 hb).2 hw
    rw [am (by rw [hb,aN,aN,aq,dz,Bool.not_true]; rintro ((h | h) | h); cases h; omega; omega)];have htk:(p.drop a).take k=p.drop a:=au (by omega);have:=mg (c:=p.drop a) (by rw [hc]; exact g3) (by omega) (by rw [hc,←htk,p1]; omega);rw [this];exact ⟨_,rfl,by rw [g8]; simp only [ne_eq,hne,gz,iff_true]; omega⟩
  ·obtain rfl:k=0:=by omega
   rw [aj (by rw [aN,aN]; exact .inl (.inr rfl))];refine ⟨0,rfl,?_⟩;rw [kT hne (g3.z rfl),bC (l:=p.drop a) (i:=1) (by omega)];simp [aC]
end Go.Proofs.YtclmdpamofdoiaaGreatDoor
namespace Go.Proofs.YtclmdpamofdoiaaGreatDoor
def hb:List bv→Int
 | []=>0
 | x :: _=>x.Break
end Go.Proofs.YtclmdpamofdoiaaGreatDoor
namespace Go.Proofs.YtclmdpamofdoiaaGreatDoor
open Go Go.Lt
set_option maxRecDepth 100000
def hcl (r:Int):Int:=
 if (4352≤r∧r≤4447)∨(43360≤r∧r≤43388) then 9
 else if (4448≤r∧r≤4519)∨(55216≤r∧r≤55238) then 10
 else if (4520≤r∧r≤4607)∨(55243≤r∧r≤55291) then 11
 else if r < 44032∨55203 < r then 0
 else if (r - 44032) % 28=0 then 12 else 13
end Go.Proofs.YtclmdpamofdoiaaGreatDoor
namespace Go.Proofs.YtclmdpamofdoiaaGreatDoor
open Go Go.Lt
def bl:aa:=⟨0,[]⟩
def vld (r:Int):Bool:=decide (0≤r) && decide (r≤1114111) && (decide (r < 55296) || decide (r > 57343))
theorem mW (r:Int):bz r=some (vld r):=by
 simp only [bz,cr,da,bsm,vld,tl]
def rgt (c:aa):Bool:=
 if c.Kind=0∨c.Kind=3 then c.Text.isEmpty else (decide (c.Kind=1) || decide (c.Kind=2)) && decide (1≤c.Text.length) && decide (c.Text.length≤16) && c.Text.all vld
theorem mP {α:Type} (p:α→Bool) (l:List α) (i:Nat) (h:i < l.length):(l.take (i+1)).all p=((l.take i).all p && p l[i]):=by
 rw [aA h,List.all_append];simp
theorem nC {α:Type} {p:α→Bool} {l:List α} {i:Nat} (h:i < l.length) (hp:p l[i]=false):l.all p=false:=by
 rw [List.all_eq_false];exact ⟨_,cL h,by simp [hp]⟩
theorem nQ {α:Type} (l:List α):((l.length:Int)==0)=l.isEmpty:=by
 cases l <;> simp <;> omega
theorem rR (c:aa):fB c=some (rgt c):=by
 unfold fB rgt;simp only [da,cr,bsm];by_cases h1:c.Kind=0∨c.Kind=3
 ·have e:(c.Kind==0 || c.Kind==3)=true:=by rcases h1 with h | h <;> simp [h]
  rw [aj e,aj h1,nQ]
 ·have e:(c.Kind==0 || c.Kind==3)=false:=by simp; omega
  rw [am (by rw [e]; simp),am h1];by_cases h2:((c.Kind=1∨c.Kind=2)∧1≤c.Text.length∧c.Text.length≤16)
  ·have e2:(((c.Kind != 1 && c.Kind != 2) || decide ((c.Text.length:Int) < 1)) || decide ((c.Text.length:Int) > 16))=false:=by
    simp; omega
   rw [am (by rw [e2]; simp)];obtain ⟨t,h3,h4⟩:=mi (τ:=Bool ⊕ Unit) (n:=c.Text.length) (by omega) (fun t=>match t with | .inl b=>b=c.Text.all vld | .inr _=>c.Text.all vld=true) (fun i=>(c.Text.take i).all vld=true) (by simp)
    (step:=fun s_44=>
     if (decide (s_44 < (c.Text.length:Int)))=true then
     (idx c.Text s_44).bind fun x_54=>
     (bz x_54).bind fun x_56=>
     if (!x_56)=true then
     some (.inr (.inl false))
     else
     some (.inl ((w64 (s_44+1))))
     else
     some (.inr (.inr ())))
    (fun i hi hI=>by
     have e3:w64 ((i:Int)+1)=((i+1:Nat):Int):=by rw [bj (by omega)]; simp
     simp only [Int.ofNat_lt,hi,decide_true,mG,fF hi,bsm,mW,e3]
     cases hv:vld c.Text[i] with
     | true=>exact .inl ⟨by simp,by rw [mP _ _ _ hi,hI,hv]; rfl⟩
     | false=>exact .inr ⟨.inl false,by simp,(nC hi hv).symm⟩)
    (fun hI=>⟨.inr (),by simp,by simpa using hI⟩)
   rw [h3];simp only [bsm];have e4:(decide (c.Kind=1) || decide (c.Kind=2))=true:=by simp; exact h2.1
   rw [e4,qn h2.2.1,qn h2.2.2]
   cases t with
   | inl b=>simp only at h4; simp [h4]
   | inr u=>simp only at h4; simp [h4]
  ·have e2:(((c.Kind != 1 && c.Kind != 2) || decide ((c.Text.length:Int) < 1)) || decide ((c.Text.length:Int) > 16))=true:=by
    simp; omega
   rw [aj e2]
   congr 1
   symm
   simp only [rT,Bool.or_eq_false_iff,eF];omega
def kd (l:List aa) (i:Nat):Int:=match l[i]? with | some c=>c.Kind | none=>0
theorem oY (a:List Int) (ha:a.length≤9223372036854775807) (b:List Int):∃t,bt a b=some t∧(t=true↔a=b):=by
 unfold bt;by_cases hl:a.length=b.length
 ·rw [am (by simp [hl])];obtain ⟨t,h3,h4⟩:=mi (τ:=Bool ⊕ Unit) (n:=a.length) (by omega) (fun t=>match t with | .inl b'=>b'=false∧a≠b | .inr _=>a=b) (fun i=>∀j,j < i→a[j]? = b[j]?) (fun j h=>by omega)
   (step:=fun s_13=>
    if (decide (s_13 < (a.length:Int)))=true then
    (idx a s_13).bind fun x_21=>
    (idx b s_13).bind fun x_25=>
    if (x_21 != x_25)=true then
    some (.inr (.inl false))
    else
    some (.inl ((w64 (s_13+1))))
    else
    some (.inr (.inr ())))
   (fun i hi hI=>by
    have e3:w64 ((i:Int)+1)=((i+1:Nat):Int):=by rw [bj (by omega)]; simp
    simp only [Int.ofNat_lt,hi,decide_true,mG,fF hi,fF (show i < b.length by omega),bsm,e3];by_cases hk:a[i]=b[i]
    ·refine .inl ⟨by rw [am (by simp [hk])],fun j hj=>?_⟩;by_cases hji:j=i
     ·subst hji; rw [av hi,av (show j < b.length by omega),hk]
     ·exact hI j (by omega)
    ·exact .inr ⟨.inl false,by rw [aj (by simpa using hk)],rfl,fun e=>hk (by subst e; rfl)⟩)
   (fun hI=>⟨.inr (),by simp,by
    apply gL;intro j;rcases cF j a.length with h | h
    ·exact hI j h
    ·rw [fd h,fd (by omega)]⟩)
  rw [h3];simp only [bsm]
  cases t with
  | inl b'=>exact ⟨b',rfl,by simp only at h4; rw [h4.1]; simp [h4.2]⟩
  | inr u=>exact ⟨true,rfl,by simpa using h4⟩
 ·rw [aj (by simp; omega)];exact ⟨false,rfl,by simp; intro e; subst e; exact hl rfl⟩
def qV (r:Int):Int:=if vld r=true then r else 65533
end Go.Proofs.YtclmdpamofdoiaaGreatDoor
namespace Go.Proofs.YtclmdpamofdoiaaGreatDoor
open Go Go.Lt
variable {s C:Sto} {g k W:Nat} {ks:List Nat} {l p:List aa} {w:Bool} {q:an}
def hc (c:ak) (W h:Nat):ak:=⟨max 0 (min c.Row ((h:Int) - 1)),max 0 (min c.Col ((W:Int) - 1)),c.Pending && (c.Col==(W:Int) - 1)⟩
end Go.Proofs.YtclmdpamofdoiaaGreatDoor
namespace Go.Proofs.YtclmdpamofdoiaaGreatDoor
open Go Go.Lt
variable {s C:Sto} {g k W:Nat} {ks:List Nat} {q:an}
def bls (W H:Nat):List aS:=List.replicate H ⟨List.replicate W bl,false⟩
theorem pd {W H:Nat} (w2:W≤1024) (h2:H≤1024):dd W H=some (bls W H):=by
 unfold dd;obtain ⟨t,h3,h4⟩:=ky (σ:=(List aS)×Int) (τ:=(List aS)) (n:=H) (fuel:=((H:Int) - 0).toNat+1) (s:=(([]:List aS),0))
  (fun i q=>q=(bls W i,(i:Int))) (fun t=>t=bls W H)
  (step:=fun s_7=>
 if (decide (s_7.2 < (H:Int)))=true then
 (rep (W:Int) (⟨0,([]:List Int)⟩:aa)).bind fun x_14=>
 (app s_7.1 ([(⟨x_14,false⟩:aS)]:List aS)).bind fun x_17=>
 some (.inl (x_17,(w64 (s_7.2+1))))
 else
 some (.inr (s_7.1)))
  (fun i q hi e=>by
   subst e;refine .inl ⟨_,?_,rfl⟩;have e5:w64 ((i:Int)+1)=((i+1:Nat):Int):=by rw [bj (by omega)]; simp
   have hd:decide ((i:Int) < (H:Int))=true:=by simp; exact hi
   simp only [hd,mG,e5];rw [rG _ (by omega)];simp only [bsm];rw [dU (by simp [bls]; omega)];simp only [bsm];unfold bls;rw [List.replicate_succ'];rfl)
  (fun q e=>⟨_,by subst e; simp,rfl⟩)
  rfl (by omega)
 subst h4;rw [h3];rfl
end Go.Proofs.YtclmdpamofdoiaaGreatDoor
namespace Go.Proofs.YtclmdpamofdoiaaGreatDoor
open Go Go.Lt
variable {s C:Sto} {f k g W H:Nat} {q P:an} {ks:List Nat} {op:Option Nat}
theorem nM {F:ag} (hb:Bts F.Raw) (hl:F.Raw.length≤1000000):bm F=some ((aC [] F.Raw).2.length:Int):=by
 unfold bm;rw [oO Hh.nil Bts.nil hb hl];rfl
theorem pY {F:ag} (hl:F.Group.length≤1000000) (r:Int):bD F r=some ⟨F.P,F.Group++ [qV r],F.Raw,F.Parts⟩:=by
 have hfix:((bz r).bind fun x_6=>if (!x_6)=true then (some (65533):Option (Int)) else (some (r):Option (Int)))=some (qV r):=by
  rw [mW];unfold qV
  cases vld r <;> rfl
 unfold bD;rw [hfix];simp only [bsm];rw [dU (by simp; omega),aG];simp only [bsm];rw [dU (by simp; omega)];rfl
theorem pf {F:ag} (hp:F.Parts=((aC [] F.Raw).1.length:Int)) (hb:Bts F.Raw) {b:List Int} (hbt:Bts b) (hl:F.Raw.length+b.length≤1000000) (hg:F.Group.length≤1000000):
  bB F b=some ⟨F.P,F.Group++(aC (aC [] F.Raw).2 b).1,F.Raw++b,((aC [] (F.Raw++b)).1.length:Int)⟩:=by
 have hbb:Bts (F.Raw++b):=fun x hx=>by
  rcases List.mem_append.1 hx with hx | hx
  ·exact hb x hx
  ·exact hbt x hx
 have hll:(F.Raw++b).length≤1000000:=by simp; omega
 obtain ⟨l,h1,h2,h3⟩:=rO hbb hll;have hap:=ip [] F.Raw b;unfold bB;rw [dU (by simp; omega),aG];simp only [bsm];rw [dU (by omega)];simp only [bsm];rw [h1];simp only [bsm];rw [nM hbb hll];simp only [bsm];have hz:∃z:List aT,(if decide (((aC [] (F.Raw++b)).2.length:Int) > 0)=true then (slc l 0 (w64 ((l.length:Int) - 1))).bind fun x_27=>(some (x_27):Option ((List aT))) else (some (l):Option ((List aT))))=some z∧z.map (·.R)=(aC [] (F.Raw++b)).1∧z.length≤l.length:=by
  unfold jc at h2;have hlen:=ef List.length h2;simp only [ci,ab] at hlen;by_cases hh:(aC [] (F.Raw++b)).2= []
  ·rw [am (by rw [hh]; simp)];rw [aj hh,bF] at h2;exact ⟨l,rfl,h2,ah _⟩
  ·rw [am hh] at h2 hlen;have hpos:0 < (aC [] (F.Raw++b)).2.length:=by
    cases hc:(aC [] (F.Raw++b)).2 with
    | nil=>exact absurd hc hh
    | cons _ _=>simp
   rw [aj (by simpa using hpos)];simp only [af,ao] at hlen;have hs:=kb (xs:=l) (i:=0) (j:=l.length - 1) (bT _) (by omega);rw [show ((0:Nat):Int)=0 from rfl,fy,om] at hs;rw [bj (by omega),show (l.length:Int) - 1=((l.length - 1:Nat):Int) by omega,hs];refine ⟨_,rfl,?_,by rw [ae]; omega⟩;rw [List.map_take,h2,cy (by omega),au (by omega)]
 obtain ⟨z,hz1,hz2,hz3⟩:=hz;rw [hz1];simp only [bsm];have hzl:=ef List.length hz2;rw [ci] at hzl;have hem:(aC [] (F.Raw++b)).1=(aC [] F.Raw).1++(aC (aC [] F.Raw).2 b).1:=by rw [hap]
 have heml:=ef List.length hem;rw [ab] at heml;rw [hp];refine fE (n:=z.length - (aC [] F.Raw).1.length) (fun i st=>st=((((aC [] F.Raw).1.length+i:Nat):Int),F.Group++(aC (aC [] F.Raw).2 b).1.take i)) (fun u=>u=F.Group++(aC (aC [] F.Raw).2 b).1) (fun i st hi e=>?_) (fun st e=>?_) (by simp) (by omega) (fun u hu=>?_)
 ·subst e;simp only;have hlt:(aC [] F.Raw).1.length+i < z.length:=by omega
  rw [aj (by simp; omega),fF hlt];simp only [bsm];have hgr:(F.Group++(aC (aC [] F.Raw).2 b).1.take i).length≤3000000:=by simp; omega
  rw [dU (by simp only [ao]; omega),aG];simp only [bsm];rw [dU (by simp only [af,ao]; omega),bj (by omega)];refine .inl ⟨_,rfl,?_⟩;have hR:z[(aC [] F.Raw).1.length+i].R=(aC (aC [] F.Raw).2 b).1[i]'(by omega):=by
   have e1:(z.map (·.R))[(aC [] F.Raw).1.length+i]? = ((aC [] F.Raw).1++(aC (aC [] F.Raw).2 b).1)[(aC [] F.Raw).1.length+i]? :=by rw [hz2,hem]
   rw [dy,av hlt,ay (by omega),Nat.add_sub_cancel_left,av (show i < (aC (aC [] F.Raw).2 b).1.length by omega)] at e1;exact az e1
  rw [hR,aA (show i < (aC (aC [] F.Raw).2 b).1.length by omega),aB]
  congr 1
 ·subst e;refine ⟨_,by simp only; rw [am (by simp; omega)],?_⟩;rw [au (by omega)]
 ·subst hu;rw [hzl]
end Go.Proofs.YtclmdpamofdoiaaGreatDoor
namespace Go.Proofs.YtclmdpamofdoiaaGreatDoor
open Go Go.Lt
variable {s C:Sto} {f k g W H:Nat} {q P:an} {ks:List Nat} {op:Option Nat}
theorem pc {W H:Nat} (w2:W≤1024) (h2:H≤1024):db W H=some ⟨bls W H,⟨0,0,false⟩,true⟩:=by
 unfold db;rw [pd w2 h2];rfl
variable {F:ag}
end Go.Proofs.YtclmdpamofdoiaaGreatDoor
namespace Go.Proofs.YtclmdpamofdoiaaGreatDoor
open Go Go.Lt
variable {s:Sto} {k:Nat} {l p:List aa} {w:Bool}
def trc (l:List aa) (c j:Nat):aa:=if kd l c=3∧(j=c∨j+1=c) then bl else l.getD j bl
def tr (l:List aa) (c:Nat):List aa:=(List.range l.length).map (trc l c)
def tt (l:List aa) (c n:Nat):List aa:=tr (tr l c) (c+n)
end Go.Proofs.YtclmdpamofdoiaaGreatDoor
namespace Go.Proofs.YtclmdpamofdoiaaGreatDoor
open Go Go.Lt
variable {s C:Sto} {g k W:Nat} {ks:List Nat} {q:an}
def w38 (o:aw):Int:=if o.Kind < 2∨12 < o.Kind then 5 else if (o.Kind=3∨o.Kind=4)∧(o.A < 0∨2 < o.A) then 3 else 0
def e38 (o:aw):Er:=if w38 o=5 then .sent 4 else if w38 o=3 then .sent 2 else .nil
theorem ry (o:aw):w38 o=5∨w38 o=3∨w38 o=0:=by
 unfold w38
 repeat' split
 all_goals simp
theorem lF (o:aw):bJ o=some (w38 o):=by
 unfold bJ w38;simp only [da,bsm,cr];by_cases h:o.Kind < 2∨12 < o.Kind
 ·rw [aj h,aj (by simp only [aN,aq]; omega)]
 ·rw [am h,am (by simp only [aN,aq]; omega)];by_cases h2:(o.Kind=3∨o.Kind=4)∧(o.A < 0∨2 < o.A)
  ·rw [aj h2,aj (by simp only [aF,aN,aq,dz]; omega)]
  ·rw [am h2,am (by simp only [aF,aN,aq,dz]; omega)]
def pw (n:Int):Bool:=decide (2≤n) && decide (n≤12)
theorem pv (n:Int):fZ n=some (pw n):=by
 unfold fZ pw;simp only [cr,bsm,tl]
theorem sm (o:aw):pw o.Kind=(w38 o != 5):=by
 rw [tE];unfold pw w38;simp only [aF,aq,sR,ne_eq]
 repeat' split
 all_goals omega
theorem ow (o:aw):eK o=some (e38 o):=by
 unfold eK;rw [pv];have hd:pw o.Kind= !decide (o.Kind < 2∨12 < o.Kind):=by
  rw [tE];simp only [pw,aF,aq,tj,eF];omega
 simp only [bsm,hd,cr,da,Bool.not_not];unfold e38;by_cases h:o.Kind < 2∨12 < o.Kind
 ·have e:w38 o=5:=by unfold w38; rw [aj h]
  rw [aj (by simpa using h),aj e]
 ·rw [am (by simpa using h)];by_cases h2:(o.Kind=3∨o.Kind=4)∧(o.A < 0∨2 < o.A)
  ·have e:w38 o=3:=by unfold w38; rw [am h,aj h2]
   rw [aj (by simp only [aF,aN,aq,sR,ne_eq]; omega),e];rfl
  ·have e:w38 o=0:=by unfold w38; rw [am h,am h2]
   rw [am (by simp only [aF,aN,aq,sR,ne_eq]; omega),e];rfl
theorem qX (o:aw):(e38 o).isNil=(w38 o==0):=by
 unfold e38;rcases ry o with h | h | h <;> rw [h] <;> rfl
end Go.Proofs.YtclmdpamofdoiaaGreatDoor
namespace Go.Proofs.YtclmdpamofdoiaaGreatDoor
open Go Go.Lt
variable {s C:Sto} {x f k g W H:Nat} {q P:an} {ks:List Nat} {op:Option Nat}
structure Mo where
 P:an
 G:List Int
 h:List Int
end Go.Proofs.YtclmdpamofdoiaaGreatDoor
namespace Go.Proofs.YtclmdpamofdoiaaGreatDoor
open Go Go.Lt
theorem qd {γ:Type} {x:Option (γ×Bool)} (h:x.map (fun q=>q.2)=some true):∃s,x=some (s,true):=by
 cases x with
 | none=>cases h
 | some q=>
  obtain ⟨a,b⟩:=q;simp only [pI,aR] at h;subst h;exact ⟨a,rfl⟩
theorem rI {f:Sto→Option (Sto×Bool)} {s:Sto} (h1:(f s).map (fun q=>q.2)=some true) (h2:((f s).bind fun q=>f q.1).map (fun q=>q.2)=some true):∃s1 s2,f s=some (s1,true)∧f s1=some (s2,true):=by
 obtain ⟨s1,e1⟩:=qd h1;rw [e1] at h2;obtain ⟨s2,e2⟩:=qd h2;exact ⟨s1,s2,e1,e2⟩
theorem wf8 {n:Int} (h:(Lit.int .u8 n).wf=true):0≤n∧n≤255:=by
 simp only [Lit.wf,IntKind.min,IntKind.max,IntKind.signed,IntKind.bits,aF,aq,bh,jl] at h;omega
end Go.Proofs.YtclmdpamofdoiaaGreatDoor
namespace Go.Proofs.YtclmdpamofdoiaaGreatDoor
open Go Go.Lt
variable {s C:Sto} {x f k g W H:Nat} {q P:an} {ks:List Nat} {op:Option Nat}
def Obs (l:List aw):Prop:=∀o∈l,Bts o.Bytes∧o.Bytes.length≤9223372036854775807
theorem fN {α:Type} (f:α→Nat) {l:List α} {i:Nat} (h:i < l.length):((l.take (i+1)).map f).sum=((l.take i).map f).sum+f l[i]:=by
 rw [aA h,iV,tB];simp
theorem lE {α:Type} (f:α→Nat) (l:List α) (i:Nat):((l.take i).map f).sum≤(l.map f).sum:=by
 conv=>rhs; rw [←fc i l]
 rw [iV,tB];omega
end Go.Proofs.YtclmdpamofdoiaaGreatDoor
namespace Go.Proofs.YtclmdpamofdoiaaGreatDoor
open Go Go.Lt
variable {s C:Sto} {x f k:Nat} {q q':an} {F:ag} {m m':Mo}
theorem lZ (a:List Int) (ha:a.length≤9223372036854775807):bt a a=some true:=by
 obtain ⟨t,h1,h2⟩:=oY a ha a;rw [h1,h2.2 rfl]
def gw (l:List aw):Nat:=(l.map fun o=>o.Bytes.length).sum
theorem pu (l:List aw) (hl:l.length≤9223372036854775807) (hb:∀o∈l,o.Bytes.length≤4611686018427387904):∃t,cK l=some t∧(t=false→l.length≤50∧gw l≤600):=by
 unfold cK;refine pn (σ:=Int×Int) (τ:=Bool ⊕ Unit) (n:=min l.length 60) (fun i (s:Int×Int)=>s=((gw (l.take i):Int),(i:Int))∧gw (l.take i)≤600) (fun u=>match u with | .inl b=>b=true | .inr _=>gw (l.take (min l.length 60))≤600) (fun i s hi e=>?_) (fun s e=>?_) ⟨rfl,by simp [gw]⟩ (by omega) (fun u hu=>?_)
 ·obtain ⟨rfl,hs⟩:=e;have hil:i < l.length:=by omega
  have hbi:=hb _ (cL hil);have e1:gw (l.take (i+1))=gw (l.take i)+l[i].Bytes.length:=fN (fun o:aw=>o.Bytes.length) hil;simp only [cr,bsm];rw [aj (by simp; omega),fF hil];simp only [bsm,cr,da];rw [bj (n:=(gw (l.take i):Int)+(l[i].Bytes.length:Int)) (by omega),bj (n:=(i:Int)+1) (by omega)];split
  ·exact .inr ⟨_,rfl,rfl⟩
  ·rename_i hn
   simp only [aN,aq,not_or] at hn;exact .inl ⟨_,rfl,by rw [e1]; simp,by rw [e1]; omega⟩
 ·obtain ⟨rfl,hs⟩:=e;simp only [cr,bsm];rw [am (by simp; omega)];exact ⟨_,rfl,hs⟩
 ·cases u with
  | inl b=>simp only at hu; exact ⟨b,rfl,fun h=>by rw [hu] at h; cases h⟩
  | inr u=>
   refine ⟨_,rfl,fun h=>?_⟩;have h1:l.length≤50:=by simp at h; omega
   rw [au (by omega)] at hu;exact ⟨h1,hu⟩
theorem pb {W H:Nat} (w1:1≤W) (w2:W≤1024) (h1:1≤H) (h2:H≤1024):cD W H=some ⟨⟨bls W H,⟨0,0,false⟩,true⟩,[],[],0⟩:=by
 unfold cD;rw [kz,nj,kz,nj,show max (1:Int) (min (W:Int) 1024)=(W:Int) by omega,show max (1:Int) (min (H:Int) 1024)=(H:Int) by omega,pc w2 h2];rfl
end Go.Proofs.YtclmdpamofdoiaaGreatDoor
namespace Go.Proofs.YtclmdpamofdoiaaGreatDoor
open Go Go.Lt
theorem oL (gs:List (List Int)) (c:List Int):idx (gs++ [c]) (gs.length:Int)=some c:=by
 rw [lU,ay (ah _),dJ];rfl
theorem pT (gs:List (List Int)) (c c':List Int):gM (gs++ [c]) (gs.length:Int) c'=some (gs++ [c']):=by
 rw [pS (by simp),lS _ _ (ah _),dJ];rfl
theorem nI {gs:List (List Int)} {cur:List Int} {l:List aY} (hg:gs.length≤1000000) (hl:cur.length+l.length≤10000000):co (gs++ [cur]) l=some (gs++ [cur++l.map (·.R)]):=by
 have hw:w64 (((gs++ [cur]).length:Int) - 1)=(gs.length:Int):=by
  rw [ab,af,ao,bj (by omega)];omega
 unfold co;rw [hw];refine fE (n:=l.length) (fun i s=>s=(gs++ [cur++(l.take i).map (·.R)],(i:Int))) (fun u=>u=gs++ [cur++l.map (·.R)]) (fun i s hi e=>?_) (fun s e=>?_) (by simp) (by omega) (fun u e=>by rw [e])
 ·left
  subst e;simp only;rw [aj (dlt hi),fF hi,bsm,oL,bsm,dU (by simp only [ab,ci,ae,af,ao]; omega),bsm,pT,bsm,fW hi (by omega)];refine ⟨_,rfl,?_⟩;rw [aA hi,iV,←aB];rfl
 ·subst e;exact ⟨_,by simp only; rw [am (by simp)],by rw [kO]⟩
variable {raw cur b:List Int} {gs:List (List Int)}
theorem pL (hb:Bts raw) (hbt:Bts b) (hl:raw.length+b.length≤1000000) (hg:gs.length≤1000000) (hc:cur.length≤1000000):cp raw ((aC [] raw).1.length:Int) (gs++ [cur]) b=some (raw++b,((aC [] (raw++b)).1.length:Int),gs++ [cur++(aC (aC [] raw).2 b).1]):=by
 have hbb:Bts (raw++b):=fun x hx=>by
  rcases List.mem_append.1 hx with hx | hx
  ·exact hb x hx
  ·exact hbt x hx
 have hll:(raw++b).length≤1000000:=by rw [ab]; omega
 obtain ⟨l,h1,h2,h3,_⟩:=lY hbb hll;obtain ⟨t,t1,t2⟩:=oR hbb hll;have hap:=ip [] raw b;unfold cp;rw [dU (by omega),bsm,h1,bsm,t1,bsm];have hz:∃z:List aY,(if (decide (t > 0))=true then (slc l 0 (w64 ((l.length:Int) - 1))).bind fun x_29=>some x_29 else some l)=some z∧z.map (·.R)=(aC [] (raw++b)).1∧z.length≤l.length:=by
  unfold jc at h2;have hlen:=ef List.length h2;simp only [ci,ab] at hlen;by_cases hh:(aC [] (raw++b)).2= []
  ·rw [am (by rw [aq,t2]; exact fun h=>h hh)];rw [aj hh,bF] at h2;exact ⟨l,rfl,h2,ah _⟩
  ·rw [aj (by rw [aq,t2]; exact hh)];rw [am hh] at h2 hlen;simp only [af,ao] at hlen;have hs:=kb (xs:=l) (i:=0) (j:=l.length - 1) (bT _) (by omega);rw [show ((0:Nat):Int)=0 from rfl,fy,om] at hs;rw [bj (by omega),show (l.length:Int) - 1=((l.length - 1:Nat):Int) by omega,hs];refine ⟨_,rfl,?_,by rw [ae]; omega⟩;rw [List.map_take,h2,cy (by omega),au (by omega)]
 obtain ⟨z,hz1,hz2,hz3⟩:=hz;have hzl:=ef List.length hz2;rw [ci] at hzl;have hem:(aC [] (raw++b)).1=(aC [] raw).1++(aC (aC [] raw).2 b).1:=by rw [hap]
 have heml:=ef List.length hem;rw [ab] at heml;rw [hz1,bsm,kr (by omega),bsm,nI hg (by rw [aH]; rw [ab] at hll h3; omega),bsm,List.map_drop,hz2,hzl,hem,du]
theorem oT (hb:Bts raw) (hl:raw.length≤1000000) (hg:gs.length≤1000000) (hc:cur.length≤1000000):bZ raw ((aC [] raw).1.length:Int) (gs++ [cur])=some (gs++ [cur++(if (aC [] raw).2= [] then [] else [65533])]):=by
 obtain ⟨l,h1,h2,h3,_⟩:=lY hb hl;unfold bZ;unfold jc at h2;have hlen:=ef List.length h2;simp only [ci,ab] at hlen;rw [h1,bsm,kr (by omega),bsm,nI hg (by rw [aH]; omega),bsm,List.map_drop,h2,du]
def clo (o:aw):Bool:=(o.Kind==1 || o.Kind==13) || w38 o==0
theorem px (o:aw):dB o=some (clo o):=by
 unfold dB clo;rw [da,bsm,ow,bsm,da,bsm,qX]
def kV (s:List Int×List (List Int)×List Int) (o:aw):List Int:=s.2.2++(if o.Kind=0 then (aC (aC [] s.1).2 o.Bytes).1 else if o.Kind=1 then (if (aC [] s.1).2= [] then [] else [65533]) else [])
def kF (s:List Int×List (List Int)×List Int) (o:aw):List Int:=if o.Kind=0 then s.1++o.Bytes else if o.Kind=1 then [] else s.1
def kC (s:List Int×List (List Int)×List Int) (o:aw):List Int×List (List Int)×List Int:=
 if clo o=true then (kF s o,s.2.1++ [kV s o],[]) else (kF s o,s.2.1,kV s o)
def gst (l:List aw) (i:Nat):List Int×List (List Int)×List Int:=(l.take i).foldl kC ([],[],[])
theorem kD {l:List aw} {i:Nat} (h:i < l.length):gst l (i+1)=kC (gst l i) l[i]:=by
 unfold gst;rw [aA h,tg];rfl
theorem qT (s:List Int×List (List Int)×List Int) (o:aw):(kC s o).1=kF s o:=by
 unfold kC;split <;> rfl
theorem ml {l:List aw} (hb:∀o∈l,Bts o.Bytes):∀i,i≤l.length→Bts (gst l i).1∧(gst l i).1.length≤gw (l.take i)∧(gst l i).2.1.length≤i∧(gst l i).2.2.length≤2 * gw (l.take i)+i:=by
 intro i
 induction i with
 | zero=>exact fun _=>⟨fun x hx=>by simp [gst] at hx,bT _,bT _,bT _⟩
 | succ i ih=>
  intro h;have hi:i < l.length:=by omega
  obtain ⟨h1,h2,h3,h4⟩:=ih (by omega);have e2:gw (l.take (i+1))=gw (l.take i)+l[i].Bytes.length:=fN (fun o:aw=>o.Bytes.length) hi;have hbi:=hb _ (cL hi);rw [kD hi,qT];have hr:Bts (kF (gst l i) l[i])∧(kF (gst l i) l[i]).length≤gw (l.take (i+1)):=by
   unfold kF;split
   ·refine ⟨fun x hx=>?_,by rw [ab]; omega⟩;rcases List.mem_append.1 hx with hx | hx
    ·exact h1 x hx
    ·exact hbi x hx
   ·split
    ·exact ⟨fun x hx=>absurd hx (by simp),bT _⟩
    ·exact ⟨h1,by omega⟩
  have hc:(kV (gst l i) l[i]).length≤2 * gw (l.take (i+1))+(i+1):=by
   have:=kS (aC [] (gst l i).1).2 l[i].Bytes;unfold kV;rw [ab];split
   ·omega
   ·split
    ·split
     ·rw [ao]; omega
     ·rw [af,ao]; omega
    ·rw [ao]; omega
  refine ⟨hr.1,hr.2,?_,?_⟩
  ·unfold kC;split
   ·rw [ab,af,ao]; omega
   ·exact Nat.le_succ_of_le h3
  ·unfold kC;split
   ·exact bT _
   ·exact hc
theorem qU {l:List aw}:∀(d i:Nat),i+d≤l.length→∃t,(gst l (i+d)).2.1=(gst l i).2.1++t:=by
 intro d
 induction d with
 | zero=>exact fun i _=>⟨[],by rw [bF]; rfl⟩
 | succ d ih=>
  intro i h;obtain ⟨t,ht⟩:=ih i (by omega);have hs:=kD (l:=l) (i:=i+d) (by omega);rw [show i+(d+1)=(i+d)+1 by omega,hs];unfold kC;split
  ·exact ⟨t++ [kV (gst l (i+d)) l[i+d]],by simp only; rw [ht,aB]⟩
  ·exact ⟨t,ht⟩
def mn (l:List aw):List (List Int):=(gst l l.length).2.1++ [(gst l l.length).2.2]
theorem pq (l:List aw) (hb:∀o∈l,Bts o.Bytes) (hl:l.length≤50) (hs:gw l≤600):cY l=some (mn l):=by
 have hsum:∀i,gw (l.take i)≤gw l:=fun i=>lE (fun o:aw=>o.Bytes.length) l i;unfold cY;refine fE (n:=l.length) (fun i s=>s=((gst l i).1,((aC [] (gst l i).1).1.length:Int),(gst l i).2.1++ [(gst l i).2.2],(i:Int))) (fun u=>u=mn l) (fun i s hi e=>?_) (fun s e=>?_) rfl (by omega) (fun u e=>by rw [e])
 ·left
  subst e;obtain ⟨g1,g2,g3,g4⟩:=ml hb i (by omega);have e2:gw (l.take (i+1))=gw (l.take i)+l[i].Bytes.length:=fN (fun o:aw=>o.Bytes.length) hi;have e3:=hsum (i+1);have hbi:=hb _ (cL hi);simp only;rw [aj (dlt hi),fF hi,bsm,fW hi (by omega)];have hz:(if (l[i].Kind==0)=true then
    (cp (gst l i).1 ((aC [] (gst l i).1).1.length:Int) ((gst l i).2.1++ [(gst l i).2.2]) l[i].Bytes).bind fun x_22=>some x_22
    else if (l[i].Kind==1)=true then
    (bZ (gst l i).1 ((aC [] (gst l i).1).1.length:Int) ((gst l i).2.1++ [(gst l i).2.2])).bind fun x_28=>some (([]:List Int),(0:Int),x_28)
    else some ((gst l i).1,((aC [] (gst l i).1).1.length:Int),(gst l i).2.1++ [(gst l i).2.2]))=some (kF (gst l i) l[i],((aC [] (kF (gst l i) l[i])).1.length:Int),(gst l i).2.1++ [kV (gst l i) l[i]]):=by
   unfold kF kV;by_cases k0:l[i].Kind=0
   ·rw [aj (by rw [k0]; rfl),aj k0,aj k0,pL g1 hbi (by omega) (by omega) (by omega),bsm]
   ·rw [am (by rw [dz]; exact k0),am k0,am k0];by_cases k1:l[i].Kind=1
    ·rw [aj (by rw [k1]; rfl),aj k1,aj k1,oT g1 (by omega) (by omega) (by omega),bsm];rfl
    ·rw [am (by rw [dz]; exact k1),am k1,am k1,bF]
  rw [hz,bsm,px,bsm,kD hi];unfold kC
  cases h:clo l[i] with
  | true=>
   rw [aj rfl,dU (by simp only [ab,af,ao]; omega),bsm,bsm,aj rfl];exact ⟨_,rfl,rfl⟩
  | false=>
   rw [am (by simp),bsm,am (by simp)];exact ⟨_,rfl,rfl⟩
 ·subst e;refine ⟨mn l,?_,rfl⟩;simp only;rw [am (by simp)];rfl
end Go.Proofs.YtclmdpamofdoiaaGreatDoor
namespace Go.Proofs.YtclmdpamofdoiaaGreatDoor
open Go Go.Lt
set_option maxRecDepth 100000
theorem qg:(bK ⟨[],[],[],[],[],[]⟩).map (fun q=>q.2)=some true:=by kernel_rfl
theorem pl:((bK ⟨[],[],[],[],[],[]⟩).bind fun q=>bK q.1).map (fun q=>q.2)=some true:=by kernel_rfl
theorem kw (l:List aw) (hl0:l.length≤9223372036854775807) (hb:Obs l) (hs:∀o∈l,o.Bytes.length≤4611686018427387904):∃st,bG ⟨[],[],[],[],[],[]⟩ l=some (st,true):=by
  obtain ⟨s1,s2,w1,w2⟩:=rI qg pl;obtain ⟨t,t1,t2⟩:=pu l hl0 hs;unfold bG;rw [w1,bsm,t1,bsm,da,bsm]
  cases t with
  | true=>
    rw [aj (by simp),w2,bsm];exact ⟨_,rfl⟩
  | false=>
    obtain ⟨hl,hsm⟩:=t2 rfl;have hbt:∀o∈l,Bts o.Bytes:=fun o ho=>(hb o ho).1;have hsum:∀i,gw (l.take i)≤gw l:=fun i=>lE (fun o:aw=>o.Bytes.length) l i;have hN:cD 1 1=some ⟨⟨bls 1 1,⟨0,0,false⟩,true⟩,[],[],0⟩:=pb (W:=1) (H:=1) (by omega) (by omega) (by omega) (by omega);rw [am (by simp),pq l hbt hl hsm,bsm,hN,bsm];obtain ⟨_,_,n3,_⟩:=ml hbt l.length (ah _);have hgl:(mn l).length=(gst l l.length).2.1.length+1:=by unfold mn; simp
    refine pm (n:=l.length) (fun i a=>∃F:ag,a=(((gst l i).2.1.length:Int),(i:Int),F.P.L,F.P.At.Row,F.P.At.Col,F.P.At.Pending,F.P.Auto,F.Group,F.Raw,F.Parts)∧F.Group=(gst l i).2.2∧F.Raw=(gst l i).1∧F.Parts=((aC [] (gst l i).1).1.length:Int))
      (fun u=>∃x1 x2 x3 x4 x5 x6 x7 x8,u= .inr (((gst l l.length).2.1.length:Int),x1,x2,x3,x4,x5,x6,x7,x8)∧x6=(gst l l.length).2.2) (fun i a hi hI=>?_) (fun a hI=>?_) ⟨⟨⟨bls 1 1,⟨0,0,false⟩,true⟩,[],[],0⟩,rfl,rfl,rfl,rfl⟩ (by omega) (fun u hu=>?_)
    · obtain ⟨F,rfl,hG,hR,hP⟩:=hI
      left
      obtain ⟨g1,g2,g3,g4⟩:=ml hbt i (by omega);obtain ⟨_,k2,k3,k4⟩:=ml hbt (i+1) (by omega);have e2:gw (l.take (i+1))=gw (l.take i)+l[i].Bytes.length:=fN (fun o:aw=>o.Bytes.length) hi;have e3:=hsum (i+1);have hbi:=hbt _ (cL hi);have hF:∀F:ag,(⟨(⟨F.P.L,(⟨F.P.At.Row,F.P.At.Col,F.P.At.Pending⟩:ak),F.P.Auto⟩:an),F.Group,F.Raw,F.Parts⟩:ag)=F:=fun _=>rfl;have hcl:(orE (l[i].Kind==1) (some (l[i].Kind==13))).bind (fun o=>(orE o ((bJ l[i]).bind fun s=>some (s==0))).bind fun p=>some p)=some (clo l[i]):=by
        unfold clo;rw [da,bsm,lF,bsm,da,bsm]
      obtain ⟨F2,hz,hG2,hR2,hP2⟩:∃F2:ag,((if (l[i].Kind==0)=true then
 (bB F l[i].Bytes).bind fun f=>
 some (f.P.L,f.P.At.Row,f.P.At.Col,f.P.At.Pending,f.P.Auto,f.Group,f.Raw,f.Parts)
 else
 some (F.P.L,F.P.At.Row,F.P.At.Col,F.P.At.Pending,F.P.Auto,F.Group,F.Raw,F.Parts)).bind fun c=>
 (bS (l[i].Kind==1) ((bm (⟨(⟨c.1,(⟨c.2.1,c.2.2.1,c.2.2.2.1⟩:ak),c.2.2.2.2.1⟩:an),c.2.2.2.2.2.1,c.2.2.2.2.2.2.1,c.2.2.2.2.2.2.2⟩:ag)).bind fun t=>
 some (decide (t > 0)))).bind fun q=>
 if q=true then
 (bD (⟨(⟨c.1,(⟨c.2.1,c.2.2.1,c.2.2.2.1⟩:ak),c.2.2.2.2.1⟩:an),c.2.2.2.2.2.1,c.2.2.2.2.2.2.1,c.2.2.2.2.2.2.2⟩:ag) 65533).bind fun g=>
 some (g.P.L,g.P.At.Row,g.P.At.Col,g.P.At.Pending,g.P.Auto,g.Group,g.Raw,g.Parts)
 else
 some (c.1,c.2.1,c.2.2.1,c.2.2.2.1,c.2.2.2.2.1,c.2.2.2.2.2.1,c.2.2.2.2.2.2.1,c.2.2.2.2.2.2.2))=some (F2.P.L,F2.P.At.Row,F2.P.At.Col,F2.P.At.Pending,F2.P.Auto,F2.Group,F2.Raw,F2.Parts)∧F2.Group=kV (gst l i) l[i]∧(l[i].Kind≠1→F2.Raw=kF (gst l i) l[i])∧(l[i].Kind≠1→F2.Parts=((aC [] (kF (gst l i) l[i])).1.length:Int)):=by
        unfold kV kF;by_cases k0:l[i].Kind=0
        · rw [aj (by rw [k0]; rfl),pf (by rw [hP,hR]) (by rw [hR]; exact g1) hbi (by rw [hR]; omega) (by rw [hG]; omega),bsm,bsm,show (l[i].Kind==1)=false by rw [k0]; rfl,gK,bsm,am (by simp),aj k0,aj k0]
          exact ⟨⟨F.P,F.Group++(aC (aC [] F.Raw).2 l[i].Bytes).1,F.Raw++l[i].Bytes,((aC [] (F.Raw++l[i].Bytes)).1.length:Int)⟩,rfl,by simp only; rw [hG,hR],fun _=>by simp only; rw [hR],fun _=>by simp only; rw [hR]⟩
        · rw [am (by rw [dz]; exact k0),bsm,am k0,am k0]
          simp only;rw [hF F];by_cases k1:l[i].Kind=1
          · rw [show (l[i].Kind==1)=true by rw [k1]; rfl,iA,nM (by rw [hR]; exact g1) (by rw [hR]; omega),bsm,bsm,aj k1,aj k1]
            by_cases hh:(aC [] (gst l i).1).2= []
            · rw [am (by rw [aq,hR,hh]; simp),aj hh]
              exact ⟨F,rfl,by rw [bF,hG],fun h=>absurd k1 h,fun h=>absurd k1 h⟩
            · have hpos:0 < (aC [] (gst l i).1).2.length:=List.length_pos_iff.2 hh
              rw [aj (by rw [aq,hR]; omega),am hh,pY (by rw [hG]; omega),bsm];exact ⟨⟨F.P,F.Group++ [qV 65533],F.Raw,F.Parts⟩,rfl,by simp only; rw [hG]; rfl,fun h=>absurd k1 h,fun h=>absurd k1 h⟩
          · rw [show (l[i].Kind==1)=false by rw [sE]; exact k1,gK,bsm,am (by simp),am k1,am k1,bF]
            exact ⟨F,rfl,hG,fun _=>hR,fun _=>hP⟩
      simp only;rw [aj (dlt hi),fF hi,bsm];rw [fW hi (by omega)];have hcl2:(orE (l[i].Kind==1 || l[i].Kind==13) ((bJ l[i]).bind fun s=>some (s==0)))=some (clo l[i]):=by
        unfold clo;rw [lF,bsm,da]
      rw [da,bsm,hcl2,bsm,hF F,←Option.bind_assoc,hz,bsm];simp only;have hst:=kD hi;unfold kC at hst
      cases hc:clo l[i] with
      | true=>
        rw [hc,aj rfl] at hst;obtain ⟨tt,htt⟩:=qU (l:=l) (l.length - (i+1)) (i+1) (by omega);rw [show i+1+(l.length - (i+1))=l.length by omega,hst] at htt;simp only at htt;have hidx:idx (mn l) ((gst l i).2.1.length:Int)=some (kV (gst l i) l[i]):=by
          unfold mn;rw [htt,lU,aB,aB,ay (ah _),dJ];rfl
        have hk:decide (((gst l i).2.1.length:Int)≥((mn l).length:Int))=false:=by
          rw [eF,hgl,htt];simp only [ab,af,ao];omega
        have hgb:(kV (gst l i) l[i]).length≤9223372036854775807:=by
          have:(kV (gst l i) l[i]).length≤2 * gw (l.take (i+1))+(i+1):=by
            have:=kS (aC [] (gst l i).1).2 l[i].Bytes;unfold kV;rw [ab];split
            · omega
            · split
              · split
                · rw [ao]; omega
                · rw [af,ao]; omega
              · rw [ao]; omega
          omega
        have hwk:w64 (((gst l i).2.1.length:Int)+1)=((gst l (i+1)).2.1.length:Int):=by
          rw [hst,bj (by omega)];simp
        rw [aj rfl,hk,pk,hidx,bsm,hG2,lZ _ hgb,bsm,bsm,am (by simp),hwk];by_cases k1:l[i].Kind=1
        · rw [aj (by rw [k1]; rfl)]
          refine ⟨_,rfl,⟨F2.P,[],[],0⟩,rfl,by rw [hst],?_,?_⟩
          · rw [hst]
            simp only;unfold kF;rw [am (by omega),aj k1]
          · rw [hst]
            simp only;unfold kF;rw [am (by omega),aj k1];rfl
        · rw [am (by rw [dz]; exact k1)]
          exact ⟨_,rfl,⟨F2.P,[],F2.Raw,F2.Parts⟩,rfl,by rw [hst],by rw [hst]; exact hR2 k1,by rw [hst]; exact hP2 k1⟩
      | false=>
        rw [hc,am (by simp)] at hst;have k1:¬l[i].Kind=1:=fun k1=>by
          unfold clo at hc;rw [k1] at hc;simp at hc
        rw [am (by simp),am (by rw [dz]; exact k1)];exact ⟨_,rfl,F2,by rw [hst],by rw [hst]; exact hG2,by rw [hst]; exact hR2 k1,by rw [hst]; exact hP2 k1⟩
    · obtain ⟨F,rfl,hG,hR,hP⟩:=hI
      exact ⟨_,by simp only; rw [am (by simp)],_,_,_,_,_,_,_,_,rfl,hG⟩
    · obtain ⟨x1,x2,x3,x4,x5,x6,x7,x8,rfl,rfl⟩:=hu
      simp only;have hw:w64 (((gst l l.length).2.1.length:Int)+1)=((mn l).length:Int):=by
        rw [hgl,bj (by omega)];simp
      have hi2:idx (mn l) ((gst l l.length).2.1.length:Int)=some (gst l l.length).2.2:=by
        unfold mn;exact oL _ _
      obtain ⟨_,q2,_,q4⟩:=ml hbt l.length (ah _);rw [kO] at q4;rw [hw,beq_self_eq_true,iA,hi2,bsm,lZ _ (by omega),bsm,bsm];exact ⟨_,rfl⟩
end Go.Proofs.YtclmdpamofdoiaaGreatDoor
