/- Parts of the proofs of ReadbackTrips: the walk through the code, and plain Lean. No condition. -/
import Derived.Test.YtclmdpamofdoiaaGreatDoorRtD
import Derived.Test.YtclmdpamofdoiaaGreatDoorRtB
import Derived.Test.YtclmdpamofdoiaaGreatDoorRtC
import Derived.KernelRfl
import Derived.Test.YtclmdpamofdoiaaGreatDoorRtA
import Derived.Test.YtclmdpamofdoiaaGreatDoorProg
set_option linter.unusedVariables false
set_option linter.unusedSimpArgs false
namespace Go.Proofs.YtclmdpamofdoiaaGreatDoor
open Go Go.Lt
variable {s C:Sto} {g k W:Nat} {ks:List Nat} {q:ag}
def sil (r:Int):Bool:=(decide (0≤r) && decide (r < 32)) || (decide (127≤r) && decide (r≤159))
theorem wQ (r:Int):eR r=some (sil r):=by
 simp only [eR,bf,bM,bsm,sil,zK]
theorem na (r:Int):dP r=some (sil r):=by
 simp only [dP,bf,bM,bsm,sil,zK,aM];rw [ce];simp;omega
theorem wt (r:Int) (h:r≠13∧r≠10∧r≠8):dF q r=some (q,sil r):=by
 unfold dF;rw [ab (by simpa using h.1)];simp only [bsm];rw [ab (by simpa using h.2.1)];simp only [bsm];rw [ab (by simpa using h.2.2)];simp only [bsm];rw [na];rfl
theorem Fh (h:Pv C s k g W q ks) (r:Int):∃s' q' ks',ow s (some k) r=some (s',sil r)∧dF q r=some (q',sil r)∧Pv C s' k g W q' ks'∧ks'.length=ks.length∧(Hd q.At W ks.length→Hd q'.At W ks.length):=by
 have w1:=h.g.w1;have w2:=h.g.w2;unfold ow;rw [wQ];simp only [bsm,bI,ft,h.p];by_cases hs:sil r=true
 ·rw [hs];simp only [cW,aj,aU];rw [iV h.g,eA h.g];simp only [bsm];rw [oA _ h.g.w1 h.g.w2 h.g.h1 h.g.h2];have hd:=se q.At h.g.w1 h.g.h1;have hh:=nZ h;by_cases h13:r=13
  ·subst h13;simp only [bsm,sH,bw,dk];rw [iE (cz h.p)];refine ⟨_,_,ks,rfl,?_,h.set ⟨(hc q.At W ks.length).Row,0,false⟩ q.Auto,rfl,fun _=>⟨hd.rr,by simp only; omega,fun e=>by cases e⟩⟩;unfold dF;rw [hh,na,hs];rfl
  by_cases h10:r=10
  ·subst h10;obtain ⟨s',q',ks',a1,a2,v,hn,hnd,_⟩:=uN h;simp only [bsm];rw [ab (by decide),ae (by decide),a1];refine ⟨s',q',ks',rfl,?_,v,hn,fun _=>hnd⟩;unfold dF;rw [ab (by decide)];simp only [bsm];rw [ae (by decide),show (⟨q.L,⟨q.At.Row,q.At.Col,q.At.Pending⟩,q.Auto⟩:ag)=q from rfl,a2];simp only [bsm];rw [ab (by decide),na,hs];rfl
  by_cases h8:r=8
  ·subst h8;have hcc:=hd.cc;have hb:kO (hc q.At W ks.length)=some ⟨(hc q.At W ks.length).Row,max 0 ((hc q.At W ks.length).Col - 1),false⟩:=by
    unfold kO;by_cases h0:(hc q.At W ks.length).Col > 0
    ·rw [ae (by simpa using h0),aG (by omega)];simp only [bsm,aM,ah.mk.injEq,uw,qv];omega
    ·rw [ab (by simpa using h0)];simp only [bsm,aM,ah.mk.injEq,uw,qv];omega
   simp only [bsm];rw [ab (by decide),ab (by decide),ae (by decide),hb];simp only [bsm];rw [iE (cz h.p)];refine ⟨_,_,ks,rfl,?_,h.set ⟨(hc q.At W ks.length).Row,max 0 ((hc q.At W ks.length).Col - 1),false⟩ q.Auto,rfl,fun _=>⟨hd.rr,by simp only; omega,fun e=>by cases e⟩⟩;unfold dF;rw [ab (by decide)];simp only [bsm];rw [ab (by decide)];simp only [bsm];rw [ae (by decide),show (⟨q.L,⟨q.At.Row,q.At.Col,q.At.Pending⟩,q.Auto⟩:ag)=q from rfl,hh];simp only [bsm];rw [na,hs,aG (by omega),gu];rfl
  ·simp only [bsm];rw [ab (by simpa using h13),ab (by simpa using h10),ab (by simpa using h8)];exact ⟨s,q,ks,rfl,by rw [wt r ⟨h13,h10,h8⟩,hs],h,rfl,id⟩
 ·have hf:sil r=false:=by simpa using hs
  rw [hf];simp only [eX,bw];have hn:r≠13∧r≠10∧r≠8:=by
   refine ⟨?_,?_,?_⟩ <;> (rintro rfl; revert hf; decide)
  exact ⟨s,q,ks,rfl,by rw [wt r hn,hf],h,rfl,id⟩
end Go.Proofs.YtclmdpamofdoiaaGreatDoor
namespace Go.Proofs.YtclmdpamofdoiaaGreatDoor
open Go Go.Lt
def pj (a b:Int):Int:=(dy a b).getD 0
def clz (a:Int):Int:=if a < 0∨13 < a then 0 else a
def pjT (i j:Nat):Bool:=match dy i j,cP i j with
  | some x,some y=>x==y && (x != 2 || ((i==6)==(j==6))) && (x==0 || !(i==1 || i==2 || i==3 || j==1 || j==2 || j==3) || (i==1 && j==2))
  | _,_=>false
theorem Gn:((List.range 14).all fun i=>(List.range 14).all fun j=>pjT i j)=true:=by kernel_rfl
theorem xk (a:Int):∃i:Nat,clz a=(i:Int)∧i < 14∧(0 < i→a=(i:Int)):=by
  unfold clz;split
  · exact ⟨0,rfl,by omega,fun h=>by omega⟩
  · exact ⟨a.toNat,by omega,by omega,fun _=>by omega⟩
theorem mF (a:Int):iM a=some (clz a):=by
  unfold iM clz;simp only [bM,bsm];by_cases h:a < 0∨13 < a
  · rw [ae (by simp only [aE,ak]; omega),ae h]
  · rw [ab (by simp only [aE,ak]; omega),ab h]
theorem um (a:Int):clz (clz a)=clz a:=by
  unfold clz
  repeat' split
  all_goals omega
theorem wv (a b:Int):dy a b=dy (clz a) (clz b):=by
  unfold dy;rw [mF,mF,mF,mF,um,um]
theorem Bp (a b:Int):cP a b=cP (clz a) (clz b):=by
  have h:∀(a:Int),((orE (decide (a < 0)) (some (decide (a > 13)))).bind fun d_6=>if d_6=true then (some (0):Option (Int)) else (some (a):Option (Int)))=some (clz a):=fun a=>by
    have:=mF a;unfold iM at this;exact this
  unfold cP;rw [h,h,h,h,um,um]
theorem uL (a b:Int):∃x,dy a b=some x∧cP a b=some x∧pj a b=x∧(x=2→(a=6↔b=6))∧(x≠0→(a=1∨a=2∨a=3∨b=1∨b=2∨b=3)→a=1∧b=2):=by
  obtain ⟨i,hi,i14,i0⟩:=xk a;obtain ⟨j,hj,j14,j0⟩:=xk b;have h:=List.all_eq_true.1 (List.all_eq_true.1 Gn i (List.mem_range.2 i14)) j (List.mem_range.2 j14);have ia:∀n:Nat,0 < n→n < 14→(a=(n:Int)↔i=n):=fun n h0 h1=>by
    constructor
    · intro e
      unfold clz at hi;split at hi <;> omega
    · intro e; subst e; exact i0 h0
  have jb:∀n:Nat,0 < n→n < 14→(b=(n:Int)↔j=n):=fun n h0 h1=>by
    constructor
    · intro e
      unfold clz at hj;split at hj <;> omega
    · intro e; subst e; exact j0 h0
  have a1:=ia 1 (by omega) (by omega);have a2:=ia 2 (by omega) (by omega);have a3:=ia 3 (by omega) (by omega);have a6:=ia 6 (by omega) (by omega);have b1:=jb 1 (by omega) (by omega);have b2:=jb 2 (by omega) (by omega);have b3:=jb 3 (by omega) (by omega);have b6:=jb 6 (by omega) (by omega);unfold pj;rw [wv,Bp,hi,hj];unfold pjT at h;split at h
  · rename_i x y e1 e2
    simp only [av,aE,aN,lW,uO,dq,vI,eG] at h;obtain ⟨⟨hxy,h2⟩,h3⟩:=h;subst hxy;refine ⟨x,e1,e2,by rw [e1]; rfl,fun hx=>?_,fun hx hc=>?_⟩
    · rcases h2 with q | q
      · exact absurd hx q
      · have q1:(i==6)=(j==6):=q
        rw [ce,aN,aN] at q1;omega
    · rcases h3 with (q | q) | q
      · exact absurd q hx
      · exfalso
        omega
      · omega
  · cases h
theorem Ey (a b:Int):dy a b=some (pj a b):=by
  obtain ⟨x,h1,_,h3,_⟩:=uL a b;rw [h1,h3]
theorem Gj (a b:Int):cP a b=some (pj a b):=by
  obtain ⟨x,_,h2,h3,_⟩:=uL a b;rw [h2,h3]
theorem Gi (a b:Int) (h:pj a b=2):a=6↔b=6:=by
  obtain ⟨x,_,_,h3,h4,_⟩:=uL a b;exact h4 (by omega)
def sgB (s:Sg):br:=⟨s.some,s.last,s.pict,s.conj,s.odd⟩
theorem xT (s:Sg) (p:ao):cu (sgB s) p=some (sgB (sgN s p),sgJ pj s p):=by
  have hj:cO (sgB s) p=some (sgJ pj s p):=by
    unfold cO sgB sgJ;simp only [bf,bsm,Ey]
    cases s.some with
    | false=>rfl
    | true=>
      simp only [cW,aj,aU,dN]
      cases h1:(p.Conj==1 && s.conj==2) with
      | true=>rfl
      | false=>
        simp only [aj,aU,bsm,jP]
        cases h2:(p.Pict && s.pict==2) with
        | true=>rfl
        | false=>
          simp only [aj,aU,jP];by_cases h3:pj s.last p.Break=1
          · rw [ae (by simpa using h3),h3]
            rfl
          · rw [ab (by simpa using h3),show (pj s.last p.Break==1)=false by simpa using h3,jP]
            by_cases h4:pj s.last p.Break=2
            · rw [ae (by simpa using h4),h4]
              rfl
            · rw [ab (by simpa using h4),show (pj s.last p.Break==2)=false by simpa using h4]
              rfl
  have hp:cF (sgB s) p=some (nxP s.pict p):=by
    unfold cF sgB nxP;simp only [bf,bsm];by_cases h1:p.Pict=true
    · rw [ae h1,ae h1]
    · rw [ab h1,ab h1]
      by_cases h2:s.pict=1∧p.Break=4
      · rw [ae (by simpa using h2),ae h2]
      · rw [ab (by simpa using h2),ab h2]
        by_cases h3:s.pict=1∧p.Break=5
        · rw [ae (by simpa using h3),ae h3]
        · rw [ab (by simpa using h3),ab h3]
  have hc:cw (sgB s) p=some (nxC s.conj p):=by
    unfold cw sgB nxC;simp only [aN]
    repeat' split
    all_goals rfl
  unfold cu;simp only [aj,aU];rw [hj,hp,hc];simp only [bsm,bf];rfl
theorem wj (d:br):dx d=some (sgB sg0):=rfl
theorem pS {α:Type} {l:List α} {k:Nat} (h:k < l.length):(l.take (k+1)).reverse=l[k] :: (l.take k).reverse:=by
  rw [aq h,List.reverse_append];rfl
theorem Fq (x:ao) (l:List ao) (n:Nat):cj (x :: l) n=if x.Conj=1 then decide (0 < n) else if x.Conj=2 then cj l (n+1) else if x.Conj=3 then cj l n else false:=rfl
theorem Ex (x:ao) (l:List ao):pk (x :: l)=if x.Pict=true then true else if x.Break=4 then pk l else false:=rfl
theorem Em (x:ao) (l:List ao):ri (x :: l)=if x.Break=6 then ri l+1 else 0:=rfl
theorem zy {P:List ao} (hP:P.length≤1000000) {i:Nat} (hi:i < P.length):el P i=some (P[i].Conj==1 && cj (P.take i).reverse 0):=by
  unfold el;rw [aZ hi];simp only [bsm];by_cases h1:P[i].Conj=1
  · rw [ab (by simpa using h1),show (P[i].Conj==1)=true by simpa using h1,dN]
    have e1:w64 ((i:Int) - 1)=(i:Int) - 1:=aG (by omega);rw [e1];refine wA (fun s=>∃k n:Nat,s=((n:Int),(k:Int) - 1)∧k≤i∧n+k≤i∧cj (P.take k).reverse n=cj (P.take i).reverse 0) (fun s=>(s.2+1).toNat) (fun u=>(match u with | .inl b=>b | .inr _=>false)=cj (P.take i).reverse 0) (fun s hs=>?_) ⟨i,0,rfl,aw _,by omega,rfl⟩ (by simp only; omega) (fun u hu=>?_)
    · obtain ⟨k,n,rfl,hk,hn,hI⟩:=hs
      simp only
      cases k with
      | zero=>
        rw [ab (by simp)];exact .inr ⟨_,rfl,by rw [←hI]; rfl⟩
      | succ k=>
        have e2:((k+1:Nat):Int) - 1=(k:Int):=by omega
        have hkl:k < P.length:=by omega
        rw [pS hkl] at hI;rw [Fq] at hI;rw [e2,ae (by simp),aZ hkl];simp only [bsm];by_cases c1:P[k].Conj=1
        · rw [ae (by simpa using c1)]
          rw [ae c1] at hI;exact .inr ⟨_,rfl,by rw [←hI]; simp⟩
        · rw [ab (by simpa using c1)]
          rw [ab c1] at hI;have e3:w64 ((k:Int) - 1)=(k:Int) - 1:=aG (by omega);have e4:w64 ((n:Int)+1)=((n+1:Nat):Int):=by rw [aG (by omega)]; simp
          simp only [bf,bsm,e3,e4];by_cases c2:P[k].Conj=2
          · rw [ae (by simpa using c2)]
            simp only [bsm];rw [ab (by simp [c2])];rw [ae c2] at hI;exact .inl ⟨_,rfl,⟨k,n+1,rfl,by omega,by omega,hI⟩,by simp only; omega⟩
          · rw [ab (by simpa using c2)]
            rw [ab c2] at hI;simp only [bsm];by_cases c3:P[k].Conj=3
            · rw [ab (by simp [c3])]
              rw [ae c3] at hI;exact .inl ⟨_,rfl,⟨k,n,rfl,by omega,by omega,hI⟩,by simp only; omega⟩
            · rw [ae (by simp [c2,c3])]
              rw [ab c3] at hI;exact .inr ⟨_,rfl,by rw [←hI]⟩
    · cases u with
      | inl b=>simp only at hu⊢; rw [hu]
      | inr u=>simp only at hu⊢; rw [hu]
  · rw [ae (by simpa using h1),show (P[i].Conj==1)=false by simpa using h1]
    rfl
theorem zx {P:List ao} (hP:P.length≤1000000) {i:Nat} (hi:i < P.length) (h0:1≤i):eE P i=some (P[i].Pict && (!(P[i - 1]'(by omega)).Pict && (P[i - 1]'(by omega)).Break==5 && pk (P.take (i - 1)).reverse)):=by
  have e1:w64 ((i:Int) - 1)=((i - 1:Nat):Int):=by rw [aG (by omega)]; omega
  unfold eE;rw [aZ hi,e1,aZ (show i - 1 < P.length by omega)];simp only [bsm,bM];by_cases hc:P[i].Pict=true∧2≤i∧(P[i - 1]'(by omega)).Break=5∧(P[i - 1]'(by omega)).Pict=false
  · obtain ⟨c1,c2,c3,c4⟩:=hc
    rw [ab (by rw [c1,c3,c4]; simp; omega),c1,c3,c4];simp only [eX,sH,dN];have e2:w64 ((i:Int) - 2)=((i - 1:Nat):Int) - 1:=by rw [aG (by omega)]; omega
    rw [e2];refine wA (fun s=>∃k:Nat,s=(k:Int) - 1∧k≤i - 1∧pk (P.take k).reverse=pk (P.take (i - 1)).reverse) (fun s=>(s+1).toNat) (fun u=>(match u with | .inl b=>b | .inr _=>false)=pk (P.take (i - 1)).reverse) (fun s hs=>?_) ⟨i - 1,rfl,aw _,rfl⟩ (by omega) (fun u hu=>?_)
    · obtain ⟨k,rfl,hk,hI⟩:=hs
      cases k with
      | zero=>
        rw [ab (by simp)];exact .inr ⟨_,rfl,by rw [←hI]; rfl⟩
      | succ k=>
        have e2:((k+1:Nat):Int) - 1=(k:Int):=by omega
        have hkl:k < P.length:=by omega
        rw [pS hkl] at hI;rw [Ex] at hI;rw [e2,ae (by simp),aZ hkl];simp only [bsm];by_cases d1:P[k].Pict=true
        · rw [ae d1]
          rw [ae d1] at hI;exact .inr ⟨_,rfl,by rw [←hI]⟩
        · rw [ab d1]
          rw [ab d1] at hI;by_cases d2:P[k].Break=4
          · rw [ab (by simpa using d2),aG (by omega)]
            rw [ae d2] at hI;exact .inl ⟨_,rfl,⟨k,rfl,by omega,hI⟩,by omega⟩
          · rw [ae (by simpa using d2)]
            rw [ab d2] at hI;exact .inr ⟨_,rfl,by rw [←hI]⟩
    · cases u with
      | inl b=>simp only at hu⊢; rw [hu]
      | inr u=>simp only at hu⊢; rw [hu]
  · rw [ae ?_]
    · congr 1
      rw [eq_comm,rm];intro hh;simp only [av,dq,aN] at hh;obtain ⟨g1,⟨g2,g3⟩,g4⟩:=hh;by_cases h2:2≤i
      · exact hc ⟨g1,h2,g3,g2⟩
      · rw [show i - 1=0 by omega] at g4
        simp [pk] at g4
    · simp only [aE,dq,ak,lW,uO]
      by_cases g1:P[i].Pict=true
      · by_cases g2:2≤i
        · by_cases g3:(P[i - 1]'(by omega)).Break=5
          · right
            cases g4:(P[i - 1]'(by omega)).Pict with
            | true=>rfl
            | false=>exact absurd ⟨g1,g2,g3,g4⟩ hc
          · exact .inl (.inr g3)
        · exact .inl (.inl (.inr (by omega)))
      · exact .inl (.inl (.inl (by simpa using g1)))
theorem CH {P:List ao} (hP:P.length≤1000000) {i:Nat} (hi:i < P.length):(cJ (σ:=Int×Int) (τ:=Int) (((w64 ((i:Int) - 1)) - 0).toNat+2) (fun s_62=>
 (bT (decide (s_62.2≥0)) ((idx P s_62.2).bind fun x_69=>
 some (x_69.Break==6))).bind fun d_65=>
 if d_65=true then
 some (.inl ((w64 (s_62.1+1)),(w64 (s_62.2 - 1))))
 else
 some (.inr (s_62.1))) (0,(w64 ((i:Int) - 1))))=some (ri (P.take i).reverse:Int):=by
  have e1:w64 ((i:Int) - 1)=(i:Int) - 1:=aG (by omega);rw [e1];obtain ⟨t,h1,h2⟩:=kH (σ:=Int×Int) (τ:=Int) (step:=fun s_62=>
 (bT (decide (s_62.2≥0)) ((idx P s_62.2).bind fun x_69=>
 some (x_69.Break==6))).bind fun d_65=>
 if d_65=true then
 some (.inl ((w64 (s_62.1+1)),(w64 (s_62.2 - 1))))
 else
 some (.inr (s_62.1))) (fun s=>∃k n:Nat,s=((n:Int),(k:Int) - 1)∧k≤i∧n+k≤i∧n+ri (P.take k).reverse=ri (P.take i).reverse) (fun s=>(s.2+1).toNat) (fun t=>t=(ri (P.take i).reverse:Int)) (fun s hs=>by
      obtain ⟨k,n,rfl,hk,hn,hI⟩:=hs;simp only
      cases k with
      | zero=>
        rw [show decide (((0:Nat):Int) - 1≥0)=false by simp,gR];exact .inr ⟨_,rfl,by rw [←hI]; simp [ri]⟩
      | succ k=>
        have e2:((k+1:Nat):Int) - 1=(k:Int):=by omega
        have hkl:k < P.length:=by omega
        rw [pS hkl] at hI;rw [Em] at hI;rw [e2,show decide ((k:Int)≥0)=true by simp,gj,aZ hkl];simp only [bsm];by_cases c1:P[k].Break=6
        · rw [ae (by simpa using c1),aG (by omega),aG (by omega)]
          rw [ae c1] at hI;exact .inl ⟨_,rfl,⟨k,n+1,by simp,by omega,by omega,by omega⟩,by simp only; omega⟩
        · rw [ab (by simpa using c1)]
          rw [ab c1] at hI;exact .inr ⟨_,rfl,by rw [←hI]; simp⟩) ((((i:Int) - 1) - 0).toNat+2) (0,(i:Int) - 1) ⟨i,0,rfl,aw _,by omega,by omega⟩ (by simp only; omega)
  rw [h1,h2]
theorem ye {P:List ao} (hP:P.length≤1000000) {i:Nat} (hi:i < P.length):ei P i=some (rj pj (P.take i).reverse P[i]):=by
  unfold ei;simp only [bM,bsm];by_cases h0:i=0
  · subst h0
    rw [ae (by simp)];rfl
  · obtain ⟨j,rfl⟩:∃j,i=j+1:=⟨i - 1,by omega⟩
    rw [ab (by simp; omega)];have e1:w64 (((j+1:Nat):Int) - 1)=(j:Int):=by rw [aG (by omega)]; omega
    have hj:j < P.length:=by omega
    have hp:=zx hP hi (by omega);simp only [qw] at hp;have hr:=CH hP hi;rw [e1] at hr⊢;rw [aZ hj,aZ hi];simp only [bsm,Gj,zy hP hi,hp];simp only [bM,bsm];rw [pS hj];unfold rj;simp only;rw [pS hj] at hr;generalize hA:(pj P[j].Break P[j+1].Break==1 || (P[j+1].Conj==1 && cj (P[j] :: (P.take j).reverse) 0) || (P[j+1].Pict && (!P[j].Pict && P[j].Break==5 && pk (P.take j).reverse)))=A
    cases A with
    | true=>simp
    | false=>
      simp only [aj,aU,jP];by_cases hc:pj P[j].Break P[j+1].Break=2∧P[j+1].Break=6
      · have b1:(pj P[j].Break P[j+1].Break==2)=true:=by rw [aN]; exact hc.1
        have b2:(P[j+1].Break==6)=true:=by rw [aN]; exact hc.2
        have b3:(pj P[j].Break P[j+1].Break != 2)=false:=by rw [bne,b1]; rfl
        have b4:(P[j+1].Break != 6)=false:=by rw [bne,b2]; rfl
        rw [ab (by rw [b3,b4]; simp),hr];simp only [bsm,b1,b2,dN,aM];rw [ce,aN,aN,fX (by omega)];omega
      · rw [ae (by simp only [aE,lW,uO]; omega)]
        congr 1
        rw [eq_comm,rm];simp only [uO,av,aN];exact fun h=>hc ⟨h.1.1,h.1.2⟩
def R32 (l:List Int):Prop:=∀x∈l,r32 x
theorem zC (l:List Int) (h:R32 l) (hl:l.length≤1000000):(cJ (σ:=(List ao)×Int) (τ:=(List ao)) (((l.length:Int) - 0).toNat+1) (fun s_7=>
 if (decide (s_7.2 < (l.length:Int)))=true then
 (idx l s_7.2).bind fun x_16=>
 (ez x_16).bind fun x_18=>
 (app s_7.1 ([x_18]:List ao)).bind fun x_20=>
 some (.inl (x_20,(w64 (s_7.2+1))))
 else
 some (.inr (s_7.1))) (([]:List ao),0))=some (l.map pr):=by
  obtain ⟨t,h1,h2⟩:=fc (σ:=(List ao)×Int) (τ:=(List ao)) (n:=l.length) (fuel:=((l.length:Int) - 0).toNat+1) (s:=(([]:List ao),0))
    (fun i s=>s=((l.take i).map pr,(i:Int))) (fun t=>t=l.map pr) (step:=fun s_7=>
 if (decide (s_7.2 < (l.length:Int)))=true then
 (idx l s_7.2).bind fun x_16=>
 (ez x_16).bind fun x_18=>
 (app s_7.1 ([x_18]:List ao)).bind fun x_20=>
 some (.inl (x_20,(w64 (s_7.2+1))))
 else
 some (.inr (s_7.1)))
    (fun i s hi e=>by
      subst e;simp only;rw [ae (dlt hi),aZ hi,dC hi (by omega)];simp only [bsm];rw [HD _ (h _ (aB hi))];simp only [bsm];rw [cR (by simp; omega)];refine .inl ⟨_,rfl,?_⟩;rw [aq hi,bd];rfl)
    (fun s e=>by subst e; exact ⟨_,by simp only; rw [ab (by simp)],by rw [aK (aw _)]⟩)
    rfl (by omega)
  rw [h1,h2]
theorem CP (l:List Int) (h:R32 l) (hl:l.length≤1000000):fe l=some (l.map pr):=by
  unfold fe;rw [zC l h hl];rfl
theorem Dd {l:List Int} (hl:l.length≤1000000) {i:Nat} (hi:i < l.length):ei (l.map pr) i=some (jn pj pr (l.take i) l[i]):=by
  rw [ye (by simpa using hl) (by simpa using hi)];unfold jn;rw [F8 pj Gi,dM,List.map_take]
theorem A5 (l:List Int) (h:R32 l) (hl:l.length≤1000000):eQ l=some ((sts pj pr l).map fun n:Nat=>(n:Int)):=by
  unfold eQ;rw [CP l h hl];simp only [bsm,bZ];have hsl:∀l:List Int,(sts pj pr l).length≤l.length:=fun l=>by
    unfold sts;exact cx (tY _ _) (by simp)
  refine jF (n:=l.length) (fun i s=>s=((sts pj pr (l.take i)).map fun n:Nat=>(n:Int),(i:Int))) (fun u=>u=(sts pj pr l).map fun n:Nat=>(n:Int)) (fun i s hi e=>?_) (fun s e=>?_) rfl (by omega) (fun u hu=>by rw [hu])
  · subst e
    simp only;rw [ae (dlt hi),Dd hl hi,dC hi (by omega)];simp only [bsm];rw [aq hi,ux];have hle:=hsl (l.take i);rw [ay] at hle
    cases jn pj pr (l.take i) l[i] with
    | true=>
      simp only [cW,aj,aU,bsm,bw,dI];exact .inl ⟨_,rfl,rfl⟩
    | false=>
      simp only [eX,bw,aj,aU];rw [cR (by simp; omega)];refine .inl ⟨_,rfl,?_⟩;rw [bd,ay,cq (tu hi)];rfl
  · subst e
    exact ⟨_,by simp only; rw [ab (by simp)],by rw [aK (aw _)]⟩
theorem D3 (l:List Int):(sts pj pr l++ [l.length]).Pairwise (· < ·):=by
  rw [List.pairwise_append];refine ⟨?_,by simp,fun a ha b hb=>?_⟩
  · unfold sts
    exact List.Pairwise.filter _ List.pairwise_lt_range
  · rw [List.mem_singleton.1 hb]
    exact zk ha
theorem yP (l:List Int) (h:R32 l) (hl:l.length≤1000000):ek l=some (cls pj pr l):=by
  have hsl:(sts pj pr l).length≤l.length:=by
    unfold sts;exact cx (tY _ _) (by simp)
  unfold ek;rw [A5 l h hl];simp only [bsm];rw [cR (by simp; omega)];simp only [bsm];have e0:((sts pj pr l).map fun n:Nat=>(n:Int))++ [(l.length:Int)]=(sts pj pr l++ [l.length]).map fun n:Nat=>(n:Int):=by rw [bd]; rfl
  rw [e0,←EB (pj:=pj) (pr:=pr) l];have hinc:=D3 l;have hAl:(sts pj pr l++ [l.length]).length=(sts pj pr l).length+1:=by simp
  have hle:∀a∈sts pj pr l++ [l.length],a≤l.length:=fun a ha=>by
    rcases List.mem_append.1 ha with ha | ha
    · exact tu (zk ha)
    · rw [List.mem_singleton.1 ha]; exact aw _
  generalize sts pj pr l++ [l.length]=A at *;simp only [bZ];have e1:w64 (0+1)=1:=rfl;rw [e1];refine jF (n:=A.length - 1) (fun i s=>s=((List.range i).map (fun i=>slx l (A.getD i 0) (A.getD (i+1) 0)),(i:Int))) (fun u=>u=pcs l A) (fun i s hi e=>?_) (fun s e=>?_) rfl (by omega) (fun u hu=>by rw [hu])
  · subst e
    have hi1:i+1 < A.length:=by omega
    simp only;rw [dC (show i < A.length by omega) (by omega),ae (by simp; omega)];rw [aZ (show i < (A.map fun n:Nat=>(n:Int)).length by simp; omega),aZ (show i+1 < (A.map fun n:Nat=>(n:Int)).length by simp; omega)];simp only [bsm,dM];have hlt:=List.pairwise_iff_getElem.1 hinc i (i+1) (by omega) hi1 (by omega);have hb:=hle _ (aB hi1);rw [rp (by omega) hb];simp only [bsm];rw [cR (by simp; omega),bm];simp only [bsm];rw [cR (by simp; omega)];refine .inl ⟨_,rfl,?_⟩;rw [oU,bd];simp only [eV,pO,fM,qv]
    congr 2
    unfold slx;have g:∀j (h:j < A.length),A.getD j 0=A[j]:=fun j h=>by rw [an,af h]; rfl
    rw [g i (by omega),g (i+1) hi1]
  · subst e
    refine ⟨_,?_,rfl⟩;simp only;rw [aG (by omega),ab (by simp; omega)];rfl
def Hy (n:Nat):Bool:= !sil n || (((pr n).Break==1 || (pr n).Break==2 || (pr n).Break==3) && !(pr n).Pict && (pr n).Conj==0)
theorem D8:(List.range 160).all Hy=true:=by kernel_rfl
theorem GO:gT.all (fun x=> !(x.2.2==1 || x.2.2==2) || (decide (0≤x.1) && decide (x.2.1≤31)))=true:=by kernel_rfl
theorem F5 {r:Int} (h:sil r=true):0≤r∧r < 160:=by
  unfold sil at h;simp only [aE,av,ak] at h;omega
theorem Ck:Sil pj pr sil:=by
  refine ⟨fun r hr=>?_,fun a b ha hne=>?_,fun a b hb hne=>?_,fun r hr=>?_⟩
  · obtain ⟨h1,h2⟩:=F5 hr
    have:=List.all_eq_true.1 D8 r.toNat (List.mem_range.2 (by omega));unfold Hy at this;rw [ph h1,hr] at this;simp only [cW,jP,av,aE,aN,dq] at this;obtain ⟨⟨q1,q2⟩,q3⟩:=this;exact ⟨by rcases q1 with (q | q) | q <;> simp [q],q2,q3⟩
  · obtain ⟨x,_,_,h3,_,h5⟩:=uL a b
    exact h5 (by omega) (by omega)
  · obtain ⟨x,_,_,h3,_,h5⟩:=uL a b
    exact h5 (by omega) (by omega)
  · have e:(pr r).Break=(lk gT r).getD (hcl r):=rfl
    rw [e] at hr;have hh:hcl r=9∨hcl r=10∨hcl r=11∨hcl r=0∨hcl r=12∨hcl r=13:=by
      unfold hcl
      repeat' split
      all_goals simp
    cases hx:fnd (fun x:Int×Int×Int=>x.1) (fun x=>x.2.1) gT r with
    | none=>
      unfold lk at hr;rw [hx] at hr;simp only [Jr,Option.getD_none] at hr;omega
    | some x=>
      unfold lk at hr;rw [hx] at hr;simp only [dH,Je] at hr;obtain ⟨m1,m2⟩:=sm hx;have:=List.all_eq_true.1 GO x m1;rw [mz] at m2;simp only [aE,dq,vI,eG,av,ak] at this;unfold sil;simp only [aE,av,ak];omega
def fo {α β:Type} (f:β→α→Option β):β→List α→Option β
  | b,[]=>some b
  | b,a :: l=>(f b a).bind fun b'=>fo f b' l
theorem Dm {α β:Type} (f:β→α→Option β) (b:β) (l m:List α):fo f b (l++m)=(fo f b l).bind fun b'=>fo f b' m:=by
  induction l generalizing b with
  | nil=>rfl
  | cons a l ih=>
    show (f b a).bind (fun b'=>fo f b' (l++m))=((f b a).bind fun b'=>fo f b' l).bind fun b'=>fo f b' m;rw [ze]
    congr 1
    funext b'
    exact ih b'
theorem nx {α β:Type} (f:β→α→Option β) (b:β) (l:List α) (a:α):fo f b (l++ [a])=(fo f b l).bind fun b'=>f b' a:=by
  rw [Dm]
  congr 1
  funext b'
  show (f b' a).bind (fun b'=>some b')=f b' a
  cases f b' a <;> rfl
def Dq (q:ag) (r:Int):Option ag:=(dF q r).map (·.1)
def w16 (c:List Int):Int:=wz (gf (c.take 16) ((c.take 16).map pr))
def rA (q:ag) (c:List Int):Option ag:=
  if sil (c.headD 0)=true then fo Dq q c else (aD q (w16 c) (c.take 16)).map (·.1)
theorem uQ {q:ag} {a:Int} {t:List Int} (h:sil a=true):rA q (a :: t)=fo Dq q (a :: t):=by
  unfold rA;rw [ae (show sil ((a :: t).headD 0)=true from h)]
theorem uR {q:ag} {a:Int} {t:List Int} (h:sil a=false):rA q (a :: t)=(aD q (w16 (a :: t)) ((a :: t).take 16)).map (·.1):=by
  unfold rA;rw [ab (show ¬sil ((a :: t).headD 0)=true by rw [Ju,h]; simp)]
def pjE (i j:Nat):Bool:=(i==1 || i==2 || i==3) || (match dy i j with | some x=>x==1 | none=>false)
theorem Ez:((List.range 14).all fun i=>([4,5]:List Nat).all fun j=>pjE i j)=true:=by kernel_rfl
def ctl (a:Int):Prop:=a=1∨a=2∨a=3
theorem Gk {a b:Int} (ha:¬ctl a) (hb:b=4∨b=5):pj a b=1:=by
 obtain ⟨i,hi,i14,_⟩:=xk a;have hi2:¬(i=1∨i=2∨i=3):=by
  unfold ctl at ha;unfold clz at hi;split at hi <;> omega
 obtain ⟨j,hj,hj2⟩:∃j:Nat,clz b=(j:Int)∧(j=4∨j=5):=by
  rcases hb with rfl | rfl
  ·exact ⟨4,rfl,.inl rfl⟩
  ·exact ⟨5,rfl,.inr rfl⟩
 have h:=List.all_eq_true.1 (List.all_eq_true.1 Ez i (List.mem_range.2 i14)) j (by rcases hj2 with rfl | rfl <;> simp);unfold pj;rw [wv,hi,hj];unfold pjE at h
 cases e:dy (i:Int) (j:Int) with
 | none=>rw [e] at h; simp at h; omega
 | some x=>rw [e] at h; simp at h; simp; omega
theorem HI:pj 6 6=2:=by
 have:dy 6 6=some 2:=by kernel_rfl
 unfold pj;rw [this];rfl
def okp (p:ao):Prop:=(p.Pict=true→¬ctl p.Break)∧(p.Conj=1→¬ctl p.Break)∧(p.Conj=2∨p.Conj=3→p.Break=4∨p.Break=5)
def HZ:List (Int×Int×Int):=gT.filter fun g=>g.2.2==1 || g.2.2==2 || g.2.2==3
def HY:List (Int×Int×Int):=gT.filter fun g=>g.2.2==4 || g.2.2==5
def GA (a b:Int):Bool:=HZ.all fun g=>decide (b < g.1) || decide (g.2.1 < a)
def cov (G:List (Int×Int×Int)) (a b:Int):Bool:=decide (b < G.foldl (fun cur g=>if g.1≤cur∧cur≤g.2.1 then g.2.1+1 else cur) a)
theorem Gq:pT.all (fun x=>GA x.1 x.2)=true:=by kernel_rfl
theorem G9:cT.all (fun x=>x.2.2 != 1 || GA x.1 x.2.1)=true:=by kernel_rfl
theorem Hb:cT.all (fun x=>x.2.2==1 || cov HY x.1 x.2.1)=true:=by kernel_rfl
theorem zH {T:List (Int×Int×Int)} {r v:Int} (h:lk T r=some v):∃x∈T,x.1≤r∧r≤x.2.1∧x.2.2=v:=by
 unfold lk at h;obtain ⟨x,hx,rfl⟩:=Option.map_eq_some_iff.1 h;obtain ⟨h1,h2⟩:=sm hx;exact ⟨x,h1,(mz.1 h2).1,(mz.1 h2).2,rfl⟩
theorem EW (r:Int):¬ctl (hcl r):=by
 unfold hcl ctl
 repeat' split
 all_goals omega
theorem AD {a b r:Int} (h:GA a b=true) (h1:a≤r) (h2:r≤b):¬ctl ((lk gT r).getD (hcl r)):=by
 intro hc
 cases e:lk gT r with
 | none=>rw [e] at hc; exact EW r hc
 | some v=>
  rw [e] at hc;obtain ⟨x,hx,k1,k2,k3⟩:=zH e;have hc:ctl v:=hc;have hm:x∈HZ:=List.mem_filter.2 ⟨hx,by unfold ctl at hc; simp only [aE,aN]; omega⟩;have:=List.all_eq_true.1 h x hm;simp only [aE,ak] at this;omega
theorem GY (G:List (Int×Int×Int)):∀(a cur r:Int),a≤r→r < G.foldl (fun cur g=>if g.1≤cur∧cur≤g.2.1 then g.2.1+1 else cur) cur→cur≤r→∃g∈G,g.1≤r∧r≤g.2.1:=by
 induction G with
 | nil=>intro a cur r _ h1 h2; simp only [List.foldl_nil] at h1; omega
 | cons g G ih=>
  intro a cur r h0 h1 h2;rw [tL] at h1;by_cases hr:g.1≤r∧r≤g.2.1
  ·exact ⟨g,.head _,hr⟩
  ·split at h1
   ·rename_i hg
    obtain ⟨x,hx,hx2⟩:=ih a (g.2.1+1) r h0 h1 (by omega);exact ⟨x,.tail _ hx,hx2⟩
   ·obtain ⟨x,hx,hx2⟩:=ih a cur r h0 h1 h2;exact ⟨x,.tail _ hx,hx2⟩
theorem CQ (r:Int):okp (pr r):=by
 refine ⟨fun hp=>?_,fun hc=>?_,fun hc=>?_⟩
 ·have hp:pic r=true:=hp;unfold pic at hp;obtain ⟨x,hx⟩:=Option.isSome_iff_exists.1 hp;obtain ⟨h1,h2⟩:=sm hx;exact AD (List.all_eq_true.1 Gq x h1) (mz.1 h2).1 (mz.1 h2).2
 ·have hc:(lk cT r).getD 0=1:=hc
  cases e:lk cT r with
  | none=>rw [e] at hc; simp at hc
  | some v=>
   rw [e] at hc;have hc:v=1:=hc;obtain ⟨x,hx,k1,k2,k3⟩:=zH e;have:=List.all_eq_true.1 G9 x hx;simp only [aE,lW,uO] at this;rcases this with q | q
   ·omega
   ·exact AD q k1 k2
 ·have hc:(lk cT r).getD 0=2∨(lk cT r).getD 0=3:=hc
  cases e:lk cT r with
  | none=>rw [e] at hc; simp at hc
  | some v=>
   rw [e] at hc;have hc:v=2∨v=3:=hc;obtain ⟨x,hx,k1,k2,k3⟩:=zH e;have:=List.all_eq_true.1 Hb x hx;simp only [aE,aN] at this;rcases this with q | q
   ·omega
   ·unfold cov at q;obtain ⟨g,hg,g1,g2⟩:=GY HY x.1 x.1 r k1 (Int.lt_of_le_of_lt k2 (yo q)) k1;obtain ⟨hg,hv⟩:=List.mem_filter.1 hg;have hl:lk gT r=some g.2.2:=by
     unfold lk;rw [zL E2 hg (mz.2 ⟨g1,g2⟩)];rfl
    have hb:(pr r).Break=g.2.2:=by
     show (lk gT r).getD (hcl r)=_;rw [hl]; rfl
    rw [hb];simpa using hv
def JnS (s:Sg):Prop:=(s.pict=1∨s.conj≠0)→s.some=true∧¬ctl s.last
theorem IZ:JnS sg0:=by intro h; simp [sg0] at h
theorem DV {s:Sg} (h:JnS s) {p:ao} (hp:okp p):JnS (sgN s p):=by
 intro hh;refine ⟨rfl,?_⟩;show ¬ctl p.Break;obtain ⟨p1,p2,p3⟩:=hp;have hx:∀{b:Int},b=4∨b=5→¬ctl b:=fun hb=>by unfold ctl; omega
 rcases hh with hh | hh
 ·have hh:nxP s.pict p=1:=hh;unfold nxP at hh;split at hh
  ·rename_i q; exact p1 q
  ·split at hh
   ·rename_i q; exact hx (.inl q.2)
   ·split at hh <;> omega
 ·have hh:nxC s.conj p≠0:=hh;unfold nxC at hh;split at hh
  ·rename_i q; exact p2 q
  ·split at hh
   ·omega
   ·split at hh
    ·rename_i q; exact hx (p3 (.inl q))
    ·split at hh
     ·rename_i q; exact hx (p3 (.inr q))
     ·omega
theorem D9 {s:Sg} (h:JnS s) {p:ao} (hp:okp p) (hj:sgJ pj s p=false):sgN s p=sgN sg0 p:=by
 have e0:(s.pict=1∨s.conj≠0)→¬(p.Break=4∨p.Break=5):=fun q hb=>by
  obtain ⟨h1,h2⟩:=h q;unfold sgJ at hj;rw [h1,Gk h2 hb] at hj;simp at hj
 have e1:nxP s.pict p=nxP sg0.pict p:=by
  unfold nxP;split
  ·rfl
  ·have:¬(s.pict=1∧p.Break=4):=fun q=>e0 (.inl q.1) (.inl q.2);have h2:¬(s.pict=1∧p.Break=5):=fun q=>e0 (.inl q.1) (.inr q.2);rw [ab this,ab h2,ab (by simp [sg0]),ab (by simp [sg0])]
 have e2:nxC s.conj p=nxC sg0.conj p:=by
  unfold nxC;split
  ·rfl
  ·rw [ae (show sg0.conj=0 from rfl)];split
   ·rfl
   ·rename_i q
    have hn:=e0 (.inr q);rw [ab (fun q2=>hn (hp.2.2 (.inl q2))),ab (fun q2=>hn (hp.2.2 (.inr q2)))]
 have e3:(p.Break==6 && !(s.some && s.last==6 && s.odd))=(p.Break==6 && !(sg0.some && sg0.last==6 && sg0.odd)):=by
  have:(sg0.some && sg0.last==6 && sg0.odd)=false:=rfl;rw [this];by_cases hb:p.Break=6
  ·have:(s.some && s.last==6 && s.odd)=false:=by
    rw [rm];intro q;simp only [av,aN] at q;unfold sgJ at hj;rw [q.1.1,q.1.2,q.2,hb,HI] at hj;simp at hj
   rw [this]
  ·have:(p.Break==6)=false:=by simpa using hb
   rw [this]; rfl
 unfold sgN;rw [e1,e2,e3]
theorem Hw:de=cu:=rfl
theorem Bb (s:Sg) (p:ao):de (sgB s) p=some (sgB (sgN s p),sgJ pj s p):=by
 rw [Hw];exact xT s p
theorem GZ (l:List Int):JnS (sgF (l.map pr))∧∀cs0 cl,cls pj pr l=cs0++ [cl]→sgF (l.map pr)=sgF (cl.map pr)∧cls pj pr cl= [cl]:=by
 refine nS (P:=fun l=>JnS (sgF (l.map pr))∧∀cs0 cl,cls pj pr l=cs0++ [cl]→sgF (l.map pr)=sgF (cl.map pr)∧cls pj pr cl= [cl]) ⟨IZ,fun cs0 cl h=>?_⟩ (fun l r ih=>?_) l
 ·rw [un] at h;simp at h
 ·obtain ⟨ij,ih⟩:=ih;have e:sgF ((l++ [r]).map pr)=sgN (sgF (l.map pr)) (pr r):=by rw [bd,kG,nT]
  refine ⟨by rw [e]; exact DV ij (CQ r),fun cs0 cl h=>?_⟩;rw [lM] at h;split at h
  ·rename_i hj
   obtain ⟨l0,x,rfl⟩:=fq (tD pj pr hj);obtain ⟨c0,c,ec⟩:=fq ((kP (pj:=pj) (pr:=pr) (l0++ [x])).2.2 (by simp));obtain ⟨i1,i2⟩:=ih c0 c ec;rw [ec,kC] at h;obtain ⟨rfl,h2⟩:=Jl h rfl;obtain rfl:=List.cons.inj h2 |>.1;have hjc:jn pj pr c r=true:=by
    unfold jn at hj⊢;rw [←i1];exact hj
   refine ⟨by rw [e,i1,bd,kG,nT],?_⟩;rw [lM,ae hjc,i2];rfl
  ·rename_i hj
   obtain ⟨rfl,h2⟩:=Jl h rfl;obtain rfl:=List.cons.inj h2 |>.1;have hs:sgJ pj (sgF (l.map pr)) (pr r)=false:=by simpa [jn] using hj
   exact ⟨by rw [e,D9 ij (CQ r) hs]; rfl,rfl⟩
theorem Fk {l c:List Int} (h:c∈cls pj pr l):cls pj pr c= [c]:=by
 revert h
 refine nS (P:=fun l=>c∈cls pj pr l→cls pj pr c= [c]) (fun h=>by rw [un] at h; cases h) (fun l r ih h=>?_) l;have hst:=(GZ (l++ [r])).2;rw [lM] at h hst;split at h
 ·rename_i hj
  rw [ae hj] at hst;obtain ⟨l0,x,rfl⟩:=fq (tD pj pr hj);obtain ⟨c0,d,ec⟩:=fq ((kP (pj:=pj) (pr:=pr) (l0++ [x])).2.2 (by simp));rw [ec,kC] at h hst;rcases List.mem_append.1 h with h | h
  ·exact ih (by rw [ec]; exact fk _ h)
  ·rw [List.mem_singleton.1 h];exact (hst _ _ rfl).2
 ·rename_i hj
  rw [ab hj] at hst;rcases List.mem_append.1 h with h | h
  ·exact ih h
  ·rw [List.mem_singleton.1 h];exact (hst _ _ rfl).2
theorem Fj {l:List Int} {i:Nat} {cs0:List (List Int)} {cl:List Int} (h:cls pj pr (l.take i)=cs0++ [cl]):∀d,i+d≤l.length→∃t x,cls pj pr (l.take (i+d))=cs0++(t++ [x]):=by
 intro d
 induction d with
 | zero=>exact fun _=>⟨[],cl,h⟩
 | succ d ih=>
  intro hd;obtain ⟨t,x,e⟩:=ih (by omega);rw [show i+(d+1)=i+d+1 by omega,aq (by omega),lM];split
  ·exact ⟨t,x++ [l[i+d]],by rw [e,←aC,kC,aC]⟩
  ·exact ⟨t++ [x],[l[i+d]],by rw [e,aC,aC]⟩
theorem DM {σ:Type} {y:σ→Int→List Int→Option (σ×Bool)} (l:List Int) (h:R32 l) (hl:l.length≤1000000) {s0 s1:σ} (f:σ→List Int→Option σ)
  (hy:∀s c (i:Int) s',c∈cls pj pr l→f s c=some s'→y s i c=some (s',true)) (hf:fo f s0 (cls pj pr l)=some s1):je y l s0=some s1:=by
 have hsl:∀k m:Nat,k≤m→m≤l.length→slc l (k:Int) (m:Int)=some ((l.drop k).take (m - k)):=fun k m h1 h2=>rp h1 h2;have hsn:∀(k i:Nat) (hi:i < l.length),k≤i→(l.drop k).take (i+1 - k)=(l.drop k).take (i - k)++ [l[i]]:=fun k i hi hk=>by
  have e:i+1 - k=(i - k)+1:=by omega
  have hd:i - k < (l.drop k).length:=by rw [be]; omega
  rw [e,aq hd,Ja]
  congr 3
  omega
 unfold je;refine jF (n:=l.length) (fun i (a:br×Int×Int×σ)=>∃(k:Nat) (s:σ),a=(sgB (sgF ((l.take i).map pr)),(k:Int),(i:Int),s)∧((i=0∧k=0∧s=s0)∨∃cs0,cls pj pr (l.take i)=cs0++ [(l.drop k).take (i - k)]∧k < i∧fo f s0 cs0=some s))
  (fun (u:σ ⊕ (Int×σ))=>∃(k:Nat) (s:σ),u= .inr ((k:Int),s)∧((l.length=0∧k=0∧s=s0)∨∃cs0,cls pj pr l=cs0++ [(l.drop k).take (l.length - k)]∧k < l.length∧fo f s0 cs0=some s)) (fun i a hi hI=>?_) (fun a hI=>?_) ⟨0,s0,rfl,.inl ⟨rfl,rfl,rfl⟩⟩ (by omega) (fun u hu=>?_)
 ·obtain ⟨k,s,rfl,hI⟩:=hI
  left
  simp only;have hst:=lM pj pr (l.take i) l[i];rw [←aq hi] at hst;have hsg:sgF ((l.take (i+1)).map pr)=sgN (sgF ((l.take i).map pr)) (pr l[i]):=by rw [aq hi,bd,kG,nT]
  rw [ae (dlt hi),dC hi (by omega),aZ hi,bsm,zi _ (h _ (aB hi)),bsm,Bb,bsm,bM,bsm];have hjn:sgJ pj (sgF ((l.take i).map pr)) (pr l[i])=jn pj pr (l.take i) l[i]:=rfl;simp only;rw [hjn,←hsg];rcases hI with ⟨rfl,rfl,rfl⟩ | ⟨cs0,hc,hk,hs⟩
  ·rw [ae (by simp)];refine ⟨_,rfl,0,s,rfl,.inr ⟨[],?_,by omega,rfl⟩⟩;have hz:jn pj pr ([]:List Int) l[0]=false:=rfl;rw [hst,eU,hz,ab (by simp),hsn 0 0 hi (aw _)];rfl
  ·cases hj:jn pj pr (l.take i) l[i] with
   | true=>
    rw [ae (by simp)];rw [hj,ae rfl,hc,kC] at hst;exact ⟨_,rfl,k,s,rfl,.inr ⟨cs0,by rw [hst,hsn k i hi (by omega)],by omega,hs⟩⟩
   | false=>
    rw [ab (by simp; omega),hsl k i (by omega) (by omega),bsm];rw [hj,ab (by simp),hc] at hst;obtain ⟨t,x,ht⟩:=Fj hst (l.length - (i+1)) (by omega);rw [show i+1+(l.length - (i+1))=l.length by omega,cy] at ht;have hm:(l.drop k).take (i - k)∈cls pj pr l:=by rw [ht]; simp
    rw [ht,aC,Dm,hs,bsm] at hf;have hf2:(f s ((l.drop k).take (i - k))).bind (fun b=>fo f b (t++ [x]))=some s1:=hf;obtain ⟨s',h1,_⟩:=Option.bind_eq_some_iff.1 hf2;rw [hy s _ (k:Int) s' hm h1,bsm,ab (by simp)];refine ⟨_,rfl,i,s',rfl,.inr ⟨cs0++ [(l.drop k).take (i - k)],?_,by omega,?_⟩⟩
    ·rw [hst,hsn i i hi (aw _),mh];rfl
    ·rw [nx,hs,bsm,h1]
 ·obtain ⟨k,s,rfl,hI⟩:=hI;refine ⟨_,by simp only; rw [ab (by simp)],k,s,rfl,?_⟩;rw [cy] at hI;exact hI
 ·obtain ⟨k,s,rfl,hI⟩:=hu;simp only;rcases hI with ⟨h0,rfl,rfl⟩ | ⟨cs0,hc,hk,hs⟩
  ·rw [ab (by rw [ak]; omega)];obtain rfl:=cf h0;exact hf
  ·rw [ae (by rw [ak]; omega),hsl k l.length (by omega) (aw _),bsm];have hm:(l.drop k).take (l.length - k)∈cls pj pr l:=by rw [hc]; simp
   rw [hc,nx,hs,bsm] at hf;rw [hy s _ (k:Int) s1 hm hf,bsm]
end Go.Proofs.YtclmdpamofdoiaaGreatDoor
namespace Go.Proofs.YtclmdpamofdoiaaGreatDoor
def ld (b:Int):Int:=if b < 128 then 1 else if 194≤b∧b≤223 then 2 else if 224≤b∧b≤239 then 3 else if 240≤b∧b≤244 then 4 else 0
def slo (b:Int):Int:=if b=224 then 160 else if b=240 then 144 else 128
def shi (b:Int):Int:=if b=237 then 159 else if b=244 then 143 else 191
theorem tB (b:Int):0≤ld b∧ld b≤4:=by
 unfold ld
 repeat' split
 all_goals omega
def bg:List Int→Int
 | [a]=>ld a
 | [a,b]=>if 2≤ld a∧slo a≤b∧b≤shi a then ld a else 0
 | [a,b,c]=>if 3≤ld a∧slo a≤b∧b≤shi a∧128≤c∧c≤191 then ld a else 0
 | [a,b,c,d]=>if ld a=4∧slo a≤b∧b≤shi a∧128≤c∧c≤191∧128≤d∧d≤191 then 4 else 0
 | _=>0
def b0 (a:Int):Int:=if ld a=2 then a - 192 else if ld a=3 then a - 224 else if ld a=4 then a - 240 else a
def vl:List Int→Int
 | []=>0
 | a :: l=>l.foldl (fun v x=>v * 64+(x - 128)) (b0 a)
def rs0 (b:Int):List Int×List Int:=if 1 < ld b then ([],[b]) else if ld b=1 then ([b],[]) else ([65533],[])
def ga (h:List Int) (b:Int):List Int×List Int:=
 if h= [] then rs0 b else if (h.length:Int)+1 < bg (h++ [b]) then ([],h++ [b]) else if 0 < bg (h++ [b]) then ([vl (h++ [b])],[]) else (65533 :: (rs0 b).1,(rs0 b).2)
def eL:List Int→List Int→List Int×List Int
 | h,[]=>([],h)
 | h,b :: p=>((ga h b).1++(eL (ga h b).2 p).1,(eL (ga h b).2 p).2)
theorem ws (h a b:List Int):eL h (a++b)=((eL h a).1++(eL (eL h a).2 b).1,(eL (eL h a).2 b).2):=by
 induction a generalizing h with
 | nil=>simp [eL]
 | cons x a ih=>simp [eL,ih]
theorem zr (h a:List Int) (x:Int):eL h (a++ [x])=((eL h a).1++(ga (eL h a).2 x).1,(ga (eL h a).2 x).2):=by
 rw [ws];simp [eL]
def Hh (h:List Int):Prop:=h= []∨(h.length:Int) < bg h
theorem Hh.len {h:List Int} (hh:Hh h):h.length≤3:=by
 rcases hh with rfl | hh
 ·simp
 ·match h,hh with
  | [],_=>simp
  | [_],_=>simp
  | [_,_],_=>simp
  | [_,_,_],_=>simp
  | [a,b,c,d],q=>simp only [bg,aA,aH] at q; split at q <;> omega
  | _ :: _ :: _ :: _ :: _ :: _,q=>simp only [bg,aA] at q; omega
end Go.Proofs.YtclmdpamofdoiaaGreatDoor
namespace Go.Proofs.YtclmdpamofdoiaaGreatDoor
open Go Go.Lt
def Byt (b:Int):Prop:=0≤b∧b≤255
def Bts (l:List Int):Prop:=∀x∈l,Byt x
theorem yp {b:Int} (h:Byt b):jp b=some (ld b):=by
 obtain ⟨h1,h2⟩:=h;unfold jp ld;simp only [bf,bsm,av,ak,zK];have e1:w64 (0+1)=1:=rfl;have e2:w64 (1+1)=2:=rfl;have e3:w64 (2+1)=3:=rfl;have e4:w64 (3+1)=4:=rfl;rw [e1,e2,e3,e4]
 repeat' split
 all_goals first | rfl | omega
theorem zF {b:Int} (h:Byt b) (hl:2≤ld b):jY b=some (slo b,shi b):=by
 unfold jY slo shi;rw [yp h];simp only [bsm,aN,ak];rw [ab (by omega)];have e1:IntKind.u8.wrap (IntKind.u8.wrap (191 - 16) - 32)=143:=by decide
 have e2:IntKind.u8.wrap (191 - 32)=159:=by decide
 rw [e1,e2];by_cases a1:b=224
 ·subst a1; rfl
 by_cases a2:b=240
 ·subst a2; rfl
 by_cases a3:b=244
 ·subst a3; rfl
 by_cases a4:b=237
 ·subst a4; rfl
 rw [ab a1,ab a2,ab a3,ab a4,ab a1,ab a2,ab a4,ab a3];rfl
def DI (n:Nat):Bool:=(lE n==if ld n=0 then some 0 else some (b0 n))
theorem DH:(List.range 256).all DI=true:=by kernel_rfl
theorem C1 {b:Int} (h:Byt b) (hl:1≤ld b):lE b=some (b0 b):=by
 obtain ⟨h1,h2⟩:=h;have:=List.all_eq_true.1 DH b.toNat (List.mem_range.2 (by omega));unfold DI at this;rw [aN,ph h1,ab (by omega)] at this;exact this
def Ch (n:Nat):Bool:=(fy .u8 n 63==if 128≤n∧n≤191 then (n:Int) - 128 else fy .u8 n 63)
theorem Cg:(List.range 256).all Ch=true:=by kernel_rfl
theorem Cf {b:Int} (h1:128≤b) (h2:b≤191):fy .u8 b 63=b - 128:=by
 have:=List.all_eq_true.1 Cg b.toNat (List.mem_range.2 (by omega));unfold Ch at this;rw [aN,ph (by omega),ae (by omega)] at this;exact this
theorem Gy {x y:Nat} (hx:x < 1000000000) (hy:y < 64):iQ .i64 ((x:Int) * 64) (y:Int)=((x * 64+y:Nat):Int):=by
 have e1:BitVec.ofInt 64 ((x:Int) * 64)=BitVec.ofNat 64 (x * 64):=by
  rw [show ((x:Int) * 64)=((x * 64:Nat):Int) by simp,Ix]
 have e2:BitVec.ofInt 64 (y:Int)=BitVec.ofNat 64 y:=Ix _ _;have e3:(x * 64) ||| y=x * 64+y:=by
  have:=Nat.shiftLeft_add_eq_or_of_lt (show y < 2 ^ 6 by omega) x;rw [Nat.shiftLeft_eq] at this;exact this.symm
 unfold iQ;rw [show IntKind.i64.bits=64 from rfl,e1,e2,BitVec.toNat_or,I3,I3,Ab (by omega),Ab (by omega),e3];exact aG (by omega)
def Dv (d:bA) (h:List Int):Prop:=
 Hh h∧Bts h∧d=(match h with | []=>⟨0,0,0,0,0⟩ | [a]=>⟨1,ld a - 1,slo a,shi a,b0 a⟩ | a :: b :: t=>⟨(h.length:Int),bg h - (h.length:Int),128,191,vl h⟩)
theorem wH {b:Int} (h:Byt b):∃d',ck ⟨0,0,0,0,0⟩ b=some (d',(rs0 b).1)∧Dv d' (rs0 b).2:=by
 have hb:=h;obtain ⟨h1,h2⟩:=hb;unfold ck rs0;rw [yp h];simp only [bsm,aN];have hin:=tB b;by_cases e0:ld b=0
 ·rw [ae e0,ab (by omega),ab (by omega)];exact ⟨_,rfl,.inl rfl,fun x hx=>by simp at hx,rfl⟩
 ·rw [ab e0];by_cases e1:ld b=1
  ·rw [ae e1,ab (by omega),ae e1,wJ (by omega)];exact ⟨_,rfl,.inl rfl,fun x hx=>by simp at hx,rfl⟩
  ·rw [ab e1,ae (by omega),C1 h (by omega),zF h (by omega)];simp only [bsm];rw [aG (by omega)];refine ⟨_,rfl,.inr ?_,fun x hx=>?_,rfl⟩
   ·simp only [aA,aH,bg]; omega
   ·rw [List.mem_singleton.1 hx]; exact h
theorem D1 {h:List Int} (hne:h≠ []) (b:Int):vl (h++ [b])=vl h * 64+(b - 128):=by
 cases h with
 | nil=>exact absurd rfl hne
 | cons a t=>simp [vl,lu]
theorem DL {a:Int} (h:Byt a) (hl:2≤ld a):0≤b0 a∧b0 a≤31:=by
 obtain ⟨h1,h2⟩:=h;unfold b0;unfold ld at hl;unfold ld
 repeat' split at hl
 all_goals (repeat' split)
 all_goals omega
theorem Ht {h:List Int} (hh:Hh h) (hb:Bts h) (hne:h≠ []):0≤vl h∧vl h≤131071:=by
 rcases hh with rfl | hh
 ·exact absurd rfl hne
 ·match h,hh with
  | [],_=>exact absurd rfl hne
  | [a],q=>
   have ha:=hb a (by simp);simp only [bg,aA,aH] at q;have:=DL ha (by omega);simp only [vl,List.foldl];omega
  | [a,b],q=>
   have ha:=hb a (by simp);simp only [bg,aA,aH] at q;split at q
   ·rename_i g
    have:=DL ha (by omega);have hs:128≤b∧b≤191:=by
     have:=g.2;unfold slo shi at this
     repeat' split at this
     all_goals omega
    simp only [vl,List.foldl];omega
   ·omega
  | [a,b,c],q=>
   have ha:=hb a (by simp);simp only [bg,aA,aH] at q;split at q
   ·rename_i g
    have:=DL ha (by omega);have hs:128≤b∧b≤191:=by
     have:=g.2;unfold slo shi at this
     repeat' split at this
     all_goals omega
    simp only [vl,List.foldl];omega
   ·omega
  | [a,b,c,d],q=>simp only [bg,aA,aH] at q; split at q <;> omega
  | _ :: _ :: _ :: _ :: _ :: _,q=>simp only [bg,aA] at q; omega
theorem C3 {h:List Int} (hh:(h.length:Int) < bg h) (hne:h≠ []) (b:Int):∃lo hi,(match h with | [a]=>(slo a,shi a) | _=>(128,191))=(lo,hi)∧128≤lo∧hi≤191∧
  ((lo≤b∧b≤hi)→bg (h++ [b])=bg h)∧(¬(lo≤b∧b≤hi)→bg (h++ [b])=0):=by
 match h,hh with
 | [],_=>exact absurd rfl hne
 | [a],q=>
  simp only [bg,aA,aH] at q;refine ⟨slo a,shi a,rfl,by unfold slo; repeat' split; all_goals omega,by unfold shi; repeat' split; all_goals omega,fun g=>?_,fun g=>?_⟩
  ·simp only [cK,bm,bg];rw [ae ⟨by omega,g.1,g.2⟩]
  ·simp only [cK,bm,bg];rw [ab (fun c=>g c.2)]
 | [a,c],q=>
  simp only [bg,aA,aH] at q;refine ⟨128,191,rfl,by omega,by omega,fun g=>?_,fun g=>?_⟩
  ·simp only [cK,bm,bg];split at q
   ·rename_i r
    rw [ae ⟨by omega,r.2.1,r.2.2,g.1,g.2⟩,ae r]
   ·omega
  ·simp only [cK,bm,bg];rw [ab (fun r=>g r.2.2.2)]
 | [a,c,d],q=>
  have hl:=tB a;simp only [bg,aA,aH] at q;refine ⟨128,191,rfl,by omega,by omega,fun g=>?_,fun g=>?_⟩
  ·simp only [cK,bm,bg];split at q
   ·rename_i r
    rw [ae ⟨by omega,r.2.1,r.2.2.1,r.2.2.2.1,r.2.2.2.2,g.1,g.2⟩,ae r];omega
   ·omega
  ·simp only [cK,bm,bg];rw [ab (fun r=>g r.2.2.2.2.2)]
 | [a,b,c,d],q=>simp only [bg,aA,aH] at q; split at q <;> omega
 | _ :: _ :: _ :: _ :: _ :: _,q=>simp only [bg,aA] at q; omega
theorem Dv.shape {d:bA} {h:List Int} (v:Dv d h) (hne:h≠ []):∃lo hi,(match h with | [a]=>(slo a,shi a) | _=>(128,191))=(lo,hi)∧d=⟨(h.length:Int),bg h - (h.length:Int),lo,hi,vl h⟩:=by
 obtain ⟨_,_,e⟩:=v
 match h,e with
 | [],_=>exact absurd rfl hne
 | [a],e=>exact ⟨_,_,rfl,e⟩
 | a :: b :: t,e=>exact ⟨_,_,rfl,e⟩
theorem Dr {d:bA} {h:List Int} (v:Dv d h) {b:Int} (hb:Byt b):∃d',cN d b=some (d',(ga h b).1)∧Dv d' (ga h b).2:=by
 have v0:=v;obtain ⟨hh,hbs,e⟩:=v;unfold cN ga;simp only [aj,aU];by_cases hne:h= []
 ·subst hne;simp only at e;subst e;obtain ⟨d',a1,a2⟩:=wH hb;simp only [sH,eq_self,bw,a1,bsm];exact ⟨d',rfl,a2⟩
 ·obtain ⟨lo,hi,e1,e2⟩:=v0.shape hne;have hlt:(h.length:Int) < bg h:=by
   rcases hh with q | q
   ·exact absurd q hne
   ·exact q
  obtain ⟨lo',hi',f1,f2,f3,f4,f5⟩:=C3 hlt hne b;rw [e1] at f1;cases f1;subst e2;have hlen:0 < h.length:=by
   cases h with
   | nil=>exact absurd rfl hne
   | cons _ _=>simp
  have hl3:=hh.len;rw [ab hne];simp only [aN];rw [ab (by omega)];simp only [bM,bsm,aE,ak,gt_iff_lt];by_cases hr:lo≤b∧b≤hi
  ·have hbg:=f4 hr;have hvl:=Ht hh hbs hne;have hbgl:bg h≤4:=by
    match h,hlen with
    | [a],_=>simp only [bg]; exact (tB a).2
    | [a,b],_=>simp only [bg]; split <;> first | exact (tB a).2 | omega
    | [a,b,c],_=>simp only [bg]; split <;> first | exact (tB a).2 | omega
    | a :: b :: c :: x :: t,_=>simp at hl3
   have hbits:iQ .i64 (w64 (vl h * 2 ^ 6)) (w64 (fy .u8 b 63))=vl h * 64+(b - 128):=by
    obtain ⟨x,hx⟩:∃x:Nat,vl h=(x:Int):=⟨(vl h).toNat,by omega⟩;obtain ⟨y,hy⟩:∃y:Nat,b - 128=(y:Int):=⟨(b - 128).toNat,by omega⟩;rw [Cf (by omega) (by omega),hx,hy,show ((x:Int) * 2 ^ 6)=(x:Int) * 64 from rfl,aG (by omega),aG (by omega),Gy (by omega) (by omega)];simp
   have hbs':Bts (h++ [b]):=fun x hx=>by
    rcases List.mem_append.1 hx with hx | hx
    ·exact hbs x hx
    ·rw [List.mem_singleton.1 hx]; exact hb
   have hsn:=D1 hne b;rw [ab (by omega),aG (by omega),aG (by omega),hbits,←hsn];by_cases hm:(h.length:Int)+1 < bg h
   ·rw [ae (by omega),ae (by rw [hbg]; omega)];refine ⟨_,rfl,.inr (by rw [hbg]; simp; omega),hbs',?_⟩;simp only [hbg]
    match h,hlen with
    | a :: t,_=>
     cases t with
     | nil=>simp only [cK,bm,aA,aH,bA.mk.injEq,qv,uw]; omega
     | cons b2 t=>simp only [cK,aA,ai,aH,bA.mk.injEq,qv,uw]; omega
   ·rw [ab (by omega),ab (by rw [hbg]; omega),ae (by rw [hbg]; omega),wJ (by rw [hsn]; omega)];exact ⟨_,rfl,.inl rfl,fun x hx=>by simp at hx,rfl⟩
  ·have hz:=f5 hr;rw [ae (by omega),ab (by rw [hz]; omega),ab (by rw [hz]; omega)];have hfl:bG ⟨(h.length:Int),bg h - (h.length:Int),lo,hi,vl h⟩=some (⟨0,0,0,0,0⟩,[65533]):=by
    unfold bG cp;simp only [aj,aU,bsm,aN];rw [ab (by omega)]
   rw [hfl];simp only [bsm];obtain ⟨d',a1,a2⟩:=wH hb;rw [a1];simp only [bsm];have hrl:(rs0 b).1.length≤1:=by
    unfold rs0;split
    ·simp
    ·split <;> simp
   rw [cR (by simp; omega)];exact ⟨d',rfl,a2⟩
theorem Ds {d:bA} {h:List Int} (v:Dv d h):cp d=some (h.length:Int):=by
 unfold cp;simp only [aj,aU];by_cases hne:h= []
 ·subst hne;obtain ⟨_,_,e⟩:=v;simp only at e;rw [e];rfl
 ·obtain ⟨lo,hi,_,e⟩:=v.shape hne;rw [e]
theorem BR {d:bA} {h:List Int} (v:Dv d h):bG d=some (⟨0,0,0,0,0⟩,if h= [] then [] else [65533]):=by
 unfold bG;rw [Ds v];simp only [bsm,aN];by_cases hne:h= []
 ·subst hne;obtain ⟨_,_,e⟩:=v;simp only at e;rw [ae (by simp),ae rfl,e]
 ·rw [ab (fun e=>hne (cf (by omega))),ab hne]
theorem Dv.zero:Dv ⟨0,0,0,0,0⟩ []:=⟨.inl rfl,fun x hx=>by simp at hx,rfl⟩
def fr (n:Nat):Int:=if n=2 then 128 else if n=3 then 2048 else if n=4 then 65536 else 0
theorem pZ (a:Int):(ld a=1∧a < 128)∨(ld a=2∧194≤a∧a≤223)∨(ld a=3∧224≤a∧a≤239)∨(ld a=4∧240≤a∧a≤244)∨(ld a=0∧128≤a∧¬(194≤a∧a≤244)):=by
 unfold ld
 repeat' split
 all_goals omega
theorem Ip {p:List Int} (h:0 < bg p):(p.length:Int)≤bg p:=by
 match p,h with
 | [],h=>simp [bg] at h
 | [a],h=>simp only [bg,aA,aH] at h⊢; omega
 | [a,b],h=>simp only [bg,aA,aH] at h⊢; split at h <;> rename_i g; rw [ae g]; omega; omega
 | [a,b,c],h=>simp only [bg,aA,aH] at h⊢; split at h <;> rename_i g; rw [ae g]; omega; omega
 | [a,b,c,d],h=>simp only [bg,aA,aH] at h⊢; split at h <;> rename_i g; rw [ae g]; omega; omega
 | _ :: _ :: _ :: _ :: _ :: _,h=>simp [bg] at h
theorem Io (p:List Int):0≤bg p∧bg p≤4:=by
 match p with
 | []=>simp [bg]
 | [a]=>exact tB a
 | [a,b]=>simp only [bg]; split <;> first | exact tB a | omega
 | [a,b,c]=>simp only [bg]; split <;> first | exact tB a | omega
 | [a,b,c,d]=>simp only [bg]; split <;> omega
 | _ :: _ :: _ :: _ :: _ :: _=>simp [bg]
theorem Bts.snoc {h:List Int} (hb:Bts h) {b:Int} (h1:Byt b):Bts (h++ [b]):=fun x hx=>by
 rcases List.mem_append.1 hx with hx | hx
 ·exact hb x hx
 ·rw [List.mem_singleton.1 hx]; exact h1
theorem Bk (h:List Int) (b:Int):(ga h b).1.length≤2:=by
 have hrl:(rs0 b).1.length≤1:=by
  unfold rs0;split
  ·simp
  ·split <;> simp
 unfold ga;split
 ·omega
 ·split
  ·simp
  ·split
   ·simp
   ·simp; omega
theorem Bl {h:List Int} (hb:Bts h) {b:Int} (h1:Byt b):Bts (ga h b).2:=by
 have h0:Bts (rs0 b).2:=by
  unfold rs0;split
  ·intro x hx; rw [List.mem_singleton.1 hx]; exact h1
  ·split <;> (intro x hx; simp at hx)
 unfold ga;split
 ·exact h0
 ·split
  ·exact hb.snoc h1
  ·split
   ·intro x hx; simp at hx
   ·exact h0
theorem wq {h p:List Int} (hb:Bts h) (hp:Bts p):Bts (eL h p).2:=by
 induction p generalizing h with
 | nil=>exact hb
 | cons b p ih=>exact ih (Bl hb (hp b (by simp))) (fun x hx=>hp x (eq _ hx))
theorem Bts.nil:Bts []:=fun x hx=>by simp at hx
end Go.Proofs.YtclmdpamofdoiaaGreatDoor
namespace Go.Proofs.YtclmdpamofdoiaaGreatDoor
open Go Go.Lt
variable {s C:Sto} {f k g W H:Nat} {q P:ag} {ks:List Nat}
def Sto.sf (s:Sto) (f:Nat) (x:bC):Sto:={ s with feed_Feeder:=s.feed_Feeder.set f x}
theorem pU {x:bC} (h:f < s.feed_Feeder.length):s.set_feed_Feeder f x=some (s.sf f x):=by
 unfold Sto.set_feed_Feeder;rw [ae h];rfl
theorem sM {x:bC} (h:f < s.feed_Feeder.length):(s.sf f x).feed_Feeder[f]? = some x:=by simp [Sto.sf,h]
theorem FC (s:Sto) (f:Nat) (x y:bC):(s.sf f x).sf f y=s.sf f y:=by simp [Sto.sf]
theorem wR (s:Sto) (f:Nat) (x:bC):(s.sf f x).feed_Feeder.length=s.feed_Feeder.length:=by simp [Sto.sf]
theorem Pv.sf (h:Pv s s k g W q ks) (x:bC):Pv (s.sf f x) (s.sf f x) k g W q ks:=
 ⟨h.p,⟨h.g.g,h.g.r,h.g.h1,h.g.h2,h.g.w1,h.g.w2⟩,h.nd,h.l,rfl,h.f.rgp ⟨rfl,rfl,rfl⟩ ⟨rfl,rfl,rfl⟩⟩
theorem Wc.sf {j:Nat} {c:ah} {y:aS} {t:List Int} {n:Int} (h:Wc s j c y t n) (x:bC):Wc (s.sf f x) j c y t n:=⟨h.x⟩
def Gv (C:Sto) (f j:Nat):Prop:=∃x,C.feed_Feeder[f]? = some x∧x.open_=some j
structure Fz (C s:Sto) (f:Nat) (op:Option Nat):Prop where
 fl:C.feed_Feeder.length≤s.feed_Feeder.length
 ff:∀j,j < C.feed_Feeder.length→j≠f→s.feed_Feeder[j]? = C.feed_Feeder[j]?
 wl:C.widen_Cluster.length≤s.widen_Cluster.length
 wc:∀j,j < C.widen_Cluster.length→¬Gv C f j→s.widen_Cluster[j]? = C.widen_Cluster[j]?
 oc:∀j,op=some j→Gv C f j∨C.widen_Cluster.length≤j
 sc:s.screen_Screen=C.screen_Screen
theorem oL {a b:Sto} (h:a.oth=b.oth):a.feed_Feeder=b.feed_Feeder:=by
 have:=mN Sto.feed_Feeder h;exact this
theorem xb {a b:Sto} (h:a.oth=b.oth):a.screen_Screen=b.screen_Screen:=by
 have:=mN Sto.screen_Screen h;exact this
theorem Fz.oth {s':Sto} {op:Option Nat} (h:Fz C s f op) (e:s'.oth=s.oth):Fz C s' f op:=by
 refine ⟨by rw [oL e]; exact h.fl,by rw [oL e]; exact h.ff,by rw [sS e]; exact h.wl,by rw [sS e]; exact h.wc,h.oc,by rw [xb e]; exact h.sc⟩
theorem Fz.sf {op:Option Nat} (h:Fz C s f op) (x:bC) (op':Option Nat) (ho:∀j,op'=some j→Gv C f j∨C.widen_Cluster.length≤j):Fz C (s.sf f x) f op':=
 ⟨by rw [wR]; exact h.fl,fun j a b=>by simp only [Sto.sf]; rw [aR (rd b)]; exact h.ff j a b,h.wl,h.wc,ho,h.sc⟩
theorem Fz.more {op:Option Nat} (h:Fz C s f op) {s':Sto} {z:aY} (e:s'.oth=(s.add_widen_Cluster z).oth):Fz C s' f op:=by
 have e1:s'.feed_Feeder=s.feed_Feeder:=(oL e).trans rfl;have e2:s'.widen_Cluster=s.widen_Cluster++ [z]:=(sS e).trans rfl;have e3:s'.screen_Screen=s.screen_Screen:=(xb e).trans rfl;have hl:=h.wl;exact ⟨by rw [e1]; exact h.fl,by rw [e1]; exact h.ff,by rw [e2,ai]; omega,fun j a b=>by rw [e2,ax (by omega)]; exact h.wc j a b,h.oc,by rw [e3]; exact h.sc⟩
theorem Fz.grow {j:Nat} (h:Fz C s f (some j)) {s':Sto} {z:aY} (e:s'.oth=(s.sc j z).oth):Fz C s' f (some j):=by
 have e1:s'.feed_Feeder=s.feed_Feeder:=(oL e).trans rfl;have e2:s'.widen_Cluster=s.widen_Cluster.set j z:=(sS e).trans rfl;have e3:s'.screen_Screen=s.screen_Screen:=(xb e).trans rfl;refine ⟨by rw [e1]; exact h.fl,by rw [e1]; exact h.ff,by rw [e2,bY]; exact h.wl,fun i a b=>?_,h.oc,by rw [e3]; exact h.sc⟩;rw [e2,aR ?_]
 ·exact h.wc i a b
 ·rintro rfl;rcases h.oc j rfl with q | q
  ·exact b q
  ·omega
def yr (G:List Int):Bool:=match G.getLast? with | none=>true | some x=>sil x
theorem lh (G:List Int) (r:Int):yr (G++ [r])=sil r:=by simp [yr]
def oK (G:List Int):Sg:=if yr G=true then sg0 else sgF (G.map pr)
structure Op (s:Sto) (k g W H:Nat) (P:ag) (G:List Int) (q:ag) (j:Nat):Prop where
 x:∃q0 c C0 s0 ks0 cs0 cl,cls pj pr G=cs0++ [cl]∧cl≠ []∧sil (cl.headD 0)=false∧fo rA P cs0=some q0∧Pv C0 s0 k g W q0 ks0∧ks0.length=H∧
  Wc s j c (gf (cl.take 16) ((cl.take 16).map pr)) (cl.take 16) (w16 cl)∧aD q0 (w16 cl) (cl.take 16)=some (q,c)
structure Fd (C s:Sto) (f k g W H:Nat) (P:ag) (G h:List Int) (q:ag) (ks:List Nat) (op:Option Nat):Prop where
 v:Pv s s k g W q ks
 fr:Fr C s k g ks
 fz:Fz C s f op
 n:ks.length=H
 hd:Hd q.At W H
 l:fo rA P (cls pj pr G)=some q
 gv:∀x∈G,vld x=true
 d:∃d,s.feed_Feeder[f]? = some ⟨some k,d,sgB (oK G),op⟩∧Dv d h
 o1:yr G=true→op=none
 o2:yr G=false→∃j,op=some j∧Op s k g W H P G q j
theorem FV {x:Int} (h:vld x=true):r32 x:=by
 unfold vld at h;unfold r32;simp only [av,ak] at h;omega
theorem Fc {q q':ag} {r:Int} {b:Bool} (h:dF q r=some (q',b)):Dq q r=some q':=by
 unfold Dq;rw [h];rfl
theorem Ah (c:List Int):(c.take 16).length≤16:=by rw [ay]; omega
theorem qb (t:List Int) (r:Int):gf (t++ [r]) ((t++ [r]).map pr)=gz (gf t (t.map pr)) r (pr r):=by
 rw [E1 (by simp) r];have e:((t++ [r]).map pr).take t.length=t.map pr:=by simp
 rw [←EZ t ((t++ [r]).map pr) (aw _),e];simp
theorem yJ {r:Int} (h:vld r=true):fY r=r:=by unfold fY; rw [ae h]
theorem CO {C s:Sto} {k g W H:Nat} {q0 q:ag} {ks:List Nat} (h:Pv C s k g W q0 ks) (hn:ks.length=H) {n:Int} {t:List Int} (ht:t.length≤1000000) {c:ah} (hp:aD q0 n t=some (q,c)):Hd q.At W H:=by
 obtain ⟨s',q',ks',i,a,_,_,a2,_,_,a5,_⟩:=zB h n t ht;rw [hp] at a2;cases a2;rw [←hn];exact a5
theorem Du {G h:List Int} {op:Option Nat} (F:Fd C s f k g W H P G h q ks op) {r:Int} (hr:vld r=true):∃s' q' ks' op',gp s (some f) r=some s'∧Fd C s' f k g W H P (G++ [r]) h q' ks' op':=by
 obtain ⟨d,hd,hdv⟩:=F.d;have hf:=cz hd;have hgv:∀x∈G++ [r],vld x=true:=fun x hx=>by
  rcases List.mem_append.1 hx with hx | hx
  ·exact F.gv x hx
  ·rw [List.mem_singleton.1 hx]; exact hr
 have hcs:=lM pj pr G r;unfold gp;rw [wQ];simp only [bsm]
 cases hs:sil r with
 | true=>
  simp only [bw];unfold cX;simp only [bI,eX,bw,bsm,hd];rw [pU hf];simp only [bsm,wj];rw [pU (by rw [wR]; exact hf),FC];simp only [bsm];rw [sM hf];simp only [bsm];obtain ⟨s',q',ks',a1,a2,a3,hks,hcd⟩:=Fh (F.v.sf (f:=f) ⟨some k,d,sgB sg0,none⟩) r;rw [a1];have hdo:=Fc a2;have hf1:Fr C (s.sf f ⟨some k,d,sgB sg0,none⟩) k g ks:=F.fr.rgp (Rgp.self _) ⟨rfl,rfl,rfl⟩;have hv1:=F.v.sf (f:=f) ⟨some k,d,sgB sg0,none⟩;refine ⟨s',q',ks',none,rfl,⟨a3.self,hf1.trans hv1.oG hv1.oR a3.f,(F.fz.sf ⟨some k,d,sgB sg0,none⟩ none (fun j e=>by cases e)).oth a3.o,by rw [hks]; exact F.n,by rw [←F.n]; exact hcd (by rw [F.n]; exact F.hd),?_,hgv,⟨d,?_,hdv⟩,fun _=>rfl,fun e=>?_⟩⟩
  ·
   rw [hcs];split
   ·rename_i hj
    obtain ⟨l0,x,rfl,hx⟩:=Ck.yes hs hj;obtain ⟨cs0,c,ec⟩:=fq ((kP (pj:=pj) (pr:=pr) (l0++ [x])).2.2 (by simp));obtain ⟨c',rfl⟩:=yQ ec;rw [ec,kC];have hall:=Ck.all (l0++ [x]) (c'++ [x]) (by rw [ec]; simp);have hal:∀y∈c'++ [x],sil y=true:=by
     rcases hall with q | q
     ·exact q
     ·have:=q x (by simp); rw [hx] at this; cases this
    have hl:=F.l;rw [ec,nx] at hl;rw [nx]
    cases hq0:fo rA P cs0 with
    | none=>rw [hq0] at hl; cases hl
    | some q0=>
     rw [hq0] at hl;simp only [bsm] at hl⊢;obtain ⟨a,t,ea⟩:∃a t,c'++ [x]=a :: t:=by
      cases h:c'++ [x] with
      | nil=>simp at h
      | cons a t=>exact ⟨a,t,rfl⟩
     have ha:sil a=true:=hal a (by rw [ea]; simp);rw [ea,uQ ha] at hl;rw [ea,cK,uQ ha,←cK,nx,hl];exact hdo
   ·rw [nx,F.l];simp only [bsm];rw [uQ hs];show (Dq q r).bind (fun b=>some b)=_;rw [hdo];rfl
  ·have:oK (G++ [r])=sg0:=by unfold oK; rw [lh,ae hs]
   rw [this,oL a3.o];exact sM hf
  ·rw [lh,hs] at e;cases e
 | false=>
  simp only [aj,aU];rw [zi r (FV hr)];simp only [bsm,hd];rw [xT];simp only [bsm];rw [pU hf];simp only [bsm];have hsj:sgJ pj (oK G) (pr r)=jn pj pr G r∧sgN (oK G) (pr r)=sgF ((G++ [r]).map pr):=by
   unfold oK;rw [bd,kG,nT]
   cases hL:yr G with
   | false=>simp only [aj,aU]; exact ⟨rfl,trivial⟩
   | true=>
    simp only [bw];by_cases hG:G= []
    ·subst hG; exact ⟨rfl,rfl⟩
    ·obtain ⟨G0,x,rfl⟩:=fq hG;rw [lh] at hL;rw [Ck.no G0 hL hs,Ck.new G0 hL];exact ⟨rfl,rfl⟩
  rw [hsj.1,hsj.2];have hsg:oK (G++ [r])=sgF ((G++ [r]).map pr):=by unfold oK; rw [lh,hs]; rfl
  rw [←hsg];have hv1:=F.v.sf (f:=f) ⟨some k,d,sgB (oK (G++ [r])),op⟩;have hf1:Fr C (s.sf f ⟨some k,d,sgB (oK (G++ [r])),op⟩) k g ks:=F.fr.rgp (Rgp.self _) ⟨rfl,rfl,rfl⟩;have hz1:=F.fz.sf ⟨some k,d,sgB (oK (G++ [r])),op⟩ op F.fz.oc;have hg1:(s.sf f ⟨some k,d,sgB (oK (G++ [r])),op⟩).feed_Feeder[f]? = some ⟨some k,d,sgB (oK (G++ [r])),op⟩:=sM hf;simp only [bf,bsm];rw [hg1];simp only [bsm];have hfix:=yJ hr
  cases hj:jn pj pr G r with
  | true=>
   have hL:yr G=false:=by
    cases hL:yr G with
    | false=>rfl
    | true=>
     obtain ⟨G0,x,rfl⟩:=fq (tD pj pr hj);rw [lh] at hL;rw [Ck.no G0 hL hs] at hj;cases hj
   obtain ⟨j,rfl,⟨q0,c,C0,s0,ks0,cs0,cl,ec,hcne,hcs0,hq0,hp0,hn0,hw,hput⟩⟩:=F.o2 hL;simp only [bI,eX,Bool.and_self,bw];have hcs2:cls pj pr (G++ [r])=cs0++ [cl++ [r]]:=by rw [hcs,ae hj,ec,kC]
   have hclv:∀x∈cl.take 16,vld x=true:=fun x hx=>F.gv x (by
    rw [←(kP (pj:=pj) (pr:=pr) G).1,ec];exact List.mem_flatten.2 ⟨cl,by simp,gS hx⟩)
   have hhd:sil ((cl++ [r]).headD 0)=false:=by
    cases cl with
    | nil=>exact absurd rfl hcne
    | cons a t=>exact hcs0
   have hw16:w16 cl=wz (gf (cl.take 16) ((cl.take 16).map pr)):=rfl;rw [hw16] at hw hput;have on:On C (s.sf f ⟨some k,d,sgB (oK (G++ [r])),some j⟩) k g W H j q0 (gf (cl.take 16) ((cl.take 16).map pr)) (cl.take 16) q c ks:=⟨hv1,hf1,hw.sf _,F.n,hput⟩;have hlayc:∀q2 c2,aD q0 (w16 (cl++ [r])) ((cl++ [r]).take 16)=some (q2,c2)→fo rA P (cls pj pr (G++ [r]))=some q2:=fun q2 c2 e=>by
    rw [hcs2,nx,hq0];simp only [bsm]
    cases hcc:cl++ [r] with
    | nil=>simp at hcc
    | cons a t=>
     rw [hcc] at e hhd;rw [uR (by simpa using hhd),e];rfl
   have hlen:cl.length < 16∨16≤cl.length:=by omega
   have hcl1:1≤cl.length:=by
    cases cl with
    | nil=>exact absurd rfl hcne
    | cons _ _=>simp
   rcases hlen with hlt | hge
   ·have et:cl.take 16=cl:=aK (by omega);have et2:(cl++ [r]).take 16=cl++ [r]:=aK (by simp; omega);rw [et] at on hclv;obtain ⟨s',q',c',ks',b1,b2,z,b3⟩:=ER hp0 hn0 on hcl1 hlt hclv r (pr r);rw [b1];simp only [bsm];rw [hfix,←qb] at b2;have hw2:w16 (cl++ [r])=wz (gf (cl++ [r]) ((cl++ [r]).map pr)):=by unfold w16; rw [et2]
    refine ⟨s',q',ks',some j,rfl,⟨b2.v,b2.f,hz1.grow b3,b2.n,CO hp0 hn0 (Ah cl |> fun _=>by simp; omega) b2.p,hlayc q' c' (by rw [hw2,et2]; exact b2.p),hgv,⟨d,?_,hdv⟩,fun e=>?_,fun _=>⟨j,rfl,⟨q0,c',C0,s0,ks0,cs0,cl++ [r],hcs2,by simp,hhd,hq0,hp0,hn0,?_,by rw [hw2,et2]; exact b2.p⟩⟩⟩⟩
    ·rw [show s'.feed_Feeder=(s.sf f ⟨some k,d,sgB (oK (G++ [r])),some j⟩).feed_Feeder from (oL b3).trans rfl];exact hg1
    ·rw [lh,hs] at e; cases e
    ·rw [hw2,et2];exact b2.w
   ·have hfl:(cl.take 16).length=16:=by rw [ay]; omega
    have et2:(cl++ [r]).take 16=cl.take 16:=dA hge;have hw2:w16 (cl++ [r])=w16 cl:=by unfold w16; rw [et2]
    rw [BF on hfl r (pr r)];simp only [bsm];refine ⟨_,q,ks,some j,rfl,⟨hv1,hf1,hz1,F.n,F.hd,hlayc q c (by rw [hw2,et2]; exact hput),hgv,⟨d,hg1,hdv⟩,fun e=>?_,fun _=>⟨j,rfl,⟨q0,c,C0,s0,ks0,cs0,cl++ [r],hcs2,by simp,hhd,hq0,hp0,hn0,?_,by rw [hw2,et2]; exact hput⟩⟩⟩⟩
    ·rw [lh,hs] at e; cases e
    ·rw [hw2,et2];exact hw.sf _
  | false=>
   simp only [jk,aj,aU];obtain ⟨s2,q2,c2,ks2,b1,b2,z,b3⟩:=DJ hv1 r (pr r);rw [b1];simp only [bsm];have e1:s2.feed_Feeder=(s.sf f ⟨some k,d,sgB (oK (G++ [r])),op⟩).feed_Feeder:=(oL b3).trans rfl;rw [e1,hg1];simp only [bsm];have hf2:f < s2.feed_Feeder.length:=by rw [e1,wR]; exact hf
   rw [pU hf2];rw [hfix] at b2;have hgf:gz ⟨false,false,false⟩ r (pr r)=gf [r] ([r].map pr):=by
    have:=qb [] r;simp only [bm] at this;rw [this];rfl
   rw [hgf] at b2;have hcs2:cls pj pr (G++ [r])=cls pj pr G++ [[r]]:=by rw [hcs,hj]; rfl
   have hlay:fo rA P (cls pj pr (G++ [r]))=some q2:=by
    rw [hcs2,nx,F.l];simp only [bsm];rw [uR hs];show (aD q (wz (gf [r] ([r].map pr))) [r]).map (·.1)=some q2;rw [b2.p];rfl
   refine ⟨_,q2,ks2,some (s.sf f ⟨some k,d,sgB (oK (G++ [r])),op⟩).widen_Cluster.length,rfl,⟨b2.v.sf _,?_,(hz1.more b3).sf _ _ (fun j e=>?_),b2.n.trans F.n,CO F.v F.n (by simp) b2.p,hlay,hgv,⟨d,sM hf2,hdv⟩,fun e=>?_,fun _=>⟨_,rfl,⟨q,c2,_,_,ks,cls pj pr G,[r],hcs2,by simp,hs,F.l,F.v,F.n,b2.w.sf _,b2.p⟩⟩⟩⟩
   ·exact (hf1.trans hv1.oG hv1.oR b2.f).rgp (Rgp.self _) ⟨rfl,rfl,rfl⟩
   ·cases e;exact .inr hz1.wl
   ·rw [lh,hs] at e; cases e
end Go.Proofs.YtclmdpamofdoiaaGreatDoor
namespace Go.Proofs.YtclmdpamofdoiaaGreatDoor
open Go Go.Lt
theorem yF:db=bU:=rfl
theorem Ir:cI=ba:=rfl
theorem FY:cD=bD:=rfl
theorem BS (t:List Int) (h:R32 t) (hl:t.length≤1000000):mL t=some (wz (gf t (t.map pr))):=by
 unfold mL;refine jF (n:=t.length) (fun i (a:Int×Int×Bool×Bool×Bool)=>a=(wz (gf (t.take i) ((t.take i).map pr)),(i:Int),(gf (t.take i) ((t.take i).map pr)).some,(gf (t.take i) ((t.take i).map pr)).pict,(gf (t.take i) ((t.take i).map pr)).wide)) (fun u=>u.1=wz (gf t (t.map pr))) (fun i a hi e=>?_) (fun a e=>?_) rfl (by omega) (fun u e=>by rw [e])
 ·left
  subst e;simp only;rw [ae (dlt hi),aZ hi,bsm,zi _ (h _ (aB hi)),bsm,yF,vd,bsm,dC hi (by omega)];refine ⟨_,rfl,?_⟩;rw [aq hi,qb]
 ·subst e;exact ⟨_,by simp only; rw [ab (by simp)],by simp only; rw [cy]⟩
def Hu (a:Int×Int×Int×Int×Int×Int×Int×Int×Int×Int×Int×Int×Int×Int×Int×Int×Int):aJ:=match a with | (t0,t1,t2,t3,t4,t5,t6,t7,t8,t9,t10,t11,t12,t13,t14,t15,n)=>⟨(t0,t1,t2,t3,t4,t5,t6,t7,t8,t9,t10,t11,t12,t13,t14,t15),n⟩
theorem zR (x:List Int) (hl:x.length≤1000000):∃c,lI x=some c∧Cv c (x.take 16):=by
 unfold lI;refine og (n:=x.length) (fun i (a:Int×Int×Int×Int×Int×Int×Int×Int×Int×Int×Int×Int×Int×Int×Int×Int×Int×Int)=>a.1=(i:Int)∧i≤16∧Cv (Hu a.2) (x.take i)) (fun (u:Int×Int×Int×Int×Int×Int×Int×Int×Int×Int×Int×Int×Int×Int×Int×Int×Int)=>Cv (Hu u) (x.take 16)) (fun i a hi hI=>?_) (fun a hI=>?_) ⟨rfl,by omega,?_⟩ (by omega) (fun u hu=>?_)
 ·obtain ⟨i',t0,t1,t2,t3,t4,t5,t6,t7,t8,t9,t10,t11,t12,t13,t14,t15,n⟩:=a;obtain ⟨e,h16,hk⟩:=hI;simp only at e hk;subst e;simp only;rw [ae (dlt hi),dC hi (by omega),aZ hi,bsm,Ir];have htl:(x.take i).length=i:=by rw [ay]; omega
  by_cases hlt:i < 16
  ·obtain ⟨c',hc,hk2⟩:=Dw hk (by omega) x[i];have hc2:ba ⟨(t0,t1,t2,t3,t4,t5,t6,t7,t8,t9,t10,t11,t12,t13,t14,t15),n⟩ x[i]=some (c',true):=hc;rw [hc2,bsm,ab (by simp)];exact .inl ⟨_,rfl,rfl,by omega,by rw [aq hi]; exact hk2⟩
  ·obtain rfl:i=16:=by omega
   have hf:=ur hk;have hc2:ba ⟨(t0,t1,t2,t3,t4,t5,t6,t7,t8,t9,t10,t11,t12,t13,t14,t15),n⟩ x[16]=some (⟨(t0,t1,t2,t3,t4,t5,t6,t7,t8,t9,t10,t11,t12,t13,t14,t15),n⟩,false):=by
    unfold ba;have hf2:bE ⟨(t0,t1,t2,t3,t4,t5,t6,t7,t8,t9,t10,t11,t12,t13,t14,t15),n⟩=some (decide ((x.take 16).length=16)):=hf;rw [hf2,ft,bsm,bsm,ae (by rw [ak]; exact htl)]
   rw [hc2,bsm,ae (by simp)];exact .inr ⟨_,rfl,hk⟩
 ·obtain ⟨i',t0,t1,t2,t3,t4,t5,t6,t7,t8,t9,t10,t11,t12,t13,t14,t15,n⟩:=a;obtain ⟨e,h16,hk⟩:=hI;simp only at e hk;subst e;refine ⟨_,by simp only; rw [ab (by simp)],?_⟩;have e1:x.take 16=x.take x.length:=by rw [cy,aK h16]
  rw [e1];exact hk
 ·rw [eU];exact ⟨rfl,by simp,rfl⟩
 ·obtain ⟨t0,t1,t2,t3,t4,t5,t6,t7,t8,t9,t10,t11,t12,t13,t14,t15,n⟩:=u;exact ⟨_,rfl,hu⟩
theorem CR {c:List Int} (hne:c≠ []) (h:R32 c) (hl:c.length≤1000000):gn c=some (if sil (c.headD 0)=true then (⟨0,[]⟩,false) else (⟨w16 c,c.take 16⟩,true)):=by
 obtain ⟨a,t,rfl⟩:∃a t,c=a :: t:=by
  cases c with
  | nil=>exact absurd rfl hne
  | cons a t=>exact ⟨a,t,rfl⟩
 have h0:idx (a :: t) 0=some a:=rfl;unfold gn;rw [h0,bsm,wQ,bsm,Ju]
 cases sil a with
 | true=>rw [ae rfl,ae rfl]
 | false=>
  obtain ⟨d,h1,h2⟩:=zR (a :: t) hl;rw [ab (by simp),ab (by simp),h1,bsm,FY,xl h2,bsm,BS _ (fun x hx=>h x (gS hx)) (by have:=Ah (a :: t); omega),bsm];rfl
theorem BH {G c:List Int} (hc:c∈cls pj pr G) (h:R32 c) (hl:c.length≤1000000):jy c=some (if sil (c.headD 0)=true then [] else [⟨w16 c,c.take 16⟩]):=by
 have hne:=(kP (pj:=pj) (pr:=pr) G).2.1 c hc;unfold jy;refine DM c h hl (fun (out:List dJ) x=>(gn x).bind fun z=>if z.2=true then app out [z.1] else some out) (fun s x i s' hx hs=>?_) ?_
 ·obtain ⟨z,hz,hs⟩:=Option.bind_eq_some_iff.1 hs;rw [hz,bsm]
  cases h2:z.2 with
  | true=>
   rw [h2,ae rfl] at hs;rw [ae rfl,hs,bsm]
  | false=>
   rw [h2,ab (by simp)] at hs;rw [ab (by simp),bb hs]
 ·rw [Fk hc];show ((gn c).bind fun z=>if z.2=true then app [] [z.1] else some []).bind (fun b=>some b)=_;have hp:=CR hne h hl
  cases hs:sil (c.headD 0) with
  | true=>
   rw [hs,ae rfl] at hp;rw [hp];rfl
  | false=>
   rw [hs,ab (by simp)] at hp;rw [hp,bsm,ae rfl,cR (by simp)];rfl
theorem zQ {G c:List Int} (hc:c∈cls pj pr G) (h:R32 c) (hl:c.length≤1000000) (hs:sil (c.headD 0)=false):iG c=some (w16 c):=by
 have hI:=BH hc h hl;rw [hs,ab (by simp)] at hI;have hw:1≤w16 c∧w16 c≤2:=by
  unfold w16;rcases ut (gf (c.take 16) ((c.take 16).map pr)) with ⟨_,e⟩ | ⟨_,e⟩ <;> rw [e] <;> omega
 unfold iG;rw [hI];simp only [bsm];refine jF (n:=1) (fun i (a:Int×Int)=>a.2=(i:Int)∧(i=0→a.1=0)∧(0 < i→a.1=w16 c)) (fun u=>u=w16 c) (fun i a hi hI=>?_) (fun a hI=>?_) ⟨rfl,fun _=>rfl,fun h=>by omega⟩ (by simp) (fun u hu=>by rw [hu])
 ·obtain ⟨n,i'⟩:=a;obtain ⟨e,k1,k2⟩:=hI;simp only at e k1 k2;have:i=0:=by omega
  subst this;obtain rfl:=k1 rfl;subst e;refine .inl ⟨(w64 (0+w16 c),w64 (((0:Nat):Int)+1)),rfl,rfl,fun h=>by omega,fun _=>?_⟩;simp only;rw [aG (by omega)];omega
 ·obtain ⟨n,i'⟩:=a;obtain ⟨e,k1,k2⟩:=hI;simp only at e k1 k2;subst e;exact ⟨_,rfl,k2 (by omega)⟩
def txt (c:aa):List Int:=if c.Kind=0 then [32] else if c.Kind=1∨c.Kind=2 then c.Text else []
def flat (l:List aa):List Int:=l.flatMap txt
def qu (l:List aa):Nat:=(l.map fun c=>c.Text.length+1).sum
theorem FX (c:aa):(txt c).length≤c.Text.length+1:=by
 unfold txt;split
 ·simp
 ·split
  ·omega
  ·simp
theorem AO (l:List aa):(flat l).length≤qu l:=by
 unfold flat qu
 induction l with
 | nil=>simp
 | cons c l ih=>
  rw [nq,ai,eV,kX];have:=FX c;omega
theorem wD {l:List aa} {i:Nat} (h:i < l.length):flat (l.take (i+1))=flat (l.take i)++txt l[i]:=by
 unfold flat;rw [aq h,vY];simp
theorem qH (l:List aa) (i:Nat):qu (l.take i)≤qu l:=by
 unfold qu
 conv=>rhs; rw [←lf i l]
 rw [bd,mT];omega
theorem Av (l:List aa) (hb:qu l≤1000000000):iB l=some (flat l):=by
 have hl:l.length≤qu l:=by
  unfold qu
  induction l with
  | nil=>simp
  | cons c l ih=>
   simp only [eV,kX,aA];have:qu l≤1000000000:=by
    unfold qu at hb⊢;simp only [eV,kX] at hb;omega
   have:=ih this;omega
 unfold iB;refine jF (n:=l.length) (fun i (a:List Int×Int)=>a=(flat (l.take i),(i:Int))) (fun u=>u=flat l) (fun i a hi e=>?_) (fun a e=>?_) rfl (by omega) (fun u e=>by rw [e])
 ·left
  subst e;simp only;rw [ae (dlt hi),aZ hi,bsm,dC hi (by omega)];have h1:=AO (l.take (i+1));have h2:=qH l (i+1);rw [wD hi] at h1;rw [ai] at h1;refine ⟨_,?_,rfl⟩;rw [wD hi];have ht:txt l[i]=if l[i].Kind=0 then [32] else if l[i].Kind=1∨l[i].Kind=2 then l[i].Text else []:=rfl;by_cases k0:l[i].Kind=0
  ·rw [ae k0] at ht;rw [ht] at h1⊢;rw [ae (by rw [k0]; rfl),cR (by simp only [aA,aH] at h1⊢; omega)];rfl
  ·rw [ab k0] at ht;rw [ab (by rw [aN]; exact k0)];by_cases k1:l[i].Kind=1∨l[i].Kind=2
   ·rw [ae k1] at ht;rw [ht] at h1⊢;have:(if (l[i].Kind==1)=true then some (l[i].Kind==1) else some (l[i].Kind==2))=some true:=by
     rcases k1 with h | h <;> rw [h] <;> rfl
    rw [this,bsm,ae rfl,cR (by omega)];rfl
   ·rw [ab k1] at ht;rw [ht];have:(if (l[i].Kind==1)=true then some (l[i].Kind==1) else some (l[i].Kind==2))=some false:=by
     have a:¬l[i].Kind=1:=fun h=>k1 (.inl h);have b:¬l[i].Kind=2:=fun h=>k1 (.inr h);rw [ab (by rw [aN]; exact a),beq_eq_false_iff_ne.2 b]
    rw [this,bsm,ab (by simp),bsm,dI]
 ·subst e;exact ⟨_,by simp only; rw [ab (by simp)],by rw [cy]⟩
end Go.Proofs.YtclmdpamofdoiaaGreatDoor
namespace Go.Proofs.YtclmdpamofdoiaaGreatDoor
open Go Go.Lt
def mj (d:Bool) (l:List aa):Nat→Nat
  | 0=>0
  | n+1=>match l[n]? with
    | some c=>if c.Kind≠0∨(d=true∧n+1 < l.length) then n+1 else mj d l n
    | none=>mj d l n
variable {d:Bool} {l:List aa} {i n:Nat}
theorem mp (hi:i < l.length):mj d l (i+1)=if l[i].Kind≠0∨(d=true∧i+1 < l.length) then i+1 else mj d l i:=by
  show (match l[i]? with | some c=>if c.Kind≠0∨(d=true∧i+1 < l.length) then i+1 else mj d l i | none=>mj d l i)=_;rw [af hi]
theorem yv:∀n,mj d l n≤n
  | 0=>aw 0
  | n+1=>by
    have:=yv n;show (match l[n]? with | some c=>if c.Kind≠0∨(d=true∧n+1 < l.length) then n+1 else mj d l n | none=>mj d l n)≤_;split
    · split
      · exact aw _
      · exact nn this
    · exact nn this
theorem yw (h:n < l.length):mj true l n=n:=by
  cases n with
  | zero=>rfl
  | succ i=>rw [mp (by omega),ae (.inr ⟨rfl,h⟩)]
def oN (d:Bool) (l:List aa):List aa:=l.take (mj d l l.length)
theorem uy {α:Type} {xs:List α} {k:Nat} (h:k≤xs.length):slc xs 0 (k:Int)=some (xs.take k):=by
  unfold slc;rw [ae (by omega)];simp
theorem Di (hl:l.length≤1000000000):jc l=some (oN true l):=by
  unfold jc oN
  cases hn:l.length with
  | zero=>
    rw [show decide (w64 (((0:Nat):Int) - 1)≥0)=false by rw [aG (by omega)]; rfl,gR,bsm,ab (by simp)];rw [cf hn];rfl
  | succ n=>
    have hi:n < l.length:=by omega
    have hw:w64 (((n+1:Nat):Int) - 1)=(n:Int):=by rw [aG (by omega)]; omega
    rw [hw,show decide ((n:Int)≥0)=true by rw [ak]; omega,gj,aZ hi,bsm,bsm,mp hi,yw hi];by_cases k0:l[n].Kind=0
    · rw [ae (by rw [k0]; rfl),uy (by omega),bsm,ab (by rw [hn]; rintro (h | h); exact h k0; omega)]
    · rw [ab (by rw [aN]; exact k0),ae (.inl k0),aK (by omega)]
theorem CV (hl:l.length≤1000000000):iZ l=some (oN false l):=by
  unfold iZ oN
  suffices h:∃t,cJ (σ:=Int) (τ:=Int) (((l.length:Int) - 0).toNat+1) (fun a=>
 (bT (decide (a > 0)) ((idx l (w64 (a - 1))).bind fun c=>
 some (c.Kind==0))).bind fun b=>
 if b=true then
 some (.inl ((w64 (a - 1))))
 else
 some (.inr (a))) ((l.length:Int))=some t∧t=(mj false l l.length:Int) by
    obtain ⟨t,h1,h2⟩:=h;rw [h1,bsm,h2,uy (yv _),bsm]
  refine kH (fun a=>∃k:Nat,a=(k:Int)∧k≤l.length∧mj false l k=mj false l l.length) (fun a=>a.toNat) (fun t=>t=(mj false l l.length:Int)) (fun a hI=>?_) _ _ ⟨l.length,rfl,aw _,rfl⟩ (by omega);obtain ⟨k,rfl,hk,he⟩:=hI
  cases k with
  | zero=>
    right
    rw [show decide (((0:Nat):Int) > 0)=false by simp,gR,bsm,ab (by simp)];exact ⟨_,rfl,by rw [←he]; rfl⟩
  | succ n=>
    have hi:n < l.length:=by omega
    have hw:w64 (((n+1:Nat):Int) - 1)=(n:Int):=by rw [aG (by omega)]; omega
    rw [show decide (((n+1:Nat):Int) > 0)=true by rw [ak]; omega,gj,hw,aZ hi,bsm,bsm];rw [mp hi] at he;by_cases k0:l[n].Kind=0
    · left
      rw [ae (by rw [k0]; rfl)];rw [ab (by rintro (h | h); exact h k0; simp at h)] at he;exact ⟨_,rfl,⟨n,rfl,by omega,he⟩,by omega⟩
    · right
      rw [ab (by rw [aN]; exact k0)];rw [ae (.inl k0)] at he;exact ⟨_,rfl,by rw [←he]⟩
end Go.Proofs.YtclmdpamofdoiaaGreatDoor
namespace Go.Proofs.YtclmdpamofdoiaaGreatDoor
open Go Go.Lt
def wr (L:List am) (i:Nat):Bool:=match L[i]? with
 | some l=>l.Wrap && decide (i+1 < L.length)
 | none=>false
def stL (L:List am):Nat→List (List Int)×List Int
 | 0=>([],[])
 | i+1=>match L[i]? with
  | some l=>if wr L i=true then ((stL L i).1,(stL L i).2++flat (oN true l.Cells)) else ((stL L i).1++ [(stL L i).2++flat (oN false l.Cells)],[])
  | none=>stL L i
def q9 (L:List am):Nat:=(L.map fun l=>qu l.Cells).sum
variable {L:List am} {i:Nat}
theorem B8 (hi:i < L.length):wr L i=(L[i].Wrap && decide (i+1 < L.length)):=by
 unfold wr;rw [af hi]
theorem zl (hi:i < L.length) (h:wr L i=true):stL L (i+1)=((stL L i).1,(stL L i).2++flat (oN true L[i].Cells)):=by
 show (match L[i]? with | some l=>if wr L i=true then ((stL L i).1,(stL L i).2++flat (oN true l.Cells)) else ((stL L i).1++ [(stL L i).2++flat (oN false l.Cells)],[]) | none=>stL L i)=_;rw [af hi];simp only [h,bw]
theorem wN (hi:i < L.length) (h:wr L i=false):stL L (i+1)=((stL L i).1++ [(stL L i).2++flat (oN false L[i].Cells)],[]):=by
 show (match L[i]? with | some l=>if wr L i=true then ((stL L i).1,(stL L i).2++flat (oN true l.Cells)) else ((stL L i).1++ [(stL L i).2++flat (oN false l.Cells)],[]) | none=>stL L i)=_;rw [af hi];simp only [h,aj,aU]
theorem vE (hi:i < L.length):q9 (L.take (i+1))=q9 (L.take i)+qu L[i].Cells:=by
 unfold q9;rw [aq hi,bd,mT];simp
theorem zY (L:List am) (i:Nat):q9 (L.take i)≤q9 L:=by
 unfold q9
 conv=>rhs; rw [←lf i L]
 rw [bd,mT];omega
theorem C9 (l:List aa):l.length≤qu l:=by
 unfold qu
 induction l with
 | nil=>simp
 | cons c l ih=>
  simp only [eV,kX,aA];omega
theorem xj (d:Bool) (l:List aa):(flat (oN d l)).length≤qu l:=cx (AO _) (qH l _)
theorem Cj:∀i,i≤L.length→(stL L i).1.length≤i∧(stL L i).2.length+((stL L i).1.map List.length).sum≤q9 (L.take i)
 | 0,_=>⟨aw 0,aw 0⟩
 | i+1,h=>by
  obtain ⟨h1,h2⟩:=Cj i (by omega);have hi:i < L.length:=by omega
  rw [vE hi];have c1:=xj true L[i].Cells;have c2:=xj false L[i].Cells
  cases hw:wr L i with
  | true=>
   rw [zl hi hw];refine ⟨nn h1,?_⟩;simp only [ai];omega
  | false=>
   rw [wN hi hw];refine ⟨by simp only [ai,aA,aH]; omega,?_⟩;simp only [aH,bd,mT,eV,pO,kX,List.sum_nil,ai];omega
theorem C8 (v:eW) (hn:v.Lines.length≤1000) (hb:q9 v.Lines≤100000000):eC v=some (stL v.Lines v.Lines.length).1:=by
 unfold eC;refine jF (n:=v.Lines.length) (fun i (a:List (List Int)×List Int×Int)=>a=((stL v.Lines i).1,(stL v.Lines i).2,(i:Int))) (fun u=>u=(stL v.Lines v.Lines.length).1) (fun i a hi e=>?_) (fun a e=>?_) rfl (by omega) (fun u e=>by rw [e])
 ·left
  subst e;simp only;have hB:=zY v.Lines (i+1);rw [vE hi] at hB;obtain ⟨g1,g2⟩:=Cj (L:=v.Lines) i (by omega);have c1:=xj true v.Lines[i].Cells;have c2:=xj false v.Lines[i].Cells;have b1:=qH v.Lines[i].Cells (mj true v.Lines[i].Cells v.Lines[i].Cells.length);have b2:=qH v.Lines[i].Cells (mj false v.Lines[i].Cells v.Lines[i].Cells.length);have lb:=C9 v.Lines[i].Cells;have hw:w64 ((v.Lines.length:Int) - 1)=((v.Lines.length - 1:Nat):Int):=by rw [aG (by omega)]; omega
  rw [ae (dlt hi),aZ hi,bsm,hw,bf,bsm,dC hi (by omega)];have hd:(v.Lines[i].Wrap && decide ((i:Int) < ((v.Lines.length - 1:Nat):Int)))=wr v.Lines i:=by
   rw [B8 hi]
   congr 1
   rw [Jd];omega
  rw [hd];refine ⟨_,?_,rfl⟩
  cases h:wr v.Lines i with
  | true=>
   rw [ae rfl,Di (by omega),bsm,Av _ (by unfold oN; omega),bsm,cR (by omega),bsm,bsm,zl hi h]
  | false=>
   rw [ab (by simp),CV (by omega),bsm,Av _ (by unfold oN; omega),bsm,cR (by omega),bsm,cR (by simp only [aA,aH]; omega),bsm,bsm,wN hi h]
 ·subst e;exact ⟨_,by simp only; rw [ab (by simp)],rfl⟩
end Go.Proofs.YtclmdpamofdoiaaGreatDoor
namespace Go.Proofs.YtclmdpamofdoiaaGreatDoor
open Go Go.Lt
theorem Gb (a:List (List Int)) (hl:a.length≤1000000):fR a a=some true:=by
 unfold fR;rw [ab (by simp)];refine jF (n:=a.length) (fun i (b:Int)=>b=(i:Int)) (fun u=>u= .inr ()) (fun i b hi e=>?_) (fun b e=>?_) rfl (by omega) (fun u e=>by rw [e])
 ·left
  subst e;rw [ae (dlt hi),aZ hi];simp only [bsm];have:eqS (uF a[i]) (uF a[i])=true:=by
   unfold eqS;simp
  rw [this];simp only [cW,ft,bsm,bne_self_eq_false];rw [ab (by simp),dC hi (by omega)];exact ⟨_,rfl,rfl⟩
 ·subst e;exact ⟨_,by rw [ab (by simp)],rfl⟩
def oI (l:List (List Int)):Nat→Nat
 | 0=>0
 | n+1=>match l[n]? with
  | some x=>if x.length > 0 then n+1 else oI l n
  | none=>oI l n
theorem A1 {l:List (List Int)} {i:Nat} (hi:i < l.length):oI l (i+1)=if l[i].length > 0 then i+1 else oI l i:=by
 show (match l[i]? with | some x=>if x.length > 0 then i+1 else oI l i | none=>oI l i)=_;rw [af hi]
theorem Al {l:List (List Int)}:∀n,oI l n≤n
 | 0=>aw 0
 | n+1=>by
  have:=Al (l:=l) n;show (match l[n]? with | some x=>if x.length > 0 then n+1 else oI l n | none=>oI l n)≤_;split
  ·split
   ·exact aw _
   ·exact nn this
  ·exact nn this
def ly (l:List (List Int)):Nat→List Int
 | 0=>[]
 | n+1=>(if n > 0 then ly l n++ [10] else ly l n)++(l.getD n [])
theorem yx {l:List (List Int)}:∀n,n≤l.length→(ly l n).length≤n+((l.take n).map List.length).sum
 | 0,_=>cZ _
 | n+1,h=>by
  have:=yx (l:=l) n (by omega);have hn:n < l.length:=by omega
  rw [aq hn,bd,mT];show ((if n > 0 then ly l n++ [10] else ly l n)++(l.getD n [])).length≤_;rw [an,af hn];simp only [Je,ai,eV,pO,kX,List.sum_nil];split
  ·rw [ai,aA,aH];omega
  ·omega
end Go.Proofs.YtclmdpamofdoiaaGreatDoor
namespace Go.Proofs.YtclmdpamofdoiaaGreatDoor
open Go Go.Lt
variable {l:List (List Int)}
theorem rB {n:Nat} (h:n < l.length):ly l (n+1)=(if n > 0 then ly l n++ [10] else ly l n)++l[n]:=by
 show (if n > 0 then ly l n++ [10] else ly l n)++(l.getD n [])=_;rw [an,af h];rfl
theorem uU {t:Nat} (ht:t≤l.length):∀i,i≤t→ly (l.take t) i=ly l i
 | 0,_=>rfl
 | i+1,h=>by
  rw [rB (by rw [ay]; omega),rB (by omega),uU ht i (by omega),zg]
def we (l:List (List Int)):List Int:=ly l (oI l l.length)
def okL (l:List (List Int)):Prop:=l.length≤1000∧(l.map List.length).sum≤100000000
theorem wg (l:List (List Int)) (i:Nat):((l.take i).map List.length).sum≤(l.map List.length).sum:=by
 conv=>rhs; rw [←lf i l]
 rw [bd,mT];omega
theorem BE {i:Nat} (h:okL l) (hi:i < l.length):((if (decide ((i:Int) > 0))=true then (app (ly l i) ([10]:List Int)).bind fun j=>some j else some (ly l i)).bind fun x=>app x l[i])=some (ly l (i+1)):=by
 have h1:=yx (l:=l) (i+1) (by omega);have h2:=wg l (i+1);have h3:=h.2;have h4:=h.1;rw [rB hi] at h1⊢;by_cases h0:i > 0
 ·rw [ae h0] at h1⊢;simp only [ai,aA,aH] at h1;rw [ae (by rw [ak]; omega),cR (by simp only [aA,aH]; omega),bsm,bsm,cR (by simp only [ai,aA,aH]; omega)]
 ·rw [ab h0] at h1⊢;simp only [ai] at h1;rw [ab (by rw [ak]; omega),bsm,cR (by omega)]
theorem Br (v:eW) {out:List (List Int)} (h:eC v=some out) (ho:okL out):gk v=some (we out):=by
 unfold gk;rw [h,bsm];have key:∀{x:Option (List (List Int))} {k:List (List Int)→Option (List Int)},(∃t,x=some t∧t=out.take (oI out out.length))→k (out.take (oI out out.length))=some (we out)→x.bind k=some (we out):=fun ⟨t,h1,h2⟩ h3=>by rw [h1,bsm,h2,h3]
 have hl:=ho.1;refine key (kH (fun b=>∃k:Nat,b=out.take k∧k≤out.length∧oI out k=oI out out.length) (fun b=>b.length) (fun t=>t=out.take (oI out out.length)) (fun b hI=>?_) _ _ ⟨out.length,by rw [cy],aw _,rfl⟩ (by omega)) ?_
 ·obtain ⟨k,rfl,hk,he⟩:=hI;have hkl:(out.take k).length=k:=by rw [ay]; omega
  rw [hkl]
  cases k with
  | zero=>
   right
   rw [show decide (((0:Nat):Int) > 0)=false by simp,gR,bsm,ab (by simp)];exact ⟨_,rfl,by rw [←he]; rfl⟩
  | succ n=>
   have hi:n < out.length:=by omega
   have hw:w64 (((n+1:Nat):Int) - 1)=(n:Int):=by rw [aG (by omega)]; omega
   rw [show decide (((n+1:Nat):Int) > 0)=true by rw [ak]; omega,gj,hw,aZ (by rw [hkl]; omega),bsm,bsm,zg];rw [A1 hi] at he;by_cases h0:out[n].length > 0
   ·right
    rw [ae h0] at he;rw [ab (by rw [aN]; omega)];exact ⟨_,rfl,by rw [he]⟩
   ·left
    rw [ab h0] at he;rw [ae (by rw [aN]; omega),uy (by rw [hkl]; omega),bsm,ji,cq (by omega)];exact ⟨_,rfl,⟨n,rfl,by omega,he⟩,by rw [ay]; omega⟩
 ·have ht:=Al (l:=out) out.length;have hcl:(out.take (oI out out.length)).length=oI out out.length:=by rw [ay]; omega
  unfold we;generalize oI out out.length=t at *;have hg:okL (out.take t):=⟨by rw [hcl]; omega,cx (wg out t) ho.2⟩;refine jF (n:=(out.take t).length) (fun i (a:List Int×Int)=>a=(ly (out.take t) i,(i:Int))) (fun u=>u=ly out t) (fun i a hi e=>?_) (fun a e=>?_) rfl (by omega) (fun u e=>by rw [e])
  ·left
   subst e;simp only;have hs:=BE hg hi;rw [ae (dlt hi),aZ hi,dC hi (by omega)];simp only [bsm];rw [←ze,hs,bsm];exact ⟨_,rfl,rfl⟩
  ·subst e;exact ⟨_,by simp only; rw [ab (by simp)],by rw [hcl,uU ht t (aw _)]⟩
end Go.Proofs.YtclmdpamofdoiaaGreatDoor
namespace Go.Proofs.YtclmdpamofdoiaaGreatDoor
open Go Go.Lt
theorem Iq (u:Nat) (h:u < 2000000):fy .i32 (u:Int) 63=((u % 64:Nat):Int):=by
 have e1:(BitVec.ofInt 32 (u:Int) &&& BitVec.ofInt 32 63).toNat=u % 64:=by
  have b1:(BitVec.ofInt 32 (u:Int)).toNat=u:=by rw [BitVec.toNat_ofInt]; omega
  have b2:(BitVec.ofInt 32 63).toNat=63:=rfl;rw [BitVec.toNat_and,b1,b2];exact Nat.and_two_pow_sub_one_eq_mod u 6
 show IntKind.i32.wrap ((BitVec.ofInt 32 (u:Int) &&& BitVec.ofInt 32 63).toNat:Int)=_;rw [e1];exact wJ (by omega)
theorem HT:∀y:Fin 64,iQ .u8 128 (IntKind.u8.wrap (y.val:Int))=128+(y.val:Int):=by decide +kernel
theorem HS:∀y:Fin 32,iQ .u8 192 (IntKind.u8.wrap (y.val:Int))=192+(y.val:Int):=by decide +kernel
theorem HR:∀y:Fin 16,iQ .u8 224 (IntKind.u8.wrap (y.val:Int))=224+(y.val:Int):=by decide +kernel
theorem HQ:∀y:Fin 8,iQ .u8 240 (IntKind.u8.wrap (y.val:Int))=240+(y.val:Int):=by decide +kernel
theorem or0:∀y:Fin 128,iQ .u8 0 (IntKind.u8.wrap (y.val:Int))=(y.val:Int):=by decide +kernel
def frm (r:Int):List Int:=if r < 128 then [r] else if r < 2048 then [192+r / 64,128+r % 64] else if r < 65536 then [224+r / 4096,128+r / 64 % 64,128+r % 64] else [240+r / 262144,128+r / 4096 % 64,128+r / 64 % 64,128+r % 64]
def szf (r:Int):Int:=if r < 128 then 1 else if r < 2048 then 2 else if r < 65536 then 3 else 4
theorem uc {r:Int} (h:vld r=true):0≤r∧r≤1114111:=by
 unfold vld at h;simp only [av,ak] at h;omega
theorem qS {n:Int} (h:0≤n∧n < 256):IntKind.u8.wrap n=n:=by
 simp only [IntKind.wrap,IntKind.signed,IntKind.bits,jk,aj,aU];omega
theorem AN (r:Int):(frm r).length≤4:=by
 unfold frm
 repeat' split
 all_goals simp
theorem CE {r:Int} (h:vld r=true):fS r=some (szf r):=by
 unfold fS szf;rw [qD,h];simp only [bsm,cW,aj,aU,ak]
 repeat' split
 all_goals first
  | rfl
  | omega
  | (simp only [bsm]; repeat' split)
 all_goals first
  | rfl
  | omega
theorem Cq {r:Int} (h:vld r=true):kK r=some (szf r):=by
 unfold kK szf;rw [nU,h];simp only [bsm,cW,aj,aU,ak]
 repeat' split
 all_goals rfl
theorem CG {r:Int} (h:vld r=true):fT r=some (frm r):=by
 obtain ⟨r0,r9⟩:=uc h;unfold fT;rw [CE h,bsm];have e0:w64 r=r:=aG (by omega);have e1:r.tdiv 64=r / 64:=qy r0;have e2:r.tdiv 4096=r / 4096:=qy r0;have e3:r.tdiv 262144=r / 262144:=qy r0;have m1:r.tmod 64=r % 64:=fX r0;have m2:(r / 64).tmod 64=r / 64 % 64:=fX (by omega);have m3:(r / 4096).tmod 64=r / 4096 % 64:=fX (by omega);unfold szf frm;by_cases h1:r < 128
 ·rw [ae h1,ae h1,ae (by rfl),e0,qS (by omega)]
 ·rw [ab h1,ab h1];by_cases h2:r < 2048
  ·rw [ae h2,ae h2,ab (by decide),ae (by rfl),e0,e1,m1,aG (n:=r / 64) (by omega),aG (n:=192+r / 64) (by omega),aG (n:=128+r % 64) (by omega),qS (by omega),qS (by omega)]
  ·rw [ab h2,ab h2];by_cases h3:r < 65536
   ·rw [ae h3,ae h3,ab (by decide),ab (by decide),ae (by rfl),e0,e1,e2,m1,aG (n:=r / 64) (by omega),aG (n:=r / 4096) (by omega),m2,aG (n:=224+r / 4096) (by omega),aG (n:=128+r / 64 % 64) (by omega),aG (n:=128+r % 64) (by omega),qS (by omega),qS (by omega),qS (by omega)]
   ·rw [ab h3,ab h3,ab (by decide),ab (by decide),ab (by decide),ae (by rfl),e0,e1,e2,e3,m1,aG (n:=r / 64) (by omega),aG (n:=r / 4096) (by omega),aG (n:=r / 262144) (by omega),m2,m3,aG (n:=240+r / 262144) (by omega),aG (n:=128+r / 4096 % 64) (by omega),aG (n:=128+r / 64 % 64) (by omega),aG (n:=128+r % 64) (by omega),qS (by omega),qS (by omega),qS (by omega),qS (by omega)]
theorem BN (u:Nat):(u:Int).fdiv (2 ^ 6)=((u / 64:Nat):Int):=by
 rw [DW _ (by decide)];rfl
theorem Bz {u:Nat} (h:u < 2000000):iQ .u8 128 (IntKind.u8.wrap (fy .i32 (u:Int) 63))=128+((u % 64:Nat):Int):=by
 rw [Iq u h];exact HT ⟨u % 64,DT _ (by decide)⟩
theorem Cr {r:Int} (h:vld r=true):kL r=some (frm r):=by
 obtain ⟨r0,r9⟩:=uc h;unfold kL;rw [Cq h,bsm];obtain ⟨u,rfl⟩:∃u:Nat,r=(u:Int):=⟨r.toNat,by omega⟩;unfold szf frm;by_cases h1:(u:Int) < 128
 ·rw [ae h1,ae h1];refine DX (b:=some [iQ .u8 0 (IntKind.u8.wrap (u:Int))]) rfl ?_;rw [or0 ⟨u,by omega⟩]
 ·rw [ab h1,ab h1];by_cases h2:(u:Int) < 2048
  ·rw [ae h2,ae h2];refine DX (b:=some [iQ .u8 192 (IntKind.u8.wrap ((u:Int).fdiv (2 ^ 6))),iQ .u8 128 (IntKind.u8.wrap (fy .i32 (u:Int) 63))]) rfl ?_;rw [Bz (by omega),BN,HS ⟨u / 64,by omega⟩];rfl
  ·rw [ab h2,ab h2];by_cases h3:(u:Int) < 65536
   ·rw [ae h3,ae h3];refine DX (b:=some [iQ .u8 224 (IntKind.u8.wrap (((u:Int).fdiv (2 ^ 6)).fdiv (2 ^ 6))),iQ .u8 128 (IntKind.u8.wrap (fy .i32 ((u:Int).fdiv (2 ^ 6)) 63)),iQ .u8 128 (IntKind.u8.wrap (fy .i32 (u:Int) 63))]) rfl ?_;rw [BN,BN,Bz (by omega),Bz (by omega),HR ⟨u / 64 / 64,by omega⟩];simp only [aM,B7,qv];refine ⟨?_,?_,?_⟩ <;> omega
   ·rw [ab h3,ab h3];refine DX (b:=some [iQ .u8 240 (IntKind.u8.wrap ((((u:Int).fdiv (2 ^ 6)).fdiv (2 ^ 6)).fdiv (2 ^ 6))),iQ .u8 128 (IntKind.u8.wrap (fy .i32 (((u:Int).fdiv (2 ^ 6)).fdiv (2 ^ 6)) 63)),iQ .u8 128 (IntKind.u8.wrap (fy .i32 ((u:Int).fdiv (2 ^ 6)) 63)),iQ .u8 128 (IntKind.u8.wrap (fy .i32 (u:Int) 63))]) rfl ?_;rw [BN,BN,BN,Bz (by omega),Bz (by omega),Bz (by omega),HQ ⟨u / 64 / 64 / 64,by omega⟩];simp only [aM,B7,qv];refine ⟨?_,?_,?_,?_⟩ <;> omega
theorem yH (l:List Int):(l.flatMap frm).length≤4 * l.length:=by
 induction l with
 | nil=>simp
 | cons x l ih=>
  rw [nq,ai,aA];have:=AN x;omega
theorem BL {l:List Int} {i:Nat} (h:i < l.length):(l.take (i+1)).flatMap frm=(l.take i).flatMap frm++frm l[i]:=by
 rw [aq h,vY];simp
theorem yI {l:List Int} (hl:l.length≤1000000) {i:Nat} (h:i < l.length):app ((l.take i).flatMap frm) (frm l[i])=some ((l.take (i+1)).flatMap frm):=by
 have h1:=yH (l.take i);have h2:=AN l[i];rw [ay] at h1;rw [cR (by omega),BL h]
theorem Ec {l:List Int} (hv:∀x∈l,vld x=true) (hl:l.length≤1000000):lB l=some (l.flatMap frm,Er.nil):=by
 unfold lB;refine jF (n:=l.length) (fun i a=>a=((l.take i).flatMap frm,(i:Int))) (fun u=>u= .inr (l.flatMap frm)) (fun i a hi e=>?_) (fun a e=>?_) rfl (by omega) (fun u e=>by rw [e])
 ·left
  subst e;have hx:=hv _ (aB hi);simp only;rw [ae (dlt hi),aZ hi,bsm,nU,hx,bsm,ab (by simp),Cr hx,bsm,yI hl hi,bsm,dC hi (by omega)];exact ⟨_,rfl,rfl⟩
 ·subst e;exact ⟨_,by simp only; rw [ab (by simp)],by rw [cy]⟩
theorem zA {v:eW} {t:List Int} (h:gk v=some t) (hl:t.length≤1000000):gK v=some ((t.map fY).flatMap frm):=by
 unfold gK;rw [h,bsm,tA t hl,bsm,Ec (fun x hx=>?_) (by simpa using hl),bsm];obtain ⟨y,_,rfl⟩:=List.mem_map.1 hx;exact uv y
theorem zX (b:List Int):fg b b=some true:=by
 unfold fg eqS;simp
structure Okc (c:List Int):Prop where
 ne:c≠ []
 len:c.length≤16
 v:∀x∈c,vld x=true
 s:sil (c.headD 0)=false
def dw (c:List Int):Nat:=(w16 c).toNat
theorem lK (c:List Int):w16 c=(dw c:Int)∧(dw c=1∨dw c=2):=by
 unfold dw w16;rcases ut (gf (c.take 16) ((c.take 16).map pr)) with ⟨_,h⟩ | ⟨_,h⟩ <;> rw [h] <;> simp
def cel (c:List Int):List aa:=if dw c=2 then [⟨2,c⟩,⟨3,[]⟩] else [⟨1,c⟩]
theorem su (c:List Int):(cel c).length=dw c:=by
 unfold cel;rcases (lK c).2 with h | h
 ·rw [ab (by omega),h]; rfl
 ·rw [ae h,h]; rfl
theorem GR {c:List Int} (h:Okc c):fx c=c:=FL h.v h.len
theorem A4 {c:List Int} (h:Okc c):dO (dw c:Int) (fx c)=cel c:=by
 rw [GR h];unfold dO cel;rw [ab h.ne];rcases (lK c).2 with e | e
 ·rw [e,ab (by decide),ab (by decide)]
 ·rw [e,ae (by decide),ae (by decide)]
def qK (cs:List (List Int)):List aa:=cs.flatMap cel
def us (cs:List (List Int)):Nat:=(qK cs).length
theorem sX (cs:List (List Int)) (c:List Int):qK (cs++ [c])=qK cs++cel c:=by simp [qK]
theorem lx (cs:List (List Int)) (c:List Int):us (cs++ [c])=us cs+dw c:=by
 unfold us;rw [sX,ai,su]
theorem kD:us []=0:=rfl
def rwc (W:Nat) (cs:List (List Int)):List aa:=qK cs++List.replicate (W - us cs) bl
theorem ue {W:Nat} {cs:List (List Int)} (h:us cs≤W):(rwc W cs).length=W:=by
 unfold rwc;rw [ai,dR];show us cs+_=_;omega
theorem Ap (W:Nat):rwc W []=List.replicate W bl:=by
 unfold rwc;rw [kD];rfl
theorem BK {A B:List aa} {j:Nat} (h:j < A.length):(A++B).getD j bl=A.getD j bl:=by
 simp [List.getD,ax h]
theorem xf {A B:List aa} {j:Nat} (h:j < A.length):kd (A++B) j=kd A j:=by
 unfold kd;rw [ax h]
theorem uT {A:List aa} {n j:Nat} (h:A.length≤j):kd (A++List.replicate n bl) j=0:=by
 unfold kd;rw [aI h,fm];split <;> rename_i q
 ·split at q
  ·cases q; rfl
  ·cases q
 ·rfl
theorem Ax {A p:List aa} {n:Nat} (hA:∀j,j+1=A.length→kd A j≠2) (hp:p.length≤n):pl (A++List.replicate n bl) A.length p=A++p++List.replicate (n - p.length) bl:=by
 apply bQ;intro j;have hl:(A++List.replicate n bl).length=A.length+n:=by simp
 rcases aP j (A.length+n) with h | h
 ·rw [ru (by rw [hl]; exact h)];rcases aP j A.length with h1 | h1
  ·rw [zE (by omega),ab,BK h1,aC,ax h1]
   ·simp [List.getD,af h1]
   ·rw [oJ];rintro (q | ⟨q1,q2,q3⟩ | ⟨q1,q2,q3⟩)
    ·omega
    ·rw [xf h1] at q1;exact hA j (by omega) q1
    ·omega
  ·rcases aP j (A.length+p.length) with h2 | h2
   ·rw [AA ⟨h1,h2⟩,aC,aI h1,ax (by omega)];have hj:j - A.length < p.length:=by omega
    simp [List.getD,af hj]
   ·rw [zE (by omega),ab,aI (by rw [ai]; omega),fm,ae (by rw [ai]; omega)]
    ·have e:(A++List.replicate n bl)[j]? = some bl:=by
      rw [aI h1,fm,ae (by omega)]
     simp [List.getD,e]
    ·rw [oJ,uT h1];rintro (q | ⟨q1,q2,q3⟩ | ⟨q1,q2,q3⟩)
     ·omega
     ·cases q1
     ·cases q1
 ·rw [aQ (by rw [iU,hl]; exact h),aQ (by simp only [ai,dR]; omega)]
theorem qF (cs:List (List Int)) (j:Nat) (h:j+1=us cs):kd (qK cs) j≠2∧kd (qK cs) j≠0:=by
 rcases List.eq_nil_or_concat cs with rfl | ⟨c0,c,rfl⟩
 ·rw [kD] at h; omega
 ·rw [List.concat_eq_append] at h⊢;rw [lx] at h;have hk:kd (qK (c0++ [c])) j=kd (cel c) (j - us c0):=by
   rw [sX];unfold kd;rw [aI (by rcases (lK c).2 with e | e <;> (show us c0≤j) <;> omega)];rfl
  rw [hk];unfold cel;rcases (lK c).2 with e | e
  ·rw [ab (by omega),show j - us c0=0 by omega];exact ⟨by simp [kd],by simp [kd]⟩
  ·rw [ae e,show j - us c0=1 by omega];exact ⟨by simp [kd],by simp [kd]⟩
theorem Ee {W:Nat} {cs:List (List Int)} {c:List Int} (h:us cs+dw c≤W):pl (rwc W cs) (us cs) (cel c)=rwc W (cs++ [c]):=by
 have:=Ax (A:=qK cs) (p:=cel c) (n:=W - us cs) (fun j hj=>(qF cs j hj).1) (by rw [su]; omega);unfold rwc;rw [sX,lx];rw [show us cs=(qK cs).length from rfl] at *;rw [this,su]
 congr 2
 omega
theorem Ef {W:Nat} {cs:List (List Int)} (h:us cs+1=W):pl (rwc W cs) (W - 1) [bl]=rwc W cs:=by
 have:=Ax (A:=qK cs) (p:=[bl]) (n:=W - us cs) (fun j hj=>(qF cs j hj).1) (by simp only [aA,aH]; omega);unfold rwc;rw [show W - 1=(qK cs).length by show W - 1=us cs; omega,this,show W - us cs=1 by omega];simp
theorem DB (c:List Int):flat (cel c)=c:=by
 unfold flat cel;split <;> simp [txt]
theorem sY (cs:List (List Int)):flat (qK cs)=cs.flatten:=by
 unfold qK
 induction cs with
 | nil=>rfl
 | cons c cs ih=>
  rw [nq,fV,←ih]
  conv=>rhs; rw [←DB c]
  unfold flat;rw [vY]
theorem uC (W:Nat) (cs:List (List Int)):(rwc W cs).take (us cs)=qK cs:=by
 unfold rwc us;simp
theorem uD {W j:Nat} {cs:List (List Int)} (h:j < (rwc W cs).length):(rwc W cs)[j].Kind=kd (rwc W cs) j:=(jU h).symm
theorem GX {W:Nat} {cs:List (List Int)} (w1:1≤W) (h:us cs=W∨us cs+1=W):flat (oN true (rwc W cs))=cs.flatten:=by
 have hl:(rwc W cs).length=W:=ue (by omega);obtain ⟨n,rfl⟩:∃n,W=n+1:=⟨W - 1,by omega⟩;have hi:n < (rwc (n+1) cs).length:=by omega
 unfold oN;rw [hl,mp hi,uD];rcases h with e | e
 ·rw [ae,←e,uC,sY]
  left
  unfold rwc;rw [xf (by show n < us cs; omega)];exact (qF cs n (by omega)).2
 ·rw [ab,yw hi,show n=us cs by omega,uC,sY];rintro (q | ⟨_,q⟩)
  ·apply q;unfold rwc;exact uT (by show us cs≤n; omega)
  ·omega
theorem Fg {W:Nat} {cs:List (List Int)} (h:us cs≤W):flat (oN false (rwc W cs))=cs.flatten:=by
 have hl:(rwc W cs).length=W:=ue h;have key:∀m,us cs+m≤W→mj false (rwc W cs) (us cs+m)=us cs:=by
  intro m
  induction m with
  | zero=>
   intro _;rcases jh (us cs) with e | e
   ·rw [e]; rfl
   ·obtain ⟨n,hn⟩:∃n,us cs=n+1:=⟨us cs - 1,by omega⟩;rw [np,hn,mp (by omega),uD,ae]
    left
    unfold rwc;rw [xf (by show n < us cs; omega)];exact (qF cs n (by omega)).2
  | succ m ih=>
   intro hm;rw [←rL,mp (by omega),uD,ab,ih (by omega)];rintro (q | ⟨q,_⟩)
   ·apply q;unfold rwc;exact uT (by show us cs≤_; omega)
   ·cases q
 unfold oN;rw [hl];have:=key (W - us cs) (by omega);rw [show us cs+(W - us cs)=W by omega] at this;rw [this,uC,sY]
end Go.Proofs.YtclmdpamofdoiaaGreatDoor
namespace Go.Proofs.YtclmdpamofdoiaaGreatDoor
open Go Go.Lt
structure Fl (L:List am) (W n:Nat):Prop where
 len:L.length=n
 wd:∀l∈L,l.Cells.length=W
 w1:2≤W
 w2:W≤1024
 n1:1≤n
 n2:n≤1024
variable {L:List am} {W n:Nat}
theorem Fl.wide (h:Fl L W n) (c:ah) (a:Bool):cU ⟨L,c,a⟩=some (W:Int):=by
 have h1:=h.len;have h2:=h.n1;unfold cU;rw [show (0:Int)=((0:Nat):Int) from rfl,aZ (show 0 < L.length by omega),bsm,h.wd _ (aB _)]
theorem Fl.hold (h:Fl L W n) (c:ah) (a:Bool):bW ⟨L,c,a⟩=some ⟨L,hc c W n,a⟩:=by
 have:=h.w1;unfold bW;rw [h.wide,bsm];simp only;rw [h.len,uK c (by omega) h.w2 h.n1 h.n2,bsm]
theorem yB {r k:Nat} (hr:r < n) (hk:k < W):hc ⟨(r:Int),(k:Int),false⟩ W n=⟨(r:Int),(k:Int),false⟩:=
 Dj ⟨by simp only; omega,by simp only; omega,fun e=>by cases e⟩
theorem GL {r:Nat} (hr:r < n) (hk:1≤W):hc ⟨(r:Int),((W - 1:Nat):Int),true⟩ W n=⟨(r:Int),((W - 1:Nat):Int),true⟩:=
 Dj ⟨by simp only; omega,by simp only; omega,fun _=>by simp only; omega⟩
theorem Fl.with (h:Fl L W n) (c:ah) (a:Bool) {i:Nat} (hi:i < n) (x:am):bV ⟨L,c,a⟩ i x=some ⟨L.set i x,c,a⟩:=by
 have h1:=h.len;have h2:=h.n2;unfold bV;rw [cR (by simp only [aH]; omega),bm];simp only [bsm];rw [aZ (show i < L.length by omega),jS (show i < L.length by omega)];rfl
theorem Fl.set (h:Fl L W n) {i:Nat} {x:am} (hx:x.Cells.length=W):Fl (L.set i x) W n:=by
 refine ⟨by rw [bY]; exact h.len,fun l hl=>?_,h.w1,h.w2,h.n1,h.n2⟩;rcases qQ hl with q | q
 ·exact h.wd l q
 ·rw [q]; exact hx
theorem Fl.goon (h:Fl L W n) {i:Nat} (hi:i+1 < n) (q:i < L.length) (k:Int) (p a:Bool):ci ⟨L,⟨(i:Int),k,p⟩,a⟩=some ⟨L.set i ⟨L[i].Cells,true⟩,⟨((i+1:Nat):Int),0,false⟩,a⟩:=by
 have h1:=h.len;have h2:=h.n2;have hw:=h.w1;have hF:Fl (L.set i ⟨L[i].Cells,true⟩) W n:=h.set (show L[i].Cells.length=W from h.wd _ (aB q));have hcc:hc ⟨(i:Int),0,false⟩ W n=⟨(i:Int),0,false⟩:=yB (k:=0) (by omega) (by omega);unfold ci dz;simp only [aZ q,bsm];rw [h.with _ _ (by omega)];simp only [bsm];rw [hF.hold,hcc];simp only [bsm];rw [hF.len,aG (by omega),ae (by rw [ak]; omega)];rfl
theorem zS {d:Nat} (hd:d=1∨d=2) (hW:2≤W) (t:List Int):cl2 (d:Int) t W=(d,t):=by
 unfold cl2;rw [ab (by omega)]
 congr 1
 omega
theorem CN (h:Fl L W n) {i k:Nat} (hi:i < n) (q:i < L.length) {c:List Int} (ho:Okc c) (hk:k+dw c≤W) (hw:L[i].Wrap=false):
  ∃z,aD ⟨L,⟨(i:Int),(k:Int),false⟩,true⟩ (dw c:Int) c=some (⟨L.set i ⟨pl L[i].Cells k (cel c),false⟩,ca ⟨(i:Int),(k:Int),false⟩ (dw c) W true,true⟩,z):=by
 have hl:=h.len;have w1:=h.w1;have w2:=h.w2;have hd:=(lK c).2;have hlen:=ho.len;have hcl:=su c;unfold aD;rw [h.hold,bsm,yB hi (by omega),h.wide,bsm,vi,bsm,zS hd w1,ab (by simp),bsm];simp only;have hq:(bT (((dw c:Nat):Int)==2) (some ((k:Int)==w64 ((W:Int) - 1))))=some false:=by
  rw [bf,aG (by omega)]
  congr 1
  rw [tZ];by_cases e:dw c=2
  ·right; simp; omega
  ·left; simp; omega
 rw [hq,bsm,ab (by simp),bsm,zw _ _ (by omega),A4 ho,bsm];simp only;have hpaint:bB ⟨L,⟨(i:Int),(k:Int),false⟩,true⟩ (i:Int) (k:Int) (cel c)=some ⟨L.set i ⟨pl L[i].Cells k (cel c),false⟩,⟨(i:Int),(k:Int),false⟩,true⟩:=by
  unfold bB;rw [aZ q,bsm,bsm,nY _ _ _ _ (by rw [h.wd _ (aB q)]; omega) (by omega) (by omega),bsm,h.with _ _ hi,hw];rfl
 rw [hpaint,bsm];simp only;rw [sQ _ hd (by omega) w2 (by simp only; omega),bsm];exact ⟨_,rfl⟩
theorem CM (h:Fl L W n) {i:Nat} (hi:i+1 < n) (q:i < L.length) {c:List Int}:aD ⟨L,⟨(i:Int),((W - 1:Nat):Int),true⟩,true⟩ (dw c:Int) c=aD ⟨L.set i ⟨L[i].Cells,true⟩,⟨((i+1:Nat):Int),0,false⟩,true⟩ (dw c:Int) c:=by
 have w1:=h.w1;have hd:=(lK c).2;have hF:Fl (L.set i ⟨L[i].Cells,true⟩) W n:=h.set (show L[i].Cells.length=W from h.wd _ (aB q));have hcc:hc ⟨((i+1:Nat):Int),0,false⟩ W n=⟨((i+1:Nat):Int),0,false⟩:=yB (k:=0) (by omega) (by omega);unfold aD;rw [h.hold,hF.hold,bsm,bsm,GL (by omega) (by omega),hcc,h.wide,hF.wide,bsm,bsm,vi,bsm,bsm,zS hd w1];simp only [bw,aj,aU];rw [h.goon hi q];simp only [bsm]
theorem CK (h:Fl L W n) {i:Nat} (hi:i+1 < n) (q:i < L.length) {c:List Int} (hd:dw c=2) (hp:pl L[i].Cells (W - 1) [bl]=L[i].Cells) (hw:L[i].Wrap=false):aD ⟨L,⟨(i:Int),((W - 1:Nat):Int),false⟩,true⟩ (dw c:Int) c=aD ⟨L.set i ⟨L[i].Cells,true⟩,⟨((i+1:Nat):Int),0,false⟩,true⟩ (dw c:Int) c:=by
 have w1:=h.w1;have w2:=h.w2;have n2:=h.n2;have hlen:=h.len;have hF:Fl (L.set i ⟨L[i].Cells,true⟩) W n:=h.set (show L[i].Cells.length=W from h.wd _ (aB q));have hcc:hc ⟨((i+1:Nat):Int),0,false⟩ W n=⟨((i+1:Nat):Int),0,false⟩:=yB (k:=0) (by omega) (by omega);have e1:w64 ((W:Int) - 1)=((W - 1:Nat):Int):=by rw [aG (by omega)]; omega
 have hL:L.set i ⟨L[i].Cells,false⟩=L:=by
  rw [←hw];exact tW q
 have hpaint:bB ⟨L,⟨(i:Int),((W - 1:Nat):Int),false⟩,true⟩ (i:Int) ((W - 1:Nat):Int) [bl]=some ⟨L,⟨(i:Int),((W - 1:Nat):Int),false⟩,true⟩:=by
  unfold bB;rw [aZ q,bsm,bsm,nY _ _ _ _ (by rw [h.wd _ (aB q)]; omega) (by omega) (by simp),bsm,h.with _ _ (by omega),hp,hw];simp only [pw,jk];rw [hL,bsm]
 unfold aD;rw [h.hold,hF.hold,bsm,bsm,yB (by omega) (by omega),hcc,h.wide,hF.wide,bsm,bsm,vi,bsm,bsm,hd,zS (.inr rfl) w1];simp only [bw,aj,aU,bsm,e1,bf];rw [ae (by simp),ab (by simp; omega),nG _ (by decide)];simp only [bsm];rw [show (List.replicate (1:Int).toNat (⟨0,[]⟩:aa))= [bl] from rfl,hpaint];simp only [bsm];rw [h.goon hi q];simp only [bsm]
abbrev Rs:=List (List (List Int))×List (List Int)
def pgs (W n:Nat) (r:Rs):List am:=r.1.map (fun cs=>⟨rwc W cs,true⟩)++⟨rwc W r.2,false⟩ :: List.replicate (n - r.1.length - 1) ⟨List.replicate W bl,false⟩
def pat (W:Nat) (r:Rs):ah:=if us r.2=W then ⟨(r.1.length:Int),((W - 1:Nat):Int),true⟩ else ⟨(r.1.length:Int),(us r.2:Int),false⟩
def pnn (W n:Nat) (r:Rs):ag:=⟨pgs W n r,pat W r,true⟩
structure Rok (W n:Nat) (r:Rs):Prop where
 w1:2≤W
 w2:W≤1024
 n2:n≤1024
 o:r.1.length < n
 uo:∀cs∈r.1,us cs≤W
 ul:us r.2≤W
variable {r:Rs}
theorem Rok.fl (h:Rok W n r):Fl (pgs W n r) W n:=by
 have ho:=h.o;refine ⟨by unfold pgs; simp only [ai,bZ,aA,dR]; omega,fun l hl=>?_,h.w1,h.w2,by omega,h.n2⟩;unfold pgs at hl;rcases List.mem_append.1 hl with hl | hl
 ·obtain ⟨cs,hcs,rfl⟩:=List.mem_map.1 hl;exact ue (h.uo cs hcs)
 ·rcases List.mem_cons.1 hl with rfl | hl
  ·exact ue h.ul
  ·obtain ⟨_,rfl⟩:=List.mem_replicate.1 hl;simp
theorem Gp (W n:Nat) (r:Rs):(pgs W n r)[r.1.length]? = some ⟨rwc W r.2,false⟩:=by
 unfold pgs;rw [aI (by simp)];simp
theorem zD (W n:Nat) (r:Rs):r.1.length < (pgs W n r).length:=by unfold pgs; simp
theorem uh (W n:Nat) (r:Rs) (q:r.1.length < (pgs W n r).length):(pgs W n r)[r.1.length]=⟨rwc W r.2,false⟩:=by
 have:=Gp W n r;rw [af q] at this;exact bb this
theorem Ay (W n:Nat) (r:Rs) (x:am):(pgs W n r).set r.1.length x=r.1.map (fun cs=>(⟨rwc W cs,true⟩:am))++x :: List.replicate (n - r.1.length - 1) ⟨List.replicate W bl,false⟩:=by
 unfold pgs;rw [lg _ _ (by simp)];simp
theorem CS (h:r.1.length+1 < n):(pgs W n r).set r.1.length ⟨rwc W r.2,true⟩=pgs W n (r.1++ [r.2],[]):=by
 rw [Ay];unfold pgs;simp only [bd,eV,pO,ai,aA,aH,aC,cK,bm];rw [Ap,show n - r.1.length - 1=(n - (r.1.length+(0+1)) - 1)+1 by omega,vX]
theorem EC (r:Rs) (hW:2≤W):pat W (r.1++ [r.2],[])=⟨((r.1.length+1:Nat):Int),0,false⟩:=by
 unfold pat;rw [ab (by simp only [kD]; omega)];simp [kD]
theorem yg (h:Rok W n r) {c:List Int} (ho:Okc c) (hk:us r.2+dw c≤W):∃z,aD (pnn W n r) (w16 c) c=some (pnn W n (r.1,r.2++ [c]),z):=by
 have hd:=lK c;have q:=zD W n r;have hg:=uh W n r q;obtain ⟨z,hz⟩:=CN h.fl (k:=us r.2) h.o q ho hk (by rw [hg]);refine ⟨z,?_⟩;unfold pnn;have hp:pat W r=⟨(r.1.length:Int),(us r.2:Int),false⟩:=by unfold pat; rw [ab (by omega)]
 rw [hp,hd.1,hz]
 congr 3
 ·rw [hg,Ee hk,Ay];rfl
 ·unfold ca pat;simp only [lx];by_cases e:us r.2+dw c=W
  ·rw [ab (by omega),ae e]
   congr 1
   omega
  ·rw [ae (by omega),ab e]
   congr 1
theorem Rok.next (h:Rok W n r) (hn:r.1.length+1 < n):Rok W n (r.1++ [r.2],[]):=by
 refine ⟨h.w1,h.w2,h.n2,by simpa using hn,fun cs hcs=>?_,by rw [kD]; omega⟩;rcases List.mem_append.1 hcs with q | q
 ·exact h.uo cs q
 ·rw [List.mem_singleton.1 q]; exact h.ul
theorem CL (h:Rok W n r) {c:List Int} (hk:W < us r.2+dw c) (hn:r.1.length+1 < n):aD (pnn W n r) (w16 c) c=aD (pnn W n (r.1++ [r.2],[])) (w16 c) c:=by
 have hd:=lK c;have q:=zD W n r;have hg:=uh W n r q;have w1:=h.w1;have ul:=h.ul;have hR:pnn W n (r.1++ [r.2],[])=⟨(pgs W n r).set r.1.length ⟨((pgs W n r)[r.1.length]'q).Cells,true⟩,⟨((r.1.length+1:Nat):Int),0,false⟩,true⟩:=by
  unfold pnn;rw [EC r w1,hg,CS hn]
 rw [hR,hd.1];unfold pnn pat;by_cases e:us r.2=W
 ·rw [ae e];exact CM h.fl hn q
 ·rw [ab e,show us r.2=W - 1 by omega];refine CK h.fl hn q (by omega) ?_ (by rw [hg]);rw [hg];exact Ef (by omega)
def wst (W:Nat) (r:Rs) (c:List Int):Rs:=if us r.2+dw c≤W then (r.1,r.2++ [c]) else (r.1++ [r.2],[c])
def wrp (W:Nat) (r:Rs) (cs:List (List Int)):Rs:=cs.foldl (wst W) r
theorem D0 (W:Nat) (r:Rs) (c:List Int):r.1.length≤(wst W r c).1.length:=by
 unfold wst;split
 ·exact aw _
 ·simp
theorem Ag (W:Nat):∀(cs:List (List Int)) (r:Rs),r.1.length≤(wrp W r cs).1.length
 | [],_=>aw _
 | c :: cs,r=>cx (D0 W r c) (Ag W cs (wst W r c))
theorem FS (h:Rok W n r) {c:List Int} (hn:(wst W r c).1.length < n):Rok W n (wst W r c):=by
 have hd:=(lK c).2;have w1:=h.w1;unfold wst at hn⊢;split
 ·rename_i q
  exact ⟨h.w1,h.w2,h.n2,h.o,h.uo,by rw [lx]; exact q⟩
 ·rename_i q
  rw [ab q] at hn;have hR:=h.next (by simpa using hn);exact ⟨h.w1,h.w2,h.n2,hR.o,hR.uo,by have:=lx [] c; rw [kD] at this; rw [bm] at this; rw [this]; omega⟩
theorem Ev (h:Rok W n r) {c:List Int} (ho:Okc c) (hn:(wst W r c).1.length < n):∃z,aD (pnn W n r) (w16 c) c=some (pnn W n (wst W r c),z):=by
 have hd:=(lK c).2;have w1:=h.w1;unfold wst at hn⊢;by_cases q:us r.2+dw c≤W
 ·rw [ae q];exact yg h ho q
 ·rw [ab q] at hn⊢;have hn2:r.1.length+1 < n:=by simpa using hn
  rw [CL h (by omega) hn2];exact yg (h.next hn2) ho (by rw [kD]; omega)
theorem Da {P:ag} {c:List Int} (ho:Okc c):rA P c=(aD P (w16 c) c).map (·.1):=by
 obtain ⟨a,t,rfl⟩:∃a t,c=a :: t:=by
  cases c with
  | nil=>exact absurd rfl ho.ne
  | cons a t=>exact ⟨a,t,rfl⟩
 have hs:sil a=false:=ho.s;rw [uR hs,aK ho.len]
theorem AG:∀(cs:List (List Int)) {r:Rs},Rok W n r→(∀c∈cs,Okc c)→(wrp W r cs).1.length < n→fo rA (pnn W n r) cs=some (pnn W n (wrp W r cs))
 | [],r,_,_,_=>rfl
 | c :: cs,r,h,ho,hn=>by
  have hn1:(wst W r c).1.length < n:=Nat.lt_of_le_of_lt (Ag W cs (wst W r c)) hn;obtain ⟨z,hz⟩:=Ev h (ho c ep) hn1;show (rA (pnn W n r) c).bind (fun b=>fo rA b cs)=_;rw [Da (ho c ep),hz,dH,bsm];exact AG cs (FS h hn1) (fun d hd=>ho d (eq _ hd)) hn
theorem xK (W:Nat):∀(cs:List (List Int)) (r:Rs),((wrp W r cs).1++ [(wrp W r cs).2]).flatten=(r.1++ [r.2]).flatten++cs
 | [],r=>by simp [wrp]
 | c :: cs,r=>by
  have:=xK W cs (wst W r c);show ((wrp W (wst W r c) cs).1++ [(wrp W (wst W r c) cs).2]).flatten=_;rw [this];unfold wst;split <;> simp
theorem xJ:∀(cs:List (List Int)) {r:Rs},us r.2≤W→2≤W→(∀x∈r.1,us x=W∨us x+1=W)→us (wrp W r cs).2≤W∧∀x∈(wrp W r cs).1,us x=W∨us x+1=W
 | [],r,h,_,hx=>⟨h,hx⟩
 | c :: cs,r,h,hw,hx=>by
  have hd:=(lK c).2;have h1:us [c]=dw c:=by have:=lx [] c; rw [kD,bm] at this; omega
  refine xJ cs (r:=wst W r c) ?_ hw ?_
  ·unfold wst;split
   ·rw [lx]; assumption
   ·rw [h1]; omega
  ·unfold wst;split
   ·exact hx
   ·rename_i q
    intro x hm;rcases List.mem_append.1 hm with hm | hm
    ·exact hx x hm
    ·rw [List.mem_singleton.1 hm]; omega
end Go.Proofs.YtclmdpamofdoiaaGreatDoor
namespace Go.Proofs.YtclmdpamofdoiaaGreatDoor
open Go Go.Lt
variable {W:Nat} {r:Rs}
def brk (W:Nat) (r:Rs):bq:=⟨(W:Int),((W - us r.2:Nat):Int),r.1.map List.flatten,r.2.flatten⟩
def adb (s:Sto) (b:bq):Sto:=s.add_fitline_breaker b
theorem qI (s:Sto) (b:bq):(adb s b).fitline_breaker[s.fitline_breaker.length]? = some b:=by
 unfold adb Sto.add_fitline_breaker;simp
theorem xA (s:Sto) (b b':bq):(adb s b).set_fitline_breaker s.fitline_breaker.length b'=some (adb s b'):=by
 unfold adb Sto.add_fitline_breaker Sto.set_fitline_breaker;simp
theorem E9 (cs:List (List Int)) (h:∀c∈cs,Okc c):cs.flatten.length≤16 * us cs:=by
 induction cs with
 | nil=>simp
 | cons c cs ih=>
  have h1:=ih fun d hd=>h d (eq _ hd);have h2:=(h c ep).len;have h3:=(lK c).2;have h4:us (c :: cs)=dw c+us cs:=by
   unfold us qK;rw [nq,ai,su]
  rw [fV,ai,h4];omega
theorem Fs (s:Sto) (hw:2≤W) (hw2:W≤1024) (ho:us r.2≤W) (hn:r.1.length≤1000000) (hk:∀c∈r.2,Okc c) {G c:List Int} (hc:c∈cls pj pr G) (hR:R32 c) (hs:Okc c):cH (adb s (brk W r)) (some s.fitline_breaker.length) c=some (adb s (brk W (wst W r c))):=by
 have hd:=lK c;have hlen:=hs.len;have hfl:=E9 r.2 hk;have hC:=zQ hc hR (by omega) hs.s;unfold cH;simp only [bsm,qI,hC];have e1:aL (w16 c) (brk W r).w=(dw c:Int):=by
  rw [dB,hd.1];show min (dw c:Int) (W:Int)=_;omega
 rw [e1];unfold wst;by_cases q:us r.2+dw c≤W
 ·rw [ab (by rw [ak]; show ¬((dw c:Int) > ((W - us r.2:Nat):Int)); omega),ae q];simp only [bsm,qI];rw [cR (by show r.2.flatten.length+_≤_; omega)];simp only [bsm,xA,qI];have e3:(brk W r).room=((W - us r.2:Nat):Int):=rfl;rw [aG (by rw [e3]; omega)];unfold brk;simp only [lx,my,fV,Ji,dI]
  congr 3
  omega
 ·rw [ae (by rw [ak]; show ((dw c:Int) > ((W - us r.2:Nat):Int)); omega),ab q];rw [cR (by show (r.1.map List.flatten).length+_≤_; simp only [bZ,aA,aH]; omega)];simp only [bsm,xA,qI];rw [cR (by simp only [aH]; omega)];simp only [bsm,xA,qI];have e2:w64 ((brk W r).w - (dw c:Int))=((W - us [c]:Nat):Int):=by
   have:=lx [] c;rw [kD,bm] at this;show w64 ((W:Int) - _)=_;rw [aG (by omega)];omega
  rw [e2];unfold brk;simp
theorem BC (s:Sto) {l:List Int} (hR:R32 l) (hl:l.length≤1000) (ho:∀c∈cls pj pr l,Okc c) {w:Int} (hw:aV 1 (aL w 1024)=(W:Int)) (hw2:2≤W) (hw3:W≤1024):
  (∃s',jz s l w=some (s',((wrp W ([],[]) (cls pj pr l)).1.length:Int)+1))∧(wrp W ([],[]) (cls pj pr l)).1.length≤l.length:=by
 obtain ⟨hf,hne,_⟩:=kP (pj:=pj) (pr:=pr) l;have hRc:∀c∈cls pj pr l,R32 c:=fun c hc x hx=>hR x (by rw [←hf]; exact List.mem_flatten.2 ⟨c,hc,hx⟩);have hcl:(cls pj pr l).length≤l.length:=by
  have:∀cs:List (List Int),(∀c∈cs,c≠ [])→cs.length≤cs.flatten.length:=by
   intro cs
   induction cs with
   | nil=>intro _; simp
   | cons c cs ih=>
    intro h;have h1:=ih fun d hd=>h d (eq _ hd);have h2:=List.length_pos_iff.2 (h c ep);rw [fV,ai,aA];omega
  have:=this _ hne;rw [hf] at this;exact this
 have key:∀(cs:List (List Int)),(∀c∈cs,c∈cls pj pr l)→∀r:Rs,us r.2≤W→(∀c∈r.2,Okc c)→r.1.length+cs.length≤1000→
   fo (fun s' x=>cH s' (some s.fitline_breaker.length) x) (adb s (brk W r)) cs=some (adb s (brk W (wrp W r cs)))∧(wrp W r cs).1.length≤r.1.length+cs.length:=by
  intro cs
  induction cs with
  | nil=>intro _ r _ _ _; exact ⟨rfl,aw _⟩
  | cons c cs ih=>
   intro hm r h1 h2 h3;have hc:=hm c ep;have hO:=ho c hc;have hd:=(lK c).2;have h5:(wst W r c).1.length≤r.1.length+1∧us (wst W r c).2≤W∧∀d∈(wst W r c).2,Okc d:=by
    have h6:us [c]=dw c:=by have:=lx [] c; rw [kD,bm] at this; omega
    unfold wst;split
    ·refine ⟨by simp,by simp only [lx]; assumption,fun d hd=>?_⟩;rcases List.mem_append.1 hd with q | q
     ·exact h2 d q
     ·rw [List.mem_singleton.1 q]; exact hO
    ·exact ⟨by simp,by simp only [h6]; omega,fun d hd=>by rw [List.mem_singleton.1 hd]; exact hO⟩
   rw [aA] at h3;obtain ⟨i1,i2⟩:=ih (fun d hd=>hm d (eq _ hd)) (wst W r c) h5.2.1 h5.2.2 (by omega);refine ⟨?_,?_⟩
   ·show (cH (adb s (brk W r)) (some s.fitline_breaker.length) c).bind (fun b=>fo _ b cs)=_;rw [Fs s hw2 hw3 h1 (by omega) h2 hc (hRc c hc) hO,bsm];exact i1
   ·show (wrp W (wst W r c) cs).1.length≤_;rw [aA];omega
 obtain ⟨k1,k2⟩:=key (cls pj pr l) (fun _ h=>h) ([],[]) (by rw [kD]; omega) (fun c hc=>by cases hc) (by simp only [aH]; omega);have hA:=DM (y:=fun (s':Sto) _ x=>(idx x 0).bind fun d=>(eR d).bind fun e=>if (!e)=true then (cH s' (some s.fitline_breaker.length) x).bind fun s'=>some (s',true) else some (s',true)) l hR (by omega)
  (fun s' x=>cH s' (some s.fitline_breaker.length) x) (fun s' c i s2 hc hs=>by
   have hO:=ho c hc;obtain ⟨a,t,rfl⟩:∃a t,c=a :: t:=by
    cases c with
    | nil=>exact absurd rfl hO.ne
    | cons a t=>exact ⟨a,t,rfl⟩
   have h0:idx (a :: t) 0=some a:=rfl;have hsil:sil a=false:=hO.s;rw [h0,bsm,wQ,bsm,hsil,ae (by rfl),hs,bsm]) k1
 have k3:(wrp W ([],[]) (cls pj pr l)).1.length≤l.length:=by
  simp only [aH] at k2;omega
 refine ⟨⟨adb s (brk W (wrp W ([],[]) (cls pj pr l))),?_⟩,k3⟩;unfold jz kV;simp only [bsm];rw [hw];have e0:s.add_fitline_breaker ⟨(W:Int),(W:Int),[],[]⟩=adb s (brk W ([],[])):=by
  unfold adb brk;rw [kD];rfl
 rw [e0,hA];simp only [bsm,qI];have hlen:(brk W (wrp W ([],[]) (cls pj pr l))).out.length≤1000:=by
  show ((wrp W ([],[]) (cls pj pr l)).1.map List.flatten).length≤_;rw [bZ];simp only [aH] at k2;omega
 rw [cR (by simp only [aA,aH]; omega)];simp only [bsm,ai,aA,aH];rw [show (brk W (wrp W ([],[]) (cls pj pr l))).out.length=(wrp W ([],[]) (cls pj pr l)).1.length from bZ ..];simp
end Go.Proofs.YtclmdpamofdoiaaGreatDoor
namespace Go.Proofs.YtclmdpamofdoiaaGreatDoor
open Go Go.Lt
theorem CZ {γ:Type} {x:Option (γ×Bool)} (h:x.map (fun q=>q.2)=some true):∃s,x=some (s,true):=by
 cases x with
 | none=>cases h
 | some q=>
  obtain ⟨a,b⟩:=q;simp only [dH,aM] at h;subst h;exact ⟨a,rfl⟩
theorem GB {f:Sto→Option (Sto×Bool)} {s:Sto} (h1:(f s).map (fun q=>q.2)=some true) (h2:((f s).bind fun q=>f q.1).map (fun q=>q.2)=some true):∃s1 s2,f s=some (s1,true)∧f s1=some (s2,true):=by
 obtain ⟨s1,e1⟩:=CZ h1;rw [e1] at h2;obtain ⟨s2,e2⟩:=CZ h2;exact ⟨s1,s2,e1,e2⟩
end Go.Proofs.YtclmdpamofdoiaaGreatDoor
namespace Go.Proofs.YtclmdpamofdoiaaGreatDoor
open Go Go.Lt
set_option maxRecDepth 100000
theorem CJ:(du ⟨[],[],[],[],[],[],[]⟩).map (fun q=>q.2)=some true:=by kernel_rfl
theorem Bs:((du ⟨[],[],[],[],[],[],[]⟩).bind fun q=>du q.1).map (fun q=>q.2)=some true:=by kernel_rfl
end Go.Proofs.YtclmdpamofdoiaaGreatDoor
namespace Go.Proofs.YtclmdpamofdoiaaGreatDoor
open Go Go.Lt
variable {W n:Nat} {r:Rs}
theorem ug (h:r.1.length < n):(pgs W n r).length=n:=by
 unfold pgs;simp only [ai,bZ,aA,dR];omega
theorem CT {i:Nat} (hi:i < r.1.length) (q:i < (pgs W n r).length):(pgs W n r)[i]=⟨rwc W r.1[i],true⟩:=by
 have e:(pgs W n r)[i]? = some ⟨rwc W r.1[i],true⟩:=by
  unfold pgs;rw [ax (by rw [bZ]; exact hi),bK,af hi];rfl
 rw [af q] at e;exact bb e
theorem Am (w1:1≤W) (hn:r.1.length+1=n) (hf:∀x∈r.1,us x=W∨us x+1=W):∀i,i≤r.1.length→stL (pgs W n r) i=([],(r.1.take i).flatten.flatten)
 | 0,_=>rfl
 | i+1,hi=>by
  have hi':i < r.1.length:=by omega
  have hl:(pgs W n r).length=n:=ug (by omega);have q:i < (pgs W n r).length:=by omega
  have hw:wr (pgs W n r) i=true:=by
   rw [B8 q,CT hi' q,hl];simp;omega
  rw [zl q hw,Am w1 hn hf i (by omega),CT hi' q,GX w1 (hf _ (aB hi')),aq hi',my,my];simp
theorem D4 (w1:1≤W) (hn:r.1.length+1=n) (hf:∀x∈r.1,us x=W∨us x+1=W) (hu:us r.2≤W):(stL (pgs W n r) n).1= [((r.1++ [r.2]).flatten).flatten]:=by
 have hl:(pgs W n r).length=n:=ug (by omega);have q:=zD W n r;have hw:wr (pgs W n r) r.1.length=false:=by
  rw [B8 q,uh W n r q];rfl
 subst hn;rw [wN q hw];rw [Am w1 rfl hf r.1.length (aw _),uh W _ r q,Fg hu,cy];simp
theorem A2 (l:List Int):we [l]=l:=by
 unfold we
 cases l with
 | nil=>rfl
 | cons a t=>simp [oI,ly]
theorem Bq (l:List Int) (hl:l.length≤1000):(∃b,∃i:Nat,dU l=some (b,(i:Int)))∨((∀x∈l,vld x=true)∧dU l=some (l.flatMap frm,-1)):=by
 suffices h:∃u,dU l=some u∧((∃i:Nat,u.2=(i:Int))∨((∀x∈l,vld x=true)∧u=(l.flatMap frm,-1))) by
  obtain ⟨u,h1,⟨i,h2⟩ | ⟨h2,h3⟩⟩:=h
  ·exact .inl ⟨u.1,i,by rw [h1,←h2]⟩
  ·exact .inr ⟨h2,by rw [h1,h3]⟩
 unfold dU;refine og (n:=l.length) (fun i a=>a=((l.take i).flatMap frm,(i:Int))∧∀x∈l.take i,vld x=true) (fun u=>(∃i:Nat,∃b,u= .inl (b,(i:Int)))∨((∀x∈l,vld x=true)∧u= .inr (l.flatMap frm))) (fun i a hi hI=>?_) (fun a hI=>?_) ⟨rfl,fun x hx=>by cases hx⟩ (by omega) (fun u hu=>?_)
 ·obtain ⟨rfl,hv⟩:=hI;simp only;rw [ae (dlt hi),aZ hi,bsm,dC hi (by omega),qD,bsm]
  cases hx:vld l[i] with
  | false=>
   rw [ae (by rfl)];exact .inr ⟨_,rfl,.inl ⟨i,_,rfl⟩⟩
  | true=>
   rw [ab (by simp),bsm,CG hx,bsm,yI (by omega) hi,bsm];refine .inl ⟨_,rfl,rfl,fun x hm=>?_⟩;rw [aq hi] at hm;rcases List.mem_append.1 hm with q | q
   ·exact hv x q
   ·rw [List.mem_singleton.1 q]; exact hx
 ·obtain ⟨rfl,hv⟩:=hI;rw [cy] at hv;exact ⟨_,by simp only; rw [ab (by simp)],.inr ⟨hv,by rw [cy]⟩⟩
 ·rcases hu with ⟨i,b,rfl⟩ | ⟨hv,rfl⟩
  ·exact ⟨_,rfl,.inl ⟨i,rfl⟩⟩
  ·exact ⟨_,rfl,.inr ⟨hv,rfl⟩⟩
theorem E3 {r:Int} (h:vld r=true):∀x∈frm r,0≤x∧x≤255:=by
 obtain ⟨h0,h1⟩:=uc h;intro x hx;unfold frm at hx;split at hx
 ·simp at hx; omega
 ·split at hx
  ·simp at hx; omega
  ·split at hx
   ·simp at hx; omega
   ·simp at hx; omega
end Go.Proofs.YtclmdpamofdoiaaGreatDoor
namespace Go.Proofs.YtclmdpamofdoiaaGreatDoor
open Go Go.Lt
theorem Ib {a:Int} (h:ld a=1):eL [] [a]=([a],[]):=by
  simp [eL,ga,rs0,h]
theorem Ia {a b:Int} (h:ld a=2) (hb:slo a≤b∧b≤shi a):eL [] [a,b]=([(a - 192) * 64+(b - 128)],[]):=by
  have e0:ga [] a=([],[a]):=by simp [ga,rs0,h]
  have e1:bg [a,b]=2:=by simp only [bg]; rw [ae ⟨by omega,hb⟩,h]
  have e2:ga [a] b=([(a - 192) * 64+(b - 128)],[]):=by
    unfold ga;rw [ab (by simp),tV,e1,ab (by simp),ae (by decide)];simp [vl,b0,h]
  simp [eL,e0,e2]
theorem H7 {a b c:Int} (h:ld a=3) (hb:slo a≤b∧b≤shi a) (hc:128≤c∧c≤191):eL [] [a,b,c]=([((a - 224) * 64+(b - 128)) * 64+(c - 128)],[]):=by
  have e0:ga [] a=([],[a]):=by simp [ga,rs0,h]
  have e1:bg [a,b]=3:=by simp only [bg]; rw [ae ⟨by omega,hb⟩,h]
  have e2:ga [a] b=([],[a,b]):=by
    unfold ga;rw [ab (by simp),tV,e1,ae (by simp)]
  have e3:bg [a,b,c]=3:=by simp only [bg]; rw [ae ⟨by omega,hb.1,hb.2,hc⟩,h]
  have e4:ga [a,b] c=([((a - 224) * 64+(b - 128)) * 64+(c - 128)],[]):=by
    unfold ga;rw [ab (by simp),show [a,b]++ [c]= [a,b,c] from rfl,e3,ab (by simp),ae (by decide)];simp [vl,b0,h]
  simp [eL,e0,e2,e4]
theorem H0 {a b c d:Int} (h:ld a=4) (hb:slo a≤b∧b≤shi a) (hc:128≤c∧c≤191) (hd:128≤d∧d≤191):eL [] [a,b,c,d]=([(((a - 240) * 64+(b - 128)) * 64+(c - 128)) * 64+(d - 128)],[]):=by
  have e0:ga [] a=([],[a]):=by simp [ga,rs0,h]
  have e1:bg [a,b]=4:=by simp only [bg]; rw [ae ⟨by omega,hb⟩,h]
  have e2:ga [a] b=([],[a,b]):=by
    unfold ga;rw [ab (by simp),tV,e1,ae (by simp)]
  have e3:bg [a,b,c]=4:=by simp only [bg]; rw [ae ⟨by omega,hb.1,hb.2,hc⟩,h]
  have e4:ga [a,b] c=([],[a,b,c]):=by
    unfold ga;rw [ab (by simp),show [a,b]++ [c]= [a,b,c] from rfl,e3,ae (by simp)]
  have e5:bg [a,b,c,d]=4:=by simp only [bg]; rw [ae ⟨h,hb.1,hb.2,hc.1,hc.2,hd⟩]
  have e6:ga [a,b,c] d=([(((a - 240) * 64+(b - 128)) * 64+(c - 128)) * 64+(d - 128)],[]):=by
    unfold ga;rw [ab (by simp),show [a,b,c]++ [d]= [a,b,c,d] from rfl,e5,ab (by simp),ae (by decide)];simp [vl,b0,h]
  simp [eL,e0,e2,e4,e6]
theorem Do {r:Int} (h:vld r=true):eL [] (frm r)=([r],[]):=by
  obtain ⟨h0,h1⟩:=uc h;have hs:r < 55296∨57343 < r:=by
    unfold vld at h;simp only [av,aE,ak] at h;exact h.2
  unfold frm;split
  · rename_i q
    rw [Ib (by unfold ld; rw [ae q])]
  · split
    · rename_i q1 q2
      rw [Ia (by unfold ld; rw [ab (by omega),ae (by omega)]) (by unfold slo shi; rw [ab (by omega),ab (by omega),ab (by omega),ab (by omega)]; omega)]
      congr 2
      omega
    · split
      · rename_i q1 q2 q3
        rw [H7 (by unfold ld; rw [ab (by omega),ab (by omega),ae (by omega)]) (by unfold slo shi; (repeat' split) <;> omega) (by omega)]
        congr 2
        omega
      · rename_i q1 q2 q3
        rw [H0 (by unfold ld; rw [ab (by omega),ab (by omega),ab (by omega),ae (by omega)]) (by unfold slo shi; (repeat' split) <;> omega) (by omega) (by omega)]
        congr 2
        omega
theorem wE:∀{t:List Int},(∀x∈t,vld x=true)→eL [] (t.flatMap frm)=(t,[])
  | [],_=>rfl
  | r :: t,h=>by
    rw [nq,ws,Do (h r ep),wE fun x hx=>h x (eq _ hx)];rfl
end Go.Proofs.YtclmdpamofdoiaaGreatDoor
namespace Go.Proofs.YtclmdpamofdoiaaGreatDoor
open Go Go.Lt
variable {s C:Sto} {f k g W H:Nat} {q P:ag} {ks:List Nat} {op:Option Nat}
theorem FW {p:List Int} (hp:Bts p) (hb:bg p=(p.length:Int)) (hne:p≠ []):vld (vl p)=true:=by
 have h4:=Io p;unfold vld;simp only [av,ak]
 match p,hne with
 | [a],_=>
  obtain ⟨a1,a2⟩:=hp a (by simp);have hl:=pZ a;simp only [bg,aA,aH] at hb;simp only [vl,List.foldl,b0]
  repeat' split
  all_goals simp only [aE,ak]
  all_goals omega
 | [a,b],_=>
  obtain ⟨a1,a2⟩:=hp a (by simp);have hl:=pZ a;simp only [bg,aA,aH] at hb;split at hb
  ·rename_i g
   have hs:128≤b∧b≤191:=by
    have:=g.2;unfold slo shi at this
    repeat' split at this
    all_goals omega
   simp only [vl,List.foldl,b0]
   repeat' split
   all_goals simp only [aE,ak]
   all_goals omega
  ·omega
 | [a,b,c],_=>
  obtain ⟨a1,a2⟩:=hp a (by simp);have hl:=pZ a;simp only [bg,aA,aH] at hb;split at hb
  ·rename_i g
   have hs:128≤b∧b≤191∧(a=237→b≤159):=by
    have:=g.2;unfold slo shi at this
    repeat' split at this
    all_goals omega
   simp only [vl,List.foldl,b0]
   repeat' split
   all_goals simp only [aE,ak]
   all_goals omega
  ·omega
 | [a,b,c,d],_=>
  obtain ⟨a1,a2⟩:=hp a (by simp);have hl:=pZ a;simp only [bg,aA,aH] at hb;split at hb
  ·rename_i g
   have hs:128≤b∧b≤191∧(a=240→144≤b)∧(a=244→b≤143):=by
    have:=g.2;unfold slo shi at this
    repeat' split at this
    all_goals omega
   simp only [vl,List.foldl,b0]
   repeat' split
   all_goals simp only [aE,ak]
   all_goals omega
  ·omega
 | _ :: _ :: _ :: _ :: _ :: _,_=>simp only [bg,aA] at hb; omega
theorem Ar {b:Int} (h:Byt b):∀x∈(rs0 b).1,vld x=true:=fun x hx=>by
 obtain ⟨h1,h2⟩:=h;have hl:=pZ b;unfold rs0 at hx;split at hx
 ·simp at hx
 ·split at hx
  ·rw [List.mem_singleton.1 hx];unfold vld;simp only [av,aE,ak];omega
  ·rw [List.mem_singleton.1 hx]; rfl
theorem Bj {h:List Int} (hb:Bts h) {b:Int} (h1:Byt b):∀x∈(ga h b).1,vld x=true:=fun x hx=>by
 unfold ga at hx;split at hx
 ·exact Ar h1 x hx
 ·split at hx
  ·simp at hx
  ·split at hx
   ·rename_i g1 g2
    rw [List.mem_singleton.1 hx];refine FW (hb.snoc h1) ?_ (by simp);have:=Ip g2;simp only [ai,aA,aH] at this⊢;omega
   ·rcases List.mem_cons.1 hx with hx | hx
    ·rw [hx]; rfl
    ·exact Ar h1 x hx
theorem ex4 {α β γ δ:Type} {X:Option α} {Q:α→β→γ→δ→Prop} (h:∃a,X=some a∧∃b c d,Q a b c d):∃a b c d,X=some a∧Q a b c d:=by
 obtain ⟨a,h1,b,c,d,h2⟩:=h;exact ⟨a,b,c,d,h1,h2⟩
theorem AP {G h:List Int} (F:Fd C s f k g W H P G h q ks op) {l:List Int} (hl:l.length≤1000000) (hv:∀x∈l,vld x=true):∃s' q' ks' op',gi s (some f) l=some s'∧Fd C s' f k g W H P (G++l) h q' ks' op':=by
 unfold gi;refine ex4 (og (n:=l.length) (fun i (st:Int×Sto)=>st.1=(i:Int)∧∃q' ks' op',Fd C st.2 f k g W H P (G++l.take i) h q' ks' op') (fun u:Sto=>∃q' ks' op',Fd C u f k g W H P (G++l) h q' ks' op') (p:=fun s':Sto=>∃q' ks' op',Fd C s' f k g W H P (G++l) h q' ks' op') (fun i st hi hI=>?_) (fun st hI=>?_) ⟨rfl,q,ks,op,by simpa using F⟩ (by omega) (fun u hu=>⟨u,rfl,hu⟩))
 ·obtain ⟨i',st⟩:=st;obtain ⟨e,q1,ks1,op1,F1⟩:=hI;simp only at e F1;subst e;simp only;rw [ae (dlt hi),aZ hi,dC hi (by omega)];simp only [bsm];obtain ⟨s2,q2,ks2,op2,b1,b2⟩:=Du F1 (hv _ (aB hi));rw [b1];refine .inl ⟨_,rfl,rfl,q2,ks2,op2,?_⟩;rw [aq hi,←aC];exact b2
 ·obtain ⟨i',st⟩:=st;obtain ⟨e,q1,ks1,op1,F1⟩:=hI;simp only at e F1;subst e;refine ⟨st,by simp only; rw [ab (by simp)],q1,ks1,op1,?_⟩;rw [aK (aw _)] at F1;exact F1
theorem Fd.dec {G h h':List Int} (F:Fd C s f k g W H P G h q ks op) {d d':bA} (hd:s.feed_Feeder[f]? = some ⟨some k,d,sgB (oK G),op⟩) (hv:Dv d' h'):Fd C (s.sf f ⟨some k,d',sgB (oK G),op⟩) f k g W H P G h' q ks op:=by
 have hf:=cz hd;refine ⟨F.v.sf _,F.fr.rgp (Rgp.self _) ⟨rfl,rfl,rfl⟩,F.fz.sf _ _ F.fz.oc,F.n,F.hd,F.l,F.gv,⟨d',sM hf,hv⟩,F.o1,fun e=>?_⟩;obtain ⟨j,e1,⟨q0,c,C0,s0,ks0,cs0,cl,a1,a2,a3,a4,a5,a6,a7,a8⟩⟩:=F.o2 e;exact ⟨j,e1,⟨q0,c,C0,s0,ks0,cs0,cl,a1,a2,a3,a4,a5,a6,a7.sf _,a8⟩⟩
theorem BO {G h:List Int} (F:Fd C s f k g W H P G h q ks op) (hb:Bts h) {b:List Int} (hl:b.length≤9223372036854775807) (hbt:Bts b):∃s' q' ks' op',gt s (some f) b=some s'∧Fd C s' f k g W H P (G++(eL h b).1) (eL h b).2 q' ks' op':=by
 unfold gt;simp only [bI,aj,aU,bsm];refine ex4 (og (n:=b.length) (fun i (st:Int×Sto)=>st.1=(i:Int)∧∃q' ks' op',Fd C st.2 f k g W H P (G++(eL h (b.take i)).1) (eL h (b.take i)).2 q' ks' op') (fun u:Sto=>∃q' ks' op',Fd C u f k g W H P (G++(eL h b).1) (eL h b).2 q' ks' op') (p:=fun s':Sto=>∃q' ks' op',Fd C s' f k g W H P (G++(eL h b).1) (eL h b).2 q' ks' op') (fun i st hi hI=>?_) (fun st hI=>?_) ⟨rfl,q,ks,op,by simpa [eL] using F⟩ (by omega) (fun u hu=>⟨u,rfl,hu⟩))
 ·obtain ⟨i',st⟩:=st;obtain ⟨e,q1,ks1,op1,F1⟩:=hI;simp only at e F1;subst e;simp only;rw [ae (dlt hi),aZ hi,dC hi (by omega)];obtain ⟨d,hd,hdv⟩:=F1.d;simp only [bsm,hd];have hx:=hbt _ (aB hi);obtain ⟨d',c1,c2⟩:=Dr hdv hx;rw [c1];simp only [bsm];rw [pU (cz hd)];simp only [bsm];have hbt':Bts (b.take i):=fun x hx=>hbt x (gS hx);obtain ⟨s2,q2,ks2,op2,b1,b2⟩:=AP (F1.dec hd c2) (l:=(ga (eL h (b.take i)).2 b[i]).1) (by have:=Bk (eL h (b.take i)).2 b[i]; omega) (Bj (wq hb hbt') hx);rw [b1];refine .inl ⟨_,rfl,rfl,q2,ks2,op2,?_⟩;rw [aq hi,zr];simp only;rw [←aC];exact b2
 ·obtain ⟨i',st⟩:=st;obtain ⟨e,q1,ks1,op1,F1⟩:=hI;simp only at e F1;subst e;refine ⟨st,by simp only; rw [ab (by simp)],q1,ks1,op1,?_⟩;rw [aK (aw _)] at F1;exact F1
theorem sW {G h:List Int} (F:Fd C s f k g W H P G h q ks op):∃s',cX s (some f)=some s'∧Fd C s' f k g W H q [] h q ks none:=by
 obtain ⟨d,hd,hdv⟩:=F.d;have hf:=cz hd;unfold cX;simp only [bI,eX,bw,bsm,hd];rw [pU hf];simp only [bsm,wj];rw [pU (by rw [wR]; exact hf),FC];refine ⟨_,rfl,⟨F.v.sf _,F.fr.rgp (Rgp.self _) ⟨rfl,rfl,rfl⟩,F.fz.sf _ none (fun j e=>by cases e),F.n,F.hd,rfl,fun x hx=>by simp at hx,⟨d,sM hf,hdv⟩,fun _=>rfl,fun e=>by cases e⟩⟩
theorem BM {G h:List Int} (F:Fd C s f k g W H P G h q ks op):∃s' q' ks',gq s (some f)=some s'∧Fd C s' f k g W H q' [] [] q' ks' none∧fo rA P (cls pj pr (G++(if h= [] then [] else [65533])))=some q':=by
 obtain ⟨d,hd,hdv⟩:=F.d;have hf:=cz hd;unfold gq;simp only [bI,aj,aU,bsm,hd];rw [BR hdv];simp only [bsm];rw [pU hf];simp only [bsm];obtain ⟨s2,q2,ks2,op2,b1,b2⟩:=AP (F.dec hd Dv.zero) (l:=if h= [] then [] else [65533]) (by split <;> simp) (fun x hx=>by
  split at hx
  ·simp at hx
  ·rw [List.mem_singleton.1 hx]; rfl)
 rw [b1];simp only [bsm];obtain ⟨s3,c1,c2⟩:=sW b2;rw [c1];exact ⟨s3,q2,ks2,rfl,c2,b2.l⟩
theorem Fz.self (s:Sto) (f:Nat) (op:Option Nat) (h:∀x,s.feed_Feeder[f]? = some x→x.open_=op) (hf:f < s.feed_Feeder.length):Fz s s f op:=
 ⟨aw _,fun _ _ _=>rfl,aw _,fun _ _ _=>rfl,fun j e=> .inl ⟨s.feed_Feeder[f],af hf,by rw [h _ (af hf)]; exact e⟩,rfl⟩
theorem Pv.addf (h:Pv s s k g W q ks) (x:bC):Pv (s.add_feed_Feeder x) (s.add_feed_Feeder x) k g W q ks:=
 ⟨h.p,⟨h.g.g,h.g.r,h.g.h1,h.g.h2,h.g.w1,h.g.w2⟩,h.nd,h.l,rfl,h.f.rgp ⟨rfl,rfl,rfl⟩ ⟨rfl,rfl,rfl⟩⟩
theorem Dn (h:Pv s s k g W q ks) (hh:Hd q.At W ks.length):∃s',ni s (some k)=some (s',some s.feed_Feeder.length)∧Fd s' s' s.feed_Feeder.length k g W ks.length q [] [] q ks none∧s'=s.add_feed_Feeder ⟨some k,⟨0,0,0,0,0⟩,⟨false,0,0,0,false⟩,none⟩:=by
 unfold ni;simp only [bI,ft,bsm,h.p,aj,aU];have hg:(s.add_feed_Feeder ⟨some k,⟨0,0,0,0,0⟩,⟨false,0,0,0,false⟩,none⟩).feed_Feeder[s.feed_Feeder.length]? = some ⟨some k,⟨0,0,0,0,0⟩,⟨false,0,0,0,false⟩,none⟩:=by simp [Sto.add_feed_Feeder]
 refine ⟨_,rfl,⟨h.addf _,(h.addf _).f,Fz.self _ _ _ (fun x hx=>?_) (cz hg),rfl,hh,rfl,fun x hx=>by simp at hx,⟨_,hg,Dv.zero⟩,fun _=>rfl,fun e=>by cases e⟩,rfl⟩;rw [hg] at hx;cases hx;rfl
end Go.Proofs.YtclmdpamofdoiaaGreatDoor
namespace Go.Proofs.YtclmdpamofdoiaaGreatDoor
open Go Go.Lt
variable {s:Sto} {k:Nat} {l p:List aa} {w:Bool}
theorem Ih {c m:Nat} (h:c≤m):cl (c:Int) m=c:=by unfold cl; omega
theorem AJ (n:Int) (m:Nat):fJ n 0 m=some ((cl n m:Nat):Int):=by
 simp only [fJ,gu,dB,cl,aM];omega
def rg (l:List aa) (w:Bool) (a b:Nat):bh:=if a < b then ⟨pl l a (List.replicate (b - a) bl),pw l w a (b - a)⟩ else ⟨l,w⟩
theorem CC {a b:Nat} (h:Snd l) (hb:b≤l.length):Snd (rg l w a b).cells:=by
 unfold rg;split
 ·exact h.paint (sL _) (by simp; omega)
 ·exact h
theorem Gf (a b:Nat):(rg l w a b).cells.length=l.length:=by
 unfold rg;split
 ·exact iU _ _ _
 ·rfl
theorem rZ (h:s.row_Row[k]? = some ⟨l,w⟩) (hs:Snd l) (hl:l.length≤1024) (a b:Int):
  gE s (some k) a b=some (s.sr k (rg l w (cl a l.length) (cl b l.length))):=by
 unfold gE;simp only [iT h,bsm,AJ];have ha:=mU a l.length;have hb:=mU b l.length;generalize cl a l.length=a' at *;generalize cl b l.length=b' at *;unfold rg;by_cases hab:a' < b'
 ·have e:w64 ((b':Int) - (a':Int))=((b' - a':Nat):Int):=by rw [aG (by omega)]; omega
  rw [ae (by simp; omega),ae hab,e,tl,show (max 0 (min (((b' - a':Nat)):Int) 1024)).toNat=b' - a' by omega];simp only [bsm];rw [nW h hs hl (sL _) (by simp; omega) (by simp; omega)];simp
 ·rw [ab (by simp; omega),ab hab,xP h]
theorem nX (l:List aa) (w:Bool) (hl:l.length≤1024) (a b:Int):dr l w a b=some ((rg l w (cl a l.length) (cl b l.length)).cells,(rg l w (cl a l.length) (cl b l.length)).wrap):=by
 unfold dr;have ha:=mU a l.length;have hb:=mU b l.length;have ea:aV 0 (aL a (l.length:Int))=((cl a l.length:Nat):Int):=by simp only [gu,dB,cl]; omega
 have eb:aV 0 (aL b (l.length:Int))=((cl b l.length:Nat):Int):=by simp only [gu,dB,cl]; omega
 rw [ea,eb];generalize cl a l.length=a' at *;generalize cl b l.length=b' at *;unfold rg;by_cases hab:a' < b'
 ·have e:w64 ((b':Int) - (a':Int))=((b' - a':Nat):Int):=by rw [aG (by omega)]; omega
  rw [ab (by simp; omega),ae hab,e,nG _ (by omega)];simp only [bsm];have:=nY l w a' (List.replicate (b' - a') bl) (by omega) (by omega) (by simp; omega);rw [dR] at this;rw [show (List.replicate (((b' - a':Nat):Int).toNat) (⟨0,([]:List Int)⟩:aa))=List.replicate (b' - a') bl by rfl,this];rfl
 ·rw [ae (by simp; omega),ab hab]
theorem Dz (h:s.row_Row[k]? = some ⟨l,w⟩) (hs:Snd l) (hl:l.length≤1024) (col n:Int):
  jI s (some k) col n=some (if 0≤col∧0 < n then s.sr k (rg l w (cl col l.length) (cl (((cl col l.length:Nat):Int)+((cl n l.length:Nat):Int)) l.length)) else s):=by
 unfold jI;simp only [bf,bsm];by_cases hc:0≤col∧0 < n
 ·rw [ae (by simp; omega),ae hc];simp only [iT h,bsm,AJ];have h1:=mU col l.length;have h2:=mU n l.length;rw [aG (by omega),rZ h hs hl];simp only [bsm,Ih h1]
 ·rw [ab (by simp; omega),ab hc]
def ac (l:List aa) (w:Bool) (x A B:Int):bh:=
 if x=0 then rg l w (cl A l.length) (cl B l.length)
 else if x=1 then rg l w 0 (cl (max (-1) (min A l.length)+1) l.length)
 else if x=2 then rg l w (cl A l.length) l.length
 else if x=3 then ⟨(rg l w 0 l.length).cells,false⟩
 else if 0≤A∧0 < B then rg l w (cl A l.length) (cl (((cl A l.length:Nat):Int)+((cl B l.length:Nat):Int)) l.length) else ⟨l,w⟩
theorem FF {a b:Nat} (h:b≤a):rg l w a b=⟨l,w⟩:=by
 unfold rg;rw [ab (by omega)]
theorem Dx (m:Nat):cl 0 m=0:=by unfold cl; omega
theorem uq (m:Nat):cl (m:Int) m=m:=by unfold cl; omega
theorem zO (h:s.row_Row[k]? = some ⟨l,w⟩) (hs:Snd l) (hl:l.length≤1024) (a b:Int):lF s (some k) a=some (s.sr k (ac l w 1 a b)):=by
 unfold lF fJ;simp only [iT h,bsm,gu,dB];rw [aG (by omega),rZ h hs hl,Dx];rfl
theorem yK (h:s.row_Row[k]? = some ⟨l,w⟩) (hs:Snd l) (hl:l.length≤1024) (a b:Int):kM s (some k) a=some (s.sr k (ac l w 2 a b)):=by
 unfold kM;simp only [iT h,bsm];rw [rZ h hs hl,uq];rfl
theorem wF (h:s.row_Row[k]? = some ⟨l,w⟩) (hs:Snd l) (hl:l.length≤1024) (a b:Int):ke s (some k)=some (s.sr k (ac l w 3 a b)):=by
 have hk:=cz h;unfold ke;simp only [iT h,bsm];rw [rZ h hs hl,uq,Dx];simp only [bsm];rw [uG (l:=(rg l w 0 l.length).cells) (w:=(rg l w 0 l.length).wrap) (rn hk),An];rfl
theorem yL (h:s.row_Row[k]? = some ⟨l,w⟩) (hs:Snd l) (hl:l.length≤1024) (a b:Int):jI s (some k) a b=some (s.sr k (ac l w 4 a b)):=by
 rw [Dz h hs hl,show ac l w 4 a b=if 0≤a∧0 < b then rg l w (cl a l.length) (cl (((cl a l.length:Nat):Int)+((cl b l.length:Nat):Int)) l.length) else ⟨l,w⟩ by rfl];split
 ·rfl
 ·rw [xP h]
theorem Es (l:List aa) (w:Bool) (hl:l.length≤1024) (x A B:Int):kF l w x A B=some ((ac l w x A B).cells,(ac l w x A B).wrap):=by
 unfold kF ac;by_cases h0:x=0
 ·rw [ae (by simpa using h0),ae h0,nX l w hl];rfl
 rw [ab (by simpa using h0),ab h0];by_cases h1:x=1
 ·rw [ae (by simpa using h1),ae h1];by_cases hA:A < 0
  ·rw [ae (by simpa using hA),show max (-1) (min A (l.length:Int))+1=0 by omega,Dx,FF (aw _)]
  ·rw [ab (by simpa using hA),dB,aG (by omega),nX l w hl,Dx,show max (-1) (min A (l.length:Int))=min A (l.length:Int) by omega];rfl
 rw [ab (by simpa using h1),ab h1];by_cases h2:x=2
 ·rw [ae (by simpa using h2),ae h2,nX l w hl,uq];rfl
 rw [ab (by simpa using h2),ab h2];by_cases h3:x=3
 ·rw [ae (by simpa using h3),ae h3,nX l w hl,uq,Dx];rfl
 rw [ab (by simpa using h3),ab h3];simp only [bM,bsm];by_cases hA:0≤A∧0 < B
 ·rw [ae hA];by_cases hg:(l.length:Int)≤A
  ·rw [ae (by simp; omega),show cl A l.length=l.length by unfold cl; omega,FF (mU _ _)]
  ·rw [ab (by simp; omega),dB,aG (by omega),nX l w hl];rw [show cl (A+min B (l.length:Int)) l.length=cl (((cl A l.length:Nat):Int)+((cl B l.length:Nat):Int)) l.length by unfold cl; omega];rfl
 ·rw [ab hA,ae (by simp; omega)]
theorem He (hs:Snd l) (x A B:Int):Snd (ac l w x A B).cells:=by
 unfold ac
 repeat' split
 all_goals first | exact hs | exact CC hs (mU _ _) | exact CC hs (aw _)
theorem Hf (x A B:Int):(ac l w x A B).cells.length=l.length:=by
 unfold ac
 repeat' split
 all_goals first | rfl | exact Gf _ _
theorem iL {α:Type} {l:List α} {n:Nat} {f:Nat→α} (hl:l.length=n) (h:∀i,i < n→l[i]? = some (f i)):l=(List.range n).map f:=by
 apply bQ;intro i;rcases aP i n with hi | hi
 ·rw [h i hi]; simp [hi]
 ·rw [aQ (by omega),aQ (by simp; exact hi)]
def trc (l:List aa) (c j:Nat):aa:=if kd l c=3∧(j=c∨j+1=c) then bl else l.getD j bl
def tr (l:List aa) (c:Nat):List aa:=(List.range l.length).map (trc l c)
theorem pQ (l:List aa) (c:Nat):(tr l c).length=l.length:=by simp [tr]
theorem Ce {c j:Nat} (h:j < l.length):(tr l c)[j]? = some (trc l c j):=by simp [tr,h]
theorem Cd (l:List aa) (c j:Nat):(trc l c j).Kind=if kd l c=3∧(j=c∨j+1=c) then 0 else kd l j:=by
 unfold trc;split
 ·rfl
 ·exact mY l j
theorem AH (c j:Nat):kd (tr l c) j=if kd l c=3∧(j=c∨j+1=c) then 0 else kd l j:=by
 rcases aP j l.length with h | h
 ·rw [←Cd]; simp [kd,Ce h]
 ·rw [mq (by rw [pQ]; exact h),mq (l:=l) h]; simp
theorem FB {c:Nat} (h:kd l c≠3):tr l c=l:=by
 symm
 refine iL rfl fun i hi=>?_;unfold trc;rw [ab (by intro e; exact h e.1),an,af hi];rfl
theorem wK (hs:Snd l) (c:Nat):Snd (tr l c):=fun j hj=>by
 have hj':j < l.length:=by rw [pQ] at hj; exact hj
 have he:(tr l c)[j]=trc l c j:=by
  have:=Ce (c:=c) hj';rw [af hj] at this;exact bb this
 have h2:=fun (h:kd l j=2)=>hs.two h;have h3:=fun (h:kd l j=3)=>hs.three h;have hc:=fun (h:kd l c=3)=>hs.three h;rw [he,Cd,AH,AH];refine ⟨?_,?_,?_⟩
 ·unfold trc;split
  ·rfl
  ·exact hs.rg hj'
 ·intro e;split at e
  ·cases e
  ·rename_i hn
   have:=h2 e;rw [ab]
   ·exact this
   ·rintro ⟨q1,q2⟩;have:=hc q1;rcases q2 with rfl | q2
    ·exact hn ⟨q1,.inr rfl⟩
    ·obtain rfl:c=j+2:=by omega
     rw [show j+2 - 1=j+1 by omega] at this;omega
 ·intro e;split at e
  ·cases e
  ·rename_i hn
   have:=h3 e;refine ⟨this.1,?_⟩;rw [ab]
   ·exact this.2
   ·rintro ⟨q1,q2⟩;have:=hc q1;rcases q2 with q2 | q2
    ·rw [←q2] at q1;omega
    ·exact hn ⟨q1,.inl (by omega)⟩
theorem uS (l:List aa) (c:Nat):kd (tr l c) c≠3:=by
 rw [AH];split
 ·decide
 ·rename_i h
  intro e;exact h ⟨e,.inl rfl⟩
theorem wM (hs:Snd l) (hl:l.length≤1024) (c:Nat):jm l c=some (tr l c):=by
 unfold jm;rcases aP c l.length with h | h
 ·have hd:decide ((c:Int) < (l.length:Int))=true:=by simp; exact h
  simp only [hd,gj,aZ h,bsm];by_cases h3:kd l c=3
  ·have hb:(l[c].Kind==3)=true:=by rw [←jU h,h3]; rfl
   obtain ⟨h0,_⟩:=hs.three h3;have e1:w64 ((c:Int) - 1)=((c - 1:Nat):Int):=by rw [aG (by omega)]; omega
   rw [hb,ae rfl,e1,aZ (by omega:c - 1 < l.length)];simp only [bsm];rw [jS (by omega)];simp only [bsm];rw [aZ (by rw [bY]; exact h)];simp only [bsm];rw [jS (by rw [bY]; exact h)];simp only [bsm]
   congr 1
   refine iL (by simp) fun i hi=>?_;unfold trc;by_cases q1:c=i
   ·subst q1;rw [bi (by rw [bY]; exact h),ae ⟨h3,.inl rfl⟩];rfl
   ·rw [aR q1];by_cases q2:c - 1=i
    ·subst q2;rw [bi (by omega),ae ⟨h3,.inr (by omega)⟩];rfl
    ·rw [aR q2,ab (by rintro ⟨_,q⟩; omega),an,af hi];rfl
  ·have hb:(l[c].Kind==3)=false:=by rw [←jU h]; simp [h3]
   rw [hb,ab (by decide),FB h3]
 ·have hd:decide ((c:Int) < (l.length:Int))=false:=by simp; exact h
  simp only [hd,gR,bsm];rw [ab (by decide),FB (by rw [mq h]; decide)]
theorem wL (hl:l.length≤1024) (c:Nat):fQ l c=some (tr l c):=by
 unfold fQ;refine xy (uV (n:=l.length) (trc l c) (t:=tr l c) (fun i hi=>?_) ?_ (by omega)) rfl
 ·simp only [dlt hi,bw,aZ hi,bsm,dC hi (by omega),bM];have hz:bT (decide ((c:Int) < (l.length:Int))) ((idx l c).bind fun x_29=>some (x_29.Kind==3))=some (kd l c==3):=by
   rcases aP c l.length with h | h
   ·have hd:decide ((c:Int) < (l.length:Int))=true:=by simp; exact h
    simp only [hd,gj,aZ h,bsm,←jU h]
   ·have hd:decide ((c:Int) < (l.length:Int))=false:=by simp; exact h
    simp only [hd,gR];rw [mq h];rfl
  simp only [hz,bsm,bf];rw [show (kd l c==3 && ((i:Int)==(c:Int) || ((i+1:Nat):Int)==(c:Int)))=decide (kd l c=3∧(i=c∨i+1=c)) by
   rw [ce];simp only [av,aE,aN,ak];omega]
  have hx:(if decide (kd l c=3∧(i=c∨i+1=c))=true then (some (0,([]:List Int)):Option (Int×(List Int))) else (some (l[i].Kind,l[i].Text):Option (Int×(List Int))))=some ((trc l c i).Kind,(trc l c i).Text):=by
   unfold trc;split
   ·rename_i h
    rw [ae (yo h)];rfl
   ·rename_i h
    rw [ab (by simpa using h),an,af hi];rfl
  rw [hx];simp only [bsm];rw [cR (by simp; omega)];rfl
 ·simp only [dnl];rfl
def inx (l:List aa) (c n j:Nat):aa:=if j < c then (tr l c).getD j bl else if j < c+n then bl else (tr l c).getD (j - n) bl
def tN (l:List aa) (c n j:Nat):aa:=if j+1=l.length∧(inx l c n j).Kind=2 then bl else inx l c n j
def uX (l:List aa) (c n:Nat):List aa:=(List.range l.length).map (tN l c n)
theorem oh (l:List aa) (c n:Nat):(uX l c n).length=l.length:=by simp [uX]
theorem yz {c n j:Nat} (h:j < l.length):(uX l c n)[j]? = some (tN l c n j):=by simp [uX,h]
theorem uW (l:List aa) (c n j:Nat):(inx l c n j).Kind=if j < c then kd (tr l c) j else if j < c+n then 0 else kd (tr l c) (j - n):=by
 unfold inx;split
 ·exact mY _ _
 ·split
  ·rfl
  ·exact mY _ _
theorem sa (l:List aa) (c n j:Nat) (h:j < l.length):kd (uX l c n) j=if j+1=l.length∧(inx l c n j).Kind=2 then 0 else (inx l c n j).Kind:=by
 rw [show kd (uX l c n) j=(tN l c n j).Kind by simp [kd,yz h]];unfold tN;split <;> rfl
theorem rU (hs:Snd l) (j:Nat):rgt (l.getD j bl)=true:=by
 rcases aP j l.length with h | h
 ·exact hs.rg h
 ·rw [an,aQ h];rfl
theorem ES {A:Prop} [Decidable A] {X:Int} (h:(if A∧X=2 then (0:Int) else X)=2):X=2∧¬A:=by
 by_cases q:A∧X=2
 ·rw [ae q] at h; omega
 ·rw [ab q] at h; exact ⟨h,fun a=>q ⟨a,h⟩⟩
theorem BI {A:Prop} [Decidable A] {X:Int} (h:(if A∧X=2 then (0:Int) else X)=3):X=3:=by
 by_cases q:A∧X=2
 ·rw [ae q] at h; omega
 ·rwa [ab q] at h
theorem De {A:Prop} [Decidable A] {X:Int} (h:X≠2):(if A∧X=2 then (0:Int) else X)=X:=ab fun q=>h q.2
theorem yy (hs:Snd l) (c n:Nat):Snd (uX l c n):=fun j hj=>by
 have hj':j < l.length:=by rw [oh] at hj; exact hj
 have he:(uX l c n)[j]=tN l c n j:=by
  have:=yz (c:=c) (n:=n) hj';rw [af hj] at this;exact bb this
 have ht:=wK hs c;have hlen:=pQ l c;have hat:=uS l c;rw [←jU hj,he];refine ⟨?_,?_,?_⟩
 ·unfold tN;split
  ·rfl
  ·unfold inx;split
   ·exact rU ht j
   ·split
    ·rfl
    ·exact rU ht (j - n)
 ·intro e;rw [sa l c n j hj',uW] at e;obtain ⟨e,hl⟩:=ES e
  ·rw [sa l c n (j+1) (by omega),uW];have key:(if j+1 < c then kd (tr l c) (j+1) else if j+1 < c+n then 0 else kd (tr l c) (j+1 - n))=3:=by
    split at e
    ·have h3:=ht.two e;rw [ae]
     ·exact h3
     ·rcases aP (j+1) c with q | q
      ·exact q
      ·obtain rfl:c=j+1:=by omega
       exact absurd h3 hat
    ·split at e
     ·cases e
     ·have h3:=ht.two e;rw [ab (by omega),ab (by omega),show j+1 - n=j - n+1 by omega];exact h3
   rw [key];exact De (by decide)
 ·intro e;rw [sa l c n j hj',uW] at e;have e':=BI e;split at e'
  ·obtain ⟨h0,h2⟩:=ht.three e';refine ⟨h0,?_⟩;rw [sa l c n (j - 1) (by omega),uW,ab (by rintro ⟨q,_⟩; omega),ae (by omega)];exact h2
  ·split at e'
   ·cases e'
   ·obtain ⟨h0,h2⟩:=ht.three e';have hne:j - n≠c:=by
     intro q;rw [q] at e';exact hat e'
    refine ⟨by omega,?_⟩;rw [sa l c n (j - 1) (by omega),uW,ab (by rintro ⟨q,_⟩; omega),ab (by omega),ab (by omega),show j - 1 - n=j - n - 1 by omega];exact h2
theorem GK (hl:l.length≤1024) {c n:Nat} (hc:c < l.length) (h1:1≤n) (hn:c+n≤l.length):iW (tr l c) n c=some (uX l c n):=by
 unfold iW;have htl:=pQ l c;rw [tl,show (max 0 (min (n:Int) 1024)).toNat=n by omega];simp only [bsm];have hi:jv (tr l c) c (List.replicate n bl)=some ((tr l c).take c++List.replicate n bl++(tr l c).drop c):=by
  unfold jv;rw [ae (by rw [htl,dR]; unfold far; omega),bR]
 rw [hi];simp only [bsm];have hO:slc ((tr l c).take c++List.replicate n bl++(tr l c).drop c) 0 ((tr l c).length:Int)=some ((List.range l.length).map (inx l c n)):=by
  have:=rp (xs:=(tr l c).take c++List.replicate n bl++(tr l c).drop c) (i:=0) (j:=(tr l c).length) (by omega) (by simp [htl]; omega);rw [show ((0:Nat):Int)=0 by rfl] at this;rw [this]
  congr 1
  refine iL (by simp [htl]; omega) fun i hi=>?_;rw [ns,aO,ae (by omega),aC];unfold inx;have htk:((tr l c).take c).length=c:=by simp [htl]; omega
  split
  ·rename_i q
   rw [ax (by omega),aO,ae q,an,af (by omega:i < (tr l c).length)];rfl
  ·rename_i q
   rw [aI (by omega),htk];split
   ·rw [ax (by simp; omega),fm,ae (by omega)]
   ·rw [aI (by simp; omega),dR,bO,show c+(i - c - n)=i - n by omega,an,af (by omega:i - n < (tr l c).length)];rfl
 rw [hO];simp only [bsm];have e1:w64 (((tr l c).length:Int) - 1)=((l.length - 1:Nat):Int):=by rw [aG (by omega),htl]; omega
 rw [e1,aZ (by simp; omega)];simp only [bsm,dM,xC];by_cases hk:(inx l c n (l.length - 1)).Kind=2
 ·rw [ae (by rw [hk]; rfl),jS (by simp; omega)];simp only [bsm]
  congr 1
  refine iL (by simp) fun i hi=>?_;unfold tN;by_cases q:l.length - 1=i
  ·subst q;rw [bi (by simp; omega),ae ⟨by omega,hk⟩];rfl
  ·rw [aR q,ab (by rintro ⟨q,_⟩; omega)];simp [hi]
 ·rw [ab (by simp; exact hk)];simp only [bsm]
  congr 1
  refine iL (by simp) fun i hi=>?_;unfold tN;by_cases q:l.length - 1=i
  ·subst q;rw [ab (by rintro ⟨_,q⟩; exact hk q)];simp [hi]
  ·rw [ab (by rintro ⟨q,_⟩; omega)];simp [hi]
def tt (l:List aa) (c n:Nat):List aa:=tr (tr l c) (c+n)
theorem zj (l:List aa) (c n:Nat):(tt l c n).length=l.length:=by simp [tt,pQ]
def dlx (l:List aa) (c n j:Nat):aa:=if j < c then (tt l c n).getD j bl else if j+n < l.length then (tt l c n).getD (j+n) bl else bl
def vg (l:List aa) (c n:Nat):List aa:=(List.range l.length).map (dlx l c n)
theorem oz (l:List aa) (c n:Nat):(vg l c n).length=l.length:=by simp [vg]
theorem yO {c n j:Nat} (h:j < l.length):(vg l c n)[j]? = some (dlx l c n j):=by simp [vg,h]
theorem qE (l:List aa) (c n j:Nat) (h:j < l.length):kd (vg l c n) j=if j < c then kd (tt l c n) j else if j+n < l.length then kd (tt l c n) (j+n) else 0:=by
 rw [show kd (vg l c n) j=(dlx l c n j).Kind by simp [kd,yO h]];unfold dlx;split
 ·exact mY _ _
 ·split
  ·exact mY _ _
  ·rfl
theorem yN (hs:Snd l) (c n:Nat):Snd (vg l c n):=fun j hj=>by
 have hj':j < l.length:=by rw [oz] at hj; exact hj
 have he:(vg l c n)[j]=dlx l c n j:=by
  have:=yO (c:=c) (n:=n) hj';rw [af hj] at this;exact bb this
 have ht:Snd (tt l c n):=wK (wK hs c) (c+n);have hlen:=zj l c n;have hat1:kd (tt l c n) c≠3:=by
  unfold tt;rw [AH];split
  ·decide
  ·exact uS l c
 have hat2:kd (tt l c n) (c+n)≠3:=uS _ _;rw [←jU hj,he];refine ⟨?_,?_,?_⟩
 ·unfold dlx;split
  ·exact rU ht j
  ·split
   ·exact rU ht _
   ·rfl
 ·intro e;rw [qE l c n j hj'] at e;split at e
  ·have h3:=ht.two e;have hlt:=tC (l:=tt l c n) (j:=j+1) (by omega);rw [qE l c n (j+1) (by omega),ae]
   ·exact h3
   ·rcases aP (j+1) c with q | q
    ·exact q
    ·obtain rfl:c=j+1:=by omega
     exact absurd h3 hat1
  ·split at e
   ·have h3:=ht.two e;have hlt:=tC (l:=tt l c n) (j:=j+n+1) (by omega);rw [qE l c n (j+1) (by omega),ab (by omega),ae (by omega),show j+1+n=j+n+1 by omega];exact h3
   ·omega
 ·intro e;rw [qE l c n j hj'] at e;split at e
  ·obtain ⟨h0,h2⟩:=ht.three e;refine ⟨h0,?_⟩;rw [qE l c n (j - 1) (by omega),ae (by omega)];exact h2
  ·split at e
   ·obtain ⟨h0,h2⟩:=ht.three e;have hne:j≠c:=by
     intro q;rw [q] at e;exact hat2 e
    refine ⟨by omega,?_⟩;rw [qE l c n (j - 1) (by omega),ab (by omega),ae (by omega),show j - 1+n=j+n - 1 by omega];exact h2
   ·omega
theorem GV (hs:Snd l) (hl:l.length≤1024) {c n:Nat} (hc:c < l.length) (h1:1≤n) (hn:c+n≤l.length):iX (tr l c) n c=some (vg l c n):=by
 unfold iX;have htl:=zj l c n;have e1:w64 ((c:Int)+(n:Int))=((c+n:Nat):Int):=by rw [aG (by omega)]; simp
 rw [e1,wM (wK hs c) (by rw [pQ]; exact hl)];simp only [bsm];rw [show tr (tr l c) (c+n)=tt l c n by rfl];have hd:jx (tt l c n) c ((c+n:Nat):Int)=some ((tt l c n).take c++(tt l c n).drop (c+n)):=by
  unfold jx;rw [ae (by rw [htl]; omega),bR,bR]
 rw [hd,tl,show (max 0 (min (n:Int) 1024)).toNat=n by omega];simp only [bsm];rw [cR (by simp [htl]; omega)];simp only [bsm]
 congr 1
 refine iL (by simp [htl]; omega) fun i hi=>?_;unfold dlx;have htk:((tt l c n).take c).length=c:=by simp [htl]; omega
 rw [aC];split
 ·rename_i q
  rw [ax (by omega),aO,ae q,an,af (by omega:i < (tt l c n).length)];rfl
 ·rename_i q
  rw [aI (by omega),htk];split
  ·rw [ax (by simp [htl]; omega),bO,show c+n+(i - c)=i+n by omega,an,af (by omega:i+n < (tt l c n).length)];rfl
  ·rw [aI (by simp [htl]; omega),fm,ae (by simp [htl]; omega)]
theorem yh (h:p.length=l.length):pl l 0 p=p:=by
 symm
 refine iL h fun i hi=>?_;unfold pc;rw [ae ⟨cZ _,by omega⟩,tq,an,af (by omega)];rfl
theorem yf (h1:1≤l.length):pw l w 0 l.length=false:=by
 unfold pw tch;rw [show decide (0 < l.length)=true by simp; omega,show decide (0≤l.length - 1)=true by simp,show decide (l.length - 1 < 0+l.length)=true by simp; omega];simp
def mvs (col n:Int) (m:Nat):Bool:=decide (0≤col) && decide (col < (m:Int)) && decide (1≤n)
def ish (l:List aa) (w:Bool) (col n:Int):bh:=if mvs col n l.length=true then ⟨uX l col.toNat (min n ((l.length:Int) - col)).toNat,false⟩ else ⟨l,w⟩
def dsh (l:List aa) (w:Bool) (col n:Int):bh:=if mvs col n l.length=true then ⟨vg l col.toNat (min n ((l.length:Int) - col)).toNat,false⟩ else ⟨l,w⟩
theorem ET (hs:Snd l) (col n:Int):Snd (ish l w col n).cells:=by
 unfold ish;split
 ·exact yy hs _ _
 ·exact hs
theorem Fa (hs:Snd l) (col n:Int):Snd (dsh l w col n).cells:=by
 unfold dsh;split
 ·exact yN hs _ _
 ·exact hs
theorem EU (col n:Int):(ish l w col n).cells.length=l.length:=by
 unfold ish;split
 ·exact oh _ _ _
 ·rfl
theorem Fb (col n:Int):(dsh l w col n).cells.length=l.length:=by
 unfold dsh;split
 ·exact oz _ _ _
 ·rfl
theorem ui {col n:Int} {m:Nat}:(decide (col < 0) || decide (col≥(m:Int)) || decide (n < 1))= !mvs col n m:=by
 rw [ce];simp only [mvs,aE,dq,tZ,ak,kg];omega
theorem xd {col n:Int} {m:Nat} (h:mvs col n m=true):∃c e:Nat,col=(c:Int)∧min n ((m:Int) - col)=(e:Int)∧c < m∧1≤e∧c+e≤m:=by
 simp only [mvs,av,ak] at h;exact ⟨col.toNat,(min n ((m:Int) - col)).toNat,by omega,by omega,by omega,by omega,by omega⟩
theorem A8 (h:s.row_Row[k]? = some ⟨l,w⟩) (hs:Snd l) (hl:l.length≤1024) (col n:Int):jV s (some k) col n=some (s.sr k (ish l w col n)):=by
 unfold jV dW;simp only [iT h,bsm,bM,ui];unfold ish;by_cases hm:mvs col n l.length=true
 ·obtain ⟨c,e,rfl,he,h1,h2,h3⟩:=xd hm;rw [ab (by rw [hm]; decide),ae hm,qC h (by omega) hs.sht];simp only [bsm,wM hs hl];have e1:aL n (w64 ((l.length:Int) - (c:Int)))=(e:Int):=by rw [aG (by omega),dB]; exact he
  rw [e1,GK hl h1 h2 h3,he];simp only [bsm,bR];have:=nW h hs hl (yy hs c e) (a:=0) (by rw [oh]; omega) (by rw [oh]; omega);rw [show ((0:Nat):Int)=0 by rfl] at this;rw [this,yh (oh l c e),oh,yf (by omega)];rfl
 ·rw [ae (by simpa using hm),ab hm,xP h];rfl
theorem A9 (h:s.row_Row[k]? = some ⟨l,w⟩) (hs:Snd l) (hl:l.length≤1024) (col n:Int):jW s (some k) col n=some (s.sr k (dsh l w col n)):=by
 unfold jW dX;simp only [iT h,bsm,bM,ui];unfold dsh;by_cases hm:mvs col n l.length=true
 ·obtain ⟨c,e,rfl,he,h1,h2,h3⟩:=xd hm;rw [ab (by rw [hm]; decide),ae hm,qC h (by omega) hs.sht];simp only [bsm,wM hs hl];have e1:aL n (w64 ((l.length:Int) - (c:Int)))=(e:Int):=by rw [aG (by omega),dB]; exact he
  rw [e1,GV hs hl h1 h2 h3,he];simp only [bsm,bR];have:=nW h hs hl (yN hs c e) (a:=0) (by rw [oz]; omega) (by rw [oz]; omega);rw [show ((0:Nat):Int)=0 by rfl] at this;rw [this,yh (oz l c e),oz,yf (by omega)];rfl
 ·rw [ae (by simpa using hm),ab hm,xP h];rfl
theorem Eo (hl:l.length≤1024) (col n:Int) (w:Bool):jq l col n=some ((ish l w col n).cells,mvs col n l.length):=by
 unfold jq;simp only [bsm,bM,ui];unfold ish;by_cases hm:mvs col n l.length=true
 ·rw [hm];obtain ⟨c,e,rfl,he,h1,h2,h3⟩:=xd hm;have e1:aL n (w64 ((l.length:Int) - (c:Int)))=(e:Int):=by rw [aG (by omega),dB]; exact he
  rw [ab (by decide),ae rfl,wL hl,e1,he];simp only [bsm,bR];refine xy (uV (n:=l.length) (tN l c e) (t:=uX l c e) (fun i hi=>?_) ?_ (by omega)) rfl
  ·have e2:w64 ((c:Int)+(e:Int))=((c+e:Nat):Int):=by rw [aG (by omega)]; simp
   simp only [dlt hi,bw,dC hi (by omega),e2,bf,bsm];have htl:=pQ l c;have hx:((if decide ((i:Int) < (c:Int))=true then (idx (tr l c) (i:Int)).bind fun x=>(some (x.Kind,x.Text):Option (Int×(List Int))) else (some (0,([]:List Int)):Option (Int×(List Int)))).bind fun z=>
     if decide ((i:Int)≥((c+e:Nat):Int))=true then (idx (tr l c) (w64 ((i:Int) - (e:Int)))).bind fun x=>(some (x.Kind,x.Text):Option (Int×(List Int))) else (some (z.1,z.2):Option (Int×(List Int))))=some ((inx l c e i).Kind,(inx l c e i).Text):=by
    unfold inx;by_cases q1:i < c
    ·rw [ae (by simp; omega),aZ (by omega:i < (tr l c).length)];simp only [bsm];rw [ab (by simp; omega),ae q1,an,af (by omega:i < (tr l c).length)];rfl
    ·rw [ab (by simp; omega),ab q1];simp only [bsm];by_cases q2:i < c+e
     ·rw [ab (by simp; omega),ae q2];rfl
     ·have e3:w64 ((i:Int) - (e:Int))=((i - e:Nat):Int):=by rw [aG (by omega)]; omega
      rw [ae (by simp; omega),ab q2,e3,aZ (by omega:i - e < (tr l c).length),an,af (by omega:i - e < (tr l c).length)];rfl
   refine (ze _ _ _).symm.trans ?_;rw [hx];simp only [bsm];have hy:(if (((i+1:Nat):Int)==(l.length:Int) && (inx l c e i).Kind==2)=true then (some (0,([]:List Int)):Option (Int×(List Int))) else (some ((inx l c e i).Kind,(inx l c e i).Text):Option (Int×(List Int))))=some ((tN l c e i).Kind,(tN l c e i).Text):=by
    unfold tN;by_cases q:i+1=l.length∧(inx l c e i).Kind=2
    ·rw [ae (by simp only [av,aN]; omega),ae q];rfl
    ·rw [ab (by simp only [av,aN]; omega),ab q]
   rw [hy];simp only [bsm];rw [cR (by simp; omega)];rfl
  ·simp only [dnl];rfl
 ·rw [ae (by simpa using hm),ab hm];simp only [Af] at hm;rw [hm]
theorem Ep (hl:l.length≤1024) (col n:Int) (w:Bool):jr l col n=some ((dsh l w col n).cells,mvs col n l.length):=by
 unfold jr;simp only [bsm,bM,ui];unfold dsh;by_cases hm:mvs col n l.length=true
 ·rw [hm];obtain ⟨c,e,rfl,he,h1,h2,h3⟩:=xd hm;have e1:aL n (w64 ((l.length:Int) - (c:Int)))=(e:Int):=by rw [aG (by omega),dB]; exact he
  have e2:w64 ((c:Int)+(e:Int))=((c+e:Nat):Int):=by rw [aG (by omega)]; simp
  rw [ab (by decide),ae rfl,wL hl,e1,he];simp only [bsm,bR,e2];rw [wL (by rw [pQ]; exact hl)];simp only [bsm];rw [show tr (tr l c) (c+e)=tt l c e by rfl];refine xy (uV (n:=l.length) (dlx l c e) (t:=vg l c e) (fun i hi=>?_) ?_ (by omega)) rfl
  ·have htl:=zj l c e;have e3:w64 ((i:Int)+(e:Int))=((i+e:Nat):Int):=by rw [aG (by omega)]; simp
   simp only [dlt hi,bw,dC hi (by omega),e3];have hx:(if decide ((i:Int) < (c:Int))=true then (idx (tt l c e) (i:Int)).bind fun x=>(some (x.Kind,x.Text):Option (Int×(List Int))) else if decide (((i+e:Nat):Int) < (l.length:Int))=true then (idx (tt l c e) ((i+e:Nat):Int)).bind fun x=>(some (x.Kind,x.Text):Option (Int×(List Int))) else (some (0,([]:List Int)):Option (Int×(List Int))))=some ((dlx l c e i).Kind,(dlx l c e i).Text):=by
    unfold dlx;by_cases q1:i < c
    ·rw [ae (by simp; omega),aZ (by omega:i < (tt l c e).length),ae q1,an,af (by omega:i < (tt l c e).length)];rfl
    ·rw [ab (by simp; omega),ab q1];by_cases q2:i+e < l.length
     ·rw [ae (by simp only [ak]; omega),ae q2,aZ (by omega:i+e < (tt l c e).length),an,af (by omega:i+e < (tt l c e).length)];rfl
     ·rw [ab (by simp only [ak]; omega),ab q2];rfl
   rw [hx];simp only [bsm];rw [cR (by simp; omega)];rfl
  ·simp only [dnl];rfl
 ·rw [ae (by simpa using hm),ab hm];simp only [Af] at hm;rw [hm]
end Go.Proofs.YtclmdpamofdoiaaGreatDoor
namespace Go.Proofs.YtclmdpamofdoiaaGreatDoor
open Go Go.Lt
variable {s C:Sto} {g k W:Nat} {ks:List Nat} {q:ag}
def w38 (o:bu):Int:=if o.Kind < 2∨12 < o.Kind then 5 else if (o.Kind=3∨o.Kind=4)∧(o.A < 0∨2 < o.A) then 3 else 0
def e38 (o:bu):Er:=if w38 o=5 then .sent 4 else if w38 o=3 then .sent 2 else .nil
theorem FU (o:bu):w38 o=5∨w38 o=3∨w38 o=0:=by
  unfold w38
  repeat' split
  all_goals simp
def BQ (n:Int):Bool:=decide (2≤n) && decide (n≤12)
theorem BP (n:Int):mJ n=some (BQ n):=by
  unfold mJ BQ;simp only [bf,bsm,zK]
theorem Ig (o:bu):BQ o.Kind=(w38 o != 5):=by
  rw [ce];unfold BQ w38;simp only [av,ak,lW,uO]
  repeat' split
  all_goals omega
theorem vf (o:bu):kv o=some (e38 o):=by
  unfold kv;rw [BP];have hd:BQ o.Kind= !decide (o.Kind < 2∨12 < o.Kind):=by
    rw [ce];simp only [BQ,av,ak,dq,kg];omega
  simp only [bsm,hd,bf,bM,Bool.not_not];unfold e38;by_cases h:o.Kind < 2∨12 < o.Kind
  · have e:w38 o=5:=by unfold w38; rw [ae h]
    rw [ae (by simpa using h),ae e]
  · rw [ab (by simpa using h)]
    by_cases h2:(o.Kind=3∨o.Kind=4)∧(o.A < 0∨2 < o.A)
    · have e:w38 o=3:=by unfold w38; rw [ab h,ae h2]
      rw [ae (by simp only [av,aE,ak,lW,uO]; omega),e];rfl
    · have e:w38 o=0:=by unfold w38; rw [ab h,ab h2]
      rw [ab (by simp only [av,aE,ak,lW,uO]; omega),e];rfl
theorem AQ (o:bu):(e38 o).isNil=(w38 o==0):=by
  unfold e38;rcases FU o with h | h | h <;> rw [h] <;> rfl
def lt (r:bh):am:=⟨r.cells,r.wrap⟩
theorem DS (h:Pv C s k g W q ks) {i:Nat} (hi:i < ks.length) (x a b:Int):dp q i x a b=some ⟨q.L.set i (lt (ac (q.L.getD i dl).Cells (q.L.getD i dl).Wrap x a b)),q.At,q.Auto⟩:=by
  have hl:=h.len;have hlt:i < q.L.length:=by omega
  have hok:=h.ok _ (aB hlt);have w2:=h.g.w2;unfold dp;rw [aZ hlt];simp only [bsm];rw [Es _ _ (by rw [hok.2]; exact w2)];simp only [bsm];rw [rW h hi,gdl hlt];rfl
theorem Pv.ac (h:Pv C s k g W q ks) {i:Nat} (hi:i < ks.length) (x a b:Int):Pv C (s.sr ks[i] (ac (q.L.getD i dl).Cells (q.L.getD i dl).Wrap x a b)) k g W ⟨q.L.set i (lt (Go.Proofs.YtclmdpamofdoiaaGreatDoor.ac (q.L.getD i dl).Cells (q.L.getD i dl).Wrap x a b)),q.At,q.Auto⟩ ks:=by
  have hl:=h.len;have hlt:i < q.L.length:=by omega
  have hok:=h.ok _ (aB hlt);have e:q.L.getD i dl=q.L[i]:=gdl hlt;rw [e];exact h.row hi (He hok.1 x a b) (by rw [Hf]; exact hok.2)
theorem Pv.rw_ (h:Pv C s k g W q ks) {i:Nat} (hi:i < ks.length):s.row_Row[ks[i]]? = some ⟨(q.L.getD i dl).Cells,(q.L.getD i dl).Wrap⟩∧Snd (q.L.getD i dl).Cells∧(q.L.getD i dl).Cells.length=W:=by
  have hl:=h.len;have hlt:i < q.L.length:=by omega
  have hok:=h.ok _ (aB hlt);obtain ⟨r,h1,h2,h3⟩:=h.g.at hi;have e:q.L[i]=⟨r.cells,r.wrap⟩:=by rw [h.at hi,nb h1]
  rw [gdl hlt,e];exact ⟨h1,h2,h3⟩
def md (mode:Int):Int:=if mode=0 then 2 else if mode=1 then 1 else 3
theorem wG (h:Pv C s k g W q ks) {i:Nat} (hi:i < ks.length) (hr:q.At.Row=(i:Int)) (mode:Int):lm s (some k) mode=some (s.sr ks[i] (ac (q.L.getD i dl).Cells (q.L.getD i dl).Wrap (md mode) q.At.Col 0)):=by
  obtain ⟨r1,r2,r3⟩:=h.rw_ hi;have w2:=h.g.w2;unfold lm md;simp only [bsm,h.p,hr];rw [eM h.g hi];simp only [bsm];by_cases h0:mode=0
  · rw [ae (by simpa using h0),ae h0,yK r1 r2 (by omega) _ 0]
    rfl
  · rw [ab (by simpa using h0),ab h0]
    by_cases h1:mode=1
    · rw [ae (by simpa using h1),ae h1,zO r1 r2 (by omega) _ 0]
      rfl
    · rw [ab (by simpa using h1),ab h1,wF r1 r2 (by omega) q.At.Col 0]
      rfl
def eS (cond:Nat→Bool) (L:List am):Nat→List am
  | 0=>L
  | i+1=>if cond i=true then (eS cond L i).set i (lt (ac ((eS cond L i).getD i dl).Cells ((eS cond L i).getD i dl).Wrap 3 0 0)) else eS cond L i
def cnd (mode:Int) (row:Int) (i:Nat):Bool:=mode==2 || (mode==0 && decide ((i:Int) > row)) || (mode==1 && decide ((i:Int) < row))
theorem xV (h:Pv C s k g W q ks) (mode:Int) {H:Int} (hH:H=(ks.length:Int)):∃s',(cJ (σ:=Int×Sto) (τ:=Sto) ((H - 0).toNat+1) (fun s_12=>
 if (decide (s_12.1 < H))=true then
 ((orE (mode==2) ((bT (mode==0) ((s_12.2.place_Pen[k]?).bind fun o_32=>
 some (decide (s_12.1 > o_32.At.Row)))).bind fun d_25=>
 some d_25)).bind fun d_21=>
 (orE d_21 ((bT (mode==1) ((s_12.2.place_Pen[k]?).bind fun o_45=>
 some (decide (s_12.1 < o_45.At.Row)))).bind fun d_38=>
 some d_38)).bind fun d_34=>
 if d_34=true then
 (s_12.2.place_Pen[k]?).bind fun o_51=>
 (bv s_12.2 o_51.G s_12.1).bind fun x_53=>
 (ke s_12.2 x_53).bind fun x_54=>
 (some (x_54):Option (Sto))
 else
 (some (s_12.2):Option (Sto))).bind fun z_15=>
 some (.inl ((w64 (s_12.1+1)),z_15))
 else
 some (.inr (s_12.2))) (0,s))=some s'∧Pv C s' k g W ⟨eS (cnd mode q.At.Row) q.L ks.length,q.At,q.Auto⟩ ks:=by
  subst hH;have hh:=h.g.h2;refine fc (n:=ks.length) (fun i st=>st.1=(i:Int)∧Pv C st.2 k g W ⟨eS (cnd mode q.At.Row) q.L i,q.At,q.Auto⟩ ks) (fun st=>Pv C st k g W ⟨eS (cnd mode q.At.Row) q.L ks.length,q.At,q.Auto⟩ ks) (fun i st hi hI=>?_) (fun st hI=>?_) ⟨rfl,h⟩ (by omega)
  · obtain ⟨i',st⟩:=st
    obtain ⟨e,v⟩:=hI;simp only at e v;subst e;simp only;rw [ae (dlt hi)];have hp:=v.p;simp only at hp;simp only [hp,bsm,bf,bM];rw [dC hi (by omega)];by_cases hc:cnd mode q.At.Row i=true
    · rw [ae (show (mode==2 || mode==0 && decide ((i:Int) > q.At.Row) || mode==1 && decide ((i:Int) < q.At.Row))=true from hc),eM v.g hi]
      obtain ⟨r1,r2,r3⟩:=v.rw_ hi;simp only [bsm];have w2:=h.g.w2;rw [wF r1 r2 (by omega) 0 0];refine .inl ⟨_,rfl,rfl,?_⟩;simp only [eS];rw [ae hc];exact v.ac hi 3 0 0
    · rw [ab (show ¬(mode==2 || mode==0 && decide ((i:Int) > q.At.Row) || mode==1 && decide ((i:Int) < q.At.Row))=true from hc)]
      refine .inl ⟨_,rfl,rfl,?_⟩;simp only [eS];rw [ab hc];exact v
  · obtain ⟨i',st⟩:=st
    obtain ⟨e,v⟩:=hI;simp only at e v;subst e;exact ⟨st,by simp,v⟩
theorem zI (h:Pv C s k g W q ks) (kind mode:Int):(cJ (σ:=Int×(List am)×Int×Int×Bool×Bool) (τ:=((List am)×Int×Int×Bool×Bool)) (((q.L.length:Int) - 0).toNat+1) (fun s_23=>
 (bT (decide (s_23.1 < (s_23.2.1.length:Int))) (some (kind==4))).bind fun d_29=>
 if d_29=true then
 ((orE (mode==2) ((bT (mode==0) (some (decide (s_23.1 > s_23.2.2.1)))).bind fun d_41=>
 some d_41)).bind fun d_37=>
 (orE d_37 ((bT (mode==1) (some (decide (s_23.1 < s_23.2.2.1)))).bind fun d_52=>
 some d_52)).bind fun d_48=>
 if d_48=true then
 (dp (⟨s_23.2.1,(⟨s_23.2.2.1,s_23.2.2.2.1,s_23.2.2.2.2.1⟩:ah),s_23.2.2.2.2.2⟩:ag) s_23.1 3 0 0).bind fun x_62=>
 (some (x_62.L,x_62.At.Row,x_62.At.Col,x_62.At.Pending,x_62.Auto):Option ((List am)×Int×Int×Bool×Bool))
 else
 (some (s_23.2.1,s_23.2.2.1,s_23.2.2.2.1,s_23.2.2.2.2.1,s_23.2.2.2.2.2):Option ((List am)×Int×Int×Bool×Bool))).bind fun z_34=>
 some (.inl ((w64 (s_23.1+1)),z_34.1,z_34.2.1,z_34.2.2.1,z_34.2.2.2.1,z_34.2.2.2.2))
 else
 some (.inr (s_23.2.1,s_23.2.2.1,s_23.2.2.2.1,s_23.2.2.2.2.1,s_23.2.2.2.2.2))) (0,q.L,q.At.Row,q.At.Col,q.At.Pending,q.Auto))=
    some (if kind=4 then eS (cnd mode q.At.Row) q.L ks.length else q.L,q.At.Row,q.At.Col,q.At.Pending,q.Auto):=by
  have hh:=h.g.h2;have hl:=h.len;by_cases hk:kind=4
  · subst hk
    rw [ae rfl];obtain ⟨t,h1,h2⟩:=fc (σ:=Int×(List am)×Int×Int×Bool×Bool) (τ:=((List am)×Int×Int×Bool×Bool)) (n:=ks.length) (fuel:=((q.L.length:Int) - 0).toNat+1) (s:=(0,q.L,q.At.Row,q.At.Col,q.At.Pending,q.Auto))
      (fun i st=>st=((i:Int),eS (cnd mode q.At.Row) q.L i,q.At.Row,q.At.Col,q.At.Pending,q.Auto)∧∃s',Pv C s' k g W ⟨eS (cnd mode q.At.Row) q.L i,q.At,q.Auto⟩ ks) (fun t=>t=(eS (cnd mode q.At.Row) q.L ks.length,q.At.Row,q.At.Col,q.At.Pending,q.Auto))
      (step:=fun s_23=>
 (bT (decide (s_23.1 < (s_23.2.1.length:Int))) (some ((4:Int)==4))).bind fun d_29=>
 if d_29=true then
 ((orE (mode==2) ((bT (mode==0) (some (decide (s_23.1 > s_23.2.2.1)))).bind fun d_41=>
 some d_41)).bind fun d_37=>
 (orE d_37 ((bT (mode==1) (some (decide (s_23.1 < s_23.2.2.1)))).bind fun d_52=>
 some d_52)).bind fun d_48=>
 if d_48=true then
 (dp (⟨s_23.2.1,(⟨s_23.2.2.1,s_23.2.2.2.1,s_23.2.2.2.2.1⟩:ah),s_23.2.2.2.2.2⟩:ag) s_23.1 3 0 0).bind fun x_62=>
 (some (x_62.L,x_62.At.Row,x_62.At.Col,x_62.At.Pending,x_62.Auto):Option ((List am)×Int×Int×Bool×Bool))
 else
 (some (s_23.2.1,s_23.2.2.1,s_23.2.2.2.1,s_23.2.2.2.2.1,s_23.2.2.2.2.2):Option ((List am)×Int×Int×Bool×Bool))).bind fun z_34=>
 some (.inl ((w64 (s_23.1+1)),z_34.1,z_34.2.1,z_34.2.2.1,z_34.2.2.2.1,z_34.2.2.2.2))
 else
 some (.inr (s_23.2.1,s_23.2.2.1,s_23.2.2.2.1,s_23.2.2.2.2.1,s_23.2.2.2.2.2)))
      (fun i st hi hI=>by
        obtain ⟨rfl,s',v⟩:=hI;have hvl:(eS (cnd mode q.At.Row) q.L i).length=ks.length:=v.len;simp only [bf,bsm,bM];rw [ae (by simp [hvl,hi]),dC hi (by omega)];by_cases hc:cnd mode q.At.Row i=true
        · rw [ae (show (mode==2 || mode==0 && decide ((i:Int) > q.At.Row) || mode==1 && decide ((i:Int) < q.At.Row))=true from hc)]
          have ha:=DS v hi 3 0 0;rw [show (⟨eS (cnd mode q.At.Row) q.L i,⟨q.At.Row,q.At.Col,q.At.Pending⟩,q.Auto⟩:ag)=⟨eS (cnd mode q.At.Row) q.L i,q.At,q.Auto⟩ from rfl,ha];refine .inl ⟨_,rfl,?_,s'.sr ks[i] (ac ((eS (cnd mode q.At.Row) q.L i).getD i dl).Cells ((eS (cnd mode q.At.Row) q.L i).getD i dl).Wrap 3 0 0),?_⟩
          · simp only [eS]
            rw [ae hc]
          · simp only [eS]
            rw [ae hc];exact v.ac hi 3 0 0
        · rw [ab (show ¬(mode==2 || mode==0 && decide ((i:Int) > q.At.Row) || mode==1 && decide ((i:Int) < q.At.Row))=true from hc)]
          refine .inl ⟨_,rfl,?_,s',?_⟩
          · simp only [eS]
            rw [ab hc]
          · simp only [eS]
            rw [ab hc];exact v)
      (fun st hI=>by
        obtain ⟨rfl,s',v⟩:=hI;have hvl:(eS (cnd mode q.At.Row) q.L ks.length).length=ks.length:=v.len;refine ⟨_,?_,rfl⟩;simp only [bf,bsm];rw [ab (by simp [hvl])])
      ⟨rfl,s,h⟩ (by omega)
    rw [h1,h2]
  · rw [ab hk]
    have hf:(kind==4)=false:=by simpa using hk
    rw [show ((q.L.length:Int) - 0).toNat+1=q.L.length+1 by omega];simp only [cJ,hf,bf,DY,bsm,aj,aU]
theorem B9 (h:Pv C s k g W q ks) {i:Nat} (hi:i < ks.length) {c:List aa} {done:Bool} {r:bh} (hc:c=r.cells) (hd:done=true→r.wrap=false) (hn:done=false→r=⟨(q.L.getD i dl).Cells,(q.L.getD i dl).Wrap⟩) {z:ag} (hz:z=q):
    (if done=true then (bV z i ⟨c,false⟩).bind fun x_172=>(some (x_172.L,x_172.At.Row,x_172.At.Col,x_172.At.Pending,x_172.Auto):Option ((List am)×Int×Int×Bool×Bool))
     else (some (z.L,z.At.Row,z.At.Col,z.At.Pending,z.Auto):Option ((List am)×Int×Int×Bool×Bool)))=some (q.L.set i (lt r),q.At.Row,q.At.Col,q.At.Pending,q.Auto):=by
  subst hz hc;have hl:=h.len
  cases done with
  | true=>
    rw [ae rfl,rW h hi];simp only [bsm];unfold lt;rw [hd rfl]
  | false=>
    rw [ab (by simp),hn rfl];unfold lt;rw [gdl (show i < z.L.length by omega),tW]
theorem Df {l:List aa} {w:Bool} {a b:Int}:(mvs a b l.length=true→(ish l w a b).wrap=false)∧(mvs a b l.length=false→ish l w a b=⟨l,w⟩):=by
  unfold ish;refine ⟨fun h=>by rw [ae h],fun h=>by rw [ab (by rw [h]; simp)]⟩
theorem Dp {l:List aa} {w:Bool} {a b:Int}:(mvs a b l.length=true→(dsh l w a b).wrap=false)∧(mvs a b l.length=false→dsh l w a b=⟨l,w⟩):=by
  unfold dsh;refine ⟨fun h=>by rw [ae h],fun h=>by rw [ab (by rw [h]; simp)]⟩
theorem AF (h:Pv C s k g W q ks) {i:Nat} (hi:i < ks.length) (hr:q.At.Row=(i:Int)) (kind:Int) {mode:Int} (hm:0≤mode∧mode≤2):∃L1,L1=q.L.set i (lt (ac (q.L.getD i dl).Cells (q.L.getD i dl).Wrap (md mode) q.At.Col 0))∧
    jL q kind mode=some ⟨if kind=4 then eS (cnd mode q.At.Row) L1 ks.length else L1,q.At,q.Auto⟩:=by
  refine ⟨_,rfl,?_⟩;unfold jL;have hidx:idx ([2,1,3]:List Int) mode=some (md mode):=by
    have:mode=0∨mode=1∨mode=2:=by omega
    rcases this with e | e | e <;> rw [e] <;> rfl
  have v:=h.ac hi (md mode) q.At.Col 0;have e0:dp q q.At.Row (md mode) q.At.Col 0=some ⟨q.L.set i (lt (ac (q.L.getD i dl).Cells (q.L.getD i dl).Wrap (md mode) q.At.Col 0)),q.At,q.Auto⟩:=by
    rw [hr];exact DS h hi _ _ _
  rw [hidx];simp only [bsm];rw [e0];simp only [bsm];have:=zI v kind mode;simp only at this;rw [this];rfl
theorem E6 (h:Pv C s k g W q ks) (o:bu) (hw:w38 o=0):∃s' q' ks',ot s (some k) o=some (s',Er.nil)∧kZ q o=some q'∧Pv C s' k g W q' ks'∧ks'.length=ks.length∧Hd q'.At W ks.length∧q'.At.Pending=false:=by
  have hh:=h.g.h2;have h1:=h.g.h1;have w1:=h.g.w1;have w2:=h.g.w2;have hkind:2≤o.Kind∧o.Kind≤12:=by
    unfold w38 at hw;split at hw
    · cases hw
    · omega
  have hmode:(o.Kind=3∨o.Kind=4)→0≤o.A∧o.A≤2:=fun e=>by
    unfold w38 at hw;rw [ab (by omega)] at hw;split at hw
    · cases hw
    · omega
  have hnil:e38 o=Er.nil:=by unfold e38; rw [hw]; rfl
  have hd0:=se q.At w1 h1;have hv:Pv C (s.sp k ⟨some g,⟨(hc q.At W ks.length).Row,(hc q.At W ks.length).Col,false⟩,q.Auto⟩) k g W ⟨q.L,⟨(hc q.At W ks.length).Row,(hc q.At W ks.length).Col,false⟩,q.Auto⟩ ks:=h.set _ _;have hd:Hd ⟨(hc q.At W ks.length).Row,(hc q.At W ks.length).Col,false⟩ W ks.length:=⟨hd0.rr,hd0.cc,fun e=>by cases e⟩;unfold ot kZ;rw [vf,hnil,nZ h];simp only [bsm,Er.isNil,cW,aj,aU,bI,ft,h.p];rw [iV h.g,eA h.g];simp only [bsm];rw [oA _ w1 w2 h1 hh];simp only [bsm];rw [iE (cz h.p)];simp only [bsm];rw [iE (by simp [Sto.sp]; exact cz h.p),wh];simp only [bsm];generalize hc q.At W ks.length=c at *;obtain ⟨i,hi⟩:∃i:Nat,c.Row=(i:Int):=⟨c.Row.toNat,by have:=hd.rr; simp only at this; omega⟩;have hik:i < ks.length:=by have:=hd.rr; simp only at this; omega
  have hlen:=hv.len;simp only at hlen;obtain ⟨c1,c2,c3⟩:=c;simp only at hi hv hd;subst hi;simp only;rw [aZ (show i < q.L.length by omega)];simp only [bsm];generalize s.sp k ⟨some g,⟨(i:Int),c2,false⟩,q.Auto⟩=s1 at *;obtain ⟨L,⟨_,_,_⟩,au⟩:=q;simp only at hv hlen⊢;obtain ⟨r1,r2,r3⟩:=hv.rw_ hik;simp only at r1 r2 r3;obtain ⟨kd_,A,B,bs⟩:=o;simp only at hkind hmode⊢;have hcell:L[i]'(by omega)=L.getD i dl:=(gdl (by omega)).symm;rw [hcell];have:kd_=2∨kd_=3∨kd_=4∨kd_=5∨kd_=6∨kd_=7∨kd_=8∨kd_=9∨kd_=10∨kd_=11∨kd_=12:=by omega
  have hcc:=hd.cc;simp only at hcc;rcases this with e | e | e | e | e | e | e | e | e | e | e <;> subst e <;> simp only [Int.reduceBEq,aj,aU,bw,bsm]
  ·
    unfold fK;simp only [bsm,hv.p];rw [eM hv.g hik];simp only [bsm,Int.reduceBEq,bw];rw [iV hv.g,eA hv.g];simp only [bsm];unfold iN;rw [oA _ w1 w2 h1 hh,rX hv,hlen];simp only [bsm];rw [uK _ w1 w2 h1 hh,iE (cz hv.p)];exact ⟨_,_,ks,rfl,rfl,hv.set (hc ⟨A,B,false⟩ W ks.length) au,rfl,se _ w1 h1,by simp [hc]⟩
  ·
    have hm:=hmode (.inl rfl);obtain ⟨L1,e1,e2⟩:=AF hv hik rfl 3 hm;simp only at e1;rw [e2];unfold fK;simp only [bsm,hv.p];rw [eM hv.g hik];simp only [bsm,Int.reduceBEq,aj,aU,bw];rw [wG hv hik rfl A];refine ⟨_,_,ks,rfl,rfl,?_,rfl,hd,rfl⟩;have:=hv.ac hik (md A) c2 0;simp only at this;rw [ab (by decide),e1];exact this
  ·
    have hm:=hmode (.inr rfl);obtain ⟨L1,e1,e2⟩:=AF hv hik rfl 4 hm;simp only at e1;rw [e2];unfold fK;simp only [bsm,hv.p];rw [eM hv.g hik];simp only [bsm,Int.reduceBEq,aj,aU,bw];unfold mA;rw [wG hv hik rfl A];have hv2:=hv.ac hik (md A) c2 0;simp only at hv2;rw [←e1] at hv2;simp only [bsm,hv2.p];rw [eA hv2.g];simp only [bsm];obtain ⟨s',l1,l2⟩:=xV hv2 A rfl;rw [l1];exact ⟨_,_,ks,rfl,rfl,l2,rfl,hd,rfl⟩
  ·
    unfold fK;simp only [bsm,hv.p];rw [eM hv.g hik];simp only [bsm,Int.reduceBEq,aj,aU,bw];rw [yL r1 r2 (by omega),DS hv hik];exact ⟨_,_,ks,rfl,rfl,hv.ac hik 4 c2 A,rfl,hd,rfl⟩
  ·
    have hsn:=ET (w:=(L.getD i dl).Wrap) r2 c2 A;have hlw:=EU (l:=(L.getD i dl).Cells) (w:=(L.getD i dl).Wrap) c2 A;have hdn:=Df (l:=(L.getD i dl).Cells) (w:=(L.getD i dl).Wrap) (a:=c2) (b:=A);unfold fK;simp only [bsm,hv.p];rw [eM hv.g hik];simp only [bsm,Int.reduceBEq,aj,aU,bw];rw [A8 r1 r2 (by omega),Eo (by omega) _ _ (L.getD i dl).Wrap];simp only [bsm];have:=B9 hv hik (c:=(ish (L.getD i dl).Cells (L.getD i dl).Wrap c2 A).cells) (done:=mvs c2 A (L.getD i dl).Cells.length) (r:=ish (L.getD i dl).Cells (L.getD i dl).Wrap c2 A) rfl hdn.1 hdn.2 rfl;simp only at this;rw [this];exact ⟨_,_,ks,rfl,rfl,hv.row hik hsn (by rw [hlw]; exact r3),rfl,hd,rfl⟩
  ·
    have hsn:=Fa (w:=(L.getD i dl).Wrap) r2 c2 A;have hlw:=Fb (l:=(L.getD i dl).Cells) (w:=(L.getD i dl).Wrap) c2 A;have hdn:=Dp (l:=(L.getD i dl).Cells) (w:=(L.getD i dl).Wrap) (a:=c2) (b:=A);unfold fK;simp only [bsm,hv.p];rw [eM hv.g hik];simp only [bsm,Int.reduceBEq,aj,aU,bw];rw [A9 r1 r2 (by omega),Ep (by omega) _ _ (L.getD i dl).Wrap];simp only [bsm];have:=B9 hv hik (c:=(dsh (L.getD i dl).Cells (L.getD i dl).Wrap c2 A).cells) (done:=mvs c2 A (L.getD i dl).Cells.length) (r:=dsh (L.getD i dl).Cells (L.getD i dl).Wrap c2 A) rfl hdn.1 hdn.2 rfl;simp only at this;rw [this];exact ⟨_,_,ks,rfl,rfl,hv.row hik hsn (by rw [hlw]; exact r3),rfl,hd,rfl⟩
  ·
    obtain ⟨s',ks',u1,⟨u2,u3,u4,u5⟩,u6,u7⟩:=yM hv.g hv.nd (i:Int) (ks.length:Int) A;have hm:=pX (W:=W) (L:=L) (by omega) w2 (fun x hx=>(hv.ok x hx).2) (i:Int) (ks.length:Int) A false;rw [hlen] at hm⊢;unfold iK;simp only [bsm,hv.p];rw [eA hv.g];simp only [bsm,Int.reduceBEq,aj,aU,bw];rw [u1,hm];have hp:s'.place_Pen[k]? = some ⟨some g,⟨(i:Int),c2,false⟩,au⟩:=by rw [kr u6]; exact hv.p
    simp only [bsm,hp,dk];rw [iE (cz hp)];refine ⟨_,_,ks',rfl,rfl,⟨wP (cz hp),u2.sp _ _,u3,?_,(qB u6).trans hv.o,(hv.f.step u7 (kr u6)).sp _⟩,u4,⟨hd.rr,by simp only; omega,fun e=>by cases e⟩,rfl⟩;exact u5.trans (by rw [hv.l])
  ·
    obtain ⟨s',ks',u1,⟨u2,u3,u4,u5⟩,u6,u7⟩:=zh hv.g hv.nd (i:Int) (ks.length:Int) A;have hm:=pX (W:=W) (L:=L) (by omega) w2 (fun x hx=>(hv.ok x hx).2) (i:Int) (ks.length:Int) A true;rw [hlen] at hm⊢;unfold iK;simp only [bsm,hv.p];rw [eA hv.g];simp only [bsm,Int.reduceBEq,aj,aU,bw];rw [u1,hm];have hp:s'.place_Pen[k]? = some ⟨some g,⟨(i:Int),c2,false⟩,au⟩:=by rw [kr u6]; exact hv.p
    simp only [bsm,hp,dk];rw [iE (cz hp)];refine ⟨_,_,ks',rfl,rfl,⟨wP (cz hp),u2.sp _ _,u3,?_,(qB u6).trans hv.o,(hv.f.step u7 (kr u6)).sp _⟩,u4,⟨hd.rr,by simp only; omega,fun e=>by cases e⟩,rfl⟩;exact u5.trans (by rw [hv.l])
  ·
    obtain ⟨s',ks',u1,⟨u2,u3,u4,u5⟩,u6,u7⟩:=zh hv.g hv.nd 0 (ks.length:Int) A;have hm:=pX (W:=W) (L:=L) (by omega) w2 (fun x hx=>(hv.ok x hx).2) 0 (ks.length:Int) A true;rw [hlen] at hm⊢;unfold iK;simp only [bsm,hv.p];rw [eA hv.g];simp only [bsm,Int.reduceBEq,aj,aU,bw];rw [u1,hm];refine ⟨_,_,ks',rfl,rfl,⟨by rw [kr u6]; exact hv.p,u2,u3,?_,(qB u6).trans hv.o,hv.f.step u7 (kr u6)⟩,u4,hd,rfl⟩;exact u5.trans (by rw [hv.l])
  ·
    obtain ⟨s',ks',u1,⟨u2,u3,u4,u5⟩,u6,u7⟩:=yM hv.g hv.nd 0 (ks.length:Int) A;have hm:=pX (W:=W) (L:=L) (by omega) w2 (fun x hx=>(hv.ok x hx).2) 0 (ks.length:Int) A false;rw [hlen] at hm⊢;unfold iK;simp only [bsm,hv.p];rw [eA hv.g];simp only [bsm,Int.reduceBEq,aj,aU,bw];rw [u1,hm];refine ⟨_,_,ks',rfl,rfl,⟨by rw [kr u6]; exact hv.p,u2,u3,?_,(qB u6).trans hv.o,hv.f.step u7 (kr u6)⟩,u4,hd,rfl⟩;exact u5.trans (by rw [hv.l])
  ·
    unfold fK;simp only [bsm,hv.p];rw [eM hv.g hik];simp only [bsm,Int.reduceBEq,aj,aU,bw];rw [iE (cz hv.p)];exact ⟨_,_,ks,rfl,rfl,hv.set ⟨(i:Int),c2,false⟩ (A != 0),rfl,hd,rfl⟩
end Go.Proofs.YtclmdpamofdoiaaGreatDoor
namespace Go.Proofs.YtclmdpamofdoiaaGreatDoor
open Go Go.Lt
variable {s C:Sto} {g k W:Nat} {ks:List Nat} {q:ag} {l:List aa}
def rzc (l:List aa) (w j:Nat):aa:=if j < l.length∧(j+1 < w∨kd l j≠2) then l.getD j bl else bl
def rz (l:List aa) (w:Nat):List aa:=(List.range w).map (rzc l w)
theorem sP (l:List aa) (w:Nat):(rz l w).length=w:=by simp [rz]
theorem wU {w j:Nat} (h:j < w):(rz l w)[j]? = some (rzc l w j):=by simp [rz,h]
theorem FJ {w j:Nat} (h:j < w):kd (rz l w) j=(rzc l w j).Kind:=by simp [kd,wU h]
theorem wT (l:List aa) (w j:Nat):(rzc l w j).Kind=if j < l.length∧(j+1 < w∨kd l j≠2) then kd l j else 0:=by
 unfold rzc;split
 ·exact mY l j
 ·rfl
theorem Cs (hs:Snd l) (w:Nat):Snd (rz l w):=fun j hj=>by
 have hjw:j < w:=by rw [sP] at hj; exact hj
 have e:(rz l w)[j]=rzc l w j:=by
  have:=wU (l:=l) hjw;rw [af hj] at this;exact bb this
 rw [e];refine ⟨?_,fun h2=>?_,fun h3=>?_⟩
 ·unfold rzc;split
  ·rename_i h; exact hs.rg h.1
  ·rfl
 ·rw [wT] at h2;split at h2
  ·rename_i h
   have h4:=hs.two h2;have h5:j+1 < l.length:=tC (by rw [h4]; decide);have h6:j+1 < w:=by omega
   rw [FJ h6,wT,ae ⟨h5,.inr (by rw [h4]; decide)⟩,h4]
  ·cases h2
 ·rw [wT] at h3;split at h3
  ·rename_i h
   obtain ⟨h4,h5⟩:=hs.three h3;have h6:j - 1 < l.length:=by omega
   refine ⟨h4,?_⟩;rw [FJ (by omega),wT,ae ⟨h6,.inl (by omega)⟩,h5]
  ·cases h3
theorem Gd (w:Nat):rz [] w=List.replicate w bl:=by
 refine bQ fun j=>?_;rcases aP j w with h | h
 ·rw [wU h,fm,ae h];unfold rzc;rw [ab (by simp)]
 ·rw [aQ (by rw [sP]; exact h),aQ (by simpa using h)]
theorem E5 {n:Nat} (hn:n≤l.length) (hl:l.length≤1024):oq l n=some (if 0 < n∧kd l (n - 1)=2 then (l.take n).set (n - 1) bl else l.take n):=by
 unfold oq;rw [show (0:Int)=((0:Nat):Int) from rfl,rp (cZ _) hn,ns,tq];simp only [bsm];by_cases h0:0 < n
 ·have e:w64 ((n:Int) - 1)=((n - 1:Nat):Int):=by rw [aG (by omega)]; omega
  have hlt:n - 1 < (l.take n).length:=by simp; omega
  have hk:(l.take n)[n - 1].Kind=kd l (n - 1):=by rw [zg,jU (by omega)]
  rw [show decide ((n:Int) > ((0:Nat):Int))=true by simpa using h0,e,aZ hlt];simp only [gj,bsm,hk];by_cases h2:kd l (n - 1)=2
  ·rw [ae (by simpa using h2),ae ⟨h0,h2⟩,jS hlt];rfl
  ·rw [ab (by simpa using h2),ab (fun h=>h2 h.2)];rfl
 ·rw [show decide ((n:Int) > ((0:Nat):Int))=false by simpa using h0,ab (fun h=>h0 h.1)];simp only [gR,bsm,aj,aU]
theorem GW (hs:Snd l) {w n:Nat} (hn:n=min w l.length) (w1:1≤w) (l1:1≤l.length):(if 0 < n∧kd l (n - 1)=2 then (l.take n).set (n - 1) bl else l.take n)++List.replicate (w - n) bl=rz l w:=by
 have hlen:(if 0 < n∧kd l (n - 1)=2 then (l.take n).set (n - 1) bl else l.take n).length=n:=by split <;> simp <;> omega
 refine bQ fun j=>?_;rcases aP j w with h | h
 ·rw [wU h];rcases aP j n with hj | hj
  ·rw [ax (by omega)];have hjl:j < l.length:=by omega
   have g:l.getD j bl=l[j]:=by rw [an,af hjl]; rfl
   unfold rzc;split
   ·rename_i h2
    rw [lq];by_cases e:n - 1=j
    ·subst e;rw [ae rfl,ae (by simp; omega),ab];rintro ⟨_,h5 | h5⟩
     ·have:=hs.two h2.2;have:=tC (l:=l) (j:=n - 1+1) (by omega);omega
     ·exact h5 h2.2
    ·rw [ab e,aO,ae hj,af hjl,ae ⟨hjl,by omega⟩,g]
   ·rename_i h2
    rw [aO,ae hj,af hjl,ae,g];refine ⟨hjl,?_⟩;by_cases e:j+1 < w
    ·exact .inl e
    ·right
     intro h3;exact h2 ⟨by omega,by rw [show n - 1=j by omega]; exact h3⟩
  ·rw [aI (by omega),hlen,fm,ae (by omega)];unfold rzc;rw [ab (by omega)]
 ·rw [aQ (by rw [ai,hlen,dR]; omega),aQ (by rw [sP]; exact h)]
theorem zN {wr:Bool} (h:s.row_Row[k]? = some ⟨l,wr⟩) (hs:Snd l) (l1:1≤l.length) (l2:l.length≤1024) {w:Nat} (w1:1≤w) (w2:w≤1024):
  js s (some k) w=some (s.add_row_Row ⟨rz l w,false⟩,some s.row_Row.length):=by
 have e1:aV 1 (aL (w:Int) 1024)=(w:Int):=by rw [dB,gu]; omega
 unfold js;rw [e1];simp only [bI,aj,aU,qC h (by omega) hs.sht,iT h,bsm];obtain ⟨n,hn⟩:∃n,n=min w l.length:=⟨_,rfl⟩;rw [show aL (w:Int) (l.length:Int)=(n:Int) by rw [dB]; omega,E5 (by omega) l2];have hlen:(if 0 < n∧kd l (n - 1)=2 then (l.take n).set (n - 1) bl else l.take n).length=n:=by split <;> simp <;> omega
 have hcr:=GW hs hn w1 l1;generalize (if 0 < n∧kd l (n - 1)=2 then (l.take n).set (n - 1) bl else l.take n)=c at *;simp only [bsm];rw [hlen,aG (by omega),tl];simp only [bsm];rw [show (max 0 (min ((w:Int) - (n:Int)) 1024)).toNat=w - n by omega,cR (by simp; omega),hcr];simp only [bsm];unfold sn;rw [Ge (by rw [sP]; exact w1) (by rw [sP]; exact w2) (Cs hs w)];rfl
theorem zv (l:List aa) (hl:l.length≤1000000) {w:Nat} (w1:1≤w) (w2:w≤1024):gy l w=some (rz l w):=by
 have e1:aV 1 (aL (w:Int) 1024)=(w:Int):=by rw [dB,gu]; omega
 unfold gy;rw [e1,nG _ (by omega),show (⟨0,[]⟩:aa)=bl from rfl,bR];simp only [bsm];obtain ⟨t,h3,h4⟩:=fc (σ:=(List aa)×Int) (τ:=(List aa)) (n:=min w l.length) (fuel:=((w:Int) - 0).toNat+1) (s:=(List.replicate w bl,0))
  (fun i q=>q=((List.range w).map (fun j=>if j < i then rzc l w j else bl),(i:Int))) (fun t=>t=rz l w)
  (step:=fun s_14=>
 (bT (decide (s_14.2 < (w:Int))) (some (decide (s_14.2 < (l.length:Int))))).bind fun d_18=>
 if d_18=true then
 ((orE (decide ((w64 (s_14.2+1)) < (w:Int))) ((idx l s_14.2).bind fun x_34=>
 some (x_34.Kind != 2))).bind fun d_30=>
 if d_30=true then
 (idx l s_14.2).bind fun x_43=>
 (idx s_14.1 s_14.2).bind fun x_45=>
 (nF s_14.1 s_14.2 x_43).bind fun w_46=>
 (some (w_46):Option ((List aa)))
 else
 (some (s_14.1):Option ((List aa)))).bind fun z_25=>
 some (.inl (z_25,(w64 (s_14.2+1))))
 else
 some (.inr (s_14.1)))
  (fun i q hi e=>by
   subst e;refine .inl ⟨_,?_,rfl⟩;have e5:w64 ((i:Int)+1)=((i+1:Nat):Int):=by rw [aG (by omega)]; simp
   have hil:i < l.length:=by omega
   have hd:(decide ((i:Int) < (w:Int)) && decide ((i:Int) < (l.length:Int)))=true:=by simp; omega
   have hlt:i < ((List.range w).map (fun j=>if j < i then rzc l w j else bl)).length:=by simp; omega
   have ho:(orE (decide (((i+1:Nat):Int) < (w:Int))) ((idx l (i:Int)).bind fun x_34=>some (x_34.Kind != 2)))=some (decide (i+1 < w∨kd l i≠2)):=by
    rw [aZ hil];simp only [bsm,bM,←jU hil,aM];rw [ce];simp only [aE,ak,lW];omega
   simp only [bf,bsm,hd,bw,e5];rw [ho];simp only [bsm];have hnext:∀c:aa,c=rzc l w i→((List.range w).map (fun j=>if j < i then rzc l w j else bl)).set i c=(List.range w).map (fun j=>if j < i+1 then rzc l w j else bl):=fun c hc=>by
    refine bQ fun j=>?_;rw [lq];by_cases e:i=j
    ·subst e;rw [ae rfl,ae hlt,bK,di (by omega),hc];simp
    ·rw [ab e,bK,bK];rcases aP j w with hj | hj
     ·rw [di hj];simp only [dH,aM];by_cases h5:j < i
      ·rw [ae h5,ae (by omega)]
      ·rw [ab h5,ab (by omega)]
     ·rw [aQ (by simpa using hj)];rfl
   by_cases hc:i+1 < w∨kd l i≠2
   ·rw [ae (by simpa using hc),aZ hil,aZ hlt];simp only [bsm];rw [jS hlt,hnext l[i] (by
     unfold rzc;rw [ae ⟨hil,hc⟩,an,af hil];rfl)]
    rfl
   ·rw [ab (by simpa using hc)];simp only [bsm];have hb:rzc l w i=bl:=by
     unfold rzc;rw [ab (fun h=>hc h.2)]
    have:=hnext bl hb.symm;rw [←this]
    congr 3
    refine (bQ fun j=>?_).symm;rw [lq];by_cases e:i=j
    ·subst e;rw [ae rfl,ae hlt,bK,di (by omega)];simp
    ·rw [ab e])
  (fun q e=>⟨q.1,by
   subst e;have hd:(decide (((min w l.length:Nat):Int) < (w:Int)) && decide (((min w l.length:Nat):Int) < (l.length:Int)))=false:=by
    rw [rm];simp only [uO,av,ak];omega
   simp only [bf,bsm,hd,aj,aU],by
   subst e;simp only;unfold rz;refine cV fun j hj=>?_;rw [List.mem_range] at hj;by_cases h5:j < min w l.length
   ·rw [ae h5]
   ·rw [ab h5];unfold rzc;rw [ab (by omega)]⟩)
  (by
   simp only [tK,aU,fM];refine ⟨?_,rfl⟩;rw [Jt,rk]) (by omega)
 subst h4;rw [h3];rfl
def cs (L:List am) (n:Nat):List aa:=(L.getD n ⟨[],false⟩).Cells
def rs (L:List am) (top w h:Nat):List am:=(List.range h).map fun m=>⟨rz (cs L (top+m)) w,false⟩
def rsi (L:List am) (top w h i:Nat):List am:=(List.range h).map fun m=>if m < i then ⟨rz (cs L (top+m)) w,false⟩ else ⟨List.replicate w bl,false⟩
theorem zP {L:List am} {n:Nat} (h:L.length≤n):cs L n= []:=by
 unfold cs;rw [an,aQ h];rfl
theorem Dt {L:List am} {n:Nat} (h:n < L.length):cs L n=L[n].Cells:=by
 unfold cs;rw [an,af h];rfl
theorem Aq (L:List am) (top w:Nat) {h i:Nat} (hi:i < h):(rsi L top w h i).set i ⟨rz (cs L (top+i)) w,false⟩=rsi L top w h (i+1):=by
 unfold rsi;refine bQ fun j=>?_;rw [lq,bZ,rk];by_cases e:i=j
 ·subst e;rw [ae rfl,ae hi,bK,di hi];simp
 ·rw [ab e,bK,bK];rcases aP j h with hj | hj
  ·rw [di hj];simp only [dH,aM];by_cases h5:j < i
   ·rw [ae h5,ae (by omega)]
   ·rw [ab h5,ab (by omega)]
  ·rw [aQ (by simpa using hj)];rfl
theorem Cy (L:List am) {top w h i:Nat} (ho:L.length≤top+i) (hi:i < h):rsi L top w h (i+1)=rsi L top w h i:=by
 rw [←Aq L top w hi,zP ho,Gd];refine bQ fun j=>?_;rw [lq];by_cases e:i=j
 ·subst e;unfold rsi;rw [ae rfl,ae (by simp; exact hi),bK,di hi];simp
 ·rw [ab e]
theorem El (L:List am) (top w h:Nat):rsi L top w h h=rs L top w h:=by
 unfold rsi rs;refine cV fun m hm=>?_;rw [List.mem_range] at hm;rw [ae hm]
theorem Cw (L:List am) (top w h:Nat):rsi L top w h 0=bls w h:=by
 unfold rsi bls;simp only [tK,aU];rw [Jt,rk]
theorem GC {xs:List Nat} (nd:xs.Nodup) {x i:Nat} (hx:x∉xs):(xs.set i x).Nodup:=by
 rw [List.Nodup,List.pairwise_iff_getElem] at *;intro a b ha hb hab;rw [bY] at ha hb;rw [Jh,Jh];split
 ·split
  ·omega
  ·exact fun e=>hx (e▸ aB hb)
 ·split
  ·exact fun e=>hx (e▸ aB ha)
  ·exact nd a b ha hb hab
theorem Gw.sgo {g2:Nat} (h:Gw s g ks W) (hne:g2≠g) (x:bS):Gw (s.sg g2 x) g ks W:=
 ⟨by rw [←h.g]; simp [Sto.sg,aR hne],h.r,h.h1,h.h2,h.w1,h.w2⟩
theorem Gw.addg (h:Gw s g ks W) (x:bS):Gw (s.add_grid_Grid x) g ks W:=
 ⟨by rw [←h.g]; simp only [Sto.add_grid_Grid]; exact ax (cz h.g),h.r,h.h1,h.h2,h.w1,h.w2⟩
theorem Rf.more {s':Sto} {g2:Nat} {ks':List Nat} (h:Rf s s' g ks g2 ks') (hg2:s.grid_Grid.length≤g2) (xs:List bh) (x:bS) (i:Nat):Rf s ((s'.addr xs).sg g2 x) g ks g2 (ks'.set i s'.row_Row.length):=by
 have e:((s'.addr xs).sg g2 x).row_Row=s'.row_Row++xs:=rfl;have e2:((s'.addr xs).sg g2 x).grid_Grid=s'.grid_Grid.set g2 x:=rfl;have hr:=h.rl;refine ⟨by rw [e2,bY]; exact h.gl,by rw [e,ai]; omega,fun j a b=>by rw [e2,aR (by omega)]; exact h.gr j a b,fun j a b=>by rw [e,ax (by omega)]; exact h.rw j a b,h.ng,fun r hr=>?_⟩;rcases qQ hr with q | rfl
 ·exact h.nr r q
 ·exact .inr h.rl
theorem Rf.begun (xs:List bh) (x:bS) {g2:Nat} (hg2:g2=s.grid_Grid.length) (m:Nat):Rf s ((s.addr xs).add_grid_Grid x) g ks g2 (List.range' s.row_Row.length m):=by
 subst hg2;refine ⟨by simp [Sto.add_grid_Grid,Sto.addr],by simp [Sto.add_grid_Grid,Sto.addr],fun j hj _=>?_,fun j hj _=>?_,.inr (aw _),fun r hr=> .inr (List.mem_range'_1.1 hr).1⟩
 ·simp only [Sto.add_grid_Grid,Sto.addr]; exact ax hj
 ·simp only [Sto.add_grid_Grid,Sto.addr]; exact ax hj
theorem A7 (h:Pv C s k g W q ks) {w hh top:Nat} (w1:1≤w) (w2:w≤1024) (h1:1≤hh) (h2:hh≤1024) (ht:top≤1024) {g2:Nat} (hg2:g2=s.grid_Grid.length):
  ∃s' ks',cJ (σ:=Int×Sto) (τ:=Sto) (((hh:Int) - 0).toNat+1) (fun s_54=>
 if (decide (s_54.1 < (hh:Int)))=true then
 ((s_54.2.place_Pen[k]?).bind fun o_64=>
 (bv s_54.2 o_64.G (w64 ((top:Int)+s_54.1))).bind fun x_68=>
 if (!x_68.isNone)=true then
 (js s_54.2 x_68 (w:Int)).bind fun x_78=>
 (eu x_78.1 (some g2) s_54.1 x_78.2).bind fun x_79=>
 (some (x_79.1):Option (Sto))
 else
 (some (s_54.2):Option (Sto))).bind fun z_57=>
 some (.inl ((w64 (s_54.1+1)),z_57))
 else
 some (.inr (s_54.2))) (0,(s.addr ((bls w hh).map lr)).add_grid_Grid ⟨(List.range' s.row_Row.length hh).map some⟩)=some s'∧
  Gw s' g2 ks' w∧ks'.Nodup∧ks'.map (ln s')=rs q.L top w hh∧s'.rst=s.rst∧Rf s s' g ks g2 ks':=by
 have hb:(bls w hh).length=hh:=by simp [bls]
 have h0:((bls w hh)[0]'(by omega)).Cells.length=w:=by simp [bls]
 obtain ⟨b1,b2⟩:=FK (s:=s) (L:=bls w hh) (by omega) (by omega) (DG w1 w2 h1);rw [h0,←hg2] at b1;rw [hb] at b1 b2;have hgl:=cz h.g.g;obtain ⟨t,e1,e2⟩:=fc (σ:=Int×Sto) (τ:=Sto) (n:=hh) (fuel:=((hh:Int) - 0).toNat+1) (s:=(0,(s.addr ((bls w hh).map lr)).add_grid_Grid ⟨(List.range' s.row_Row.length hh).map some⟩))
  (fun i q2=>q2.1=(i:Int)∧q2.2.rst=s.rst∧Gw q2.2 g ks W∧ks.map (ln q2.2)=q.L∧∃ks',Gw q2.2 g2 ks' w∧ks'.Nodup∧ks'.length=hh∧ks'.map (ln q2.2)=rsi q.L top w hh i∧Rf s q2.2 g ks g2 ks')
  (fun t=>t.rst=s.rst∧∃ks',Gw t g2 ks' w∧ks'.Nodup∧ks'.map (ln t)=rs q.L top w hh∧Rf s t g ks g2 ks')
  (step:=fun s_54=>
 if (decide (s_54.1 < (hh:Int)))=true then
 ((s_54.2.place_Pen[k]?).bind fun o_64=>
 (bv s_54.2 o_64.G (w64 ((top:Int)+s_54.1))).bind fun x_68=>
 if (!x_68.isNone)=true then
 (js s_54.2 x_68 (w:Int)).bind fun x_78=>
 (eu x_78.1 (some g2) s_54.1 x_78.2).bind fun x_79=>
 (some (x_79.1):Option (Sto))
 else
 (some (s_54.2):Option (Sto))).bind fun z_57=>
 some (.inl ((w64 (s_54.1+1)),z_57))
 else
 some (.inr (s_54.2)))
  (fun i q2 hi ⟨e,hp,hg,hl,ks',c1,c2,c3,c4,c5⟩=>by
   obtain ⟨j,st⟩:=q2;simp only at e hp hg hl c1 c2 c3 c4 c5;subst e;have e5:w64 ((i:Int)+1)=((i+1:Nat):Int):=by rw [aG (by omega)]; simp
   have e6:w64 ((top:Int)+(i:Int))=((top+i:Nat):Int):=by rw [aG (by omega)]; simp
   have hd:decide ((i:Int) < (hh:Int))=true:=by simp; exact hi
   simp only [hd,bw,kr hp,h.p,bsm,e5,e6];have hlen:=h.len;by_cases ho:top+i < ks.length
   ·rw [eM hg ho];simp only [bsm,bI,eX,bw];obtain ⟨r,r1,r2,r3⟩:=hg.at ho;have hr:=zN (l:=r.cells) (wr:=r.wrap) r1 r2 (by rw [r3]; exact hg.w1) (by rw [r3]; exact hg.w2) w1 w2;rw [hr];simp only [bsm];have ea:st.add_row_Row ⟨rz r.cells w,false⟩=st.addr [⟨rz r.cells w,false⟩]:=by simp [Sto.add_row_Row,Sto.addr]
    rw [ea];have c1':=c1.addr (xs:=[⟨rz r.cells w,false⟩]);have hg':=hg.addr (xs:=[⟨rz r.cells w,false⟩]);have hnew:(st.addr [⟨rz r.cells w,false⟩]).row_Row[st.row_Row.length]? = some ⟨rz r.cells w,false⟩:=by simp [Sto.addr]
    have hrw:Rw (st.addr [⟨rz r.cells w,false⟩]) w st.row_Row.length:=⟨_,hnew,Cs r2 w,sP _ _⟩;rw [yC c1' (show i < ks'.length by omega) hrw];simp only [bsm];have hL:cs q.L (top+i)=r.cells:=by
     rw [Dt (by rw [←hl]; simpa using ho)];have:q.L[top+i]? = (ks.map (ln st))[top+i]? :=by rw [hl]
     rw [af (by rw [←hl]; simpa using ho),bK,af ho,dH,nb r1] at this;rw [bb this]
    refine .inl ⟨_,rfl,rfl,hp,hg'.sgo (by omega) _,?_,ks'.set i st.row_Row.length,c1'.set hrw,GC c2 fun hm=>absurd (c1.r _ hm).lt (Nat.lt_irrefl _),by rw [bY]; exact c3,?_,c5.more (by omega) _ _ _⟩
    ·rw [←hl];refine cV fun x hx=>?_;rw [yt];exact uP (hg.r x hx).lt
    ·rw [←Aq _ _ _ hi,←c4,hL,List.map_set,yt,nb hnew]
     congr 1
     refine cV fun x hx=>?_;rw [yt];exact uP (c1.r x hx).lt
   ·rw [sk hg (.inr (by omega))];simp only [bsm,Option.isNone_none,cW,aj,aU];exact .inl ⟨_,rfl,rfl,hp,hg,hl,ks',c1,c2,c3,by rw [Cy _ (by omega) hi]; exact c4,c5⟩)
  (fun q2 ⟨e,hp,_,_,ks',c1,c2,_,c4,c5⟩=>⟨q2.2,by
   have hd:decide (q2.1 < (hh:Int))=false:=by rw [e]; simp
   simp only [hd,aj,aU],hp,ks',c1,c2,by rw [c4,El],c5⟩)
  ⟨rfl,rfl,(h.g.addr (xs:=(bls w hh).map lr)).addg _,by
   rw [←h.l];refine cV fun x hx=>?_;exact uP (h.g.r x hx).lt,_,b1,I8,by simp,by rw [Cw]; exact b2,Rf.begun _ _ hg2 _⟩ (by omega)
 obtain ⟨p1,ks',p2,p3,p4,p5⟩:=e2;exact ⟨t,ks',e1,p2,p3,p4,p1,p5⟩
def tp (c:ah) (h:Nat):Nat:=(c.Row - h+1).toNat
theorem HC (h:Pv C s k g W q ks) (a b:Int):gw q a b=some ⟨rs q.L (tp (hc q.At W ks.length) (sd b)) (sd a) (sd b),⟨(hc q.At W ks.length).Row - tp (hc q.At W ks.length) (sd b),min (hc q.At W ks.length).Col ((sd a:Int) - 1),false⟩,q.Auto⟩:=by
 have hd:=se q.At h.g.w1 h.g.h1;have hl:=h.len;have hh2:=h.g.h2;have ha:=uA a;have hb:=uA b;have side:∀n:Int,cm n=some (sd n:Int):=fun n=>by
  unfold cm;by_cases h1:n < 1
  ·rw [ae (by simpa using h1)]
   congr 1
   unfold sd;omega
  ·rw [ab (by simpa using h1)];by_cases h2:n > 1024
   ·rw [ae (by simpa using h2)]
    congr 1
    unfold sd;omega
   ·rw [ab (by simpa using h2)]
    congr 1
    unfold sd;omega
 unfold gw;rw [nZ h];generalize hc q.At W ks.length=c at *;have hr:=hd.rr;simp only [bsm,side];obtain ⟨t,e1,e2⟩:=fc (σ:=(List am)×Int) (τ:=((List am)×Int)) (n:=tp c (sd b)) (fuel:=(c.Row - (sd b:Int)).toNat+2) (s:=(q.L,c.Row))
  (fun i q2=>q2=(q.L.drop i,c.Row - i)) (fun t=>t=(q.L.drop (tp c (sd b)),c.Row - tp c (sd b)))
  (step:=fun s_25=>
 if (decide (s_25.2≥(sd b:Int)))=true then
 (slc s_25.1 1 s_25.1.length).bind fun x_32=>
 some (.inl (x_32,(w64 (s_25.2 - 1))))
 else
 some (.inr (s_25.1,s_25.2)))
  (fun i q2 hi e=>by
   subst e;refine .inl ⟨_,?_,rfl⟩;unfold tp at hi;have hd:decide (c.Row - (i:Int)≥(sd b:Int))=true:=by simp; omega
   simp only [hd,bw];rw [show (1:Int)=((1:Nat):Int) from rfl,rp (by simp; omega) (aw _),aG (by omega)];simp only [bsm,da];rw [aK (by simp; omega)]
   congr 3
   omega)
  (fun q2 e=>⟨q2,by
   subst e;have hd:decide (c.Row - (tp c (sd b):Int)≥(sd b:Int))=false:=by
    unfold tp;simp;omega
   simp only [hd,aj,aU],e⟩)
  (by simp) (by unfold tp; omega)
 subst e2;rw [e1];simp only [bsm];obtain ⟨t,e3,e4⟩:=fc (σ:=(List am)×Int) (τ:=(List am)) (n:=sd b) (fuel:=((sd b:Int) - 0).toNat+1) (s:=(([]:List am),0))
  (fun i q2=>q2=((rs q.L (tp c (sd b)) (sd a) (sd b)).take i,(i:Int))) (fun t=>t=rs q.L (tp c (sd b)) (sd a) (sd b))
  (step:=fun s_45=>
 if (decide (s_45.2 < (sd b:Int)))=true then
 (if (decide (s_45.2 < ((q.L.drop (tp c (sd b))).length:Int)))=true then
 (idx (q.L.drop (tp c (sd b))) s_45.2).bind fun x_60=>
 (some (x_60.Cells):Option ((List aa)))
 else
 (some (([]:List aa)):Option ((List aa)))).bind fun z_52=>
 (gy z_52 (sd a:Int)).bind fun x_68=>
 (app s_45.1 ([(⟨x_68,false⟩:am)]:List am)).bind fun x_71=>
 some (.inl (x_71,(w64 (s_45.2+1))))
 else
 some (.inr (s_45.1)))
  (fun i q2 hi e=>by
   subst e;refine .inl ⟨_,?_,rfl⟩;have e5:w64 ((i:Int)+1)=((i+1:Nat):Int):=by rw [aG (by omega)]; simp
   have hd:decide ((i:Int) < (sd b:Int))=true:=by simp; exact hi
   have hz:(if (decide ((i:Int) < ((q.L.drop (tp c (sd b))).length:Int)))=true then (idx (q.L.drop (tp c (sd b))) (i:Int)).bind fun x_60=>(some (x_60.Cells):Option ((List aa))) else (some (([]:List aa)):Option ((List aa))))=some (cs q.L (tp c (sd b)+i)):=by
    by_cases ho:i < (q.L.drop (tp c (sd b))).length
    ·rw [ae (by simpa using ho),aZ ho];have ho2:tp c (sd b)+i < q.L.length:=by simp at ho; omega
     rw [Dt ho2];simp only [bsm,Ja]
    ·rw [ab (by simpa using ho),zP (by simp at ho; omega)]
   simp only [hd,bw,e5];rw [hz];simp only [bsm];have hcl:(cs q.L (tp c (sd b)+i)).length≤1000000:=by
    by_cases ho:tp c (sd b)+i < q.L.length
    ·rw [Dt ho,(h.ok _ (aB ho)).2];have:=h.g.w2;omega
    ·rw [zP (by omega)];simp
   rw [zv _ hcl ha.1 ha.2];simp only [bsm];have hlt:i < (rs q.L (tp c (sd b)) (sd a) (sd b)).length:=by simp [rs]; exact hi
   rw [cR (by simp; omega),aq hlt];simp [rs])
  (fun q2 e=>⟨q2.1,by subst e; simp,by subst e; simp only; rw [aK (by simp [rs])]⟩)
  (by simp) (by omega)
 subst e4;rw [e3];simp only [bsm];rw [aG (by omega),dB]
theorem D7 (h:Pv C s k g W q ks) (a b:Int):∃s' q' g' ks',kJ s (some k) a b=some s'∧gw q a b=some q'∧Pv C s' k g' (sd a) q' ks'∧q'.L=rs q.L (tp (hc q.At W ks.length) (sd b)) (sd a) (sd b)∧Hd q'.At (sd a) (sd b):=by
 have hd:=se q.At h.g.w1 h.g.h1;have hh2:=h.g.h2;have ha:=uA a;have hb:=uA b;have sdd:∀n:Int,aV 1 (aL n 1024)=(sd n:Int):=fun n=>by
  rw [dB,gu];unfold sd;omega
 have hc1:=oA q.At h.g.w1 h.g.w2 h.g.h1 h.g.h2;have h39:=HC h a b;generalize hc q.At W ks.length=c at *;have hr:=hd.rr;have hcc:=hd.cc;have etp:aV 0 (w64 ((w64 (c.Row - (sd b:Int)))+1))=(tp c (sd b):Int):=by
  rw [aG (n:=c.Row - (sd b:Int)) (by omega),aG (by omega),gu];unfold tp;omega
 obtain ⟨s',ks',e1,g1,g2,g3,g4,g5⟩:=A7 h ha.1 ha.2 hb.1 hb.2 (top:=tp c (sd b)) (by unfold tp; omega) rfl;have hgn:=yD (s:=s) (sd a:Int) (sd b:Int);rw [wk ha.1 ha.2,wk hb.1 hb.2] at hgn;have hp':s'.place_Pen[k]? = some ⟨some g,q.At,q.Auto⟩:=by rw [kr g4]; exact h.p
 have hmv:iN (c.Row - (tp c (sd b):Int)) c.Col (sd a:Int) (sd b:Int)=some ⟨c.Row - tp c (sd b),min c.Col ((sd a:Int) - 1),false⟩:=by
  unfold iN;rw [oA _ ha.1 ha.2 hb.1 hb.2];simp only [bsm,hc,aM,ah.mk.injEq,jk,qv];unfold tp;omega
 refine ⟨(s'.sp k ⟨some s.grid_Grid.length,q.At,q.Auto⟩).sp k ⟨some s.grid_Grid.length,⟨c.Row - tp c (sd b),min c.Col ((sd a:Int) - 1),false⟩,q.Auto⟩,_,s.grid_Grid.length,ks',?_,h39,?_,rfl,⟨by simp only; unfold tp; omega,by simp only; omega,fun e=>by cases e⟩⟩
 ·unfold kJ;simp only [bI,ft,bsm,h.p,aj,aU];rw [iV h.g,eA h.g];simp only [bsm,sdd];rw [hc1];simp only [bsm];rw [hgn];simp only [bsm,etp];rw [e1];simp only [bsm,hp'];rw [iE (cz hp')];simp only [bsm];rw [aG (by unfold tp; omega),hmv];simp only [bsm];rw [iE (by simp [Sto.sp]; exact cz hp')];rfl
 ·rw [wh];exact ⟨wP (cz hp'),g1.sp _ _,g2,g3,(qB g4).trans h.o,(h.f.step g5 (kr g4)).sp _⟩
end Go.Proofs.YtclmdpamofdoiaaGreatDoor
namespace Go.Proofs.YtclmdpamofdoiaaGreatDoor
open Go Go.Lt
variable {s C:Sto} {x f k g W H:Nat} {q P:ag} {ks:List Nat} {op:Option Nat}
structure Mo where
 P:ag
 G:List Int
 h:List Int
structure Sd (C s:Sto) (x f k:Nat) (m:Mo) (q:ag):Prop where
 sc:s.screen_Screen[x]? = some ⟨some f,some k⟩
 bt:Bts m.h
 fd:∃g W H ks op,Fd C s f k g W H m.P m.G m.h q ks op
def lay (P:ag) (G:List Int):Option ag:=fo rA P (cls pj pr G)
def mdo (m:Mo) (o:bu):Option Mo:=
 if o.Kind=0 then some ⟨m.P,m.G++(eL m.h o.Bytes).1,(eL m.h o.Bytes).2⟩
 else if o.Kind=1 then (lay m.P (m.G++(if m.h= [] then [] else [65533]))).map fun q=>⟨q,[],[]⟩
 else if o.Kind=13 then (lay m.P m.G).bind fun q=>(gw q o.A o.B).map fun q'=>⟨q',[],m.h⟩
 else if w38 o=0 then (lay m.P m.G).bind fun q=>(kZ q o).map fun q'=>⟨q',[],m.h⟩
 else some m
def w40 (o:bu):Int:=if o.Kind=0∨o.Kind=1∨o.Kind=13 then 0 else w38 o
def e40 (o:bu):Er:=if o.Kind=0∨o.Kind=1∨o.Kind=13 then Er.nil else e38 o
theorem Fd.pen_work {h:List Int} (F:Fd C s f k g W H P [] h q ks none) {s':Sto} {g' W':Nat} {q':ag} {ks':List Nat} (v:Pv s s' k g' W' q' ks') (hh:Hd q'.At W' ks'.length):Fd C s' f k g' W' ks'.length q' [] h q' ks' none:=by
 obtain ⟨d,hd,hdv⟩:=F.d;refine ⟨v.self,F.fr.trans F.v.oG F.v.oR v.f,F.fz.oth v.o,rfl,hh,rfl,F.gv,⟨d,?_,hdv⟩,fun _=>rfl,fun e=>by cases e⟩;rw [oL v.o];exact hd
theorem Bc {m:Mo} (S:Sd C s x f k m q) (o:bu) (hb:Bts o.Bytes) (hl:o.Bytes.length≤9223372036854775807):∃s' m' q',fv s (some x) o=some (s',e40 o)∧mdo m o=some m'∧Sd C s' x f k m' q':=by
 obtain ⟨g,W,H,ks,op,F⟩:=S.fd;have hC:C.screen_Screen[x]? = some ⟨some f,some k⟩:=by rw [←F.fz.sc]; exact S.sc
 have hs:∀{s':Sto} {g W H:Nat} {P:ag} {G h:List Int} {q:ag} {ks:List Nat} {op:Option Nat},Fd C s' f k g W H P G h q ks op→s'.screen_Screen[x]? = some ⟨some f,some k⟩:=fun F'=>by rw [F'.fz.sc]; exact hC
 unfold fv mdo e40;simp only [bI,aj,aU,bsm,aN,S.sc];by_cases k0:o.Kind=0
 ·obtain ⟨s',q',ks',op',b1,b2⟩:=BO F S.bt hl hb;rw [ae k0,ae k0,ae (.inl k0),b1];exact ⟨s',_,q',rfl,rfl,hs b2,wq S.bt hb,⟨_,_,_,_,_,b2⟩⟩
 rw [ab k0,ab k0];by_cases k1:o.Kind=1
 ·obtain ⟨s',q',ks',b1,b2,b3⟩:=BM F;rw [ae k1,ae k1,ae (.inr (.inl k1)),b1];unfold lay;rw [b3];exact ⟨s',_,q',rfl,rfl,hs b2,Bts.nil,⟨_,_,_,_,_,b2⟩⟩
 rw [ab k1,ab k1];by_cases k13:o.Kind=13
 ·obtain ⟨s2,b1,b2⟩:=sW F;obtain ⟨s',q',g',ks',c1,c2,c3,c4,c5⟩:=D7 b2.v o.A o.B;have hkl:ks'.length=sd o.B:=by rw [←c3.len,c4]; simp [rs]
  rw [ae k13,ae k13,ae (.inr (.inr k13)),b1];have hl2:lay m.P m.G=some q:=F.l;simp only [bsm,hs b2,hl2];rw [c1,c2];have F2:=b2.pen_work c3 (by rw [hkl]; exact c5);exact ⟨s',_,q',rfl,rfl,hs F2,S.bt,⟨_,_,_,_,_,F2⟩⟩
 rw [ab k13,ab k13,ab (by omega),vf];simp only [bsm,AQ];by_cases hw:w38 o=0
 ·rw [ab (by simp [hw]),ae hw];obtain ⟨s2,b1,b2⟩:=sW F;obtain ⟨s',q',ks',c1,c2,c3,c4,c5,_⟩:=E6 b2.v o hw;rw [b1];have hl2:lay m.P m.G=some q:=F.l;simp only [bsm,hs b2,hl2];rw [c1,c2];have he:e38 o=Er.nil:=by unfold e38; rw [hw]; rfl
  have F2:=b2.pen_work c3 (by rw [c4]; exact c5);exact ⟨s',_,q',by rw [he]; rfl,rfl,hs F2,S.bt,⟨_,_,_,_,_,F2⟩⟩
 ·rw [ae (by simpa using hw),ab hw];exact ⟨s,m,q,rfl,rfl,S⟩
def vw (q:ag):eW:=⟨(q.L.getD 0 dl).Cells.length,(q.L.length:Int),q.L,q.At,q.Auto⟩
theorem xU {m:Mo} (S:Sd C s x f k m q):dg s (some x)=some (vw q):=by
 obtain ⟨g,W,H,ks,op,F⟩:=S.fd;unfold dg vw;simp only [bI,aj,aU,bsm,S.sc,F.v.p];rw [iV F.v.g,eA F.v.g,zJ F.v.g,F.v.l];simp only [bsm];have hl:=F.v.len;have h1:=F.v.g.h1;rw [gdl (show 0 < q.L.length by omega),(F.v.ok _ (aB (show 0 < q.L.length by omega))).2,hl]
theorem Sd.ok {m:Mo} (S:Sd C s x f k m q):∃W:Nat,1≤W∧W≤1024∧1≤q.L.length∧q.L.length≤1024∧(∀l∈q.L,Okl W l)∧(vw q).Wide=(W:Int)∧Hd q.At W q.L.length:=by
 obtain ⟨g,W,H,ks,op,F⟩:=S.fd;have hl:=F.v.len;have h1:=F.v.g.h1;have h2:=F.v.g.h2;refine ⟨W,F.v.g.w1,F.v.g.w2,by omega,by omega,F.v.ok,?_,by rw [hl,F.n]; exact F.hd⟩;unfold vw;rw [gdl (show 0 < q.L.length by omega),(F.v.ok _ (aB (show 0 < q.L.length by omega))).2]
theorem zo (s:Sto) (w h:Int):∃s',jo s w h=some (s',some s.screen_Screen.length)∧Sd s' s' s.screen_Screen.length s.feed_Feeder.length s.place_Pen.length ⟨⟨bls (sd w) (sd h),⟨0,0,false⟩,true⟩,[],[]⟩ ⟨bls (sd w) (sd h),⟨0,0,false⟩,true⟩:=by
 obtain ⟨s1,ks,h1,v1⟩:=Bw (s:=s) w h;have hks:=v1.g.h1;have hW1:=v1.g.w1;obtain ⟨s2,h2,d2,e2⟩:=Dn v1.self ⟨by simp only; omega,by simp only; omega,fun e=>by cases e⟩;unfold jo;rw [h1];simp only [bsm];rw [h2];simp only [bsm];have es:s1.screen_Screen=s.screen_Screen:=xb v1.o;have ef:s1.feed_Feeder=s.feed_Feeder:=oL v1.o;have es2:s2.screen_Screen=s1.screen_Screen:=by rw [e2]; rfl
 rw [es2,es,ef];rw [ef] at d2;refine ⟨_,rfl,⟨?_,Bts.nil,⟨s.grid_Grid.length,sd w,ks.length,ks,none,?_⟩⟩⟩
 ·have:(s2.add_screen_Screen ⟨some s.feed_Feeder.length,some s.place_Pen.length⟩).screen_Screen=s2.screen_Screen++ [⟨some s.feed_Feeder.length,some s.place_Pen.length⟩]:=rfl;rw [this,es2,es];simp
 ·obtain ⟨d,hd,hdv⟩:=d2.d;refine ⟨⟨d2.v.p,⟨d2.v.g.g,d2.v.g.r,d2.v.g.h1,d2.v.g.h2,d2.v.g.w1,d2.v.g.w2⟩,d2.v.nd,d2.v.l,rfl,d2.v.f.rgp ⟨rfl,rfl,rfl⟩ ⟨rfl,rfl,rfl⟩⟩,d2.v.f.rgp ⟨rfl,rfl,rfl⟩ ⟨rfl,rfl,rfl⟩,Fz.self _ _ _ (fun y hy=>?_) (cz hd),rfl,d2.hd,rfl,fun y hy=>by simp at hy,⟨d,hd,hdv⟩,fun _=>rfl,fun e=>by cases e⟩;have hy':s2.feed_Feeder[s.feed_Feeder.length]? = some y:=hy;rw [hd] at hy';cases hy';rfl
def Obs (l:List bu):Prop:=∀o∈l,Bts o.Bytes∧o.Bytes.length≤9223372036854775807
end Go.Proofs.YtclmdpamofdoiaaGreatDoor
namespace Go.Proofs.YtclmdpamofdoiaaGreatDoor
open Go Go.Lt
variable {s C:Sto} {x f k:Nat} {q q':ag} {m m':Mo}
def mr (m:Mo) (l:List bu):Option Mo:=l.foldl (fun a o=>a.bind fun m=>mdo m o) (some m)
theorem EM (m:Mo) {l:List bu} {i:Nat} (h:i < l.length):mr m (l.take (i+1))=(mr m (l.take i)).bind fun m=>mdo m l[i]:=by
 rw [aq h];unfold mr;rw [lu];rfl
def Non (l:List bu) (n:Nat):Prop:=∀j o,j < n→l[j]? = some o→w40 o=0
def Fst (l:List bu) (n j:Nat) (o:bu):Prop:=j < n∧l[j]? = some o∧w40 o≠0∧Non l j
def Fe (l:List bu) (n:Nat) (e:Er):Prop:=(e= .nil∧Non l n)∨∃j o,Fst l n j o∧e= .fault (j:Int) (e40 o)
theorem Non.zero (l:List bu):Non l 0:=fun j o h=>by omega
theorem Non.succ {l:List bu} {i:Nat} (h:Non l i) (hi:i < l.length) (hw:w40 l[i]=0):Non l (i+1):=fun j o hj ho=>by
 by_cases e:j=i
 ·subst e;rw [af hi] at ho;cases ho;exact hw
 ·exact h j o (by omega) ho
theorem Fst.succ {l:List bu} {i j:Nat} {o:bu} (h:Fst l i j o):Fst l (i+1) j o:=⟨I6 h.1,h.2⟩
theorem Fst.new {l:List bu} {i:Nat} (h:Non l i) (hi:i < l.length) (hw:w40 l[i]≠0):Fst l (i+1) i l[i]:=⟨Jg i,af hi,hw,h⟩
theorem E8 (o:bu):(e40 o).isNil=(w40 o==0):=by
 unfold e40 w40;split
 ·rfl
 ·exact AQ o
theorem zn (S:Sd C s x f k m q) (l:List bu) (hl:l.length≤9223372036854775807) (hb:Obs l):
  ∃s' e m' q',dS s (some x) l=some (s',e)∧mr m l=some m'∧Sd C s' x f k m' q'∧Fe l l.length e:=by
 suffices h:∃r,dS s (some x) l=some r∧(∃m' q',mr m l=some m'∧Sd C r.1 x f k m' q'∧Fe l l.length r.2) by
  obtain ⟨r,h1,m',q',h2,h3,h4⟩:=h;exact ⟨r.1,r.2,m',q',h1,h2,h3,h4⟩
 unfold dS;refine og (n:=l.length) (fun i (a:Er×Int×Sto)=>a.2.1=(i:Int)∧∃m' q',mr m (l.take i)=some m'∧Sd C a.2.2 x f k m' q'∧Fe l i a.1)
  (fun (u:Er×Sto)=>∃m' q',mr m l=some m'∧Sd C u.2 x f k m' q'∧Fe l l.length u.1) (fun i a hi hI=>?_) (fun a hI=>?_) ⟨rfl,m,q,rfl,S,.inl ⟨rfl,Non.zero l⟩⟩ (by omega) (fun u hu=>⟨_,rfl,hu⟩)
 ·obtain ⟨e,i',st⟩:=a;obtain ⟨e1,m1,q1,hm,S1,hF⟩:=hI;simp only at e1 S1 hF;subst e1;simp only;rw [ae (dlt hi),dC hi hl];obtain ⟨hb1,hb2⟩:=hb _ (aB hi);obtain ⟨s',m2,q2,a1,a2,a3⟩:=Bc S1 l[i] hb1 hb2;simp only [aZ hi,bsm];rw [a1];simp only [bsm,bf,E8];have hm2:mr m (l.take (i+1))=some m2:=by rw [EM m hi,hm]; exact a2
  rcases hF with ⟨rfl,hn⟩ | ⟨j,o,h1,rfl⟩
  ·by_cases hw:w40 l[i]=0
   ·rw [ab (by simp [hw])];exact .inl ⟨_,rfl,rfl,m2,q2,hm2,a3,.inl ⟨rfl,hn.succ hi hw⟩⟩
   ·rw [ae (by simp [hw,Er.isNil])];exact .inl ⟨_,rfl,rfl,m2,q2,hm2,a3,.inr ⟨i,l[i],Fst.new hn hi hw,rfl⟩⟩
  ·rw [ab (by simp [Er.isNil])];exact .inl ⟨_,rfl,rfl,m2,q2,hm2,a3,.inr ⟨j,o,h1.succ,rfl⟩⟩
 ·obtain ⟨e,i',st⟩:=a;obtain ⟨e1,m1,q1,hm,S1,hF⟩:=hI;simp only at e1 S1 hF;subst e1;refine ⟨_,by simp only; rw [ab (by simp)],m1,q1,?_,S1,hF⟩;rw [←hm,cy]
end Go.Proofs.YtclmdpamofdoiaaGreatDoor
namespace Go.Proofs.YtclmdpamofdoiaaGreatDoor
open Go Go.Lt
theorem CB {c:aa} (h:rgt c=true):(c.Kind=0∧c.Text= [])∨(c.Kind=3∧c.Text= [])∨((c.Kind=1∨c.Kind=2)∧1≤c.Text.length∧c.Text.length≤16∧c.Text.all vld=true):=by
 unfold rgt at h;split at h
 ·rename_i q
  have e:c.Text= []:=by simpa using h
  rcases q with q | q
  ·exact .inl ⟨q,e⟩
  ·exact .inr (.inl ⟨q,e⟩)
 ·simp only [av,aE,ak] at h;exact .inr (.inr ⟨h.1.1.1,h.1.1.2,h.1.2,h.2⟩)
theorem DF {c:List aa} (h:Snd c):qu c≤17 * c.length:=by
 have:∀x∈c,x.Text.length≤16:=fun x hx=>by
  obtain ⟨i,hi,rfl⟩:=List.mem_iff_getElem.1 hx;rcases CB (h i hi).1 with ⟨_,a⟩ | ⟨_,a⟩ | ⟨_,_,a,_⟩
  ·rw [a]; simp
  ·rw [a]; simp
  ·exact a
 clear h
 unfold qu
 induction c with
 | nil=>simp
 | cons x c ih=>
  have h1:=this x ep;have h2:=ih fun y hy=>this y (eq _ hy);simp only [eV,kX,aA];omega
theorem B4 {L:List am} {W:Nat} (hW:W≤100) (h:∀l∈L,Okl W l):q9 L≤1700 * L.length:=by
 unfold q9
 induction L with
 | nil=>simp
 | cons x L ih=>
  have h1:=h x ep;have h2:=DF h1.1;have h3:=ih fun y hy=>h y (eq _ hy);have h4:=h1.2;simp only [eV,kX,aA];omega
theorem Ew {W n:Nat} (hW:2≤W) (hn:1≤n):(⟨bls W n,⟨0,0,false⟩,true⟩:ag)=pnn W n ([],[]):=by
 unfold pnn pgs pat bls;rw [ab (by rw [kD]; omega),Ap];obtain ⟨k,rfl⟩:∃k,n=k+1:=⟨n - 1,by omega⟩;simp only [pO,bm,aH,kD,tq,qw];rw [vX];rfl
theorem Ct (s:Sto) {l:List Int} {W n:Nat} (hw:2≤W) (hw2:W≤100) (hl:l.length≤1000) (hv:∀x∈l,vld x=true) (ho:∀c∈cls pj pr l,Okc c) (hn:(wrp W ([],[]) (cls pj pr l)).1.length+1=n) (hn2:n≤1000):
  ∃s1 x s2 e v,jo s (W:Int) (n:Int)=some (s1,x)∧dS s1 x [⟨0,0,0,l.flatMap frm⟩,⟨1,0,0,[]⟩]=some (s2,e)∧dg s2 x=some v∧v.High=(n:Int)∧eC v=some [l]:=by
 obtain ⟨hf,hne,_⟩:=kP (pj:=pj) (pr:=pr) l;obtain ⟨s1,n1,S1⟩:=zo s (W:Int) (n:Int);rw [wk (by omega) (by omega),wk (by omega) (by omega),Ew hw (by omega)] at S1;have hO:Obs [⟨0,0,0,l.flatMap frm⟩,⟨1,0,0,[]⟩]:=fun o ho=>by
  rcases List.mem_cons.1 ho with rfl | ho
  ·refine ⟨fun x hx=>?_,?_⟩
   ·obtain ⟨r,hr,hx⟩:=List.mem_flatMap.1 hx;exact E3 (hv r hr) x hx
   ·have:=yH l;simp only;omega
  ·rw [List.mem_singleton.1 ho];exact ⟨fun x hx=>(by cases hx),by simp⟩
 obtain ⟨s2,e,m',q',r1,r2,S2,_⟩:=zn S1 _ (by simp) hO;have hR:Rok W n ([],[]):=⟨hw,by omega,by omega,by simp only [aH]; omega,fun cs h=>(by cases h),by rw [kD]; omega⟩;have hL:lay (pnn W n ([],[])) l=some (pnn W n (wrp W ([],[]) (cls pj pr l))):=AG _ hR ho (by omega);have o1:mdo ⟨pnn W n ([],[]),[],[]⟩ ⟨0,0,0,l.flatMap frm⟩=some ⟨pnn W n ([],[]),l,[]⟩:=by
  unfold mdo;rw [ae rfl];simp only [wE hv,bm]
 have o2:mdo ⟨pnn W n ([],[]),l,[]⟩ ⟨1,0,0,[]⟩=some ⟨pnn W n (wrp W ([],[]) (cls pj pr l)),[],[]⟩:=by
  unfold mdo;rw [ab (by simp),ae rfl];simp only [bw,dI,hL,dH]
 have r2':((some (⟨pnn W n ([],[]),[],[]⟩:Mo)).bind fun m=>mdo m ⟨0,0,0,l.flatMap frm⟩).bind (fun m=>mdo m ⟨1,0,0,[]⟩)=some m':=r2;rw [bsm,o1,bsm,o2] at r2';obtain rfl:=bb r2';have hq:q'=pnn W n (wrp W ([],[]) (cls pj pr l)):=by
  obtain ⟨g,W',H,ks,op,Fd'⟩:=S2.fd;have:=Fd'.l;exact (bb this).symm
 obtain ⟨W',_,_,_,_,hk,hwd,_⟩:=S2.ok;have hview:=xU S2;generalize hr:wrp W ([],[]) (cls pj pr l)=R at *;have hlen:q'.L.length=n:=by
  rw [hq];exact ug (by omega)
 have hfull:=xJ (W:=W) (cls pj pr l) (r:=([],[])) (by rw [kD]; omega) hw (fun x hx=>by cases hx);rw [hr] at hfull;have hfl:=xK W (cls pj pr l) ([],[]);rw [hr] at hfl;have hWW:W'=W:=by
  have h0:0 < q'.L.length:=by omega
  have h1:=(hk _ (aB h0)).2;have h2:∀x∈(pnn W n R).L,x.Cells.length=W:=by
   have hRk:Rok W n R:=by
    refine ⟨hw,by omega,by omega,by omega,fun cs hcs=>?_,hfull.1⟩;rcases hfull.2 cs hcs with e | e <;> omega
   exact hRk.fl.wd
  rw [←hq] at h2;have h3:=h2 _ (aB h0);omega
 refine ⟨s1,_,s2,e,_,n1,r1,hview,by unfold vw; rw [hlen],?_⟩;rw [C8 (vw q') (by unfold vw; simp only; omega) (by
  have:=B4 (W:=W') (by omega) hk;unfold vw;simp only;omega)]
 have h3:=D4 (W:=W) (n:=n) (r:=R) (by omega) hn hfull.2 hfull.1;have h4:(vw q').Lines=pgs W n R:=by unfold vw; rw [hq]; rfl
 rw [h4,ug (by omega),h3,hfl];simp [hf]
theorem rq (l:List Int) (h:R32 l) (w:Int):∃st,dh ⟨[],[],[],[],[],[],[]⟩ l w=some (st,true):=by
 obtain ⟨s1,s2,w1,w2⟩:=GB CJ Bs;obtain ⟨hf,hne,_⟩:=kP (pj:=pj) (pr:=pr) l;unfold dh;rw [w1,bsm];simp only [cW,ft,bsm];by_cases h200:(l.length:Int) > 200
 ·rw [ae (by simpa using h200),w2,bsm];exact ⟨_,rfl⟩
 rw [ab (by simpa using h200)];rcases Bq l (by omega) with ⟨b,i,hp⟩ | ⟨hv,hp⟩
 ·rw [hp,bsm,ae (by simp)];exact ⟨_,rfl⟩
 rw [hp,bsm,ab (by simp)];refine wB (n:=l.length) (fun i a=>a=(i:Int)∧∀x∈l.take i,sil x=false) (fun u=>u= .inl (s1,true)∨(u= .inr ()∧∀x∈l,sil x=false)) (fun i a hi hI=>?_) (fun a hI=>?_) ⟨rfl,fun x hx=>by cases hx⟩ (by omega) (fun u hu=>?_)
 ·obtain ⟨rfl,hs⟩:=hI;rw [ae (dlt hi),aZ hi,bsm,dC hi (by omega),na,bsm]
  cases hx:sil l[i] with
  | true=>
   rw [ae rfl];exact .inr ⟨_,rfl,.inl rfl⟩
  | false=>
   rw [ab (by simp)];refine .inl ⟨_,rfl,rfl,fun x hm=>?_⟩;rw [aq hi] at hm;rcases List.mem_append.1 hm with q | q
   ·exact hs x q
   ·rw [List.mem_singleton.1 q]; exact hx
 ·obtain ⟨rfl,hs⟩:=hI;rw [cy] at hs;exact ⟨_,by rw [ab (by simp)],.inr ⟨rfl,hs⟩⟩
 rcases hu with rfl | ⟨rfl,hs⟩
 ·exact ⟨s1,rfl⟩
 simp only;rw [yP l h (by omega),bsm];have hcl:(cls pj pr l).length≤l.length:=by
  have:∀cs:List (List Int),(∀c∈cs,c≠ [])→cs.length≤cs.flatten.length:=by
   intro cs
   induction cs with
   | nil=>intro _; simp
   | cons c cs ih=>
    intro h;have h1:=ih fun d hd=>h d (eq _ hd);have h2:=List.length_pos_iff.2 (h c ep);rw [fV,ai,aA];omega
  have:=this _ hne;rw [hf] at this;exact this
 refine wB (n:=(cls pj pr l).length) (fun i a=>a=(i:Int)∧∀c∈(cls pj pr l).take i,c.length≤16) (fun u=>u= .inl (s1,true)∨(u= .inr ()∧∀c∈cls pj pr l,c.length≤16)) (fun i a hi hI=>?_) (fun a hI=>?_) ⟨rfl,fun x hx=>by cases hx⟩ (by omega) (fun u hu=>?_)
 ·obtain ⟨rfl,hs⟩:=hI;rw [ae (dlt hi),aZ hi,bsm,dC hi (by omega)];by_cases hx:((cls pj pr l)[i].length:Int) > 16
  ·rw [ae (by simpa using hx)];exact .inr ⟨_,rfl,.inl rfl⟩
  ·rw [ab (by simpa using hx)];refine .inl ⟨_,rfl,rfl,fun x hm=>?_⟩;rw [aq hi] at hm;rcases List.mem_append.1 hm with q | q
   ·exact hs x q
   ·rw [List.mem_singleton.1 q]; omega
 ·obtain ⟨rfl,hs⟩:=hI;rw [cy] at hs;exact ⟨_,by rw [ab (by simp)],.inr ⟨rfl,hs⟩⟩
 rcases hu with rfl | ⟨rfl,h16⟩
 ·exact ⟨s1,rfl⟩
 simp only;have hin:∀c∈cls pj pr l,∀x∈c,x∈l:=fun c hc x hx=>by
  rw [←hf];exact List.mem_flatten.2 ⟨c,hc,hx⟩
 have ho:∀c∈cls pj pr l,Okc c:=fun c hc=>by
  refine ⟨hne c hc,h16 c hc,fun x hx=>hv x (hin c hc x hx),?_⟩;have hz:=hin c hc;have hn:=hne c hc
  match c,hn with
  | a :: t,_=>exact hs a (hz a ep)
 obtain ⟨W,hW,hW1,hW2⟩:∃W:Nat,w64 (2+w64 ((IntKind.u64.wrap w).tmod 20))=(W:Int)∧2≤W∧W≤21:=by
  have hu:=FT w;generalize IntKind.u64.wrap w=u at hu;rw [fX hu.1,aG (n:=u % 20) (by omega),aG (by omega)];exact ⟨(2+u % 20).toNat,by omega,by omega,by omega⟩
 rw [hW];obtain ⟨⟨s3,hc⟩,hcn⟩:=BC (W:=W) s1 h (by omega) ho (w:=(W:Int)) (by rw [dB,gu]; omega) hW1 (by omega);rw [hc,bsm];obtain ⟨s4,x,s5,e,v,g1,g2,g3,g4,g5⟩:=Ct s3 hW1 (by omega) (by omega) hv ho rfl (by omega);have hz:((wrp W ([],[]) (cls pj pr l)).1.length:Int)+1=(((wrp W ([],[]) (cls pj pr l)).1.length+1:Nat):Int):=by omega
 simp only;rw [hz,g1,bsm];simp only;rw [g2,bsm];simp only;rw [g3,bsm,g5];have hok:okL [l]:=⟨by simp,by simp; omega⟩;have hT:=Br v g5 hok;rw [A2] at hT;have hB:=zA hT (by omega);have hfx:l.map fY=l:=by
  conv=>rhs; rw [←List.map_id l]
  apply cV;intro x hx;exact yJ (hv x hx)
 rw [hfx] at hB;rw [hB];simp only [bsm,g4,sH,gj];rw [Gb _ (by simp),bsm,bsm,gj,zX];exact ⟨_,rfl⟩
end Go.Proofs.YtclmdpamofdoiaaGreatDoor
