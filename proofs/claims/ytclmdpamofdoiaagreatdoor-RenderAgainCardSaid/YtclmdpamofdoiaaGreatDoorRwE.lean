/- Parts of the proofs of RenderDraws, RenderAgain: the walk through the code, and plain Lean. No condition. -/
import Derived.Test.YtclmdpamofdoiaaGreatDoorRwD
import Derived.Test.YtclmdpamofdoiaaGreatDoorRwB
import Derived.Test.YtclmdpamofdoiaaGreatDoorRwC
import Derived.KernelRfl
import Derived.Test.YtclmdpamofdoiaaGreatDoorRwA
import Derived.Test.YtclmdpamofdoiaaGreatDoorProg
set_option linter.unusedVariables false
set_option linter.unusedSimpArgs false
namespace Go.Proofs.YtclmdpamofdoiaaGreatDoor
open Go Go.Lt
def Sto.sr (s:Sto) (k:Nat) (x:bp):Sto:={ s with row_Row:=s.row_Row.set k x}
theorem cK {α:Type} {l:List α} {k:Nat} {x:α} (h:l[k]? = some x):k < l.length:=(List.getElem?_eq_some_iff.1 h).1
theorem uu {s:Sto} {k:Nat} {x:bp} (h:k < s.row_Row.length):s.set_row_Row k x=some (s.sr k x):=by
 unfold Sto.set_row_Row;rw [ae h];rfl
theorem F4 (s:Sto) (k:Nat) (x:bp):(s.sr k x).row_Row.length=s.row_Row.length:=by simp [Sto.sr]
theorem rB {s:Sto} {k:Nat} {x:bp} (h:k < s.row_Row.length):(s.sr k x).row_Row[k]? = some x:=by simp [Sto.sr,h]
theorem xU {s:Sto} {k j:Nat} {x:bp} (h:k≠j):(s.sr k x).row_Row[j]? = s.row_Row[j]? :=by simp [Sto.sr,h]
theorem Al (s:Sto) (k:Nat) (x y:bp):(s.sr k x).sr k y=s.sr k y:=by simp [Sto.sr]
theorem xV {s:Sto} {k:Nat} {x:bp} (h:s.row_Row[k]? = some x):s.sr k x=s:=by
 have:s.row_Row.set k x=s.row_Row:=by
  apply be;intro j;by_cases hj:k=j
  ·subst hj; rw [bh (cK h),h]
  ·rw [aQ hj]
 simp [Sto.sr,this]
theorem A6 (s:Sto) (x:bp):(s.add_row_Row x).row_Row[s.row_Row.length]? = some x:=by simp [Sto.add_row_Row]
theorem GW (s:Sto) (x y:bp):(s.add_row_Row x).sr s.row_Row.length y=s.add_row_Row y:=by simp [Sto.sr,Sto.add_row_Row]
variable {s:Sto} {k:Nat} {l:List aa} {w:Bool}
theorem iZ (h:s.row_Row[k]? = some ⟨l,w⟩):bM s (some k)=some (l.length:Int):=by simp [bM,h]
theorem uv {c:aa} (h:c.Text.length≤1000000):lC c=some c:=by
 simp only [lC,fO,eP (show ([]:List Int).length+c.Text.length≤1099511627776 by simp; omega),bsm,bN]
theorem CG (h:s.row_Row[k]? = some ⟨l,w⟩):jg s (some k)=some w:=by simp [jg,h,bD]
theorem uM (h:s.row_Row[k]? = some ⟨l,w⟩) (on:Bool):eY s (some k) on=some (s.sr k ⟨l,on⟩):=by
 simp [eY,h,uu (cK h)]
theorem qL (h:s.row_Row[k]? = some ⟨l,w⟩) (hl:l.length≤1000000) (hs:Sht l):ey s (some k)=some l:=by
 unfold ey;rw [iZ h];simp only [bsm];rw [pb (s:=(([]:List aa),(0:Int))) (t:=l) (fun st:List aa×Int=>∃i:Nat,st=(l.take i,(i:Int))∧i≤l.length) (fun st=>l.length - st.2.toNat) ?_ ⟨0,rfl,dp _⟩ (by simp)]
 ·rfl
 ·rintro st ⟨i,rfl,hi⟩;rcases aG i l.length with hlt | hge
  ·refine .inl ⟨(l.take (i+1),((i+1:Nat):Int)),?_,⟨i+1,rfl,hlt⟩,by simp; omega⟩;have e3:w64 ((i:Int)+1)=((i+1:Nat):Int):=by rw [aJ (by omega)]; simp
   simp only [nI,hlt,kJ,bw,bsm,h,aW hlt,uv (hs i hlt),e3];rw [eP (by rw [az]; simp; omega),aj hlt];rfl
  ·obtain rfl:i=l.length:=by omega
   exact .inr (by simp)
theorem yg (h:s.row_Row[k]? = some ⟨l,w⟩) {i:Nat} (hi:i < l.length) (hs:Sht l):fP s (some k) i=some (l[i],true):=by
 unfold fP;rw [iZ h];simp only [bsm,br];rw [ab (by simp; omega)];simp only [h,bsm,aW hi,uv (hs i hi)]
theorem yf (h:s.row_Row[k]? = some ⟨l,w⟩) (i:Nat):gM s (some k) i=some (kd l i):=by
 unfold gM;rw [iZ h];simp only [bsm,br];by_cases hi:i < l.length
 ·rw [ab (by simp; omega)];simp only [h,bsm,aW hi,iU hi]
 ·rw [ae (by simp; omega),kK (by omega)]
theorem xh (h:s.row_Row[k]? = some ⟨l,w⟩) {i:Nat} (hi:i < l.length) (hl:l.length≤1000000) {c:aa} (hc:c.Text.length≤1000000):
  fI s (some k) i c=some (s.sr k ⟨l.set i c,w && !decide (i+1=l.length)⟩):=by
 unfold fI;have e:w64 (((l.set i c).length:Int) - 1)=(l.length:Int) - 1:=by rw [cp,aJ (by omega)]
 simp only [h,bsm,uv hc,aW hi,jV hi,uu (cK h),e];by_cases hn:i+1=l.length
 ·rw [ae (by simp; omega),uu (by rw [F4]; exact cK h),Al];simp [hn]
 ·rw [ab (by simp; omega)];simp [hn]
def sd (n:Int):Nat:=(max 1 (min n 1024)).toNat
theorem uJ (n:Int):1≤sd n∧sd n≤1024:=by unfold sd; omega
theorem ww {n:Nat} (h:1≤n) (h2:n≤1024):sd n=n:=by unfold sd; omega
theorem tN (n:Int):er n=some (List.replicate (max 0 (min n 1024)).toNat bl):=by
 unfold er;simp only [gZ,dW];rw [oZ _ (by omega)];rfl
theorem xi (n:Int):ky s n=some (s.add_row_Row ⟨List.replicate (sd n) bl,false⟩,some s.row_Row.length):=by
 unfold ky;rw [tN];simp only [bsm,gZ];rw [show (max 0 (min (max 1 n) 1024)).toNat=sd n by unfold sd; omega]
theorem th (n:Nat):Snd (List.replicate n bl):=fun i h=>by
 rw [iT];exact ⟨rfl,fun h=>by simp [bl] at h,fun h=>by simp [bl] at h⟩
theorem Gd (hl:1≤l.length) (hl2:l.length≤1024) (hs:Snd l):qs s l=some (s.add_row_Row ⟨l,false⟩,some s.row_Row.length,Er.nil):=by
 unfold qs;obtain ⟨b,h1,h2⟩:=vn l (by omega);have hb:b=true:=h2.2 hs;subst hb;simp only [br,bsm,h1];rw [ab (by rw [aC,aS,an]; omega),ab (by simp),xi,ww hl hl2];simp only [bsm];rw [pb (s:=((0:Int),s.add_row_Row ⟨List.replicate l.length bl,false⟩)) (t:=s.add_row_Row ⟨l,false⟩) (fun st:Int×Sto=>∃i:Nat,st=((i:Int),s.add_row_Row ⟨l.take i++List.replicate (l.length - i) bl,false⟩)∧i≤l.length) (fun st=>l.length - st.1.toNat) ?_ ⟨0,by simp,dp _⟩ (by simp)]
 ·rfl
 ·rintro st ⟨i,rfl,hi⟩;rcases aG i l.length with hlt | hge
  ·refine .inl ⟨_,?_,⟨i+1,rfl,hlt⟩,by simp; omega⟩;have e3:w64 ((i:Int)+1)=((i+1:Nat):Int):=by rw [aJ (by omega)]; simp
   have hlen:(l.take i++List.replicate (l.length - i) bl).length=l.length:=by simp; omega
   simp only [nI,hlt,kJ,bw,aW hlt,bsm,A6,uv (hs.sht i hlt),e3];rw [aW (show i < (l.take i++List.replicate (l.length - i) bl).length by omega)];simp only [bsm];rw [jV (show i < (l.take i++List.replicate (l.length - i) bl).length by omega)];simp only [bsm];rw [uu (cK (A6 _ _)),GW];simp only [bsm];have:(l.take i++List.replicate (l.length - i) bl).set i l[i]=l.take (i+1)++List.replicate (l.length - (i+1)) bl:=by
    rw [nR _ _ (by rw [az]; omega),az,cC hi,mj,show l.length - i=(l.length - (i+1))+1 by omega,List.replicate_succ,qG,aj hlt,aF];rfl
   rw [this]
  ·obtain rfl:i=l.length:=by omega
   exact .inr (by simp)
def tch (l:List aa) (a n j:Nat):Bool:=(decide (a≤j) && decide (j < a+n)) || (decide (kd l j=2) && decide (a≤j+1) && decide (j+1 < a+n)) || (decide (kd l j=3) && decide (a+1≤j) && decide (j < a+n+1))
def pc (l:List aa) (a:Nat) (p:List aa) (j:Nat):aa:=
 if a≤j∧j < a+p.length then p.getD (j - a) bl else if tch l a p.length j=true then bl else l.getD j bl
def pl (l:List aa) (a:Nat) (p:List aa):List aa:=(List.range l.length).map (pc l a p)
def pw (l:List aa) (w:Bool) (a n:Nat):Bool:=w && !(decide (0 < l.length) && tch l a n (l.length - 1))
theorem iN (l:List aa) (a:Nat) (p:List aa):(pl l a p).length=l.length:=by simp [pl]
theorem qm {a:Nat} {p:List aa} {j:Nat} (h:j < l.length):(pl l a p)[j]? = some (pc l a p j):=by simp [pl,h]
theorem FC {a:Nat} {p:List aa} {j:Nat} (h:j < (pl l a p).length):(pl l a p)[j]=pc l a p j:=by simp [pl]
theorem C4 {a:Nat} {p:List aa} {j:Nat} (h:j < l.length):kd (pl l a p) j=(pc l a p j).Kind:=by simp [kd,qm h]
theorem Snd.two (h:Snd l) {j:Nat} (hj:kd l j=2):kd l (j+1)=3:=by
 have hlt:j < l.length:=by
  rcases aG j l.length with h | h
  ·exact h
  ·rw [kK h] at hj; cases hj
 exact (h j hlt).2.1 (by rw [←iU hlt]; exact hj)
theorem Snd.three (h:Snd l) {j:Nat} (hj:kd l j=3):0 < j∧kd l (j - 1)=2:=by
 have hlt:j < l.length:=by
  rcases aG j l.length with h | h
  ·exact h
  ·rw [kK h] at hj; cases hj
 exact (h j hlt).2.2 (by rw [←iU hlt]; exact hj)
theorem sv {j:Nat} (h:kd l j≠0):j < l.length:=by
 rcases aG j l.length with h' | h'
 ·exact h'
 ·exact absurd (kK h') h
theorem Snd.rg (h:Snd l) {j:Nat} (hj:j < l.length):rgt (l.getD j bl)=true:=by
 rw [ao,af hj];exact (h j hj).1
theorem lH (l:List aa) (j:Nat):(l.getD j bl).Kind=kd l j:=by
 rw [ao,kd]
 cases l[j]? <;> rfl
theorem Snd.paint {a:Nat} {p:List aa} (h:Snd l) (hp:Snd p) (ha:a+p.length≤l.length):Snd (pl l a p):=fun j hj=>by
 rw [iN] at hj;rw [FC];have kpc:∀i,i < l.length→(pc l a p i).Kind=if a≤i∧i < a+p.length then kd p (i - a) else if tch l a p.length i=true then 0 else kd l i:=fun i hi=>by
  unfold pc;split
  ·exact lH _ _
  ·split
   ·rfl
   ·exact lH _ _
 have kall:∀i,kd (pl l a p) i=if i < l.length then (if a≤i∧i < a+p.length then kd p (i - a) else if tch l a p.length i=true then 0 else kd l i) else 0:=fun i=>by
  by_cases hi:i < l.length
  ·rw [ae hi,C4 hi,kpc i hi]
  ·rw [ab hi,kK (by rw [iN]; omega)]
 refine ⟨?_,fun h2=>?_,fun h3=>?_⟩
 ·unfold pc;split
  ·exact hp.rg (by omega)
  ·split
   ·rfl
   ·exact h.rg hj
 ·rw [kpc j hj] at h2;rw [kall];by_cases hin:a≤j∧j < a+p.length
  ·rw [ae hin] at h2;have h4:=hp.two h2;have h5:j - a+1 < p.length:=sv (by rw [h4]; decide);rw [ae (by omega),ae (by omega),show j+1 - a=j - a+1 by omega]; exact h4
  ·rw [ab hin] at h2;split at h2
   ·cases h2
   ·rename_i ht
    have h4:=h.two h2;have h5:j+1 < l.length:=sv (by rw [h4]; decide);simp only [tch,h2,kJ,dh,aC,aq,an,IF,yt] at ht;have h6:¬(a≤j+1∧j+1 < a+p.length):=by omega
    have h7:¬tch l a p.length (j+1)=true:=by
     simp only [tch,h4,aC,aq,an];omega
    rw [ae h5,ab h6,ab h7]; exact h4
 ·rw [kpc j hj] at h3;by_cases hin:a≤j∧j < a+p.length
  ·rw [ae hin] at h3;have h4:=hp.three h3;refine ⟨by omega,?_⟩;rw [kall,ae (by omega),ae (by omega),show j - 1 - a=j - a - 1 by omega]; exact h4.2
  ·rw [ab hin] at h3;split at h3
   ·cases h3
   ·rename_i ht
    have h4:=h.three h3;refine ⟨h4.1,?_⟩;simp only [tch,h3,kJ,dh,aC,aq,an,IF,yt] at ht;have h6:¬(a≤j - 1∧j - 1 < a+p.length):=by omega
    have h7:¬tch l a p.length (j - 1)=true:=by
     simp only [tch,h4.2,aC,aq,an];omega
    rw [kall,ae (by omega),ab h6,ab h7]; exact h4.2
theorem qM (l:List aa) (w:Bool) (a:Nat) (p:List aa) (hl:l.length≤1000000) (ha:a≤1000000) (hp:p.length≤1000000):hU l w a p=some (pl l a p,pw l w a p.length):=by
 unfold hU;rw [pb (s:=(w,([]:List aa),(0:Int))) (t:=(pw l w a p.length,pl l a p)) (fun st:Bool×List aa×Int=>∃i:Nat,st=(if i < l.length then w else pw l w a p.length,(pl l a p).take i,(i:Int))∧i≤l.length) (fun st=>l.length - st.2.2.toNat) ?_ ⟨0,?_,dp _⟩ (by simp)]
 ·rfl
 ·rintro st ⟨i,rfl,hi⟩;rcases aG i l.length with hlt | hge
  ·refine .inl ⟨_,?_,⟨i+1,rfl,hlt⟩,by simp; omega⟩;have e3:w64 ((i:Int)+1)=((i+1:Nat):Int):=by rw [aJ (by omega)]; simp
   have e4:w64 ((a:Int)+(p.length:Int))=((a+p.length:Nat):Int):=by rw [aJ (by omega)]; simp
   have e5:w64 ((i:Int) - (a:Int))=(i:Int) - a:=aJ (by omega);have e6:w64 ((i:Int) - 1)=(i:Int) - 1:=aJ (by omega);have hd:decide ((i:Int) < (l.length:Int))=true:=by simp; exact hlt
   simp only [hd,bw,ae hlt,aW hlt,bsm,ba,br,e3,e4,e5,e6];have happ:∀x:aa,x=pc l a p i→app ((pl l a p).take i) [x]=some ((pl l a p).take (i+1)):=fun x hx=>by
    subst hx;rw [eP (by rw [az,iN]; simp; omega),aj (show i < (pl l a p).length by rw [iN]; exact hlt),FC]
   by_cases hin:a≤i∧i < a+p.length
   ·have c1:(decide ((i:Int)≥a) && decide ((i:Int) < ((a+p.length:Nat):Int)))=true:=by simp; omega
    obtain ⟨q,hq⟩:∃q:Nat,q=i - a:=⟨_,rfl⟩;have c2:(i:Int) - a=(q:Int):=by omega
    have hqp:q < p.length:=by omega
    simp only [c1,bw,c2,aW hqp,bsm,cm,iS,gY,ak,aU,Bool.true_or,Fv];rw [happ ⟨p[q].Kind,p[q].Text⟩ (by rw [pc,ae hin,←hq,ao,af hqp]; rfl)];by_cases hn:i+1=l.length
    ·have c3:(((i+1:Nat):Int)==(l.length:Int))=true:=by simp; omega
     have c4:pw l w a p.length=false:=by
      have:tch l a p.length (l.length - 1)=true:=by simp [tch]; omega
      simp [pw,this]; omega
     simp only [c3,bw,bsm,c4];rw [ab (by omega)]
    ·have c3:(((i+1:Nat):Int)==(l.length:Int))=false:=by simp; omega
     simp only [c3,ak,aU,bsm];rw [ae (show i+1 < l.length by omega)]
   ·have c1:(decide ((i:Int)≥a) && decide ((i:Int) < ((a+p.length:Nat):Int)))=false:=by simp; omega
    have c5:((l[i].Kind==2 && decide (((i+1:Nat):Int)≥a) && decide (((i+1:Nat):Int) < ((a+p.length:Nat):Int))) || (l[i].Kind==3 && decide ((i:Int) - 1≥a) && decide ((i:Int) - 1 < ((a+p.length:Nat):Int))))=tch l a p.length i:=by
     rw [cg];simp only [tch,iU hlt,aC,aq,aS,an];omega
    simp only [c1,ak,aU,bsm,fb,gH,di,dh];simp only [c5]
    cases ht:tch l a p.length i with
    | true=>
     simp only [bw,bsm,Fv];rw [happ ⟨0,[]⟩ (by rw [pc,ab hin,ae ht]; rfl)];by_cases hn:i+1=l.length
     ·have c3:(((i+1:Nat):Int)==(l.length:Int))=true:=by simp; omega
      have c4:pw l w a p.length=false:=by
       have e:l.length - 1=i:=by omega
       simp [pw,e,ht]; omega
      simp only [c3,bw,bsm,c4];rw [ab (by omega)]
     ·have c3:(((i+1:Nat):Int)==(l.length:Int))=false:=by simp; omega
      simp only [c3,ak,aU,bsm];rw [ae (show i+1 < l.length by omega)]
    | false=>
     simp only [ak,aU,bsm,D6];rw [happ ⟨l[i].Kind,l[i].Text⟩ (by rw [pc,ab hin,ab (by simp [ht]),ao,af hlt]; rfl)];by_cases hn:i+1=l.length
     ·have c4:pw l w a p.length=w:=by
       have e:l.length - 1=i:=by omega
       simp [pw,e,ht]
      simp only [bsm,c4,ite_self]
     ·simp only [bsm];rw [ae (show i+1 < l.length by omega)]
  ·obtain rfl:i=l.length:=by omega
   refine .inr ?_;have e:(pl l a p).take l.length=pl l a p:=aH (by rw [iN]; exact ay _);simp [e]
 ·by_cases h0:0 < l.length
  ·simp [h0]
  ·simp [h0,pw]
end Go.Proofs.YtclmdpamofdoiaaGreatDoor
namespace Go.Proofs.YtclmdpamofdoiaaGreatDoor
open Go Go.Lt
variable {s:Sto} {k:Nat} {l p:List aa} {w:Bool}
theorem BK {i j:Nat} (h:i≠j) (c:aa):kd (l.set i c) j=kd l j:=by simp [kd,aQ h]
theorem ow (h:s.row_Row[k]? = some ⟨l,w⟩) (hs:Snd l) (hl:l.length≤1024) (hp:Snd p) {a:Nat} (hn:1≤p.length) (ha:a+p.length≤l.length):
  dN s (some k) a p=some (s.sr k ⟨pl l a p,pw l w a p.length⟩,Er.nil):=by
 unfold dN;have hk:=cK h;obtain ⟨b,hb1,hb2⟩:=vn p (by omega);have hb:b=true:=hb2.2 hp;subst hb;have e1:w64 ((l.length:Int) - (a:Int))=(l.length:Int) - a:=aJ (by omega);have e2:w64 ((a:Int)+(p.length:Int))=((a+p.length:Nat):Int):=by rw [aJ (by omega)]; simp
 have o1:decide ((a:Int) < 0)=false:=by simp
 have o2:decide ((a:Int) > (l.length:Int))=false:=by simp; omega
 have o3:decide ((p.length:Int) > (l.length:Int) - (a:Int))=false:=by simp; omega
 have o4:((p.length:Int)==0)=false:=by rw [eO]; omega
 simp only [bI,cW,o1,o2,o3,o4,h,e1,e2,hb1,bsm,ak,aU,cm,yf h a];obtain ⟨l1,hl1⟩:∃l1,l1=if kd l a=3 then l.set (a - 1) bl else l:=⟨_,rfl⟩;have hlen1:l1.length=l.length:=by rw [hl1]; split <;> simp
 have left:(if (kd l a==3)=true then (fI s (some k) (w64 ((a:Int) - 1)) (⟨0,([]:List Int)⟩:aa)).bind fun x_60=>(some (x_60):Option (Sto)) else (some (s):Option (Sto)))=some (s.sr k ⟨l1,w⟩):=by
  by_cases h3:kd l a=3
  ·have h4:=hs.three h3;have h5:a < l.length:=sv (by rw [h3]; decide);rw [ae (by simpa using h3),show w64 ((a:Int) - 1)=((a - 1:Nat):Int) by rw [aJ (by omega)]; omega,xh h (by omega) (by omega) (by simp)];rw [hl1,ae h3];have:decide (a - 1+1=l.length)=false:=by simp; omega
   simp only [bsm,this,fb,Fv];rfl
  ·rw [ab (by simpa using h3),hl1,ab h3,xV h]
 rw [left];simp only [bsm];obtain ⟨l2,hl2⟩:∃l2,l2=if kd l (a+p.length)=3 then l1.set (a+p.length) bl else l1:=⟨_,rfl⟩;obtain ⟨w2,hw2⟩:∃w2,w2=(w && !(decide (kd l (a+p.length)=3) && decide (a+p.length+1=l.length))):=⟨_,rfl⟩;have hlen2:l2.length=l.length:=by rw [hl2]; split <;> simp [hlen1]
 have hget1:(s.sr k ⟨l1,w⟩).row_Row[k]? = some ⟨l1,w⟩:=rB hk;have hkd1:kd l1 (a+p.length)=kd l (a+p.length):=by
  rw [hl1]; split
  ·exact BK (by omega) _
  ·rfl
 have right:((gM (s.sr k ⟨l1,w⟩) (some k) ((a+p.length:Nat):Int)).bind fun x_71=>
   if (x_71==3)=true then
   (fI (s.sr k ⟨l1,w⟩) (some k) ((a+p.length:Nat):Int) (⟨0,([]:List Int)⟩:aa)).bind fun x_77=>
   (some (x_77):Option (Sto))
   else
   (some (s.sr k ⟨l1,w⟩):Option (Sto)))=some (s.sr k ⟨l2,w2⟩):=by
  rw [yf hget1,hkd1];simp only [bsm];by_cases h3:kd l (a+p.length)=3
  ·have h5:a+p.length < l.length:=sv (by rw [h3]; decide);rw [ae (by simpa using h3),xh hget1 (by omega) (by omega) (by simp)];simp only [bsm,Al];rw [hl2,ae h3,hw2,hlen1];simp only [h3,kJ,dh];rfl
  ·rw [ab (by simpa using h3),hl2,ab h3,hw2];simp [h3]
 rw [right];simp only [bsm];rw [pb (s:=((0:Int),s.sr k ⟨l2,w2⟩)) (t:=s.sr k ⟨l2.take a++p++l2.drop (a+p.length),w2 && !decide (a+p.length=l.length)⟩)
  (fun st:Int×Sto=>∃i:Nat,st=((i:Int),s.sr k ⟨l2.take a++p.take i++l2.drop (a+i),w2 && !(decide (0 < i) && decide (a+i=l.length))⟩)∧i≤p.length) (fun st=>p.length - st.1.toNat) ?_ ⟨0,?_,dp _⟩ (by simp)]
 ·simp only [bsm,aK,fM,oT]
  congr 1
  congr 1
  ·
   apply be;intro j;rcases aG j l.length with hj | hj
   ·rw [qm hj];have g1:∀j,j < l.length→j≠a+p.length→l1[j]? = some (if kd l a=3∧j=a - 1 then bl else l.getD j bl):=fun j hj _=>by
     rw [hl1];split
     ·rename_i h3
      by_cases hja:j=a - 1
      ·subst hja;rw [bh (by omega),ae ⟨h3,rfl⟩]
      ·rw [aQ (tO hja),ab (fun e=>hja e.2),af hj,ao,af hj]; rfl
     ·rename_i h3
      rw [ab (fun e=>h3 e.1),af hj,ao,af hj]; rfl
    have lw:(l2.take a).length=a:=by rw [az]; omega
    rcases aG j a with hja | hja
    ·rw [aF,aB (by omega),aN,ae hja];have e:l2[j]? = l1[j]? :=by
      rw [hl2]; split
      ·exact aQ (by omega)
      ·rfl
     have hp0:¬(a≤j∧j < a+p.length):=by omega
     rw [e,g1 j hj (by omega),pc,ab hp0]
     congr 1
     by_cases hc:kd l a=3∧j=a - 1
     ·rw [ae hc,ae];have h4:=hs.three hc.1;simp only [tch,aC,aq,an];refine .inl (.inr ⟨⟨?_,?_⟩,?_⟩)
      ·rw [hc.2]; exact h4.2
      ·omega
      ·omega
     ·rw [ab hc,ab];simp only [tch,aC,aq,an,IF,yt];refine ⟨⟨fun h=>by omega,fun h2=>?_⟩,fun h=>by omega⟩;have h3:=hs.two h2.1;have:j+1=a:=by omega
      rw [this] at h3;exact absurd ⟨h3,by omega⟩ hc
    ·rcases aG j (a+p.length) with hjn | hjn
     ·rw [aF,aY (by omega),aB (by omega),lw,pc,ae ⟨hja,hjn⟩,ao,af (by omega)];rfl
     ·rw [aY (by rw [av]; omega),bP,av,lw,show a+p.length+(j - (a+p.length))=j by omega];rw [pc,ab (by omega)];by_cases hc:kd l (a+p.length)=3∧j=a+p.length
      ·rw [hl2,ae hc.1,hc.2,bh (by omega),ae];simp only [tch,aC,aq,an];exact .inr ⟨⟨hc.1,by omega⟩,by omega⟩
      ·have e:l2[j]? = some (l.getD j bl):=by
        have e2:l1[j]? = some (l.getD j bl):=by
         rw [hl1]; split
         ·rw [aQ (by omega),ao,af hj]; rfl
         ·rw [ao,af hj]; rfl
        rw [hl2]; split
        ·rename_i h3
         rw [aQ (fun e=>hc ⟨h3,e.symm⟩),e2]
        ·exact e2
       rw [e,ab];simp only [tch,aC,aq,an,IF,yt];refine ⟨⟨fun h=>by omega,fun h=>by omega⟩,fun h2=>?_⟩;intro h4;have:j=a+p.length:=by omega
       exact hc ⟨by rw [←this]; exact h2.1,this⟩
   ·rw [aA (l:=pl l a p) (by rw [iN]; exact hj),aA (by simp only [av,az,bm]; omega)]
  ·
   rw [hw2,pw,Bool.and_assoc]
   congr 1
   rw [←Bool.not_or]
   congr 1
   have h2:kd l (l.length - 1)≠2:=fun h2=>by
    have:=hs.two h2;rw [show l.length - 1+1=l.length by omega,kK (ay _)] at this;cases this
   rw [cg];simp only [tch,aC,aq,an];constructor
   ·rintro (⟨h3,h4⟩ | h4)
    ·refine ⟨by omega,.inr ⟨⟨?_,by omega⟩,by omega⟩⟩;rw [show l.length - 1=a+p.length by omega]; exact h3
    ·exact ⟨by omega,.inl (.inl ⟨by omega,by omega⟩)⟩
   ·rintro ⟨h0,(⟨h3,h4⟩ | ⟨⟨h3,_⟩,_⟩) | ⟨⟨h3,h4⟩,h5⟩⟩
    ·exact .inr (by omega)
    ·exact absurd h3 h2
    ·by_cases hx:a+p.length=l.length
     ·exact .inr hx
     ·have:l.length - 1=a+p.length:=by omega
      exact .inl ⟨by rw [←this]; exact h3,by omega⟩
 ·rintro st ⟨i,rfl,hi⟩;rcases aG i p.length with hlt | hge
  ·refine .inl ⟨_,?_,⟨i+1,rfl,hlt⟩,by simp; omega⟩;have e3:w64 ((i:Int)+1)=((i+1:Nat):Int):=by rw [aJ (by omega)]; simp
   have e4:w64 ((a:Int)+(i:Int))=((a+i:Nat):Int):=by rw [aJ (by omega)]; simp
   have hd:decide ((i:Int) < (p.length:Int))=true:=by simp; exact hlt
   have hli:(l2.take a++p.take i++l2.drop (a+i)).length=l.length:=by
    simp only [av,az,bm]; omega
   simp only [hd,bw,aW hlt,bsm,e3,e4];rw [xh (rB hk) (by rw [hli]; omega) (by rw [hli]; omega) (hp.sht i hlt)];simp only [bsm,Al,hli];have hset:(l2.take a++p.take i++l2.drop (a+i)).set (a+i) p[i]=l2.take a++p.take (i+1)++l2.drop (a+(i+1)):=by
    have hx:(l2.take a++p.take i).length=a+i:=by simp only [av,az]; omega
    rw [nR _ _ (by omega),hx,mj,qZ (show a+i < l2.length by omega),qG,aj hlt];simp only [aF,cZ,bN,rO]
   rw [hset];have hwe:((w2 && !(decide (0 < i) && decide (a+i=l.length))) && !decide (a+i+1=l.length))=(w2 && !(decide (0 < i+1) && decide (a+(i+1)=l.length))):=by
    have:decide (a+i=l.length)=false:=by simp; omega
    rw [this];simp [rO]
   rw [hwe]
  ·obtain rfl:i=p.length:=by omega
   refine .inr ?_;have:decide (0 < p.length)=true:=by simp; omega
   simp [this]
 ·simp
def cl (n:Int) (m:Nat):Nat:=(max 0 (min n m)).toNat
theorem mX (n:Int) (m:Nat):cl n m≤m:=by unfold cl; omega
end Go.Proofs.YtclmdpamofdoiaaGreatDoor
namespace Go.Proofs.YtclmdpamofdoiaaGreatDoor
open Go Go.Lt
variable {s:Sto} {g k W:Nat} {ks:List Nat} {l p:List aa} {w:Bool}
def Sto.sg (s:Sto) (g:Nat) (x:bX):Sto:={ s with grid_Grid:=s.grid_Grid.set g x}
theorem xX {x:bX} (h:g < s.grid_Grid.length):s.set_grid_Grid g x=some (s.sg g x):=by
 simp only [Sto.set_grid_Grid,h,bw];rfl
theorem Cs {x:bX} (h:g < s.grid_Grid.length):(s.sg g x).grid_Grid[g]? = some x:=by simp [Sto.sg,h]
theorem Ho (s:Sto) (g:Nat) (x y:bX):(s.sg g x).sg g y=s.sg g y:=by simp [Sto.sg]
theorem Hp {x:bX} (h:s.grid_Grid[g]? = some x):s.sg g x=s:=by
 obtain ⟨h1,h2⟩:=List.getElem?_eq_some_iff.1 h;unfold Sto.sg;rw [←h2,uq]
def ln (s:Sto) (k:Nat):ah:=match s.row_Row[k]? with | some r=>⟨r.cells,r.wrap⟩ | none=>⟨[],false⟩
theorem nt {r:bp} (h:s.row_Row[k]? = some r):ln s k=⟨r.cells,r.wrap⟩:=by simp [ln,h]
def Rw (s:Sto) (W k:Nat):Prop:=∃r,s.row_Row[k]? = some r∧Snd r.cells∧r.cells.length=W
structure Gw (s:Sto) (g:Nat) (ks:List Nat) (W:Nat):Prop where
 g:s.grid_Grid[g]? = some ⟨ks.map some⟩
 r:∀k∈ks,Rw s W k
 h1:1≤ks.length
 h2:ks.length≤1024
 w1:1≤W
 w2:W≤1024
theorem Gw.at (h:Gw s g ks W) {i:Nat} (hi:i < ks.length):Rw s W ks[i]:=h.r _ (ax hi)
theorem eH (h:Gw s g ks W):bK s (some g)=some (ks.length:Int):=by simp [bK,h.g]
theorem eW (h:Gw s g ks W) {i:Nat} (hi:i < ks.length):bv s (some g) i=some (some ks[i]):=by
 unfold bv;rw [eH h];simp only [bsm,br];rw [ab (by simp; omega)];simp only [bsm,h.g];rw [aW (by simpa using hi)];simp
theorem sE (h:Gw s g ks W) {i:Int} (hi:i < 0∨(ks.length:Int)≤i):bv s (some g) i=some none:=by
 unfold bv;rw [eH h];simp only [bsm,br];rw [ae (by simp; omega)]
theorem wU (h:Rw s W k):bM s (some k)=some (W:Int):=by
 obtain ⟨r,h1,_,h3⟩:=h;rw [iZ (l:=r.cells) (w:=r.wrap) h1,h3]
theorem jc (h:Gw s g ks W):cf s (some g)=some (W:Int):=by
 unfold cf;rw [show (0:Int)=((0:Nat):Int) from rfl,eW h (show 0 < ks.length from h.h1)];simp only [bsm];rw [wU (h.at h.h1)];rfl
theorem yC (h:Gw s g ks W) {i:Nat} (hi:i < ks.length) (hk:Rw s W k):ez s (some g) i (some k)=some (s.sg g ⟨(ks.set i k).map some⟩,true):=by
 unfold ez;rw [eW h hi];simp only [bsm,wU (h.at hi),wU hk,bI,cW];rw [ab (by simp)];simp only [h.g,bsm];rw [aW (by simpa using hi),jV (by simpa using hi)];simp only [bsm];rw [xX (cK h.g)];simp
theorem Gw.set (h:Gw s g ks W) {i:Nat} (hk:Rw s W k):Gw (s.sg g ⟨(ks.set i k).map some⟩) g (ks.set i k) W:=
 ⟨Cs (cK h.g),fun j hj=>by
  rcases D8 hj with hj | rfl
  ·exact h.r j hj
  ·exact hk,by simpa using h.h1,by simpa using h.h2,h.w1,h.w2⟩
theorem zN (h:Gw s g ks W):iK s (some g)=some (ks.map (ln s)):=by
 have hh:=h.h2;have hw:=h.w2;unfold iK;rw [eH h];simp only [bsm];obtain ⟨t,h1,h2⟩:=eG (σ:=(List ah)×Int) (τ:=List ah) (n:=ks.length) (fuel:=((ks.length:Int) - 0).toNat+1) (s:=(([]:List ah),0))
  (fun i q=>q=((ks.take i).map (ln s),(i:Int))) (fun t=>t=ks.map (ln s))
  (step:=fun s_9=>
 if (decide (s_9.2 < (ks.length:Int)))=true then
 (s.grid_Grid[g]?).bind fun o_19=>
 (idx o_19.rows s_9.2).bind fun x_21=>
 (idx o_19.rows s_9.2).bind fun x_28=>
 (ey s x_21).bind fun x_30=>
 (jg s x_28).bind fun x_31=>
 (app s_9.1 ([(⟨x_30,x_31⟩:ah)]:List ah)).bind fun x_34=>
 some (.inl (x_34,(w64 (s_9.2+1))))
 else
 some (.inr (s_9.1)))
  (fun i q hi e=>by
   subst e;refine .inl ⟨_,?_,rfl⟩;obtain ⟨r,r1,r2,r3⟩:=h.at hi;have e5:w64 ((i:Int)+1)=((i+1:Nat):Int):=by rw [aJ (by omega)]; simp
   have hd:decide ((i:Int) < (ks.length:Int))=true:=by simp; exact hi
   have hi2:i < (ks.map some).length:=by simpa using hi
   simp only [hd,bw,bsm,h.g,aW hi2,dR,e5];rw [qL (l:=r.cells) (w:=r.wrap) r1 (by omega) r2.sht,CG (l:=r.cells) (w:=r.wrap) r1];simp only [bsm];rw [eP (by simp; omega)];simp only [bsm];rw [aj hi,bO];simp [nt r1])
  (fun q e=>⟨_,by subst e; simp,rfl⟩)
  (by simp) (by omega)
 subst h2;rw [h1];rfl
def Okl (W:Nat) (x:ah):Prop:=Snd x.Cells∧x.Cells.length=W
theorem vQ (h:Gw s g ks W):∀x∈ks.map (ln s),Okl W x:=fun x hx=>by
 obtain ⟨k,hk,rfl⟩:=List.mem_map.1 hx;obtain ⟨r,r1,r2,r3⟩:=h.r k hk;rw [nt r1];exact ⟨r2,r3⟩
theorem F3 {a b:Sto} (h1:a.row_Row=b.row_Row) (h2:a.grid_Grid=b.grid_Grid) (h3: { a with row_Row:=b.row_Row,grid_Grid:=b.grid_Grid}=b):a=b:=
 D5 (show a= { a with row_Row:=b.row_Row,grid_Grid:=b.grid_Grid} by rw [←h1,←h2]) h3
def Sto.rst (s:Sto):Sto:={ s with row_Row:=[],grid_Grid:=[]}
def Sto.oth (s:Sto):Sto:={ s with row_Row:=[],grid_Grid:=[],place_Pen:=[]}
theorem kx {a b:Sto} (h:a.rst=b.rst):a.place_Pen=b.place_Pen:=by
 have:=mM Sto.place_Pen h;exact this
theorem qK {a b:Sto} (h:a.rst=b.rst):a.oth=b.oth:=by
 have:=mM (fun x:Sto=>({ x with place_Pen:=[]}:Sto)) h;exact this
def Sto.addr (s:Sto) (xs:List bp):Sto:={ s with row_Row:=s.row_Row++xs}
theorem DQ (s:Sto) (xs:List bp):(s.addr xs).row_Row.length=s.row_Row.length+xs.length:=by simp [Sto.addr]
theorem ze {xs:List bp} (h:k < s.row_Row.length):(s.addr xs).row_Row[k]? = s.row_Row[k]? :=aB h
theorem sZ {xs:List bp} {i:Nat} (h:i < xs.length):(s.addr xs).row_Row[s.row_Row.length+i]? = some xs[i]:=by
 simp [Sto.addr,aY,h]
theorem DR (s:Sto) (xs:List bp) (x:bp):(s.addr xs).add_row_Row x=s.addr (xs++ [x]):=by simp [Sto.addr,Sto.add_row_Row]
theorem zf (s:Sto):s.addr []=s:=by simp [Sto.addr]
theorem Rw.lt (h:Rw s W k):k < s.row_Row.length:=by obtain ⟨r,h,_⟩:=h; exact cK h
theorem Rw.addr {xs:List bp} (h:Rw s W k):Rw (s.addr xs) W k:=by
 obtain ⟨r,h1,h2⟩:=h;exact ⟨r,by rw [ze (cK h1)]; exact h1,h2⟩
theorem Gw.addr {xs:List bp} (h:Gw s g ks W):Gw (s.addr xs) g ks W:=⟨h.g,fun k hk=>(h.r k hk).addr,h.h1,h.h2,h.w1,h.w2⟩
theorem uV {xs:List bp} (h:k < s.row_Row.length):ln (s.addr xs) k=ln s k:=by unfold ln; rw [ze h]
theorem C1 {xs:List bp} {i:Nat} (h:i < xs.length):ln (s.addr xs) (s.row_Row.length+i)=⟨xs[i].cells,xs[i].wrap⟩:=nt (sZ h)
def lr (x:ah):bp:=⟨x.Cells,x.Wrap⟩
theorem FK {L:List ah} (h1:1≤L.length) (h2:L.length≤1024)
  (hok:∀i (h:i < L.length),1≤L[i].Cells.length∧L[i].Cells.length≤1024∧Snd L[i].Cells∧L[i].Cells.length=(L[0]'(by omega)).Cells.length):
  Gw ((s.addr (L.map lr)).add_grid_Grid ⟨(List.range' s.row_Row.length L.length).map some⟩) s.grid_Grid.length (List.range' s.row_Row.length L.length) (L[0]'(by omega)).Cells.length∧
   (List.range' s.row_Row.length L.length).map (ln ((s.addr (L.map lr)).add_grid_Grid ⟨(List.range' s.row_Row.length L.length).map some⟩))=L:=by
 have hr:∀i (h:i < L.length),((s.addr (L.map lr)).add_grid_Grid ⟨(List.range' s.row_Row.length L.length).map some⟩).row_Row[s.row_Row.length+i]? = some (lr L[i]):=fun i h=>by
  have:=sZ (s:=s) (xs:=L.map lr) (i:=i) (by simpa using h);rw [dR] at this;exact this
 refine ⟨⟨by simp [Sto.add_grid_Grid,Sto.addr],fun k hk=>?_,by simpa using h1,by simpa using h2,(hok 0 (by omega)).1,(hok 0 (by omega)).2.1⟩,?_⟩
 ·rw [zk] at hk;have hi:k - s.row_Row.length < L.length:=by omega
  have:=hr _ hi;rw [show s.row_Row.length+(k - s.row_Row.length)=k by omega] at this;exact ⟨_,this,(hok _ hi).2.2.1,(hok _ hi).2.2.2⟩
 ·refine Jg (by simp) fun i h1 h2=>?_;rw [dR,List.getElem_range',nb,nt (hr i h2)];rfl
theorem icl (a:Int) (m:Nat):bb 0 (aO a (m:Int))=((cl a m:Nat):Int):=by simp only [gZ,dW,cl]; omega
theorem wx (h:Gw s g ks W) (a b n:Int):lB s (some g) a b n=some (⟨(cl a ks.length:Nat),(cl b ks.length:Nat),min n ((cl b ks.length:Int) - (cl a ks.length:Int))⟩,decide (cl a ks.length < cl b ks.length) && decide (0 < n)):=by
 have h1:=mX a ks.length;have h2:=mX b ks.length;have hh:=h.h2;unfold lB;rw [eH h];simp only [bsm,icl,ba];rw [dW,aJ (by omega)];simp
theorem tU (h:Gw s g ks W) {a b:Nat} (hab:a≤b) (hb:b≤ks.length):jJ s (some g) a b=some (((ks.drop a).take (b - a)).map some):=by
 have hh:=h.h2;unfold jJ;obtain ⟨t,h1,h2⟩:=eG (σ:=(List (Option Nat))×Int) (τ:=List (Option Nat)) (n:=b - a) (fuel:=((b:Int) - (a:Int)).toNat+1) (s:=(([]:List (Option Nat)),(a:Int)))
  (fun i q=>q=(((ks.drop a).take i).map some,((a+i:Nat):Int))) (fun t=>t=((ks.drop a).take (b - a)).map some)
  (step:=fun s_8=>
 if (decide (s_8.2 < (b:Int)))=true then
 (bv s (some g) s_8.2).bind fun x_16=>
 (app s_8.1 ([x_16]:List (Option Nat))).bind fun x_18=>
 some (.inl (x_18,(w64 (s_8.2+1))))
 else
 some (.inr (s_8.1)))
  (fun i q hi e=>by
   subst e;refine .inl ⟨_,?_,rfl⟩;have e5:w64 (((a+i:Nat):Int)+1)=((a+(i+1):Nat):Int):=by rw [aJ (by omega)]; simp; omega
   have hd:decide (((a+i:Nat):Int) < (b:Int))=true:=by simp; omega
   simp only [hd,bw];rw [eW h (show a+i < ks.length by omega)];simp only [bsm,e5];rw [eP (by simp; omega)];simp only [bsm];rw [aj (by simp; omega),bO];simp)
  (fun q e=>by
   subst e;have hd:decide (((a+(b - a):Nat):Int) < (b:Int))=false:=by simp; omega
   exact ⟨_,by simp only [hd]; rfl,rfl⟩)
  (by simp) (by omega)
 subst h2;rw [h1];rfl
def bk (W:Nat):bp:=⟨List.replicate W bl,false⟩
theorem ra (h:Gw s g ks W) {n:Nat} (hn:n≤1024):iE s (some g) n=some (s.addr (List.replicate n (bk W)),(List.range' s.row_Row.length n).map some):=by
 unfold iE;obtain ⟨t,h1,h2⟩:=eG (σ:=(List (Option Nat))×Int×Sto) (τ:=(List (Option Nat))×Sto) (n:=n) (fuel:=((n:Int) - 0).toNat+1) (s:=(([]:List (Option Nat)),0,s))
  (fun i q=>q=((List.range' s.row_Row.length i).map some,(i:Int),s.addr (List.replicate i (bk W)))) (fun t=>t=((List.range' s.row_Row.length n).map some,s.addr (List.replicate n (bk W))))
  (step:=fun s_8=>
 if (decide (s_8.2.1 < (n:Int)))=true then
 (cf s_8.2.2 (some g)).bind fun x_13=>
 (ky s_8.2.2 x_13).bind fun x_14=>
 (app s_8.1 ([x_14.2]:List (Option Nat))).bind fun x_16=>
 some (.inl (x_16,(w64 (s_8.2.1+1)),x_14.1))
 else
 some (.inr (s_8.1,s_8.2.2)))
  (fun i q hi e=>by
   subst e;refine .inl ⟨_,?_,rfl⟩;have e5:w64 ((i:Int)+1)=((i+1:Nat):Int):=by rw [aJ (by omega)]; simp
   have hd:decide ((i:Int) < (n:Int))=true:=by simp; exact hi
   simp only [hd,bw];rw [jc (h.addr (xs:=List.replicate i (bk W)))];simp only [bsm,xi,ww h.w1 h.w2,e5];rw [eP (by simp; omega)];simp only [bsm];rw [DR,DQ,IU,bO,Ip];simp [bk])
  (fun q e=>⟨_,by subst e; simp,rfl⟩)
  (by simp [zf]) (by omega)
 subst h2;rw [h1];rfl
def ov (ks:List Nat) (F:Nat) (p:List Nat):List Nat:=ks.take F++p++ks.drop (F+p.length)
theorem tw {F:Nat} {p:List Nat} (h:F+p.length≤ks.length):(ov ks F p).length=ks.length:=by simp [ov]; omega
theorem Gq {F i:Nat} {p:List Nat} (h:F+p.length≤ks.length) (hi:i < p.length):(ov ks F (p.take i)).set (F+i) p[i]=ov ks F (p.take (i+1)):=by
 unfold ov;have h1:(ks.take F++p.take i).length=F+i:=by simp; omega
 rw [nR _ _ (by omega),h1,mj,az,az,cC (tP hi),cC (show i+1≤p.length by omega),qZ (show F+i < ks.length by omega),qG,aj hi];simp only [aF,cZ,bN,rO]
def off (s:Sto) (k:Nat):Sto:=s.sr k ⟨(ln s k).Cells,false⟩
theorem yE (h:Rw s W k):eY s (some k) false=some (off s k):=by
 obtain ⟨r,h1,_⟩:=h;rw [uM (l:=r.cells) (w:=r.wrap) h1];unfold off;rw [nt h1]
theorem Rw.off {j:Nat} (h:Rw s W j) (hk:Rw s W k):Rw (off s k) W j:=by
 obtain ⟨r,h1,h2,h3⟩:=h;obtain ⟨q,k1,k2,k3⟩:=hk;by_cases e:k=j
 ·subst e;exact ⟨_,rB (cK k1),by rw [nt k1]; exact ⟨k2,k3⟩⟩
 ·exact ⟨r,(xU e).trans h1,h2,h3⟩
theorem Gw.off (h:Gw s g ks W) (hk:Rw s W k):Gw (off s k) g ks W:=⟨h.g,fun j hj=>(h.r j hj).off hk,h.h1,h.h2,h.w1,h.w2⟩
theorem Gx {j:Nat} (hk:Rw s W k):ln (off s k) j=if j=k then ⟨(ln s k).Cells,false⟩ else ln s j:=by
 by_cases e:k=j
 ·subst e;rw [ae rfl];exact nt (rB hk.lt)
 ·rw [ab (tO e)];unfold ln;rw [show (Go.Proofs.YtclmdpamofdoiaaGreatDoor.off s k).row_Row[j]? = s.row_Row[j]? from xU e]
theorem yv (x:bX) (j:Nat):ln (s.sg g x) j=ln s j:=rfl
def offa (s:Sto) (ks:List Nat) (F:Nat):Sto:=if F=0 then s else off s (ks.getD (F - 1) 0)
theorem uK (h:Gw s g ks W) {F:Nat} {p:List Nat} (hp:F+p.length≤ks.length) (hr:∀k∈p,Rw s W k) (st:gK) (hF:st.from_=(F:Int)):
  eI s st (some g) (p.map some)=some (offa (s.sg g ⟨(ov ks F p).map some⟩) (ov ks F p) F)∧Gw (s.sg g ⟨(ov ks F p).map some⟩) g (ov ks F p) W:=by
 have hh:=h.h2;have key:∀i,i≤p.length→Gw (s.sg g ⟨(ov ks F (p.take i)).map some⟩) g (ov ks F (p.take i)) W:=fun i hi=>
  ⟨Cs (cK h.g),fun k hk=>by
   unfold ov at hk;rw [pv,pv] at hk;rcases hk with (hk | hk) | hk
   ·exact h.r k (jF hk)
   ·exact hr k (jF hk)
   ·exact h.r k (jG hk),by rw [tw (by simp; omega)]; exact h.h1,by rw [tw (by simp; omega)]; exact h.h2,h.w1,h.w2⟩
 have kend:=key p.length (ay _);rw [bU] at kend;refine ⟨?_,kend⟩;unfold eI;rw [hF];obtain ⟨t,h1,h2⟩:=eG (σ:=Int×Sto) (τ:=Sto) (n:=p.length) (fuel:=(((p.map some).length:Int) - 0).toNat+1) (s:=((0:Int),s))
  (fun i q=>q=((i:Int),s.sg g ⟨(ov ks F (p.take i)).map some⟩)) (fun t=>t=s.sg g ⟨(ov ks F p).map some⟩)
  (step:=fun s_7=>
 if (decide (s_7.1 < ((p.map some).length:Int)))=true then
 (idx (p.map some) s_7.1).bind fun x_11=>
 (ez s_7.2 (some g) (w64 ((F:Int)+s_7.1)) x_11).bind fun x_22=>
 some (.inl ((w64 (s_7.1+1)),x_22.1))
 else
 some (.inr (s_7.2)))
  (fun i q hi e=>by
   subst e;refine .inl ⟨_,?_,rfl⟩;have e5:w64 ((i:Int)+1)=((i+1:Nat):Int):=by rw [aJ (by omega)]; simp
   have e6:w64 ((F:Int)+(i:Int))=((F+i:Nat):Int):=by rw [aJ (by omega)]; simp
   have hd:decide ((i:Int) < ((p.map some).length:Int))=true:=by simp; exact hi
   have hi2:i < (p.map some).length:=by simpa using hi
   have hk:=key i (tP hi);simp only [hd,bw,aW hi2,bsm,dR,e5,e6];have hl:(ov ks F (p.take i)).length=ks.length:=tw (by simp; omega);rw [yC hk (show F+i < (ov ks F (p.take i)).length by omega) (hr _ (ax hi))];simp only [bsm];rw [Gq hp hi,Ho])
  (fun q e=>by
   subst e;rw [bU];exact ⟨_,by simp,rfl⟩)
  (by
   simp only [fW,fM];refine ⟨rfl,(Hp ?_).symm⟩;rw [h.g];simp [ov]) (by simp)
 subst h2;rw [h1];simp only [bsm];unfold offa;by_cases h0:F=0
 ·subst h0;rw [ae rfl,sE kend (by left; rw [aJ (by omega)]; omega)];rfl
 ·have e7:w64 ((F:Int) - 1)=((F - 1:Nat):Int):=by rw [aJ (by omega)]; omega
  have hl:(ov ks F p).length=ks.length:=tw hp;have hlt:F - 1 < (ov ks F p).length:=by omega
  rw [ab h0,e7,eW kend hlt];simp only [bsm];rw [yE (kend.at hlt),ao,af hlt];rfl
def dl:ah:=⟨[],false⟩
def mvb (W:Nat) (L:List ah) (F T m:Nat) (up:Bool) (i:Nat):ah:=
 if F≤i∧i < T then (if up=true then (if i+m < T then L.getD (i+m) dl else ⟨List.replicate W bl,false⟩) else (if F+m≤i then L.getD (i - m) dl else ⟨List.replicate W bl,false⟩)) else L.getD i dl
def mvl (W:Nat) (L:List ah) (F T m:Nat) (up:Bool) (i:Nat):ah:=
 if i+1=F∨(up=false∧i+1=T) then ⟨(mvb W L F T m up i).Cells,false⟩ else mvb W L F T m up i
def mv (W:Nat) (L:List ah) (F T:Nat) (n:Int) (up:Bool):List ah:=
 if F < T∧0 < n then (List.range L.length).map (mvl W L F T (min n ((T:Int) - (F:Int))).toNat up) else L
theorem gd {i:Nat} (h:i < ks.length):ks.getD i 0=ks[i]:=by rw [ao,af h]; rfl
theorem gdl {L:List ah} {i:Nat} (h:i < L.length):L.getD i dl=L[i]:=by rw [ao,af h]; rfl
theorem AE (nd:ks.Nodup) {i j:Nat} (hj:j < ks.length) (hij:i < j):ks.getD i 0≠ks.getD j 0:=by
 rw [gd hj,gd (Nat.lt_trans hij hj)];exact List.pairwise_iff_getElem.1 nd i j _ _ hij
theorem CW {h:Nat} {f:Nat→Nat} (hf:∀i j,i < j→j < h→f i≠f j):((List.range h).map f).Nodup:=by
 rw [List.Nodup,List.pairwise_map];exact List.pairwise_lt_range.imp_of_mem fun _ hb hlt=>hf _ _ hlt (List.mem_range.1 hb)
def kfu (ks:List Nat) (N F T m i:Nat):Nat:=if i < F∨T≤i then ks.getD i 0 else if i+m < T then ks.getD (i+m) 0 else N+(i+m - T)
def kfd (ks:List Nat) (N F T m i:Nat):Nat:=if i < F∨T≤i then ks.getD i 0 else if i < F+m then N+(i - F) else ks.getD (i - m) 0
theorem HG {F T m:Nat} (N:Nat) (h1:F+m≤T) (h2:T≤ks.length):ov ks F ((ks.drop (F+m)).take (T - (F+m))++List.range' N m)=(List.range ks.length).map (kfu ks N F T m):=by
 refine be fun i=>?_;rcases aG i ks.length with hi | hi
 ·rw [bz,dq hi,gi];have e:((ks.drop (F+m)).take (T - (F+m))++List.range' N m).length=T - F:=by simp; omega
  have et:(ks.take F).length=F:=by simp; omega
  have ex:((ks.drop (F+m)).take (T - (F+m))).length=T - (F+m):=by simp; omega
  unfold ov;rw [e,aF,ft,et];unfold kfu;by_cases c1:i < F
  ·rw [ae c1,ae (Or.inl c1),aN,ae c1,gd hi,af hi]
  ·rw [ab c1,ft,e];by_cases c2:T≤i
   ·rw [ab (by omega),ae (Or.inr c2),bP,show F+(T - F)+(i - F - (T - F))=i by omega,gd hi,af hi]
   ·rw [ae (by omega),ab (by omega),ft,ex];by_cases c3:i+m < T
    ·rw [ae (by omega),ae c3,aN,ae (by omega),bP,show F+m+(i - F)=i+m by omega,gd (by omega),af (by omega)]
    ·rw [ab (by omega),ab c3,Iq (by omega),nb]
     congr 1
     omega
 ·rw [aA (by rw [tw (by simp; omega)]; exact hi),aA (by simpa using hi)]
theorem EG {F T m:Nat} (N:Nat) (h1:F+m≤T) (h2:T≤ks.length):ov ks F (List.range' N m++(ks.drop F).take (T - m - F))=(List.range ks.length).map (kfd ks N F T m):=by
 refine be fun i=>?_;rcases aG i ks.length with hi | hi
 ·rw [bz,dq hi,gi];have e:(List.range' N m++(ks.drop F).take (T - m - F)).length=T - F:=by simp; omega
  have et:(ks.take F).length=F:=by simp; omega
  have ex:(List.range' N m).length=m:=by simp
  unfold ov;rw [e,aF,ft,et];unfold kfd;by_cases c1:i < F
  ·rw [ae c1,ae (Or.inl c1),aN,ae c1,gd hi,af hi]
  ·rw [ab c1,ft,e];by_cases c2:T≤i
   ·rw [ab (by omega),ae (Or.inr c2),bP,show F+(T - F)+(i - F - (T - F))=i by omega,gd hi,af hi]
   ·rw [ae (by omega),ab (by omega),ft,ex];by_cases c3:i < F+m
    ·rw [ae (by omega),ae c3,Iq (by omega),nb]
    ·rw [ab (by omega),ab c3,aN,ae (by omega),bP,show F+(i - F - m)=i - m by omega,gd (by omega),af (by omega)]
 ·rw [aA (by rw [tw (by simp; omega)]; exact hi),aA (by simpa using hi)]
theorem GA (nd:ks.Nodup) {N F T m:Nat} (hN:∀k∈ks,k < N) (h1:F+m≤T) (h2:T≤ks.length) (i j:Nat) (hij:i < j) (hj:j < ks.length):kfu ks N F T m i≠kfu ks N F T m j:=by
 have lt:∀i,i < ks.length→ks.getD i 0 < N:=fun i hi=>by rw [gd hi]; exact hN _ (ax hi)
 have ne:∀a b,a < b→b < ks.length→ks.getD a 0≠ks.getD b 0:=fun a b hab hb=>AE nd hb hab;have ne2:∀a b,b < a→a < ks.length→ks.getD a 0≠ks.getD b 0:=fun a b hab ha=>(AE nd ha hab).symm;unfold kfu
 repeat' split
 all_goals first
  | exact ne _ _ (by omega) (by omega)
  | exact ne2 _ _ (by omega) (by omega)
  | (have:=lt i (by omega); omega)
  | (have:=lt j (by omega); omega)
  | (have:=lt (i+m) (by omega); omega)
  | (have:=lt (j+m) (by omega); omega)
  | omega
theorem GB (nd:ks.Nodup) {N F T m:Nat} (hN:∀k∈ks,k < N) (h1:F+m≤T) (h2:T≤ks.length) (i j:Nat) (hij:i < j) (hj:j < ks.length):kfd ks N F T m i≠kfd ks N F T m j:=by
 have lt:∀i,i < ks.length→ks.getD i 0 < N:=fun i hi=>by rw [gd hi]; exact hN _ (ax hi)
 have ne:∀a b,a < b→b < ks.length→ks.getD a 0≠ks.getD b 0:=fun a b hab hb=>AE nd hb hab;have ne2:∀a b,b < a→a < ks.length→ks.getD a 0≠ks.getD b 0:=fun a b hab ha=>(AE nd ha hab).symm;unfold kfd
 repeat' split
 all_goals first
  | exact ne _ _ (by omega) (by omega)
  | exact ne2 _ _ (by omega) (by omega)
  | (have:=lt i (by omega); omega)
  | (have:=lt j (by omega); omega)
  | (have:=lt (i - m) (by omega); omega)
  | (have:=lt (j - m) (by omega); omega)
  | omega
theorem xr {h:Nat} {f:Nat→Nat} {B:Nat→ah} (hf:∀i j,i < j→j < h→f i≠f j) (hB:∀i,i < h→ln s (f i)=B i) {j:Nat} (hj:j < h) (hk:Rw s W (f j)) (i:Nat) (hi:i < h):
  ln (off s (f j)) (f i)=if i=j then ⟨(B j).Cells,false⟩ else B i:=by
 rw [Gx hk,hB j hj];by_cases e:i=j
 ·subst e; rw [ae rfl,ae rfl]
 ·rw [ab,ab e,hB i hi];rcases IR e with h | h
  ·exact hf i j h hj
  ·exact (hf j i h hi).symm
theorem yq (s:Sto) (ks:List Nat) (F:Nat):(offa s ks F).rst=s.rst:=by
 unfold offa;split <;> rfl
theorem lI {h i:Nat} {f:Nat→Nat} (hi:i < h):((List.range h).map f).getD i 0=f i:=by
 rw [gd (by simpa using hi)];simp
structure Rf (s s':Sto) (g:Nat) (ks:List Nat) (g':Nat) (ks':List Nat):Prop where
 gl:s.grid_Grid.length≤s'.grid_Grid.length
 rl:s.row_Row.length≤s'.row_Row.length
 gr:∀j,j < s.grid_Grid.length→j≠g→s'.grid_Grid[j]? = s.grid_Grid[j]?
 rw:∀j,j < s.row_Row.length→j∉ks→s'.row_Row[j]? = s.row_Row[j]?
 ng:g'=g∨s.grid_Grid.length≤g'
 nr:∀r∈ks',r∈ks∨s.row_Row.length≤r
theorem Rf.self (s:Sto) (g:Nat) (ks:List Nat):Rf s s g ks g ks:=⟨ay _,ay _,fun _ _ _=>rfl,fun _ _ _=>rfl,.inl rfl,fun _ h=> .inl h⟩
theorem Rf.rowoff {s':Sto} {ks':List Nat} (h:Rf s s' g ks g ks') {i:Nat} (hi:i∈ks'):Rf s (off s' i) g ks g ks':=by
 have e:(off s' i).row_Row=s'.row_Row.set i ⟨(ln s' i).Cells,false⟩:=rfl;refine ⟨h.gl,by rw [e,cp]; exact h.rl,h.gr,fun j h1 h2=>?_,h.ng,h.nr⟩;rw [e,aQ ?_]
 ·exact h.rw j h1 h2
 ·rintro rfl;rcases h.nr _ hi with q | q
  ·exact h2 q
  ·omega
theorem Rf.aboff {s':Sto} {ks':List Nat} (h:Rf s s' g ks g ks') (F:Nat) (hF:F≤ks'.length):Rf s (offa s' ks' F) g ks g ks':=by
 unfold Go.Proofs.YtclmdpamofdoiaaGreatDoor.offa;split
 ·exact h
 ·refine h.rowoff ?_;rw [gd (by omega)];exact ax _
theorem Rf.lay (xs:List bp) (x:bX) {ks':List Nat} (h:∀r∈ks',r∈ks∨s.row_Row.length≤r):Rf s ((s.addr xs).sg g x) g ks g ks':=by
 have e:((s.addr xs).sg g x).row_Row=s.row_Row++xs:=rfl;have e2:((s.addr xs).sg g x).grid_Grid=s.grid_Grid.set g x:=rfl;exact ⟨by rw [e2,cp]; exact ay _,by rw [e,av]; omega,fun j _ hj=>by rw [e2,aQ (tO hj)],fun j hj _=>by rw [e,aB hj],.inl rfl,h⟩
theorem EM {N F T m:Nat} (hm:T≤ks.length) {r:Nat} (hr:r∈(List.range ks.length).map (kfu ks N F T m)):r∈ks∨N≤r:=by
 obtain ⟨i,hi,rfl⟩:=List.mem_map.1 hr;have hi:=List.mem_range.1 hi;unfold kfu;split
 ·rw [gd hi]; exact .inl (ax _)
 ·split
  ·rw [gd (by omega)]; exact .inl (ax _)
  ·exact .inr (by omega)
theorem EN {N F T m:Nat} (hm:T≤ks.length) {r:Nat} (hr:r∈(List.range ks.length).map (kfd ks N F T m)):r∈ks∨N≤r:=by
 obtain ⟨i,hi,rfl⟩:=List.mem_map.1 hr;have hi:=List.mem_range.1 hi;unfold kfd;split
 ·rw [gd hi]; exact .inl (ax _)
 ·split
  ·exact .inr (by omega)
  ·rw [gd (by omega)]; exact .inl (ax _)
theorem zm (h:Gw s g ks W) (nd:ks.Nodup) (a b n:Int):∃s' ks',jZ s (some g) a b n=some s'∧(Gw s' g ks' W∧ks'.Nodup∧ks'.length=ks.length∧
  ks'.map (ln s')=mv W (ks.map (ln s)) (cl a ks.length) (cl b ks.length) n true)∧s'.rst=s.rst∧Rf s s' g ks g ks':=by
 have hF:=mX a ks.length;have hT:=mX b ks.length;have hh:=h.h2;have hN:∀k∈ks,k < s.row_Row.length:=fun k hk=>(h.r k hk).lt;unfold jZ;rw [wx h];simp only [bsm];generalize cl a ks.length=F at *;generalize cl b ks.length=T at *;unfold mv;by_cases hc:F < T∧0 < n
 ·obtain ⟨m,hm⟩:∃m:Nat,min n ((T:Int) - (F:Int))=(m:Int):=⟨(min n ((T:Int) - (F:Int))).toNat,by omega⟩;have hm2:F+m≤T∧1≤m:=by omega
  rw [ae (by simp; omega),ae hc,hm,aJ (by omega),show ((F:Int)+(m:Int))=((F+m:Nat):Int) by simp,tU h hm2.1 hT];simp only [bsm];rw [ra h (by omega)];simp only [bsm];rw [eP (by simp; omega),←bO];simp only [bsm];have h1:=h.addr (xs:=List.replicate m (bk W));have hlen:((ks.drop (F+m)).take (T - (F+m))++List.range' s.row_Row.length m).length=T - F:=by simp; omega
  obtain ⟨h3,h4⟩:=uK h1 (F:=F) (p:=(ks.drop (F+m)).take (T - (F+m))++List.range' s.row_Row.length m) (by rw [hlen]; omega) (fun k hk=>by
   rcases List.mem_append.1 hk with hk | hk
   ·exact h1.r k (jG (jF hk))
   ·rw [zk] at hk;have:=sZ (s:=s) (xs:=List.replicate m (bk W)) (i:=k - s.row_Row.length) (by simp; omega);rw [show s.row_Row.length+(k - s.row_Row.length)=k by omega,iT] at this;exact ⟨_,this,th W,by simp [bk]⟩) ⟨(F:Int),(T:Int),(m:Int)⟩ rfl
  rw [h3];rw [HG s.row_Row.length hm2.1 hT] at h4⊢;have ne:=GA nd (N:=s.row_Row.length) (F:=F) (T:=T) (m:=m) hN hm2.1 hT;have hB:∀i,i < ks.length→ln ((s.addr (List.replicate m (bk W))).sg g ⟨((List.range ks.length).map (kfu ks s.row_Row.length F T m)).map some⟩) (kfu ks s.row_Row.length F T m i)=mvb W (ks.map (ln s)) F T m true i:=by
   intro i hi;rw [yv];have old:∀j,j < ks.length→ln (s.addr (List.replicate m (bk W))) (ks.getD j 0)=(ks.map (ln s)).getD j dl:=fun j hj=>by
    rw [gdl (by simpa using hj),gd hj,uV (hN _ (ax hj)),dR]
   unfold kfu mvb;by_cases c1:i < F∨T≤i
   ·rw [ae c1,ab (show ¬(F≤i∧i < T) by omega),old i hi]
   ·rw [ab c1,ae (show F≤i∧i < T by omega),ae rfl];by_cases c2:i+m < T
    ·rw [ae c2,ae c2,old _ (by omega)]
    ·rw [ab c2,ab c2,C1 (by simp; omega),iT];rfl
  refine ⟨_,(List.range ks.length).map (kfu ks s.row_Row.length F T m),rfl,⟨?_,CW ne,by simp,?_⟩,yq _ _ _,(Rf.lay _ _ fun r hr=>EM hT hr).aboff F (by simp; omega)⟩
  ·unfold offa;split
   ·exact h4
   ·refine h4.off ?_;rw [lI (by omega)];exact h4.r _ (List.mem_map.2 ⟨F - 1,List.mem_range.2 (by omega),rfl⟩)
  ·rw [cM,GZ];refine cX fun i hi=>?_;have hi:=List.mem_range.1 hi;simp only [Function.comp,bT];unfold offa mvl;by_cases h0:F=0
   ·rw [ae h0,ab (by simp; omega),hB i hi]
   ·rw [ab h0,lI (by omega),xr ne hB (by omega) (h4.r _ (List.mem_map.2 ⟨F - 1,List.mem_range.2 (by omega),rfl⟩)) i hi];by_cases e:i=F - 1
    ·rw [ae e,ae (by omega),e]
    ·rw [ab e,ab (by simp; omega)]
 ·rw [ab (by simp; omega),ab hc];exact ⟨s,ks,rfl,⟨h,nd,rfl,rfl⟩,rfl,Rf.self _ _ _⟩
theorem yK (h:Gw s g ks W) (nd:ks.Nodup) (a b n:Int):∃s' ks',jK s (some g) a b n=some s'∧(Gw s' g ks' W∧ks'.Nodup∧ks'.length=ks.length∧
  ks'.map (ln s')=mv W (ks.map (ln s)) (cl a ks.length) (cl b ks.length) n false)∧s'.rst=s.rst∧Rf s s' g ks g ks':=by
 have hF:=mX a ks.length;have hT:=mX b ks.length;have hh:=h.h2;have hN:∀k∈ks,k < s.row_Row.length:=fun k hk=>(h.r k hk).lt;unfold jK;rw [wx h];simp only [bsm];generalize cl a ks.length=F at *;generalize cl b ks.length=T at *;unfold mv;by_cases hc:F < T∧0 < n
 ·obtain ⟨m,hm⟩:∃m:Nat,min n ((T:Int) - (F:Int))=(m:Int):=⟨(min n ((T:Int) - (F:Int))).toNat,by omega⟩;have hm2:F+m≤T∧1≤m:=by omega
  have h1:=h.addr (xs:=List.replicate m (bk W));rw [ae (by simp; omega),ae hc,hm,ra h (by omega)];simp only [bsm];rw [aJ (by omega),show ((T:Int) - (m:Int))=((T - m:Nat):Int) by omega,tU h1 (by omega) (by omega)];simp only [bsm];rw [eP (by simp; omega),←bO];simp only [bsm];have hlen:(List.range' s.row_Row.length m++(ks.drop F).take (T - m - F)).length=T - F:=by simp; omega
  obtain ⟨h3,h4⟩:=uK h1 (F:=F) (p:=List.range' s.row_Row.length m++(ks.drop F).take (T - m - F)) (by rw [hlen]; omega) (fun k hk=>by
   rcases List.mem_append.1 hk with hk | hk
   ·rw [zk] at hk;have:=sZ (s:=s) (xs:=List.replicate m (bk W)) (i:=k - s.row_Row.length) (by simp; omega);rw [show s.row_Row.length+(k - s.row_Row.length)=k by omega,iT] at this;exact ⟨_,this,th W,by simp [bk]⟩
   ·exact h1.r k (jG (jF hk))) ⟨(F:Int),(T:Int),(m:Int)⟩ rfl
  rw [h3];rw [EG s.row_Row.length hm2.1 hT] at h4⊢;have ne:=GB nd (N:=s.row_Row.length) (F:=F) (T:=T) (m:=m) hN hm2.1 hT;have hB:∀i,i < ks.length→ln ((s.addr (List.replicate m (bk W))).sg g ⟨((List.range ks.length).map (kfd ks s.row_Row.length F T m)).map some⟩) (kfd ks s.row_Row.length F T m i)=mvb W (ks.map (ln s)) F T m false i:=by
   intro i hi;rw [yv];have old:∀j,j < ks.length→ln (s.addr (List.replicate m (bk W))) (ks.getD j 0)=(ks.map (ln s)).getD j dl:=fun j hj=>by
    rw [gdl (by simpa using hj),gd hj,uV (hN _ (ax hj)),dR]
   unfold kfd mvb;by_cases c1:i < F∨T≤i
   ·rw [ae c1,ab (show ¬(F≤i∧i < T) by omega),old i hi]
   ·rw [ab c1,ae (show F≤i∧i < T by omega),ab (show ¬(false=true) by simp)];by_cases c2:i < F+m
    ·rw [ae c2,ab (show ¬(F+m≤i) by omega),C1 (by simp; omega),iT];rfl
    ·rw [ab c2,ae (show F+m≤i by omega),old _ (by omega)]
  have hmem:∀j,j < ks.length→kfd ks s.row_Row.length F T m j∈(List.range ks.length).map (kfd ks s.row_Row.length F T m):=fun j hj=>List.mem_map.2 ⟨j,List.mem_range.2 hj,rfl⟩;have h5:Gw (offa ((s.addr (List.replicate m (bk W))).sg g ⟨((List.range ks.length).map (kfd ks s.row_Row.length F T m)).map some⟩) ((List.range ks.length).map (kfd ks s.row_Row.length F T m)) F) g ((List.range ks.length).map (kfd ks s.row_Row.length F T m)) W:=by
   unfold offa;split
   ·exact h4
   ·refine h4.off ?_;rw [lI (by omega)];exact h4.r _ (hmem _ (by omega))
  have hC:∀i,i < ks.length→ln (offa ((s.addr (List.replicate m (bk W))).sg g ⟨((List.range ks.length).map (kfd ks s.row_Row.length F T m)).map some⟩) ((List.range ks.length).map (kfd ks s.row_Row.length F T m)) F) (kfd ks s.row_Row.length F T m i)=
    if i+1=F then ⟨(mvb W (ks.map (ln s)) F T m false i).Cells,false⟩ else mvb W (ks.map (ln s)) F T m false i:=by
   intro i hi;unfold offa;by_cases h0:F=0
   ·rw [ae h0,ab (by omega),hB i hi]
   ·rw [ab h0,lI (by omega),xr ne hB (by omega) (h4.r _ (hmem _ (by omega))) i hi];by_cases e:i=F - 1
    ·rw [ae e,ae (by omega),e]
    ·rw [ab e,ab (by omega)]
  have hlt:T - 1 < ((List.range ks.length).map (kfd ks s.row_Row.length F T m)).length:=by simp; omega
  simp only [bsm];rw [aJ (by omega),show ((T:Int) - 1)=((T - 1:Nat):Int) by omega,eW h5 hlt];simp only [bsm];rw [yE (h5.at hlt)];simp only [bsm,dR,xN];refine ⟨_,(List.range ks.length).map (kfd ks s.row_Row.length F T m),rfl,⟨h5.off (h5.r _ (hmem _ (by omega))),CW ne,by simp,?_⟩,yq _ _ _,((Rf.lay _ _ fun r hr=>EN hT hr).aboff F (by simp; omega)).rowoff (hmem _ (by omega))⟩;rw [cM,GZ];refine cX fun i hi=>?_;have hi:=List.mem_range.1 hi;simp only [Function.comp,bT];rw [xr ne hC (by omega) (h5.r _ (hmem _ (by omega))) i hi];unfold mvl;by_cases e:i=T - 1
  ·rw [ae e,ab (show ¬(T - 1+1=F) by omega),ae (show i+1=F∨(false=false∧i+1=T) from Or.inr ⟨rfl,by omega⟩),e]
  ·rw [ab e];by_cases e2:i+1=F
   ·rw [ae e2,ae (Or.inl e2)]
   ·rw [ab e2,ab (show ¬(i+1=F∨(false=false∧i+1=T)) by simp; omega)]
 ·rw [ab (by simp; omega),ab hc];exact ⟨s,ks,rfl,⟨h,nd,rfl,rfl⟩,rfl,Rf.self _ _ _⟩
theorem ql {L:List ah} (hl:L.length≤1024) (hW:W≤1024) (hL:∀x∈L,x.Cells.length=W) (a b n:Int) (up:Bool):
  fQ L a b n up=some (mv W L (cl a L.length) (cl b L.length) n up):=by
 have hF:=mX a L.length;have hT:=mX b L.length;unfold fQ;simp only [icl,br,bsm];generalize cl a L.length=F at *;generalize cl b L.length=T at *;unfold mv;by_cases hc:F < T∧0 < n
 ·obtain ⟨m,hm⟩:∃m:Nat,min n ((T:Int) - (F:Int))=(m:Int):=⟨(min n ((T:Int) - (F:Int))).toNat,by omega⟩;have hm2:F+m≤T∧1≤m:=by omega
  rw [ab (by rw [aC,an,an]; omega),ae hc,aJ (by omega),dW,hm,bT];obtain ⟨t,h1,h2⟩:=eG (σ:=(List ah)×Int) (τ:=List ah) (n:=L.length) (fuel:=((L.length:Int) - 0).toNat+1) (s:=(([]:List ah),0))
   (fun i q=>q=((List.range i).map (mvl W L F T m up),(i:Int))) (fun t=>t=(List.range L.length).map (mvl W L F T m up))
   (step:=fun s_41=>
 if (decide (s_41.2 < (L.length:Int)))=true then
 (idx L s_41.2).bind fun x_48=>
 ((bD (decide (s_41.2≥(F:Int))) (some (decide (s_41.2 < (T:Int))))).bind fun d_57=>
 if d_57=true then
 (if (!up)=true then
 (some ((w64 (s_41.2 - (m:Int)))):Option (Int))
 else
 (some ((w64 (s_41.2+(m:Int)))):Option (Int))).bind fun z_68=>
 (idx L s_41.2).bind fun x_79=>
 (rep (x_79.Cells.length:Int) (⟨0,([]:List Int)⟩:aa)).bind fun x_83=>
 (bD (decide (z_68≥(F:Int))) (some (decide (z_68 < (T:Int))))).bind fun d_90=>
 if d_90=true then
 (idx L z_68).bind fun x_98=>
 (some (x_98.Cells,x_98.Wrap):Option ((List aa)×Bool))
 else
 (some (x_83,false):Option ((List aa)×Bool))
 else
 (some (x_48.Cells,x_48.Wrap):Option ((List aa)×Bool))).bind fun z_53=>
 ((orE ((w64 (s_41.2+1))==(F:Int)) ((bD (!up) (some ((w64 (s_41.2+1))==(T:Int)))).bind fun d_111=>
 some d_111)).bind fun d_107=>
 if d_107=true then
 (some (false):Option (Bool))
 else
 (some (z_53.2):Option (Bool))).bind fun z_102=>
 (app s_41.1 ([(⟨z_53.1,z_102⟩:ah)]:List ah)).bind fun x_124=>
 some (.inl (x_124,(w64 (s_41.2+1))))
 else
 some (.inr (s_41.1)))
   (fun i q hi e=>by
    subst e;refine .inl ⟨_,?_,rfl⟩;have e5:w64 ((i:Int)+1)=((i+1:Nat):Int):=by rw [aJ (by omega)]; simp
    have hd:decide ((i:Int) < (L.length:Int))=true:=by simp; exact hi
    have hlw:=hL _ (ax hi);simp only [hd,bw,aW hi,bsm,e5,ba];have hz:(if (decide ((i:Int)≥(F:Int)) && decide ((i:Int) < (T:Int)))=true then
      (if (!up)=true then (some ((w64 ((i:Int) - (m:Int)))):Option (Int)) else (some ((w64 ((i:Int)+(m:Int)))):Option (Int))).bind fun z_68=>
      (rep (L[i].Cells.length:Int) (⟨0,([]:List Int)⟩:aa)).bind fun x_83=>
      if (decide (z_68≥(F:Int)) && decide (z_68 < (T:Int)))=true then
      (idx L z_68).bind fun x_98=>(some (x_98.Cells,x_98.Wrap):Option ((List aa)×Bool))
      else (some (x_83,false):Option ((List aa)×Bool))
      else (some (L[i].Cells,L[i].Wrap):Option ((List aa)×Bool)))=some ((mvb W L F T m up i).Cells,(mvb W L F T m up i).Wrap):=by
     unfold mvb;by_cases c1:F≤i∧i < T
     ·rw [ae (by simp; omega),ae c1]
      cases up with
      | true=>
       rw [ab (by simp),ae rfl];simp only [bsm];rw [oZ _ (by omega),aJ (by omega),show ((i:Int)+(m:Int))=((i+m:Nat):Int) by simp];simp only [bsm];by_cases c2:i+m < T
       ·rw [ae (by simp; omega),ae c2,aW (show i+m < L.length by omega),gdl (by omega)];rfl
       ·rw [ab (by simp; omega),ab c2,bT,hlw];rfl
      | false=>
       rw [ae (by simp),ab (by simp)];simp only [bsm];rw [oZ _ (by omega),aJ (by omega)];simp only [bsm];by_cases c2:F+m≤i
       ·rw [show ((i:Int) - (m:Int))=((i - m:Nat):Int) by omega,ae (by simp; omega),ae c2,aW (show i - m < L.length by omega),gdl (by omega)];rfl
       ·rw [ab (by simp; omega),ab c2,bT,hlw];rfl
     ·rw [ab (by simp; omega),ab c1,gdl hi]
    rw [hz];simp only [bsm];have hy:(orE (((i+1:Nat):Int)==(F:Int)) (some (!up && (((i+1:Nat):Int)==(T:Int)))))=some (decide (i+1=F∨(up=false∧i+1=T))):=by
     rw [br]
     congr 1
     rw [cg];simp only [aC,aS,aq,cw,an,Int.ofNat_inj]
    rw [hy];simp only [bsm];have hx:∀y:Bool,(if decide (i+1=F∨(up=false∧i+1=T))=true then (some false:Option Bool) else some y)=some (if i+1=F∨(up=false∧i+1=T) then false else y):=fun y=>by
     by_cases c:i+1=F∨(up=false∧i+1=T)
     ·rw [ae (by simpa using c),ae c]
     ·rw [ab (by simpa using c),ab c]
    rw [hx];simp only [bsm];rw [eP (by simp; omega)];simp only [bsm];have hz3:(⟨(mvb W L F T m up i).Cells,if i+1=F∨(up=false∧i+1=T) then false else (mvb W L F T m up i).Wrap⟩:ah)=mvl W L F T m up i:=by
     unfold mvl;split <;> rfl
    rw [hz3,lf,bO];rfl)
   (fun q e=>⟨_,by subst e; simp,rfl⟩)
   (by simp) (by omega)
  subst h2;rw [h1];rfl
 ·rw [ae (by rw [aC,an,an]; omega),ab hc]
end Go.Proofs.YtclmdpamofdoiaaGreatDoor
namespace Go.Proofs.YtclmdpamofdoiaaGreatDoor
open Go Go.Lt
variable {s:Sto} {k:Nat} {l p:List aa} {w:Bool}
theorem yb (p:List Int) (hp:p.length≤1000000):jf p=some (p.map gj):=by
 unfold jf;rw [oZ _ (by omega),oZ _ (by omega)];simp only [bsm];obtain ⟨t,h1,h2⟩:=eG (σ:=(List Int)×Int) (τ:=List Int) (n:=p.length) (fuel:=((p.length:Int) - 0).toNat+1) (s:=(List.replicate (0:Int).toNat 0,0))
  (fun i q=>q=((p.take i).map gj,(i:Int))) (fun t=>t=p.map gj)
  (step:=fun s_12=>
 if (decide (s_12.2 < (p.length:Int)))=true then
 (idx p s_12.2).bind fun x_15=>
 ((dJ x_15).bind fun x_21=>
 if (!x_21)=true then
 (some (65533):Option (Int))
 else
 (some (x_15):Option (Int))).bind fun z_19=>
 (app s_12.1 ([z_19]:List Int)).bind fun x_29=>
 some (.inl (x_29,(w64 (s_12.2+1))))
 else
 some (.inr (s_12.1)))
  (fun i q hi e=>by
   subst e;refine .inl ⟨_,?_,rfl⟩;have e5:w64 ((i:Int)+1)=((i+1:Nat):Int):=by rw [aJ (by omega)]; simp
   have hd:decide ((i:Int) < (p.length:Int))=true:=by simp; exact hi
   simp only [hd,bw,aW hi,bsm,ot,e5];have hz:(if (!vld p[i])=true then (some (65533):Option Int) else some p[i])=some (gj p[i]):=by
    unfold gj
    cases vld p[i] <;> rfl
   rw [hz];simp only [bsm];rw [eP (by simp; omega)];simp only [bsm];rw [aj hi,bO];rfl)
  (fun q e=>⟨_,by subst e; simp,rfl⟩)
  rfl (by omega)
 subst h2;rw [h1];rfl
theorem A4 (wide:Int) (t:List Int) (ht:t.length≤9223372036854775807):oJ wide t=some (dm wide (fx t)):=by
 unfold oJ;have hz:(if (decide (wide≥2))=true then (app ([(⟨0,([]:List Int)⟩:aa)]:List aa) ([(⟨0,([]:List Int)⟩:aa)]:List aa)).bind fun x_14=>(some (x_14):Option ((List aa))) else
   (some (([(⟨0,([]:List Int)⟩:aa)]:List aa)):Option ((List aa))))=some (if 2≤wide then [bl,bl] else [bl]):=by
  by_cases h:2≤wide
  ·rw [ae (by simpa using h),ae h,eP (by simp)];rfl
  ·rw [ab (by simpa using h),ab h];rfl
 rw [hz];simp only [bsm];unfold dm;by_cases h0:t= []
 ·subst h0;rw [ae (show ((([]:List Int).length:Int)==0)=true from rfl),ae (show fx []= [] from rfl)];by_cases h:2≤wide
  ·rw [ae h,ae (show wide > 1 by omega)]
  ·rw [ab h,ab (show ¬(wide > 1) by omega)]
 ·have hl:0 < t.length:=List.length_pos_iff.2 h0;have hf:fx t≠ []:=by
   have:=AP t;intro h;rw [h,bd] at this;omega
  rw [ab (by rw [aS]; omega),ab hf,dW,show (min (t.length:Int) 16)=((min t.length 16:Nat):Int) by omega,show (0:Int)=((0:Nat):Int) from rfl,rC (dp _) (Nat.min_le_left _ _)];simp only [bsm];rw [yb _ (by simp; omega)];have ef:((t.drop 0).take (min t.length 16 - 0)).map gj=fx t:=by
   unfold fx;rw [nH,zj]
   congr 1
   rcases Nat.le_total t.length 16 with h | h
   ·rw [cC h,aH (ay _),aH h]
   ·rw [Nat.min_eq_right h]
  rw [ef];by_cases h:2≤wide
  ·rw [ae h,ae (show wide > 1 by omega),show decide (wide≥2)=true by simpa using h];rfl
  ·rw [ab h,ab (show ¬(wide > 1) by omega),show decide (wide≥2)=false by simpa using h];rfl
theorem Ba (wide:Int) (t:List Int):1≤(dm wide t).length∧(dm wide t).length≤2:=by
 unfold dm
 repeat' split
 all_goals simp
theorem zq (wide:Int) (t:List Int):Snd (dm wide (fx t)):=Bc wide (GI t) (GJ t)
theorem HQ {t:List Int} (h:∀x∈t,vld x=true) (hl:t.length≤16):fx t=t:=by
 unfold fx;rw [aH hl]
 conv=>rhs; rw [←List.map_id t]
 refine cX fun x hx=>?_;unfold gj;rw [ae (h x hx)];rfl
theorem CY (h:s.row_Row[k]? = some ⟨l,w⟩) (hs:Snd l) (hl:l.length≤1024) {a:Nat} (wide:Int) {t:List Int} (ht:t.length≤9223372036854775807) (ha:a+(dm wide (fx t)).length≤l.length):
  lq s (some k) a wide t=some (s.sr k ⟨pl l a (dm wide (fx t)),pw l w a (dm wide (fx t)).length⟩,Er.nil):=by
 unfold lq;rw [A4 wide t ht];simp only [bsm];rw [ow h hs hl (zq wide t) (Ba wide _).1 ha];rfl
def mat (l:List aa) (i:Int):Option Nat:=if 0≤i∧i < l.length then (if kd l i.toNat=0 then none else if kd l i.toNat=3 then some (i.toNat - 1) else some i.toNat) else none
theorem xj (h:s.row_Row[k]? = some ⟨l,w⟩) {i:Int} (hi:¬(0≤i∧i < l.length)):fP s (some k) i=some (bl,false):=by
 unfold fP;rw [iZ h];simp only [bsm,br];rw [ae (by simp; omega)];rfl
theorem GC (hs:Snd l) (j:Nat):kd l j=0∨kd l j=1∨kd l j=2∨kd l j=3:=by
 rcases aG j l.length with h | h
 ·have:=(hs j h).1;unfold rgt at this;rw [iU h];split at this
  ·omega
  ·simp only [aq,aC,an] at this;omega
 ·exact .inl (kK h)
theorem EK (h:s.row_Row[k]? = some ⟨l,w⟩) (hs:Snd l) (i:Int) (hi: -9223372036854775808≤i∧i≤9223372036854775807):
  oC s (some k) i=some (match mat l i with | some j=>((j:Int),⟨kd l j,(l.getD j bl).Text⟩,true) | none=>(0,⟨0,[]⟩,false)):=by
 unfold oC mat;by_cases hin:0≤i∧i < l.length
 ·obtain ⟨j,rfl⟩:∃j:Nat,i=(j:Int):=⟨i.toNat,by omega⟩;have hj:j < l.length:=by omega
  rw [ae hin,yg h hj hs.sht,bT];have hkd:=iU hj;have hgd:l.getD j bl=l[j]:=by rw [ao,af hj]; rfl
  simp only [bsm,gH];by_cases h3:kd l j=3
  ·obtain ⟨p1,p2⟩:=hs.three h3;have hj2:j - 1 < l.length:=by omega
   have hkd2:=iU hj2;rw [ae (by rw [aS,←hkd]; exact h3),aJ (by omega),show ((j:Int) - 1)=((j - 1:Nat):Int) by omega,yg h hj2 hs.sht];simp only [bsm,gH];rw [ab (show ¬kd l j=0 by omega),ae h3,ab (by rw [aS,←hkd2]; omega),ae (by rw [aS,←hkd2]; exact p2)];simp only;rw [p2,ao,af hj2];rfl
  ·rw [ab (by rw [aS,←hkd]; exact h3)];simp only [bsm,gH];rcases GC hs j with h0 | h1 | h2 | h4
   ·rw [ab (by rw [aS,←hkd]; omega),ab (by rw [aS,←hkd]; omega),ae h0]
   ·rw [ae (by rw [aS,←hkd]; exact h1),ab (by omega),ab h3];simp only;rw [h1,hgd]
   ·rw [ab (by rw [aS,←hkd]; omega),ae (by rw [aS,←hkd]; exact h2),ab (by omega),ab h3];simp only;rw [h2,hgd]
   ·exact absurd h4 h3
 ·rw [ab hin,xj h hin];rfl
theorem CQ {a j:Nat} (h:a≤j∧j < a+p.length):pc l a p j=p.getD (j - a) bl:=by unfold pc; rw [ae h]
theorem Gk {a j:Nat} (h:¬(a≤j∧j < a+p.length)):pc l a p j=if tch l a p.length j=true then bl else l.getD j bl:=by unfold pc; rw [ab h]
end Go.Proofs.YtclmdpamofdoiaaGreatDoor
namespace Go.Proofs.YtclmdpamofdoiaaGreatDoor
open Go Go.Lt
variable {s C:Sto} {g k W:Nat} {ks:List Nat} {l p:List aa} {w:Bool} {q:ag}
def Sto.sp (s:Sto) (k:Nat) (x:bq):Sto:={ s with place_Pen:=s.place_Pen.set k x}
theorem iH {x:bq} (h:k < s.place_Pen.length):s.set_place_Pen k x=some (s.sp k x):=by
 simp only [Sto.set_place_Pen,h,bw];rfl
theorem xb {x:bq} (h:k < s.place_Pen.length):(s.sp k x).place_Pen[k]? = some x:=by simp [Sto.sp,h]
theorem wt (s:Sto) (k:Nat) (x y:bq):(s.sp k x).sp k y=s.sp k y:=by simp [Sto.sp]
theorem Gw.sp (h:Gw s g ks W) (k:Nat) (x:bq):Gw (s.sp k x) g ks W:=⟨h.g,h.r,h.h1,h.h2,h.w1,h.w2⟩
def ownG (C:Sto) (k g:Nat):Prop:=∃x,C.place_Pen[k]? = some x∧x.G=some g
def ownR (C:Sto) (k r:Nat):Prop:=∃g y,ownG C k g∧C.grid_Grid[g]? = some y∧some r∈y.rows
structure Fr (C s:Sto) (k g:Nat) (ks:List Nat):Prop where
 pl:C.place_Pen.length≤s.place_Pen.length
 gl:C.grid_Grid.length≤s.grid_Grid.length
 rl:C.row_Row.length≤s.row_Row.length
 pn:∀j,j < C.place_Pen.length→j≠k→s.place_Pen[j]? = C.place_Pen[j]?
 gr:∀j,j < C.grid_Grid.length→¬ownG C k j→s.grid_Grid[j]? = C.grid_Grid[j]?
 rw:∀j,j < C.row_Row.length→¬ownR C k j→s.row_Row[j]? = C.row_Row[j]?
 ng:ownG C k g∨C.grid_Grid.length≤g
 nr:∀r∈ks,ownR C k r∨C.row_Row.length≤r
theorem Fr.self {p:bq} (h:s.place_Pen[k]? = some p) (hg:p.G=some g) (hk:s.grid_Grid[g]? = some ⟨ks.map some⟩):Fr s s k g ks:=
 ⟨ay _,ay _,ay _,fun _ _ _=>rfl,fun _ _ _=>rfl,fun _ _ _=>rfl,.inl ⟨p,h,hg⟩,fun r hr=> .inl ⟨g,_,⟨p,h,hg⟩,hk,List.mem_map.2 ⟨r,hr,rfl⟩⟩⟩
theorem Fr.new (h1:C.place_Pen.length≤s.place_Pen.length) (h2:C.grid_Grid.length≤s.grid_Grid.length) (h3:C.row_Row.length≤s.row_Row.length) (h4:∀j,j < C.place_Pen.length→s.place_Pen[j]? = C.place_Pen[j]?)
  (h5:∀j,j < C.grid_Grid.length→s.grid_Grid[j]? = C.grid_Grid[j]?) (h6:∀j,j < C.row_Row.length→s.row_Row[j]? = C.row_Row[j]?) (h7:C.grid_Grid.length≤g) (h8:∀r∈ks,C.row_Row.length≤r):Fr C s k g ks:=
 ⟨h1,h2,h3,fun j a _=>h4 j a,fun j a _=>h5 j a,fun j a _=>h6 j a,.inr h7,fun r hr=> .inr (h8 r hr)⟩
theorem Fr.step {s':Sto} {g':Nat} {ks':List Nat} (h:Fr C s k g ks) (f:Rf s s' g ks g' ks') (hp:s'.place_Pen=s.place_Pen):Fr C s' k g' ks':=by
 refine ⟨by rw [hp]; exact h.pl,dd h.gl f.gl,dd h.rl f.rl,fun j a b=>by rw [hp]; exact h.pn j a b,fun j a b=>?_,fun j a b=>?_,?_,fun r hr=>?_⟩
 ·have:=h.gl;rw [f.gr j (by omega) ?_,h.gr j a b];rintro rfl;rcases h.ng with q | q
  ·exact b q
  ·omega
 ·have:=h.rl;rw [f.rw j (by omega) ?_,h.rw j a b];intro hj;rcases h.nr j hj with q | q
  ·exact b q
  ·omega
 ·rcases f.ng with rfl | q
  ·exact h.ng
  ·exact .inr (dd h.gl q)
 ·rcases f.nr r hr with q | q
  ·exact h.nr r q
  ·exact .inr (dd h.rl q)
theorem Fr.sp (h:Fr C s k g ks) (x:bq):Fr C (s.sp k x) k g ks:=
 ⟨by simp only [Sto.sp,cp]; exact h.pl,h.gl,h.rl,fun j a b=>by simp only [Sto.sp]; rw [aQ (tO b)]; exact h.pn j a b,h.gr,h.rw,h.ng,h.nr⟩
theorem Fr.sr (h:Fr C s k g ks) {i:Nat} (hi:i∈ks) (r:bp):Fr C (s.sr i r) k g ks:=by
 refine h.step (s':=s.sr i r) ⟨ay _,by simp [Sto.sr],fun _ _ _=>rfl,fun j _ b=>?_,.inl rfl,fun r hr=> .inl hr⟩ rfl;exact xU (fun e=>b (e▸ hi))
theorem Fr.addp (h:Fr C s k g ks) (x:bq):Fr C (s.add_place_Pen x) k g ks:=
 ⟨by have:=h.pl; simp only [Sto.add_place_Pen,av]; omega,h.gl,h.rl,fun j a b=>by have:=h.pl; simp only [Sto.add_place_Pen]; rw [aB (by omega)]; exact h.pn j a b,h.gr,h.rw,h.ng,h.nr⟩
structure Rgp (s s':Sto):Prop where
 r:s'.row_Row=s.row_Row
 g:s'.grid_Grid=s.grid_Grid
 p:s'.place_Pen=s.place_Pen
theorem Rgp.self (s:Sto):Rgp s s:=⟨rfl,rfl,rfl⟩
theorem Rgp.symm {s s':Sto} (h:Rgp s s'):Rgp s' s:=⟨h.r.symm,h.g.symm,h.p.symm⟩
theorem Rgp.ownG {s s':Sto} (h:Rgp s s') (k g:Nat):ownG s' k g↔ownG s k g:=by unfold Go.Proofs.YtclmdpamofdoiaaGreatDoor.ownG; rw [h.p]
theorem Rgp.ownR {s s':Sto} (h:Rgp s s') (k r:Nat):ownR s' k r↔ownR s k r:=by unfold Go.Proofs.YtclmdpamofdoiaaGreatDoor.ownR; rw [h.g]; simp only [h.ownG]
theorem Fr.rgp {C' s':Sto} (h:Fr C s k g ks) (hC:Rgp C C') (hs:Rgp s s'):Fr C' s' k g ks:=by
 refine ⟨by rw [hC.p,hs.p]; exact h.pl,by rw [hC.g,hs.g]; exact h.gl,by rw [hC.r,hs.r]; exact h.rl,?_,?_,?_,?_,?_⟩
 ·rw [hC.p,hs.p]; exact h.pn
 ·rw [hC.g,hs.g]; simp only [hC.ownG]; exact h.gr
 ·rw [hC.r,hs.r]; simp only [hC.ownR]; exact h.rw
 ·rw [hC.g,hC.ownG]; exact h.ng
 ·rw [hC.r]; simp only [hC.ownR]; exact h.nr
theorem Fr.trans {B:Sto} {g0:Nat} {ks0:List Nat} (h:Fr B C k g0 ks0) (hg:∀j,ownG C k j→j=g0) (hr:∀j,ownR C k j→j∈ks0) (h':Fr C s k g ks):Fr B s k g ks:=by
 have hl:=h.gl;have hl2:=h.rl;have hl3:=h.pl;refine ⟨dd h.pl h'.pl,dd h.gl h'.gl,dd h.rl h'.rl,fun j a b=>?_,fun j a b=>?_,fun j a b=>?_,?_,fun r hr'=>?_⟩
 ·rw [h'.pn j (by omega) b,h.pn j a b]
 ·rw [h'.gr j (by omega) ?_,h.gr j a b];intro q;obtain rfl:=hg j q;rcases h.ng with q | q
  ·exact b q
  ·omega
 ·rw [h'.rw j (by omega) ?_,h.rw j a b];intro q;rcases h.nr j (hr j q) with q | q
  ·exact b q
  ·omega
 ·rcases h'.ng with q | q
  ·obtain rfl:=hg g q; exact h.ng
  ·exact .inr (by omega)
 ·rcases h'.nr r hr' with q | q
  ·exact h.nr r (hr r q)
  ·exact .inr (by omega)
structure Pv (C s:Sto) (k g_ W:Nat) (q:ag) (ks:List Nat):Prop where
 p:s.place_Pen[k]? = some ⟨some g_,q.At,q.Auto⟩
 g:Gw s g_ ks W
 nd:ks.Nodup
 l:ks.map (ln s)=q.L
 o:s.oth=C.oth
 f:Fr C s k g_ ks
theorem Pv.self (h:Pv C s k g W q ks):Pv s s k g W q ks:=⟨h.p,h.g,h.nd,h.l,rfl,Fr.self h.p rfl h.g.g⟩
theorem Pv.oG (h:Pv C s k g W q ks) (j:Nat) (hj:ownG s k j):j=g:=by
 obtain ⟨x,h1,h2⟩:=hj;rw [h.p] at h1;cases h1;exact (bi h2).symm
theorem Pv.oR (h:Pv C s k g W q ks) (j:Nat) (hj:ownR s k j):j∈ks:=by
 obtain ⟨g',y,h1,h2,h3⟩:=hj;obtain rfl:=h.oG g' h1;rw [h.g.g] at h2;cases h2;obtain ⟨r,h4,h5⟩:=List.mem_map.1 h3;cases h5;exact h4
theorem Pv.len (h:Pv C s k g W q ks):q.L.length=ks.length:=by rw [←h.l,cM]
theorem Pv.ok (h:Pv C s k g W q ks):∀x∈q.L,Okl W x:=by rw [←h.l]; exact vQ h.g
theorem Pv.at (h:Pv C s k g W q ks) {i:Nat} (hi:i < ks.length):q.L[i]'(by rw [h.len]; exact hi)=ln s ks[i]:=by
 have:=h.l;have e:q.L[i]? = (ks.map (ln s))[i]? :=by rw [this]
 rw [af (by rw [h.len]; exact hi),bz,af hi] at e;exact bi e
theorem Pv.set (h:Pv C s k g W q ks) (c:ai) (a:Bool):Pv C (s.sp k ⟨some g,c,a⟩) k g W ⟨q.L,c,a⟩ ks:=
 ⟨xb (cK h.p),h.g.sp _ _,h.nd,h.l,h.o,h.f.sp _⟩
theorem Pv.row (h:Pv C s k g W q ks) {i:Nat} (hi:i < ks.length) {r:bp} (hr:Snd r.cells) (hl:r.cells.length=W):Pv C (s.sr ks[i] r) k g W ⟨q.L.set i ⟨r.cells,r.wrap⟩,q.At,q.Auto⟩ ks:=by
 have hlt:=(h.g.at hi).lt;refine ⟨h.p,⟨h.g.g,fun j hj=>?_,h.g.h1,h.g.h2,h.g.w1,h.g.w2⟩,h.nd,?_,h.o,h.f.sr (ax hi) _⟩
 ·by_cases e:ks[i]=j
  ·subst e; exact ⟨r,rB hlt,hr,hl⟩
  ·obtain ⟨r0,h1,h2⟩:=h.g.r j hj;exact ⟨r0,(xU e).trans h1,h2⟩
 ·refine be fun j=>?_;rw [bz,lF];rcases aG j ks.length with hj | hj
  ·rw [af hj,gi];by_cases e:i=j
   ·subst e;rw [ae rfl,ae (by rw [h.len]; exact hi),nt (rB hlt)]
   ·have hne:ks[i]≠ks[j]:=by
     rcases IR e with h1 | h1
     ·exact List.pairwise_iff_getElem.1 h.nd i j _ _ h1
     ·exact (List.pairwise_iff_getElem.1 h.nd j i _ _ h1).symm
    rw [ab e,af (by rw [h.len]; exact hj),h.at hj];unfold ln;rw [xU hne]
  ·rw [aA hj,ab (by omega),aA (by rw [h.len]; exact hj)];rfl
def hc (c:ai) (W h:Nat):ai:=⟨max 0 (min c.Row ((h:Int) - 1)),max 0 (min c.Col ((W:Int) - 1)),c.Pending && (c.Col==(W:Int) - 1)⟩
theorem sI {n:Nat} (h1:1≤n) (h2:n≤1024):eQ n=some (n:Int):=by
 unfold eQ;rw [gZ,dW]
 congr 1
 omega
theorem uO {n:Nat} (h1:1≤n) (h2:n≤1024):bf n=some (n:Int):=by
 unfold bf;rw [ab (by simp; omega),ab (by simp; omega)]
theorem oL (c:ai) {W h:Nat} (w1:1≤W) (w2:W≤1024) (h1:1≤h) (h2:h≤1024):dO c W h=some (hc c W h):=by
 unfold dO iQ;rw [sI w1 w2,sI h1 h2];simp only [bsm,ba];rw [aJ (by omega),aJ (by omega),gZ,dW,gZ,dW];rfl
theorem uN (n:Int) {m:Nat} (h1:1≤m) (h2:m≤1024):gt n m=some (max 0 (min n ((m:Int) - 1))):=by
 unfold gt;rw [aJ (by omega)];by_cases a:n < 0
 ·rw [ae (by simpa using a)]
  congr 1
  omega
 ·rw [ab (by simpa using a)];by_cases b:(m:Int)≤n
  ·rw [ae (by simpa using b)]
   congr 1
   omega
  ·rw [ab (by simpa using b)]
   congr 1
   omega
theorem sm (c:ai) {W h:Nat} (w1:1≤W) (w2:W≤1024) (h1:1≤h) (h2:h≤1024):fS c W h=some (hc c W h):=by
 unfold fS;rw [uO h1 h2,uO w1 w2];simp only [bsm,ba];rw [uN _ h1 h2,uN _ w1 w2,aJ (by omega)];rfl
structure Hd (c:ai) (W h:Nat):Prop where
 rr:0≤c.Row∧c.Row < (h:Int)
 cc:0≤c.Col∧c.Col < (W:Int)
 pp:c.Pending=true→c.Col=(W:Int) - 1
theorem sx (c:ai) {W h:Nat} (w1:1≤W) (h1:1≤h):Hd (hc c W h) W h:=by
 refine ⟨by simp only [hc]; omega,by simp only [hc]; omega,fun hp=>?_⟩;simp only [hc,aq,aS] at hp⊢;omega
theorem FI {c:ai} {W h:Nat} (hd:Hd c W h):hc c W h=c:=by
 obtain ⟨h1,h2,h3⟩:=hd;obtain ⟨a,b,d⟩:=c;simp only at h1 h2 h3;unfold hc;simp only [ai.mk.injEq];refine ⟨by omega,by omega,?_⟩
 cases d with
 | false=>rfl
 | true=>rw [h3 rfl]; simp
theorem wH (h:Pv C s k g W q ks):ge s (some k)=some (s.sp k ⟨some g,hc q.At W ks.length,q.Auto⟩,true):=by
 unfold ge;simp only [bI,cW,bsm,h.p,ak,aU];rw [jc h.g,eH h.g];simp only [bsm];rw [oL _ h.g.w1 h.g.w2 h.g.h1 h.g.h2];simp only [bsm];rw [iH (cK h.p)];rfl
theorem sj (h:Pv C s k g W q ks):cU q=some (W:Int):=by
 have hl:=h.len;have h1:=h.g.h1;have h0:idx q.L (0:Int)=some (q.L[0]'(by omega)):=aW (i:=0) (by omega);unfold cU;rw [h0];simp only [bsm];rw [(h.ok _ (ax _)).2]
theorem oy (h:Pv C s k g W q ks):bZ q=some ⟨q.L,hc q.At W ks.length,q.Auto⟩:=by
 unfold bZ;rw [sj h];simp only [bsm];rw [h.len,sm _ h.g.w1 h.g.w2 h.g.h1 h.g.h2];rfl
theorem uS (h:Pv C s k g W q ks):∃s' q' ks',fe s (some k)=some s'∧eM q=some q'∧Pv C s' k g W q' ks'∧ks'.length=ks.length∧
  Hd q'.At W ks.length∧q'.At.Pending=false∧q'.At.Col=(hc q.At W ks.length).Col∧q'.Auto=q.Auto:=by
 have h1:=h.set (hc q.At W ks.length) q.Auto;have hd:=sx q.At h.g.w1 h.g.h1;have hh:=h.g.h2;unfold fe eM;rw [wH h,oy h];generalize hc q.At W ks.length=c at *;simp only [bsm,cm,ak,aU];rw [h1.p];simp only [bsm];rw [eH h1.g];simp only [bsm];unfold my;rw [sI h.g.h1 h.g.h2];simp only [bsm];rw [aJ (by omega),aJ (by have:=hd.rr; omega),h.len];have hr:=hd.rr;by_cases he:(ks.length:Int) - 1≤c.Row
 ·rw [ae (by simpa using he),ab (by simp; omega)];have h2:=h1.set ⟨c.Row,c.Col,false⟩ q.Auto;rw [wt] at h2;simp only [bsm];rw [iH (by rw [show (s.sp k ⟨some g,c,q.Auto⟩).place_Pen.length=s.place_Pen.length by simp [Sto.sp]]; exact cK h.p),wt];simp only [bsm,bw];rw [eH h2.g];simp only [bsm];obtain ⟨s',ks',u1,⟨u2,u3,u4,u5⟩,u6,u7⟩:=zm h2.g h2.nd 0 (ks.length:Int) 1;have hm:=ql (W:=W) (L:=q.L) (by rw [h.len]; exact hh) h.g.w2 (fun x hx=>(h.ok x hx).2) 0 (ks.length:Int) 1 true;rw [h.len] at hm;rw [u1,hm];refine ⟨s',_,ks',rfl,rfl,⟨?_,u2,u3,?_,(qK u6).trans h2.o,h2.f.step u7 (kx u6)⟩,u4,⟨hr,hd.cc,fun e=>by cases e⟩,rfl,rfl,rfl⟩
  ·rw [kx u6]; exact h2.p
  ·rw [u5,h2.l]
 ·rw [ab (by simpa using he),ae (by simp; omega)];have h2:=h1.set ⟨c.Row+1,c.Col,false⟩ q.Auto;rw [wt] at h2;simp only [bsm];rw [iH (by rw [show (s.sp k ⟨some g,c,q.Auto⟩).place_Pen.length=s.place_Pen.length by simp [Sto.sp]]; exact cK h.p),wt];simp only [bsm,ak,aU];exact ⟨_,_,ks,rfl,rfl,h2,rfl,⟨by simp only; omega,hd.cc,fun e=>by cases e⟩,rfl,rfl,rfl⟩
theorem se (h:Pv C s k g W q ks) {i:Nat} (hi:i < ks.length) (x:ah):cq q i x=some ⟨q.L.set i x,q.At,q.Auto⟩:=by
 have hl:=h.len;have hh:=h.g.h2;unfold cq;rw [eP (by simp; omega),bN];simp only [bsm];rw [aW (show i < q.L.length by omega),jV (show i < q.L.length by omega)];rfl
theorem AO (h:Pv C s k g W q ks) (hd:0≤q.At.Row∧q.At.Row < (ks.length:Int)):∃s' q' ks',fv s (some k)=some s'∧cV q=some q'∧Pv C s' k g W q' ks'∧ks'.length=ks.length∧
  Hd q'.At W ks.length∧q'.At.Pending=false∧q'.At.Col=0∧q'.Auto=q.Auto:=by
 obtain ⟨i,hi⟩:∃i:Nat,q.At.Row=(i:Int):=⟨q.At.Row.toNat,by omega⟩;have hik:i < ks.length:=by omega
 have hl:=h.len;obtain ⟨r,r1,r2,r3⟩:=h.g.at hik;have hrow:=h.row hik (r:=⟨r.cells,true⟩) r2 r3;have h2:=hrow.set ⟨q.At.Row,0,false⟩ q.Auto;have w1:=h.g.w1;unfold fv cV;simp only [bsm,h.p,hi];rw [eW h.g hik];simp only [bsm];rw [uM (l:=r.cells) (w:=r.wrap) r1];simp only [bsm];rw [hrow.p];simp only [bsm,dt];rw [iH (cK hrow.p)];simp only [bsm];rw [aW (show i < q.L.length by omega),h.at hik,nt r1];simp only [bsm];rw [se h hik];simp only [bsm,hi];obtain ⟨s',q',ks',n1,n2,n3,n4,n5,n6,n7,n8⟩:=uS h2;rw [hi] at n1 n2;rw [n1,n2];refine ⟨s',q',ks',rfl,rfl,n3,n4,n5,n6,?_,n8⟩;rw [n7];simp only [hc];omega
theorem yo (h:Pv C s k g W q ks) {i a:Nat} (hi:i < ks.length) (hp:Snd p) (hn:1≤p.length) (ha:a+p.length≤W):∃s' q',dN s (some ks[i]) a p=some (s',Er.nil)∧bW q i a p=some q'∧
  Pv C s' k g W q' ks∧q'.At=q.At∧q'.Auto=q.Auto∧q'.L=q.L.set i ⟨pl (ln s ks[i]).Cells a p,pw (ln s ks[i]).Cells (ln s ks[i]).Wrap a p.length⟩:=by
 obtain ⟨r,r1,r2,r3⟩:=h.g.at hi;have w2:=h.g.w2;have hl:=h.len;have hrow:=h.row hi (r:=⟨pl r.cells a p,pw r.cells r.wrap a p.length⟩) (r2.paint hp (by rw [r3]; exact ha)) (by rw [iN]; exact r3);refine ⟨_,_,ow (l:=r.cells) (w:=r.wrap) r1 r2 (by omega) hp hn (by omega),?_,hrow,rfl,rfl,by rw [nt r1]⟩;unfold bW;rw [aW (show i < q.L.length by omega),h.at hi,nt r1];simp only [bsm];rw [qM _ _ _ _ (by omega) (by omega) (by omega)];simp only [bsm];rw [se h hi];rfl
end Go.Proofs.YtclmdpamofdoiaaGreatDoor
namespace Go.Proofs.YtclmdpamofdoiaaGreatDoor
open Go Go.Lt
def ca (c:ai) (d W:Nat) (au:Bool):ai:=if c.Col < (W:Int) - d then ⟨c.Row,c.Col+d,false⟩ else ⟨c.Row,(W:Int) - 1,au⟩
theorem BX (c:ai) {d W:Nat} (hd:d=1∨d=2) (w1:1≤W) (w2:W≤1024) (hc:0≤c.Col∧c.Col < (W:Int)) (au:Bool):kh c d W au=some (ca c d W au):=by
 unfold kh ca;rw [sI w1 w2];simp only [bsm,gZ,dW];rw [show max (1:Int) (min (d:Int) 2)=(d:Int) by omega,aJ (by omega),aJ (by omega),aJ (by omega)];by_cases h:c.Col < (W:Int) - d
 ·rw [ae (by simpa using h),ae h]
 ·rw [ab (by simpa using h),ab h]
theorem tv (c:ai) {d W:Nat} (hd:d=1∨d=2) (w1:1≤W) (w2:W≤1024) (hc:0≤c.Col∧c.Col < (W:Int)) (au:Bool):jP c d W au=some (ca c d W au):=by
 unfold jP ca;have hz:(if decide ((d:Int) > 1)=true then (some 2:Option Int) else some 1)=some (d:Int):=by
  rcases hd with rfl | rfl <;> rfl
 rw [hz];simp only [bsm];rw [uO w1 w2];simp only [bsm];rw [aJ (by omega),aJ (by omega),aJ (by omega)];by_cases h:c.Col < (W:Int) - d
 ·rw [ab (by simp; omega),ae h]
 ·rw [ae (by simp; omega),ab h]
variable {s C:Sto} {g k W:Nat} {ks:List Nat} {q:ag}
theorem Ia {c:ai} {d h:Nat} (hd:d=1∨d=2) (w1:1≤W) (hc:0≤c.Col∧c.Col < (W:Int)) (hr:0≤c.Row∧c.Row < (h:Int)) (au:Bool):Hd (ca c d W au) W h:=by
 unfold ca;by_cases h:c.Col < (W:Int) - d
 ·rw [ae h];exact ⟨hr,by simp only; omega,fun e=>by cases e⟩
 ·rw [ab h];exact ⟨hr,by simp only; omega,fun _=>rfl⟩
theorem nc (d:Nat) (hd:d=1∨d=2) (t:List Int):(dm (d:Int) t).length=d:=by
 unfold dm;rcases hd with rfl | rfl <;> (repeat' split) <;> first | rfl | (exfalso; omega)
def fld (q:ag):(List ah)×Int×Int×Bool×Bool:=(q.L,q.At.Row,q.At.Col,q.At.Pending,q.Auto)
def rp1 (q:ag):Option ((List ah)×Int×Int×Bool×Bool):=
 if q.At.Pending=true then
 (cV q).bind fun x_34=>
 (some (x_34.L,x_34.At.Row,x_34.At.Col,x_34.At.Pending,x_34.Auto):Option ((List ah)×Int×Int×Bool×Bool))
 else
 (some (q.L,q.At.Row,q.At.Col,q.At.Pending,q.Auto):Option ((List ah)×Int×Int×Bool×Bool))
def rp2 (d W:Int) (z_28:(List ah)×Int×Int×Bool×Bool):Option ((List ah)×Int×Int×Bool×Bool):=
 (bD (d==2) (some (z_28.2.2.1==(w64 (W - 1))))).bind fun d_40=>
 if d_40=true then
 if z_28.2.2.2.2=true then
 (rep 1 (⟨0,([]:List Int)⟩:aa)).bind fun x_58=>
 (bW (⟨z_28.1,(⟨z_28.2.1,z_28.2.2.1,z_28.2.2.2.1⟩:ai),z_28.2.2.2.2⟩:ag) z_28.2.1 (w64 (W - 1)) x_58).bind fun x_59=>
 (cV x_59).bind fun x_60=>
 (some (x_60.L,x_60.At.Row,x_60.At.Col,x_60.At.Pending,x_60.Auto):Option ((List ah)×Int×Int×Bool×Bool))
 else
 (some (z_28.1,z_28.2.1,(w64 (W - 2)),z_28.2.2.2.1,z_28.2.2.2.2):Option ((List ah)×Int×Int×Bool×Bool))
 else
 (some (z_28.1,z_28.2.1,z_28.2.2.1,z_28.2.2.2.1,z_28.2.2.2.2):Option ((List ah)×Int×Int×Bool×Bool))
def cp1 (s:Sto) (p0:Option Nat):Option Sto:=
 (p0).bind fun k_3=>
 (s.place_Pen[k_3]?).bind fun o_6=>
 if o_6.At.Pending=true then
 (fv s p0).bind fun x_9=>
 (some (x_9):Option (Sto))
 else
 (some (s):Option (Sto))
theorem FA (h:Pv C s k g W q ks) (hd:Hd q.At W ks.length):∃s' q' ks',cp1 s (some k)=some s'∧rp1 q=some (fld q')∧Pv C s' k g W q' ks'∧ks'.length=ks.length∧Hd q'.At W ks.length∧q'.Auto=q.Auto∧q'.At.Pending=false:=by
 unfold cp1 rp1;simp only [bsm,h.p]
 cases hp:q.At.Pending with
 | false=>
  simp only [ak,aU];exact ⟨s,q,ks,rfl,by unfold fld; rw [hp],h,rfl,hd,rfl,hp⟩
 | true=>
  simp only [bw];obtain ⟨s',q',ks',a1,a2,a3,a4,a5,a6,a7,a8⟩:=AO h hd.rr;rw [a1,a2];exact ⟨s',q',ks',rfl,rfl,a3,a4,a5,a8,a6⟩
theorem Aq (h:Pv C s k g W q ks) (hd:Hd q.At W ks.length) {d:Nat} (hdd:d=1∨d=2) (hdw:d≤W):
  ∃s' q' ks' z,ji s (some k) d=some s'∧rp1 q=some z∧rp2 d W z=some (fld q')∧Pv C s' k g W q' ks'∧ks'.length=ks.length∧(0≤q'.At.Row∧q'.At.Row < (ks.length:Int))∧(0≤q'.At.Col∧q'.At.Col+d≤(W:Int))∧q'.Auto=q.Auto:=by
 obtain ⟨s1,q1,ks1,a1,a2,v1,n1,hd1,au1,pe1⟩:=FA h hd;have w1:=h.g.w1;have w2:=h.g.w2;have hcc:=hd1.cc;unfold ji
 change ∃s' q' ks' z,((cp1 s (some k)).bind _)=some s'∧_
 rw [a1];simp only [bsm,v1.p];rw [jc v1.g];simp only [bsm,br];have e1:w64 ((W:Int) - 1)=((W - 1:Nat):Int):=by rw [aJ (by omega)]; omega
 have e2:w64 ((W:Int) - 2)=(W:Int) - 2:=aJ (by omega);rw [e1];unfold rp2;by_cases hA:d=1∨q1.At.Col < (W:Int) - 1
 ·rw [ae (by simp only [aC,aS,an]; omega)];refine ⟨s1,q1,ks1,_,rfl,a2,?_,v1,n1,hd1.rr,by omega,au1⟩;simp only [fld,ba,bsm,e1];rw [ab (by simp only [aq,aS]; omega)]
 ·rw [ab (by simp only [aC,aS,an]; omega)];have hd2:d=2:=by omega
  have hcol:q1.At.Col=(W:Int) - 1:=by omega
  obtain ⟨i,hi⟩:∃i:Nat,q1.At.Row=(i:Int):=⟨q1.At.Row.toNat,by have:=hd1.rr; omega⟩;have hik:i < ks1.length:=by have:=hd1.rr; omega
  cases hau:q1.Auto with
  | true=>
   simp only [bw];rw [hi,eW v1.g hik];simp only [bsm];rw [show er 1=some [bl] from tN 1];simp only [bsm];obtain ⟨s2,q2,b1,b2,v2,at2,au2,_⟩:=yo (p:=[bl]) (a:=W - 1) v1 hik (th 1) (by decide) (by simp; omega);rw [b1];simp only [bsm];obtain ⟨s3,q3,ks3,c1,c2,v3,n3,hd3,pe3,co3,au3⟩:=AO v2 (by rw [at2,n1]; exact hd1.rr);rw [c1];refine ⟨s3,q3,ks3,_,rfl,a2,?_,v3,n3.trans n1,by rw [←n1]; exact hd3.rr,by rw [co3]; omega,by rw [au3,au2,au1]⟩;simp only [fld,ba,bsm,e1];rw [ae (by simp only [aq,aS]; omega)];simp only [hau,bw];rw [oZ _ (by decide),hi];simp only [bsm];rw [show (List.replicate (1:Int).toNat (⟨0,[]⟩:aa))= [bl] from rfl];have b2':bW ⟨q1.L,⟨(i:Int),q1.At.Col,q1.At.Pending⟩,true⟩ i ((W - 1:Nat):Int) [bl]=some q2:=by rw [←hi,←hau]; rw [←hi] at b2; exact b2
   rw [b2'];simp only [bsm];rw [c2];rfl
  | false=>
   simp only [ak,aU];rw [iH (cK v1.p)];simp only [bsm];have e3:w64 (q1.At.Col - 1)=(W:Int) - 2:=by rw [aJ (by omega)]; omega
   have v2:=v1.set ⟨q1.At.Row,(W:Int) - 2,q1.At.Pending⟩ q1.Auto;rw [hau] at v2;rw [e3];refine ⟨_,_,ks1,_,rfl,a2,?_,v2,n1,hd1.rr,by simp only; omega,by simp only; rw [←hau]; exact au1⟩;simp only [fld,ba,bsm,e1,e2];rw [ae (by simp only [aq,aS]; omega)];simp only [hau,ak,aU]
def cl2 (p1:Int) (t:List Int) (W:Nat):Nat×List Int:=if max 1 (min p1 2) > (W:Int) then (1,[65533]) else ((max 1 (min p1 2)).toNat,t)
theorem DB (p1:Int) (t:List Int) (w1:1≤W):((cl2 p1 t W).1=1∨(cl2 p1 t W).1=2)∧(cl2 p1 t W).1≤W:=by
 unfold cl2;split
 ·exact ⟨.inl rfl,w1⟩
 ·simp only;omega
theorem zU (p1:Int) (t:List Int):(if (decide ((bb 1 (aO p1 2)) > (W:Int)))=true then (some (1,([65533]:List Int)):Option (Int×(List Int))) else (some ((bb 1 (aO p1 2)),t):Option (Int×(List Int))))=some (((cl2 p1 t W).1:Int),(cl2 p1 t W).2):=by
 rw [dW,gZ];unfold cl2;by_cases h:max 1 (min p1 2) > (W:Int)
 ·rw [ae (by simpa using h),ae h];rfl
 ·rw [ab (by simpa using h),ab h];simp only;rw [pC (by omega)]
theorem zI (h:Pv C s k g W q ks) (p1:Int) (t:List Int) (ht:t.length≤1000000):∃(s':Sto) (q':ag) (ks':List Nat) (i a:Nat),i < ks.length∧iF s (some k) p1 t=some (s',⟨(i:Int),(a:Int),false⟩)∧aT q p1 t=some (q',⟨(i:Int),(a:Int),false⟩)∧
  Pv C s' k g W q' ks'∧ks'.length=ks.length∧Hd q'.At W ks.length∧q'.Auto=q.Auto∧a+(cl2 p1 t W).1≤W∧
  ∃l0 w0,l0.length=W∧q'.L[i]? = some ⟨pl l0 a (dm (cl2 p1 t W).1 (fx (cl2 p1 t W).2)),w0⟩:=by
 have hl:(cl2 p1 t W).2.length≤1000000:=by unfold cl2; split <;> simp; exact ht
 obtain ⟨hdd,hdw⟩:=DB p1 t h.g.w1;have hce:=zU (W:=W) p1 t;have w1:=h.g.w1;have w2:=h.g.w2;have h1:=h.set (hc q.At W ks.length) q.Auto;have hd:=sx q.At h.g.w1 h.g.h1;unfold iF aT;rw [wH h,oy h];generalize hc q.At W ks.length=c at *;simp only [bsm,cm,ak,aU,h1.p];rw [jc h1.g,sj h1];simp only [bsm];rw [hce];generalize (cl2 p1 t W).2=t2 at *;generalize (cl2 p1 t W).1=d at *;simp only [bsm];obtain ⟨s2,q2,ks2,z,a1,a2,a3,v2,n2,hr,hcl,au⟩:=Aq h1 hd hdd hdw;rw [a1];obtain ⟨i,hi⟩:∃i:Nat,q2.At.Row=(i:Int):=⟨q2.At.Row.toNat,by omega⟩;obtain ⟨a,ha⟩:∃a:Nat,q2.At.Col=(a:Int):=⟨q2.At.Col.toNat,by omega⟩;have hik:i < ks2.length:=by omega
 obtain ⟨L2,⟨row2,col2,pd2⟩,ua2⟩:=q2;simp only at hi ha hr hcl au;subst hi ha;simp only [bsm,v2.p];rw [eW v2.g hik];simp only [bsm];unfold lq;rw [A4 _ _ (by omega)];simp only [bsm];have hsl:=nc d hdd (fx t2);obtain ⟨s3,q3,b1,b2,v3,at3,au3,l3⟩:=yo (p:=dm d (fx t2)) (a:=a) v2 hik (zq _ _) (by rw [hsl]; omega) (by rw [hsl]; omega);rw [b1];simp only [bsm,v3.p];rw [jc v3.g];simp only [bsm];have hc2:0≤(⟨(i:Int),(a:Int),false⟩:ai).Col∧(⟨(i:Int),(a:Int),false⟩:ai).Col < (W:Int):=by simp only; omega
 rw [BX _ hdd w1 w2 hc2];simp only [bsm];rw [iH (cK v3.p)];simp only [bsm];have v4:=v3.set (ca ⟨(i:Int),(a:Int),false⟩ d W q3.Auto) q3.Auto
 change ∃s' q' ks' i_1 a_1,_∧_∧((rp1 ⟨q.L,c,q.Auto⟩).bind fun z_28=>(rp2 d W z_28).bind _)=_∧_
 rw [a2];simp only [bsm];rw [a3];simp only [fld,bsm];rw [zD _ _ (by omega)];simp only [bsm];rw [b2];simp only [bsm];rw [tv _ hdd w1 w2 hc2];simp only [bsm];refine ⟨_,_,ks2,i,a,by omega,rfl,rfl,v4,n2,Ia hdd w1 hc2 (by simp only; omega) _,by simp only; rw [au3,au],by omega,(ln s2 ks2[i]).Cells,pw (ln s2 ks2[i]).Cells (ln s2 ks2[i]).Wrap a (dm d (fx t2)).length,?_,?_⟩
 ·have:=v2.ok _ (ax (show i < L2.length by have:=v2.len; simp only at this; omega));rw [v2.at hik] at this;exact this.2
 ·simp only;rw [l3,bh (by have:=v2.len; simp only at this⊢; omega)]
end Go.Proofs.YtclmdpamofdoiaaGreatDoor
namespace Go.Proofs.YtclmdpamofdoiaaGreatDoor
open Go Go.Lt
variable {s:Sto} {k g W:Nat} {l p p':List aa} {w:Bool} {q:ag} {ks:List Nat}
theorem rT (l:List aa) (a n j:Nat):tch l a n j=true↔(a≤j∧j < a+n)∨(kd l j=2∧a≤j+1∧j+1 < a+n)∨(kd l j=3∧a+1≤j∧j < a+n+1):=by
 simp only [tch,aC,aq,an];omega
theorem xm {c j:Nat} (h:¬(c≤j∧j < c+p.length)):pc l c p j=if (kd l j=2∧j+1=c∧0 < p.length)∨(kd l j=3∧j=c+p.length∧0 < p.length) then bl else l.getD j bl:=by
 rw [Gk h];by_cases ht:tch l c p.length j=true
 ·rw [ae ht,ae];rw [rT] at ht;omega
 ·rw [ab ht,ab];rw [rT] at ht;omega
theorem C5 {c j:Nat} (hj:j < l.length) (h:¬(c≤j∧j < c+p.length)):kd (pl l c p) j=if (kd l j=2∧j+1=c∧0 < p.length)∨(kd l j=3∧j=c+p.length∧0 < p.length) then 0 else kd l j:=by
 rw [C4 hj,xm h];split
 ·rfl
 ·exact lH l j
theorem xl {a c:Nat} (h1:a≤c) (h2:c+p.length≤a+p'.length) (h3:a+p'.length≤l.length):pl (pl l c p) a p'=pl l a p':=by
 apply be;intro j;rcases aG j l.length with hj | hj
 ·rw [qm (by rw [iN]; exact hj),qm hj]
  congr 1
  by_cases hi:a≤j∧j < a+p'.length
  ·rw [CQ hi,CQ hi]
  ·have hc:¬(c≤j∧j < c+p.length):=by omega
   have hg:(pl l c p).getD j bl=pc l c p j:=by rw [ao,qm hj]; rfl
   rw [xm hi,xm hi,C5 hj hc,hg,xm hc];by_cases hA:(kd l j=2∧j+1=c∧0 < p.length)∨(kd l j=3∧j=c+p.length∧0 < p.length)
   ·rw [ae hA,ae hA,ab (by omega),ae (by omega)]
   ·rw [ab hA,ab hA]
 ·rw [aA (by rw [iN,iN]; exact hj),aA (by rw [iN]; exact hj)]
theorem Ar {a c:Nat} (h1:a≤c) (h2:c+p.length≤a+p'.length) (h3:a+p'.length≤l.length):pw (pl l c p) (pw l w c p.length) a p'.length=pw l w a p'.length:=by
 unfold pw;rw [iN];by_cases hl:0 < l.length
 ·have e:(tch l c p.length (l.length - 1) || tch (pl l c p) a p'.length (l.length - 1))=tch l a p'.length (l.length - 1):=by
   rw [cg,aC,rT,rT,rT];by_cases hc:c≤l.length - 1∧l.length - 1 < c+p.length
   ·omega
   ·rw [C5 (by omega) hc];split <;> omega
  rw [show decide (0 < l.length)=true by simpa using hl,dh,dh,Bool.and_assoc,←Bool.not_or,e,dh]
 ·rw [show decide (0 < l.length)=false by simpa using hl];simp
end Go.Proofs.YtclmdpamofdoiaaGreatDoor
namespace Go.Proofs.YtclmdpamofdoiaaGreatDoor
open Go Go.Lt
variable {s C:Sto} {k g W:Nat} {l p p':List aa} {w:Bool} {q:ag} {ks:List Nat}
def rdy (q:ag) (W H d:Nat):Option ((List ah)×Int×Int×Bool×Bool):=(rp1 ⟨q.L,hc q.At W H,q.Auto⟩).bind (rp2 d W)
def BB (L:List ah) (i a d W:Nat) (au:Bool) (t:List Int):ag:=
 ⟨L.set i ⟨pl (L.getD i dl).Cells a (dm d (fx t)),pw (L.getD i dl).Cells (L.getD i dl).Wrap a d⟩,ca ⟨(i:Int),(a:Int),false⟩ d W au,au⟩
theorem sk {L:List ah} {c:ai} {au:Bool} {i a:Nat} (hi:i < L.length) (hL:L.length≤1024) (hw:(L.getD i dl).Cells.length≤1024) (hp:p.length≤1000000) (ha:a≤1000000):
  bW ⟨L,c,au⟩ i a p=some ⟨L.set i ⟨pl (L.getD i dl).Cells a p,pw (L.getD i dl).Cells (L.getD i dl).Wrap a p.length⟩,c,au⟩:=by
 unfold bW cq;simp only [gdl hi] at hw⊢;simp only [aW hi,bsm];rw [qM _ _ _ _ (by omega) ha hp];simp only [bsm];rw [eP (by simp; omega),bN];simp only [bsm];rw [aW hi,jV hi];rfl
theorem jW {L2:List ah} {i a d:Nat} {pd au:Bool} (hdd:d=1∨d=2) (h:Pv C s k g W q ks) (hr:rdy q W ks.length d=some (L2,(i:Int),(a:Int),pd,au)) (hi:i < ks.length) (ha:a+d≤W) (hL:L2.length=ks.length) (hok:∀x∈L2,Okl W x) (p1:Int) (t:List Int) (ht:t.length≤1000000)
  (hcl:(cl2 p1 t W).1=d):aT q p1 t=some (BB L2 i a d W au (cl2 p1 t W).2,⟨(i:Int),(a:Int),false⟩):=by
 have hl:(cl2 p1 t W).2.length≤1000000:=by unfold cl2; split <;> simp; exact ht
 have hce:=zU (W:=W) p1 t;have w1:=h.g.w1;have w2:=h.g.w2;have h1:=h.set (hc q.At W ks.length) q.Auto;have h2:=h.g.h2;unfold aT;rw [oy h];unfold rdy at hr;generalize hc q.At W ks.length=c at *;simp only [bsm];rw [sj h1];simp only [bsm];rw [hce,hcl];generalize (cl2 p1 t W).2=t2 at *;simp only [bsm];have hsl:=nc d hdd (fx t2);have hc2:0≤(⟨(i:Int),(a:Int),false⟩:ai).Col∧(⟨(i:Int),(a:Int),false⟩:ai).Col < (W:Int):=by simp only; omega
 obtain ⟨z,hz1,hz2⟩:=bs hr
 change ((rp1 ⟨q.L,c,q.Auto⟩).bind fun z_28=>(rp2 d W z_28).bind _)=_
 rw [hz1];simp only [bsm];rw [hz2];simp only [bsm];rw [zD _ _ (by omega)];simp only [bsm];have hlt:i < L2.length:=by omega
 have hcells:(L2.getD i dl).Cells.length=W:=by
  rw [gdl hlt];exact (hok _ (ax hlt)).2
 rw [sk hlt (by omega) (by omega) (by omega) (by omega)];simp only [bsm];rw [tv _ hdd w1 w2 hc2];simp only [bsm,BB,hsl]
theorem CN (h:Pv C s k g W q ks) {d:Nat} (hdd:d=1∨d=2) (hdw:d≤W):∃L2 i a pd,rdy q W ks.length d=some (L2,((i:Nat):Int),((a:Nat):Int),pd,q.Auto)∧i < ks.length∧a+d≤W∧L2.length=ks.length∧(∀x∈L2,Okl W x):=by
 have h1:=h.set (hc q.At W ks.length) q.Auto;have hd:=sx q.At h.g.w1 h.g.h1;obtain ⟨s2,q2,ks2,z,_,a2,a3,v2,n2,hr,hcl,au⟩:=Aq h1 hd hdd hdw;obtain ⟨i,hi⟩:∃i:Nat,q2.At.Row=(i:Int):=⟨q2.At.Row.toNat,by omega⟩;obtain ⟨a,ha⟩:∃a:Nat,q2.At.Col=(a:Int):=⟨q2.At.Col.toNat,by omega⟩;refine ⟨q2.L,i,a,q2.At.Pending,?_,by omega,by omega,by rw [v2.len,n2],v2.ok⟩;unfold rdy;rw [a2];simp only [bsm];rw [a3];simp only [fld,hi,ha,au]
theorem EA (h:Pv C s k g W q ks):∃L1 i c,rp1 ⟨q.L,hc q.At W ks.length,q.Auto⟩=some (L1,((i:Nat):Int),((c:Nat):Int),false,q.Auto)∧i < ks.length∧c+1≤W∧L1.length=ks.length∧(∀x∈L1,Okl W x):=by
 have h1:=h.set (hc q.At W ks.length) q.Auto;have hd:=sx q.At h.g.w1 h.g.h1;obtain ⟨s2,q2,ks2,a1,a2,v2,n2,hd2,au,pe⟩:=FA h1 hd;have hr:=hd2.rr;have hcc:=hd2.cc;obtain ⟨i,hi⟩:∃i:Nat,q2.At.Row=(i:Int):=⟨q2.At.Row.toNat,by omega⟩;obtain ⟨a,ha⟩:∃a:Nat,q2.At.Col=(a:Int):=⟨q2.At.Col.toNat,by omega⟩;refine ⟨q2.L,i,a,?_,by omega,by omega,by rw [v2.len,n2],v2.ok⟩;rw [a2];simp only [fld,hi,ha,au,pe]
theorem Ap (W:Int) (z:(List ah)×Int×Int×Bool×Bool):rp2 1 W z=some z:=by
 unfold rp2;simp only [ba,bsm];rw [ab (by simp)]
theorem BC (h:Pv C s k g W q ks) {p1 p2:Int} {t1 t2:List Int} (ht1:t1.length≤1000000) (ht2:t2.length≤1000000) (hc1:(cl2 p1 t1 W).1=1) {q':ag} {at_:ai} (hp:aT q p1 t1=some (q',at_))
  {s' C':Sto} {ks':List Nat} (h':Pv C' s' k g W q' ks') (hk:ks'.length=ks.length):aT ⟨q'.L,at_,q'.Auto⟩ p2 t2=aT q p2 t2:=by
 obtain ⟨L1,i,c,e1,hi,hcw,hL1,hok1⟩:=EA h;have w1:=h.g.w1;have w2:=h.g.w2;have hh2:=h.g.h2;have r1:rdy q W ks.length 1=some (L1,(i:Int),(c:Int),false,q.Auto):=by
  unfold rdy;rw [e1];exact Ap (W:Int) _
 have hq:=jW (.inl rfl) h r1 hi hcw hL1 hok1 p1 t1 ht1 hc1;rw [hp] at hq;simp only [aK,fM] at hq;obtain ⟨rfl,rfl⟩:=hq;simp only [BB];have hlt:i < L1.length:=by omega
 generalize hX:(⟨pl (L1.getD i dl).Cells c (dm (1:Nat) (fx (cl2 p1 t1 W).2)),pw (L1.getD i dl).Cells (L1.getD i dl).Wrap c 1⟩:ah)=X;have hst:=nc 1 (.inl rfl) (fx (cl2 p1 t1 W).2);have hcells:(L1.getD i dl).Cells.length=W:=by
  rw [gdl hlt];exact (hok1 _ (ax hlt)).2
 have hXc:X.Cells.length=W:=by rw [←hX]; simp only [iN]; exact hcells
 have h2:=h'.set ⟨(i:Int),(c:Int),false⟩ q.Auto;simp only [BB] at h2;rw [hX] at h2;have hcid:hc ⟨(i:Int),(c:Int),false⟩ W ks.length=⟨(i:Int),(c:Int),false⟩:=FI ⟨by simp only; omega,by simp only; omega,fun e=>by cases e⟩;have e2:rp1 ⟨L1.set i X,hc ⟨(i:Int),(c:Int),false⟩ W ks'.length,q.Auto⟩=some (L1.set i X,(i:Int),(c:Int),false,q.Auto):=by
  rw [hk,hcid];unfold rp1;simp only [ak,aU]
 have hg:(L1.set i X).getD i dl=X:=by
  rw [ao,bh hlt];rfl
 have hokX:∀x∈L1.set i X,Okl W x:=h2.ok;obtain ⟨hdd,hdw⟩:=DB p2 t2 w1;have over:∀(a d:Nat),d=1∨d=2→a≤c→c+1≤a+d→a+d≤W→∀p:List aa,p.length=d→(L1.set i X).set i ⟨pl ((L1.set i X).getD i dl).Cells a p,pw ((L1.set i X).getD i dl).Cells ((L1.set i X).getD i dl).Wrap a d⟩=L1.set i ⟨pl (L1.getD i dl).Cells a p,pw (L1.getD i dl).Cells (L1.getD i dl).Wrap a d⟩:=by
  intro a d _ g1 g2 g3 p hpl;rw [hg,List.set_set]
  congr 1
  rw [←hX];simp only;have o1:=xl (l:=(L1.getD i dl).Cells) (p:=dm (1:Nat) (fx (cl2 p1 t1 W).2)) (p':=p) g1 (by omega) (by omega);have o2:=Ar (l:=(L1.getD i dl).Cells) (w:=(L1.getD i dl).Wrap) (p:=dm (1:Nat) (fx (cl2 p1 t1 W).2)) (p':=p) g1 (by omega) (by omega);rw [hst,hpl] at o2;rw [o1,o2]
 have fin:∀(a d:Nat) (pd pd':Bool),d=1∨d=2→(cl2 p2 t2 W).1=d→a≤c→c+1≤a+d→a+d≤W→rdy q W ks.length d=some (L1,(i:Int),(a:Int),pd,q.Auto)→rdy ⟨L1.set i X,⟨(i:Int),(c:Int),false⟩,q.Auto⟩ W ks'.length d=some (L1.set i X,(i:Int),(a:Int),pd',q.Auto)→
   aT ⟨L1.set i X,⟨(i:Int),(c:Int),false⟩,q.Auto⟩ p2 t2=aT q p2 t2:=by
  intro a d pd pd' g0 g1 g2 g3 g4 b1 b2;rw [jW g0 h b1 hi g4 hL1 hok1 p2 t2 ht2 g1,jW g0 h2 b2 (by omega) g4 (by rw [cp]; omega) hokX p2 t2 ht2 g1];have:=over a d g0 g2 g3 g4 (dm d (fx (cl2 p2 t2 W).2)) (nc d g0 _);unfold BB;rw [this]
 have f1:∀(L:List ah) (d:Nat),d=2→c+1 < W→rp2 d W (L,(i:Int),(c:Int),false,q.Auto)=some (L,(i:Int),(c:Int),false,q.Auto):=by
  intro L d hd hcn;unfold rp2;simp only [ba,bsm];rw [aJ (by omega),ab (by simp only [aq,aS]; omega)]
 rcases hdd with hd1 | hd2
 ·refine fin c 1 false false (.inl rfl) hd1 (ay _) (ay _) hcw r1 ?_;unfold rdy;rw [e2];exact Ap (W:Int) _
 ·by_cases hcn:c+1 < W
  ·refine fin c 2 false false (.inr rfl) hd2 (ay _) (by omega) (by omega) ?_ ?_
   ·unfold rdy;rw [e1];exact f1 _ 2 rfl hcn
   ·unfold rdy;rw [e2];exact f1 _ 2 rfl hcn
  ·have hcW:(c:Int)=(W:Int) - 1:=by omega
   have ew1:w64 ((W:Int) - 1)=((W - 1:Nat):Int):=by rw [aJ (by omega)]; omega
   have ew2:w64 ((W:Int) - 2)=((W - 2:Nat):Int):=by rw [aJ (by omega)]; omega
   cases hau:q.Auto with
   | true=>
    have hpa:∀L:List ah,L.length=ks.length→(L.getD i dl).Cells.length=W→rp2 (2:Nat) W (L,(i:Int),(c:Int),false,true)=
      (cV ⟨L.set i ⟨pl (L.getD i dl).Cells (W - 1) [bl],pw (L.getD i dl).Cells (L.getD i dl).Wrap (W - 1) 1⟩,⟨(i:Int),(c:Int),false⟩,true⟩).bind fun x_60=>(some (x_60.L,x_60.At.Row,x_60.At.Col,x_60.At.Pending,x_60.Auto):Option ((List ah)×Int×Int×Bool×Bool)):=by
     intro L hL hLw;unfold rp2;simp only [ba,bsm];rw [ae (by simp only [aq,aS]; rw [ew1]; omega)];simp only [bw];rw [oZ _ (by decide)];simp only [bsm];rw [show (List.replicate (1:Int).toNat (⟨0,[]⟩:aa))= [bl] from rfl,ew1,sk (by omega) (by omega) (by omega) (by decide) (by omega)];simp only [bsm];rfl
    obtain ⟨L2,i2,a2,pd2,g1,g2,g3,g4,g5⟩:=CN h (.inr rfl) (by omega:2≤W);have hsame:rdy ⟨L1.set i X,⟨(i:Int),(c:Int),false⟩,true⟩ W ks'.length 2=rdy q W ks.length 2:=by
     rw [hau] at e1 e2;unfold rdy;rw [hau,e1,e2];simp only [bsm];rw [hpa _ (by rw [cp]; omega) (by rw [hg]; exact hXc),hpa _ hL1 hcells];rw [over (W - 1) 1 (.inl rfl) (by omega) (by omega) (by omega) [bl] rfl]
    rw [hau] at h2;rw [jW (.inr rfl) h g1 g2 g3 g4 g5 p2 t2 ht2 hd2,jW (.inr rfl) h2 (hsame.trans g1) (by omega) g3 (by omega) g5 p2 t2 ht2 hd2]
   | false=>
    have hna:∀L:List ah,rp2 (2:Nat) W (L,(i:Int),(c:Int),false,q.Auto)=some (L,(i:Int),((W - 2:Nat):Int),false,q.Auto):=by
     intro L;unfold rp2;simp only [ba,bsm];rw [ae (by simp only [aq,aS]; rw [ew1]; omega)];simp only [hau,ak,aU];rw [ew2]
    have key:=fin (W - 2) 2 false false (.inr rfl) hd2 (by omega) (by omega) (by omega) (by unfold rdy; rw [e1]; exact hna _) (by unfold rdy; rw [e2]; exact hna _);rw [hau] at key;exact key
end Go.Proofs.YtclmdpamofdoiaaGreatDoor
namespace Go.Proofs.YtclmdpamofdoiaaGreatDoor
open Go Go.Lt
variable {s:Sto} {k g W:Nat} {l p p':List aa} {w:Bool} {q:ag} {ks:List Nat}
theorem EW {x:Int} (h:vld x=true):gj x=x:=by unfold gj; rw [ae h]
theorem zP (x:Int):gj (gj x)=gj x:=EW (xS x)
theorem De {t:List Int} (ht:t.length≤15) (x:Int):fx (t++ [gj x])=fx (t++ [x]):=by
 unfold fx;rw [aH (by simp; omega),aH (by simp; omega),bO,bO];simp [zP]
theorem Co {d:Nat} (hd:d=1∨d=2) {t:List Int} (ht:t≠ []):dm (d:Int) t=if d=2 then [⟨2,t⟩,⟨3,[]⟩] else [⟨1,t⟩]:=by
 unfold dm;rw [ab ht];rcases hd with rfl | rfl <;> rfl
theorem BG {l0:List aa} {a d:Nat} {t:List Int} (hdd:d=1∨d=2) (h:s.row_Row[k]? = some ⟨pl l0 a (dm d t),w⟩) (hs:Snd (pl l0 a (dm d t))) (hl:l0.length≤1024) (ha:a+d≤l0.length) (ht1:1≤t.length) (ht2:t.length≤15) (x:Int):
  nv s (some k) a x=some (s.sr k ⟨pl l0 a (dm d (fx (t++ [x]))),pw (pl l0 a (dm d t)) w a d⟩,true):=by
 have hne:t≠ []:=fun e=>by rw [e] at ht1; simp at ht1
 have hsl:=nc d hdd t;have hc:pc l0 a (dm d t) a=⟨(d:Int),t⟩:=by
  rw [CQ ⟨ay _,by rw [hsl]; omega⟩,mj,Co hdd hne];rcases hdd with rfl | rfl <;> rfl
 have hkd:kd (pl l0 a (dm d t)) a=(d:Int):=by rw [C4 (by omega),hc]
 have hm:mat (pl l0 a (dm d t)) (a:Int)=some a:=by
  unfold mat;rw [ae (by rw [iN]; omega),bT,hkd,ab (by omega),ab (by omega)]
 unfold nv;rw [EK h hs a (by omega),hm];have hg:(pl l0 a (dm d t)).getD a bl=⟨(d:Int),t⟩:=by rw [ao,qm (by omega),hc]; rfl
 simp only [bsm,cm,cW,hg,hkd];rw [ab (by simp; omega),eP (by simp; omega)];simp only [bsm];have hsl2:=nc d hdd (fx (t++ [x]));rw [CY h hs (by rw [iN]; exact hl) _ (by simp; omega) (by rw [hsl2,iN]; exact ha),xl (ay a) (by omega) (by omega),hsl2];simp only [bsm,Er.isNil]
def zb (b:Int):Bool:=b==1 || b==2 || b==3 || b==4 || b==5 || b==10 || b==11
def b2 (x:am):Bool:= !zb x.Break && (x.East==1 || x.East==2)
theorem zZ (b:Int):lR b=some (zb b):=by
 unfold lR zb;by_cases h1:b=1
 ·subst h1; rfl
 by_cases h2:b=2
 ·subst h2; rfl
 by_cases h3:b=3
 ·subst h3; rfl
 by_cases h4:b=4
 ·subst h4; rfl
 by_cases h5:b=5
 ·subst h5; rfl
 by_cases h6:b=10
 ·subst h6; rfl
 by_cases h7:b=11
 ·subst h7; rfl
 simp [h1,h2,h3,h4,h5,h6,h7]
theorem DM (x:am):∃n,mq x=some n∧(n==2)=b2 x:=by
 unfold mq b2;rw [zZ];simp only [bsm,br]
 cases zb x.Break with
 | true=>exact ⟨0,rfl,rfl⟩
 | false=>
  cases h:(x.East==1 || x.East==2) with
  | true=>exact ⟨2,by simp [h],rfl⟩
  | false=>exact ⟨1,by simp [h],rfl⟩
def gz (y:aV) (r:Int) (x:am):aV:=⟨true,x.Pict,y.wide || (b2 x || (y.some && ((r==65039 && y.pict) || x.Pict || x.Break==6)))⟩
def wz (y:aV):Int:=if y.wide=true then 2 else 1
theorem vh (y:aV) (r:Int) (x:am):bY y r x=some (gz y r x,wz (gz y r x)):=by
 have hw:co y r x=some (b2 x || (y.some && ((r==65039 && y.pict) || x.Pict || x.Break==6))):=by
  unfold co;obtain ⟨n,h1,h2⟩:=DM x;rw [h1];simp only [bsm,h2,ba,br]
  cases b2 x <;> cases y.some <;> rfl
 unfold bY;rw [hw];simp only [bsm,br,ak,aU];unfold wz gz;split <;> simp_all
structure Cv (c:bF) (t:List Int):Prop where
 n:c.n=(t.length:Int)
 h:t.length≤16
 t:(a16 c.text).take t.length=t
theorem xx {c:bF} {t:List Int} (h:Cv c t):bR c=some (decide (t.length=16)):=by
 unfold bR cS;simp only [ak,aU,bsm,h.n]
 congr 1
 rw [cg,aS,an];omega
theorem GR {c:bF} {t:List Int} (h:Cv c t) (h2:t.length < 16) (x:Int):∃c',cu c x=some (c',true)∧Cv c' (t++ [x]):=by
 unfold cu;rw [xx h];simp only [cW,bsm];rw [ab (by simp; omega),h.n,aW (by rw [nO]; exact h2)];simp only [bsm];refine ⟨_,rfl,by simp only; rw [aJ (by omega)]; simp,by simp; omega,?_⟩;simp only;rw [zg,bT,av];simp only [aI,bd];rw [aj (by rw [cp,nO]; exact h2),List.take_set_of_le (ay _),h.t,List.getElem_set_self]
theorem A1 {c:bF} {t:List Int} (h:Cv c t):bQ c=some t:=by
 unfold bQ;simp only [ak,aU,h.n];have:=rC (xs:=a16 c.text) (i:=0) (j:=t.length) (dp _) (by rw [nO]; exact h.h);rw [show ((0:Nat):Int)=0 by rfl] at this;rw [this];simp only [bsm,nH,zj,h.t];unfold fO;rw [eP (by have:=h.h; simp; omega)];rfl
end Go.Proofs.YtclmdpamofdoiaaGreatDoor
namespace Go.Proofs.YtclmdpamofdoiaaGreatDoor
open Go Go.Lt
variable {s C:Sto} {k g W j:Nat} {w:Bool} {q:ag} {ks:List Nat}
def Sto.sc (s:Sto) (j:Nat) (x:bj):Sto:={ s with widen_Cluster:=s.widen_Cluster.set j x}
theorem tl {x:bj} (h:j < s.widen_Cluster.length):s.set_widen_Cluster j x=some (s.sc j x):=by
 unfold Sto.set_widen_Cluster;rw [ae h];rfl
theorem qk {x:bj} (h:j < s.widen_Cluster.length):(s.sc j x).widen_Cluster[j]? = some x:=by simp [Sto.sc,h]
theorem wy (s:Sto) (j:Nat) (x y:bj):(s.sc j x).sc j y=s.sc j y:=by simp [Sto.sc]
theorem Gw.sc (h:Gw s g ks W) (j:Nat) (x:bj):Gw (s.sc j x) g ks W:=⟨h.g,h.r,h.h1,h.h2,h.w1,h.w2⟩
theorem Gw.addc (h:Gw s g ks W) (x:bj):Gw (s.add_widen_Cluster x) g ks W:=⟨h.g,h.r,h.h1,h.h2,h.w1,h.w2⟩
theorem Pv.sc (h:Pv s s k g W q ks) (j:Nat) (x:bj):Pv (s.sc j x) (s.sc j x) k g W q ks:=
 ⟨h.p,h.g.sc j x,h.nd,h.l,rfl,h.f.rgp ⟨rfl,rfl,rfl⟩ ⟨rfl,rfl,rfl⟩⟩
theorem Pv.addc (h:Pv s s k g W q ks) (x:bj):Pv (s.add_widen_Cluster x) (s.add_widen_Cluster x) k g W q ks:=
 ⟨h.p,h.g.addc x,h.nd,h.l,rfl,h.f.rgp ⟨rfl,rfl,rfl⟩ ⟨rfl,rfl,rfl⟩⟩
theorem tz {a b:Sto} (h:a.oth=b.oth):a.widen_Cluster=b.widen_Cluster:=by
 have:=mM Sto.widen_Cluster h;exact this
structure Wc (s:Sto) (j:Nat) (c:ai) (y:aV) (t:List Int) (n:Int):Prop where
 x:∃b,s.widen_Cluster[j]? = some ⟨c,n,b,y⟩∧Cv b t
theorem Wc.lt {c:ai} {y:aV} {t:List Int} {n:Int} (h:Wc s j c y t n):j < s.widen_Cluster.length:=by
 obtain ⟨b,h,_⟩:=h.x;exact cK h
theorem Ek (r:Int):((dJ r).bind fun x_6=>if (!x_6)=true then (some (65533):Option (Int)) else (some (r):Option (Int)))=some (gj r):=by
 rw [ot];unfold gj
 cases vld r <;> rfl
theorem DS {c:ai} {y:aV} {t:List Int} {n:Int} (h:Wc s j c y t n) (ht:t.length < 16) (r:Int) (x:am):
  ∃b',fc s (some j) r x=some (s.sc j ⟨c,n,b',gz y (gj r) x⟩,wz (gz y (gj r) x))∧Cv b' (t++ [gj r]):=by
 have hj:=h.lt;obtain ⟨b,hb,hv⟩:=h.x;obtain ⟨b',h1,h2⟩:=GR hv ht (gj r);refine ⟨b',?_,h2⟩;unfold fc;rw [Ek];simp only [bsm,hb,h1];rw [tl hj];simp only [bsm,vh];rw [tl (by simp [Sto.sc]; exact hj),wy];rfl
theorem Fh (t:List Int) (h:2≤W):cl2 2 t W=(2,t):=by
 unfold cl2;rw [ab (by omega)];rfl
theorem A2 (t:List Int) (h:1≤W):cl2 1 t W=(1,t):=by
 unfold cl2;rw [ab (by omega)];rfl
theorem A3 (t:List Int):cl2 2 t 1=(1,[65533]):=by
 unfold cl2;rw [ae (by decide)]
structure On (C s:Sto) (k g W H j:Nat) (q0:ag) (y:aV) (t:List Int) (q:ag) (c:ai) (ks:List Nat):Prop where
 v:Pv s s k g W q ks
 f:Fr C s k g ks
 w:Wc s j c y t (wz y)
 n:ks.length=H
 p:aT q0 (wz y) t=some (q,c)
theorem DK {q0:ag} (h:Pv C s k g W q0 ks) (r:Int) (x:am):∃s' q' c ks',kP s (some k) r x=some (s',some s.widen_Cluster.length)∧
  On C s' k g W ks.length s.widen_Cluster.length q0 (gz ⟨false,false,false⟩ (gj r) x) [gj r] q' c ks'∧∃z,s'.oth=(s.add_widen_Cluster z).oth:=by
 unfold kP;simp only [bI,cW,bsm,h.p,ak,aU];have h0:Wc (s.add_widen_Cluster ⟨⟨0,0,false⟩,0,⟨(0,0,0,0,0,0,0,0,0,0,0,0,0,0,0,0),0⟩,⟨false,false,false⟩⟩) s.widen_Cluster.length ⟨0,0,false⟩ ⟨false,false,false⟩ [] 0:=
  ⟨⟨⟨(0,0,0,0,0,0,0,0,0,0,0,0,0,0,0,0),0⟩,by simp [Sto.add_widen_Cluster],⟨rfl,by simp,rfl⟩⟩⟩
 obtain ⟨b,h1,h2⟩:=DS h0 (by simp) r x;have hlt:=h0.lt;rw [h1];have hv:=(h.self.addc ⟨⟨0,0,false⟩,0,⟨(0,0,0,0,0,0,0,0,0,0,0,0,0,0,0,0),0⟩,⟨false,false,false⟩⟩).sc s.widen_Cluster.length ⟨⟨0,0,false⟩,0,b,gz ⟨false,false,false⟩ (gj r) x⟩;have hR:Rgp s (s.add_widen_Cluster ⟨⟨0,0,false⟩,0,⟨(0,0,0,0,0,0,0,0,0,0,0,0,0,0,0,0),0⟩,⟨false,false,false⟩⟩):=⟨rfl,rfl,rfl⟩;have hA:∀z,((s.add_widen_Cluster ⟨⟨0,0,false⟩,0,⟨(0,0,0,0,0,0,0,0,0,0,0,0,0,0,0,0),0⟩,⟨false,false,false⟩⟩).sc s.widen_Cluster.length z)=s.add_widen_Cluster z:=fun z=>by
  simp [Sto.sc,Sto.add_widen_Cluster]
 generalize hs1:s.add_widen_Cluster ⟨⟨0,0,false⟩,0,⟨(0,0,0,0,0,0,0,0,0,0,0,0,0,0,0,0),0⟩,⟨false,false,false⟩⟩=s1 at *;simp only [bsm];rw [qk hlt];simp only [bsm];rw [tl (by simp [Sto.sc]; exact hlt),wy];simp only [bsm];rw [A1 h2];simp only [bsm,bN];have hv2:=hv.sc s.widen_Cluster.length ⟨⟨0,0,false⟩,wz (gz ⟨false,false,false⟩ (gj r) x),b,gz ⟨false,false,false⟩ (gj r) x⟩;simp only [wy] at hv2;obtain ⟨s3,q3,ks3,i,a,p1,p2,p3,p4,p5,p6,p7,_⟩:=zI hv2 (wz (gz ⟨false,false,false⟩ (gj r) x)) [gj r] (by simp);rw [p2];have hcl:s3.widen_Cluster=(s1.sc s.widen_Cluster.length ⟨⟨0,0,false⟩,wz (gz ⟨false,false,false⟩ (gj r) x),b,gz ⟨false,false,false⟩ (gj r) x⟩).widen_Cluster:=tz p4.o;have hg3:s3.widen_Cluster[s.widen_Cluster.length]? = some ⟨⟨0,0,false⟩,wz (gz ⟨false,false,false⟩ (gj r) x),b,gz ⟨false,false,false⟩ (gj r) x⟩:=by
  rw [hcl];exact qk hlt
 simp only [bsm];rw [hg3];simp only [bsm];rw [tl (cK hg3)];refine ⟨_,q3,_,ks3,rfl,⟨p4.self.sc _ _,?_,⟨_,qk (cK hg3),by simpa using h2⟩,p5,p3⟩,⟨⟨(i:Int),(a:Int),false⟩,wz (gz ⟨false,false,false⟩ (gj r) x),b,gz ⟨false,false,false⟩ (gj r) x⟩,?_⟩
 ·exact (h.f.trans h.oG h.oR (p4.f.rgp (C':=s) ⟨hR.symm.r,hR.symm.g,hR.symm.p⟩ (Rgp.self _))).rgp (Rgp.self _) ⟨rfl,rfl,rfl⟩
 ·rw [←hA];have:=mM (fun y:Sto=>y.sc s.widen_Cluster.length ⟨⟨(i:Int),(a:Int),false⟩,wz (gz ⟨false,false,false⟩ (gj r) x),b,gz ⟨false,false,false⟩ (gj r) x⟩) p4.o;refine this.trans ?_;show (((s1.sc _ _).sc _ _).oth)=_;rw [wy]
theorem xR (y:aV):(y.wide=false∧wz y=1)∨(y.wide=true∧wz y=2):=by
 unfold wz;cases y.wide
 ·exact .inl ⟨rfl,rfl⟩
 ·exact .inr ⟨rfl,rfl⟩
theorem AL {y:aV} (h:y.wide=true) (r:Int) (x:am):(gz y r x).wide=true:=by
 unfold gz;simp [h]
theorem Fi (p1:Int) (t t':List Int) (W:Nat):(cl2 p1 t W).1=(cl2 p1 t' W).1:=by
 unfold cl2;split <;> rfl
theorem BL {q0:ag} {y:aV} {t:List Int} {c:ai} {H:Nat} (h:On C s k g W H j q0 y t q c ks) (ht:t.length=16) (r:Int) (x:am):
  dH s (some j) (some k) r x=some (s,false):=by
 obtain ⟨b,hb,hv⟩:=h.w.x;unfold dH;simp only [bI,cW,bsm,h.v.p,hb,xx hv,ht];rfl
theorem EO {C0 s0:Sto} {ks0:List Nat} {q0:ag} {H:Nat} (h0:Pv C0 s0 k g W q0 ks0) (hH:ks0.length=H) {y:aV} {t:List Int} {c:ai} (h:On C s k g W H j q0 y t q c ks) (ht1:1≤t.length) (ht:t.length < 16) (hvt:∀x∈t,vld x=true) (r:Int) (x:am):
  ∃s' q' c' ks',dH s (some j) (some k) r x=some (s',true)∧On C s' k g W H j q0 (gz y (gj r) x) (t++ [gj r]) q' c' ks'∧∃z,s'.oth=(s.sc j z).oth:=by
 have hj:=h.w.lt;obtain ⟨b',e1,e2⟩:=DS h.w ht r x;obtain ⟨b,hb,hv⟩:=h.w.x;have w1:=h0.g.w1;have w2:=h0.g.w2;unfold dH;have hfull:decide (t.length=16)=false:=by simp; omega
 simp only [bI,cW,bsm,h.v.p,hb,xx hv,hfull,ak,aU,e1];have htl:(t++ [gj r]).length≤1000000:=by simp; omega
 generalize hy':gz y (gj r) x=y' at *;rw [qk hj];simp only [bsm];rw [tl (by simp [Sto.sc]; exact hj),wy];simp only [bsm];have hv2:=h.v.sc j ⟨c,wz y',b',y'⟩;have hfr:Fr C (s.sc j ⟨c,wz y',b',y'⟩) k g ks:=h.f.rgp (Rgp.self _) ⟨rfl,rfl,rfl⟩;by_cases hw:wz y'=wz y
 ·rw [ab (by simp [hw])];simp only [hv2.p,bsm];rw [jc hv2.g];simp only [bsm];obtain ⟨hdd,hdw⟩:=DB (wz y) t w1;obtain ⟨L2,i,a,pd,r1,r2,r3,r4,r5⟩:=CN h0 hdd hdw;have hq:=jW hdd h0 r1 r2 r3 r4 r5 (wz y) t (by omega) rfl;have hq':=jW hdd h0 r1 r2 r3 r4 r5 (wz y) (t++ [gj r]) htl (Fi _ _ _ _);rw [h.p] at hq;simp only [aK,fM] at hq;obtain ⟨hq1,rfl⟩:=hq;by_cases hle:wz y'≤(W:Int)
  ·rw [ae (by simpa using hle)];have hcl:∀t2:List Int,cl2 (wz y) t2 W=((wz y).toNat,t2):=fun t2=>by
    rw [hw] at hle;rcases xR y with ⟨_,q1⟩ | ⟨_,q1⟩
    ·rw [q1]; exact A2 t2 w1
    ·rw [q1]; exact Fh t2 (by omega)
   rw [hcl] at hq1 r3 hdd hdw r1 hq';rw [hcl] at hq';simp only at hq1 r3 hdd hdw r1 hq';generalize (wz y).toNat=d at *;have hik:i < ks.length:=by rw [h.n,←hH]; exact r2
   rw [eW hv2.g hik];simp only [bsm];have hfx:fx t=t:=HQ hvt (by omega);obtain ⟨⟨rc,rw_⟩,hr0,hsn,hlw⟩:=h.v.g.at hik;simp only at hsn hlw;have hlt:i < L2.length:=by rw [r4]; exact r2
   have hat:=h.v.at hik;rw [nt hr0] at hat;have hqL:q.L=L2.set i ⟨pl (L2.getD i dl).Cells a (dm d (fx t)),pw (L2.getD i dl).Cells (L2.getD i dl).Wrap a d⟩:=by rw [hq1]; rfl
   have hgi:q.L[i]'(by rw [h.v.len]; exact hik)=⟨pl (L2.getD i dl).Cells a (dm d (fx t)),pw (L2.getD i dl).Cells (L2.getD i dl).Wrap a d⟩:=by
    have:q.L[i]? = some ⟨pl (L2.getD i dl).Cells a (dm d (fx t)),pw (L2.getD i dl).Cells (L2.getD i dl).Wrap a d⟩:=by rw [hqL,bh hlt]
    rw [af (by rw [h.v.len]; exact hik)] at this;exact bi this
   rw [hgi] at hat;simp only [ah.mk.injEq] at hat;obtain ⟨hrc,hrw⟩:=hat;subst hrc hrw;have hcells:(L2.getD i dl).Cells.length=W:=by
    rw [gdl hlt];exact (r5 _ (ax hlt)).2
   have hq1A:q.At=ca ⟨(i:Int),(a:Int),false⟩ d W q0.Auto∧q.Auto=q0.Auto:=by rw [hq1]; exact ⟨rfl,rfl⟩
   generalize hl0:(L2.getD i dl).Cells=l0 at *;generalize hw0:(L2.getD i dl).Wrap=w0 at *;rw [hfx] at hr0 hsn hqL hlw hgi;have hr0':(s.sc j ⟨⟨(i:Int),(a:Int),false⟩,wz y',b',y'⟩).row_Row[ks[i]]? = some ⟨pl l0 a (dm d t),pw l0 w0 a d⟩:=hr0;have hst:=nc d hdd t;have hst2:=nc d hdd (fx (t++ [r]));rw [BG hdd hr0' hsn (by omega) (by omega) ht1 (by omega) r];simp only [bsm];have o1:=xl (l:=l0) (p:=dm d t) (p':=dm d (fx (t++ [r]))) (ay a) (by omega) (by omega);have o2:=Ar (l:=l0) (w:=w0) (p:=dm d t) (p':=dm d (fx (t++ [r]))) (ay a) (by omega) (by omega);rw [hst,hst2] at o2;have hsn2:Snd (pl l0 a (dm d (fx (t++ [r])))):=by
    rw [←o1];exact hsn.paint (zq _ _) (by rw [iN]; omega)
   have hv4:=hv2.row hik (r:=⟨pl l0 a (dm d (fx (t++ [r]))),pw (pl l0 a (dm d t)) (pw l0 w0 a d) a d⟩) hsn2 (by simp only [iN]; exact hcells);refine ⟨_,_,_,ks,rfl,⟨hv4.self,hfr.sr (ax hik) _,⟨b',qk hj,e2⟩,h.n,?_⟩,_,rfl⟩;rw [hw,hq'];have hfx2:=De (t:=t) (by omega) r;rw [o2,hqL,hq1A.1,hq1A.2,List.set_set,←hfx2];unfold BB;rw [hl0,hw0]
  ·rw [ab (by simpa using hle)];have hW:W=1:=by
    rcases xR y' with ⟨_,q1⟩ | ⟨_,q1⟩ <;> omega
   refine ⟨_,q,_,ks,rfl,⟨hv2,hfr,⟨b',qk hj,e2⟩,h.n,?_⟩,_,rfl⟩;rw [hw,hq'];have h2:wz y=2:=by
    rcases xR y with ⟨_,q1⟩ | ⟨_,q1⟩
    ·rw [hw,q1] at hle; omega
    ·exact q1
   rw [hq1,h2,hW,A3,A3]
 ·rw [ae (by simpa using hw)];have hy1:wz y=1∧wz y'=2:=by
   rcases xR y with ⟨_,q1⟩ | ⟨q1,q2⟩
   ·rcases xR y' with ⟨_,q3⟩ | ⟨_,q3⟩
    ·rw [q1,q3] at hw; exact absurd rfl hw
    ·exact ⟨q1,q3⟩
   ·have:=AL q1 (gj r) x;rw [hy'] at this;unfold wz at hw;rw [this,q1] at hw;exact absurd rfl hw
  simp only [hv2.p,bsm];rw [iH (cK hv2.p)];simp only [bsm];have hv3:=hv2.set c q.Auto;have hc3:((s.sc j ⟨c,wz y',b',y'⟩).sp k ⟨some g,c,q.Auto⟩).widen_Cluster[j]? = some ⟨c,wz y',b',y'⟩:=qk hj;rw [hc3];simp only [bsm];rw [A1 e2];simp only [bsm];obtain ⟨s4,q4,ks4,i,a,p1,p2,p3,p4,p5,p6,p7,_⟩:=zI hv3 (wz y') (t++ [gj r]) htl;rw [p2];simp only [bsm];have hc4:s4.widen_Cluster[j]? = some ⟨c,wz y',b',y'⟩:=by
   rw [tz p4.o];exact hc3
  rw [hc4];simp only [bsm];rw [tl (cK hc4)];refine ⟨_,q4,_,ks4,rfl,⟨p4.self.sc _ _,?_,⟨b',qk (cK hc4),e2⟩,p5.trans h.n,?_⟩,⟨⟨(i:Int),(a:Int),false⟩,wz y',b',y'⟩,?_⟩
  ·have h3:=p4.f;have:=h.f.trans h.v.oG h.v.oR (h3.rgp (C':=s) ⟨rfl,rfl,rfl⟩ (Rgp.self _));exact this.rgp (Rgp.self _) ⟨rfl,rfl,rfl⟩
  ·rw [←p3];exact (BC h0 (by omega) htl (by rw [hy1.1,A2 _ w1]) h.p h.v (h.n.trans hH.symm)).symm
  ·have:=mM (fun y:Sto=>y.sc j ⟨⟨(i:Int),(a:Int),false⟩,wz y',b',y'⟩) p4.o;refine this.trans ?_;show (((s.sc _ _).sc _ _).oth)=_;rw [wy]
def gf (t:List Int) (x:List am):aV:=(t.zip x).foldl (fun y p=>gz y p.1 p.2) ⟨false,false,false⟩
theorem xQ {α β:Type}:∀(t:List α) (x:List β) (r:α) (h:t.length < x.length),(t++ [r]).zip x=t.zip x++ [(r,x[t.length])]
 | [],[],_,h=>by simp at h
 | [],b :: x,r,_=>by simp
 | a :: t,[],_,h=>by simp at h
 | a :: t,b :: x,r,h=>by
  have:=xQ t x r (by simpa using h);simp only [cZ,xL,this,aI,G3]
theorem uA {t:List Int} {x:List am} (h:t.length < x.length) (r:Int):gf (t++ [r]) x=gz (gf t x) r x[t.length]:=by
 unfold gf;rw [xQ t x r h,jH];rfl
theorem xP {α β:Type}:∀(t:List α) (x:List β) (n:Nat),t.length≤n→t.zip (x.take n)=t.zip x
 | [],_,_,_=>rfl
 | _ :: _,[],_,_=>by simp
 | _ :: _,_ :: _,0,h=>by simp at h
 | a :: t,b :: x,n+1,h=>by
  rw [Iy,xL,xL,xP t x n (by simpa using h)]
theorem EU (t:List Int) (x:List am) {n:Nat} (h:t.length≤n):gf t (x.take n)=gf t x:=by
 unfold gf;rw [xP _ _ _ h]
theorem zF (b:Int) (zs:List Int) (hz:zs.length≤1000):∃t,cv (σ:=Int) (τ:=Int ⊕ Unit) (((zs.length:Int) - 0).toNat+1) (fun s_9=>
 if (decide (s_9 < (zs.length:Int)))=true then
 (idx zs s_9).bind fun x_19=>
 if (b==x_19)=true then
 some (.inr (.inl 0))
 else
 some (.inl ((w64 (s_9+1))))
 else
 some (.inr (.inr ()))) (0)=some t∧(match t with | .inl n=>n=0∧b∈zs | .inr _=>b∉zs):=by
 refine eG (n:=zs.length) (fun i s=>s=(i:Int)∧∀k (h:k < zs.length),k < i→zs[k]≠b) (fun t:Int ⊕ Unit=>match t with | .inl n=>n=0∧b∈zs | .inr _=>b∉zs) (fun i s hi he=>?_) (fun s he=>?_) ⟨rfl,fun k h hk=>by omega⟩ (by omega)
 ·obtain ⟨e,hI⟩:=he;subst e;rw [ae (dlt hi),aW hi,ci hi (by omega)];simp only [bsm];by_cases hx:b=zs[i]
  ·rw [ae (by simpa using hx)];exact .inr ⟨_,rfl,rfl,hx▸ ax hi⟩
  ·rw [ab (by simpa using hx)];refine .inl ⟨_,rfl,rfl,fun k h hk=>?_⟩;by_cases hki:k=i
   ·subst hki; exact fun e=>hx e.symm
   ·exact hI k h (by omega)
 ·obtain ⟨e,hI⟩:=he;subst e;refine ⟨.inr (),by rw [ab (by simp)],fun hb=>?_⟩;obtain ⟨i,hi,e⟩:=List.mem_iff_getElem.1 hb;exact hI i hi hi e
theorem CL (x:am):∃n,gO x=some n∧(n==2)=b2 x:=by
 unfold gO;obtain ⟨t,h1,h2⟩:=zF x.Break [1,2,3,4,5,10,11] (by decide);rw [h1];have hz:zb x.Break=true↔x.Break∈([1,2,3,4,5,10,11]:List Int):=by simp [zb]; omega
 unfold b2
 cases t with
 | inl n=>
  obtain ⟨rfl,hm⟩:=h2;exact ⟨0,rfl,by rw [hz.2 hm]; rfl⟩
 | inr u=>
  have hf:zb x.Break=false:=by rw [←tf,hz]; exact h2
  simp only [br,bsm,hf]
  cases h:(x.East==1 || x.East==2) with
  | true=>exact ⟨2,by simp,rfl⟩
  | false=>exact ⟨1,by simp,rfl⟩
theorem Hr (t:List Int) (x:List am) (h:t.length≤x.length) (ht:t.length≤1000000):gk t x=some (wz (gf t x)):=by
 unfold gk;have key:∀i,i≤t.length→(gf (t.take i) x).some=decide (0 < i)∧(∀(h1:0 < i) (h2:i - 1 < x.length),(gf (t.take i) x).pict=x[i - 1].Pict):=fun i hi=>by
  cases i with
  | zero=>exact ⟨rfl,fun h=>absurd h (by decide)⟩
  | succ i=>
   have hl:(t.take i).length=i:=by rw [az]; omega
   rw [aj (by omega),uA (by rw [hl]; omega)];exact ⟨by simp [gz],fun _ _=>by simp [gz,hl]⟩
 have mono:∀i,i≤t.length→(gf (t.take i) x).wide=true→(gf t x).wide=true:=fun i hi hw=>by
  have:∀m,i≤m→m≤t.length→(gf (t.take m) x).wide=true:=by
   intro m
   induction m with
   | zero=>intro h1 _; rw [show i=0 by omega] at hw; exact hw
   | succ m ih=>
    intro h1 h2;by_cases e:i=m+1
    ·rw [←e]; exact hw
    ·rw [aj (by omega),uA (by rw [az]; omega)];exact AL (ih (by omega) (by omega)) _ _
  have:=this t.length hi (ay _)
  rwa [aH (ay _)] at this
 refine gF (n:=t.length) (fun i s=>s=(i:Int)∧(gf (t.take i) x).wide=false) (fun u=>match u with | .inl n=>n=2∧(gf t x).wide=true | .inr _=>(gf t x).wide=false) (fun i s hi ⟨e,hI⟩=>?_) (fun s ⟨e,hI⟩=>?_) ⟨rfl,rfl⟩ (by omega) (fun u hu=>?_)
 ·subst e;have e5:=ci hi (by omega);have hx:i < x.length:=by omega
  obtain ⟨n,h1,h2⟩:=CL x[i];rw [ae (dlt hi),aW hx];simp only [bsm,h1,h2,e5,aW hi];have hl:(t.take i).length=i:=by rw [az]; omega
  have hs:(gf (t.take (i+1)) x).wide=(b2 x[i] || (decide (0 < i) && ((t[i]==65039 && (gf (t.take i) x).pict) || x[i].Pict || x[i].Break==6))):=by
   rw [aj hi,uA (by rw [hl]; omega)];simp only [gz,hI,di,(key i (by omega)).1,hl]
  have hd:∀(A:Option Bool),(∀(h0:0 < i),A=some ((t[i]==65039 && x[i - 1].Pict) || x[i].Pict || x[i].Break==6))→
    (orE (b2 x[i]) ((bD (decide ((i:Int) > 0)) A).bind fun d_21=>some d_21))=some (gf (t.take (i+1)) x).wide:=fun A hA=>by
   rw [hs];by_cases h0:0 < i
   ·rw [hA h0,show decide ((i:Int) > 0)=true by simp; omega,gH,show decide (0 < i)=true by simpa using h0,(key i (by omega)).2 h0 (by omega)];simp only [bsm,br,dh]
   ·rw [show decide ((i:Int) > 0)=false by simp; omega,iS,show decide (0 < i)=false by simpa using h0];simp only [bsm,br,gY]
  rw [hd _ (fun h0=>by
   rw [show w64 ((i:Int) - 1)=((i - 1:Nat):Int) by rw [aJ (by omega)]; omega,aW (show i - 1 < x.length by omega)];simp only [bsm,ba,br])]
  simp only [bsm]
  cases hw:(gf (t.take (i+1)) x).wide with
  | true=>exact .inr ⟨.inl 2,rfl,rfl,mono (i+1) (by omega) hw⟩
  | false=>exact .inl ⟨_,rfl,rfl,rfl⟩
 ·subst e;rw [aH (ay _)] at hI;exact ⟨.inr (),by rw [ab (by simp)],hI⟩
 ·unfold wz
  cases u with
  | inl n=>
   obtain ⟨rfl,hw⟩:=hu;rw [hw];rfl
  | inr u=>
   simp only at hu;rw [hu];rfl
end Go.Proofs.YtclmdpamofdoiaaGreatDoor
namespace Go.Proofs.YtclmdpamofdoiaaGreatDoor
open Go Go.Lt
variable {s C:Sto} {g k W:Nat} {ks:List Nat} {q:ag}
def bls (W H:Nat):List ah:=List.replicate H ⟨List.replicate W bl,false⟩
theorem DH {W H:Nat} (w1:1≤W) (w2:W≤1024) (h1:1≤H):∀i (h:i < (bls W H).length),1≤(bls W H)[i].Cells.length∧(bls W H)[i].Cells.length≤1024∧Snd (bls W H)[i].Cells∧(bls W H)[i].Cells.length=((bls W H)[0]'(by omega)).Cells.length:=fun i h=>by
 have e:∀j (hj:j < (bls W H).length),(bls W H)[j]=⟨List.replicate W bl,false⟩:=fun j hj=>by
  unfold bls;exact iT _
 rw [e i h,e 0 (by omega)];simp only [lx];exact ⟨w1,w2,th W,trivial⟩
theorem yD (n m:Int):mp s n m=some ((s.addr ((bls (sd n) (sd m)).map lr)).add_grid_Grid ⟨(List.range' s.row_Row.length (sd m)).map some⟩,some s.grid_Grid.length):=by
 have hsd:=uJ m;have hL:∀i,((bls (sd n) (sd m)).map lr).take i=List.replicate (min i (sd m)) ⟨List.replicate (sd n) bl,false⟩:=fun i=>by
  unfold bls;rw [List.map_replicate,List.take_replicate];rfl
 have hlen:((bls (sd n) (sd m)).map lr).length=sd m:=by simp [bls]
 have hH:bb 1 (aO m 1024)=(sd m:Int):=by
  rw [dW,gZ];unfold sd;omega
 unfold mp;rw [hH];simp only [bsm];obtain ⟨t,h3,h4⟩:=eG (σ:=Int×Sto) (τ:=Sto) (n:=sd m) (fuel:=(((sd m:Nat):Int) - 0).toNat+1) (s:=(0,s.add_grid_Grid (⟨([]:List (Option Nat))⟩:bX)))
  (fun i q=>q=((i:Int),(s.addr (((bls (sd n) (sd m)).map lr).take i)).add_grid_Grid ⟨(List.range' s.row_Row.length i).map some⟩))
  (fun t=>t=(s.addr ((bls (sd n) (sd m)).map lr)).add_grid_Grid ⟨(List.range' s.row_Row.length (sd m)).map some⟩)
  (step:=fun s_12=>
 if (decide (s_12.1 < ((sd m:Nat):Int)))=true then
 (s_12.2.grid_Grid[s.grid_Grid.length]?).bind fun o_19=>
 (ky s_12.2 n).bind fun x_21=>
 (app o_19.rows ([x_21.2]:List (Option Nat))).bind fun x_23=>
 (x_21.1.set_grid_Grid s.grid_Grid.length (⟨x_23⟩:bX)).bind fun s_26001=>
 some (.inl ((w64 (s_12.1+1)),s_26001))
 else
 some (.inr (s_12.2)))
  (fun i q hi e=>by
   subst e;refine .inl ⟨_,?_,rfl⟩;have e5:w64 ((i:Int)+1)=((i+1:Nat):Int):=by rw [aJ (by omega)]; simp
   have hd:decide ((i:Int) < ((sd m:Nat):Int))=true:=by simp; exact hi
   have hg:((s.addr (((bls (sd n) (sd m)).map lr).take i)).add_grid_Grid ⟨(List.range' s.row_Row.length i).map some⟩).grid_Grid[s.grid_Grid.length]? = some ⟨(List.range' s.row_Row.length i).map some⟩:=by
    simp [Sto.add_grid_Grid,Sto.addr]
   simp only [hd,bw];rw [hg,xi];simp only [bsm];rw [eP (by simp; omega)];simp only [bsm];have hlt:s.grid_Grid.length < (((s.addr (((bls (sd n) (sd m)).map lr).take i)).add_grid_Grid ⟨(List.range' s.row_Row.length i).map some⟩).add_row_Row ⟨List.replicate (sd n) bl,false⟩).grid_Grid.length:=by
    simp [Sto.add_grid_Grid,Sto.addr,Sto.add_row_Row]
   rw [xX hlt,e5];simp only [bsm]
   congr 4
   refine F3 ?_ ?_ rfl
   ·simp only [Sto.sg,Sto.add_grid_Grid,Sto.add_row_Row,Sto.addr];rw [hL,hL,cC (by omega),cC (by omega),Ip,aF]
   ·simp only [Sto.sg,Sto.add_grid_Grid,Sto.add_row_Row,Sto.addr];rw [nR _ _ (ay _),mj,qG,IU,bO,hL,cC (by omega)];simp)
  (fun q e=>⟨q.2,by subst e; simp,by subst e; simp only; rw [aH (by omega)]⟩)
  (by simp [zf]) (by omega)
 subst h4;rw [h3];rfl
theorem Fr.of_grid (xs:List bp) (x:bX) {n:Nat} (hn:n=s.grid_Grid.length) {m:Nat}:Fr s ((s.addr xs).add_grid_Grid x) k n (List.range' s.row_Row.length m):=by
 subst hn;refine Fr.new (ay _) ?_ ?_ (fun _ _=>rfl) (fun j hj=>?_) (fun j hj=>?_) (ay _) (fun r hr=>(List.mem_range'_1.1 hr).1)
 ·simp [Sto.add_grid_Grid,Sto.addr]
 ·simp [Sto.add_grid_Grid,Sto.addr]
 ·simp only [Sto.add_grid_Grid,Sto.addr]; exact aB hj
 ·simp only [Sto.add_grid_Grid,Sto.addr]; exact aB hj
theorem Gw.addp (h:Gw s g ks W) (x:bq):Gw (s.add_place_Pen x) g ks W:=⟨h.g,h.r,h.h1,h.h2,h.w1,h.w2⟩
theorem BD (n m:Int):∃s' ks,mG s n m=some (s',some s.place_Pen.length)∧Pv s s' s.place_Pen.length s.grid_Grid.length (sd n) ⟨bls (sd n) (sd m),⟨0,0,false⟩,true⟩ ks:=by
 have h1:=uJ n;have h2:=uJ m;have hb:(bls (sd n) (sd m)).length=sd m:=by simp [bls]
 have h0:((bls (sd n) (sd m))[0]'(by omega)).Cells.length=sd n:=by simp [bls]
 obtain ⟨g1,g2⟩:=FK (s:=s) (L:=bls (sd n) (sd m)) (by omega) (by omega) (DH h1.1 h1.2 h2.1);rw [h0] at g1;rw [hb] at g1 g2;unfold mG;rw [yD];refine ⟨_,_,rfl,⟨?_,g1.addp _,?_,?_,rfl,(Fr.of_grid _ _ rfl).addp _⟩⟩
 ·simp [Sto.add_place_Pen,Sto.add_grid_Grid,Sto.addr]
 ·exact I6
 ·exact g2
def sil (r:Int):Bool:=(decide (0≤r) && decide (r < 32)) || (decide (127≤r) && decide (r≤159))
theorem zr (r:Int):gV r=some (sil r):=by
 simp only [gV,ba,br,bsm,sil,zO]
theorem nj (r:Int):dS r=some (sil r):=by
 simp only [dS,ba,br,bsm,sil,zO,aK];rw [cg];simp;omega
theorem wE (r:Int) (h:r≠13∧r≠10∧r≠8):dK q r=some (q,sil r):=by
 unfold dK;rw [ab (by simpa using h.1)];simp only [bsm];rw [ab (by simpa using h.2.1)];simp only [bsm];rw [ab (by simpa using h.2.2)];simp only [bsm];rw [nj];rfl
theorem Fb (h:Pv C s k g W q ks) (r:Int):∃s' q' ks',oH s (some k) r=some (s',sil r)∧dK q r=some (q',sil r)∧Pv C s' k g W q' ks'∧ks'.length=ks.length∧(Hd q.At W ks.length→Hd q'.At W ks.length):=by
 have w1:=h.g.w1;have w2:=h.g.w2;unfold oH;rw [zr];simp only [bsm,bI,cW,h.p];by_cases hs:sil r=true
 ·rw [hs];simp only [cm,ak,aU];rw [jc h.g,eH h.g];simp only [bsm];rw [oL _ h.g.w1 h.g.w2 h.g.h1 h.g.h2];have hd:=sx q.At h.g.w1 h.g.h1;have hh:=oy h;by_cases h13:r=13
  ·subst h13;simp only [bsm,kr,bw,dt];rw [iH (cK h.p)];refine ⟨_,_,ks,rfl,?_,h.set ⟨(hc q.At W ks.length).Row,0,false⟩ q.Auto,rfl,fun _=>⟨hd.rr,by simp only; omega,fun e=>by cases e⟩⟩;unfold dK;rw [hh,nj,hs];rfl
  by_cases h10:r=10
  ·subst h10;obtain ⟨s',q',ks',a1,a2,v,hn,hnd,_⟩:=uS h;simp only [bsm];rw [ab (by decide),ae (by decide),a1];refine ⟨s',q',ks',rfl,?_,v,hn,fun _=>hnd⟩;unfold dK;rw [ab (by decide)];simp only [bsm];rw [ae (by decide),show (⟨q.L,⟨q.At.Row,q.At.Col,q.At.Pending⟩,q.Auto⟩:ag)=q from rfl,a2];simp only [bsm];rw [ab (by decide),nj,hs];rfl
  by_cases h8:r=8
  ·subst h8;have hcc:=hd.cc;have hb:kW (hc q.At W ks.length)=some ⟨(hc q.At W ks.length).Row,max 0 ((hc q.At W ks.length).Col - 1),false⟩:=by
    unfold kW;by_cases h0:(hc q.At W ks.length).Col > 0
    ·rw [ae (by simpa using h0),aJ (by omega)];simp only [bsm,aK,ai.mk.injEq,uG,oT];omega
    ·rw [ab (by simpa using h0)];simp only [bsm,aK,ai.mk.injEq,uG,oT];omega
   simp only [bsm];rw [ab (by decide),ab (by decide),ae (by decide),hb];simp only [bsm];rw [iH (cK h.p)];refine ⟨_,_,ks,rfl,?_,h.set ⟨(hc q.At W ks.length).Row,max 0 ((hc q.At W ks.length).Col - 1),false⟩ q.Auto,rfl,fun _=>⟨hd.rr,by simp only; omega,fun e=>by cases e⟩⟩;unfold dK;rw [ab (by decide)];simp only [bsm];rw [ab (by decide)];simp only [bsm];rw [ae (by decide),show (⟨q.L,⟨q.At.Row,q.At.Col,q.At.Pending⟩,q.Auto⟩:ag)=q from rfl,hh];simp only [bsm];rw [nj,hs,aJ (by omega),gZ];rfl
  ·simp only [bsm];rw [ab (by simpa using h13),ab (by simpa using h10),ab (by simpa using h8)];exact ⟨s,q,ks,rfl,by rw [wE r ⟨h13,h10,h8⟩,hs],h,rfl,id⟩
 ·have hf:sil r=false:=by simpa using hs
  rw [hf];simp only [fb,bw];have hn:r≠13∧r≠10∧r≠8:=by
   refine ⟨?_,?_,?_⟩ <;> (rintro rfl; revert hf; decide)
  exact ⟨s,q,ks,rfl,by rw [wE r hn,hf],h,rfl,id⟩
end Go.Proofs.YtclmdpamofdoiaaGreatDoor
namespace Go.Proofs.YtclmdpamofdoiaaGreatDoor
open Go Go.Lt
def pj (a b:Int):Int:=(eZ a b).getD 0
def clz (a:Int):Int:=if a < 0∨13 < a then 0 else a
def pjT (i j:Nat):Bool:=match eZ i j,cR i j with
  | some x,some y=>x==y && (x != 2 || ((i==6)==(j==6))) && (x==0 || !(i==1 || i==2 || i==3 || j==1 || j==2 || j==3) || (i==1 && j==2))
  | _,_=>false
theorem Gj:((List.range 14).all fun i=>(List.range 14).all fun j=>pjT i j)=true:=by kernel_rfl
theorem AZ (a:Int):∃i:Nat,clz a=(i:Int)∧i < 14∧(0 < i→a=(i:Int)):=by
  unfold clz;split
  · exact ⟨0,rfl,by omega,fun h=>by omega⟩
  · exact ⟨a.toNat,by omega,by omega,fun _=>by omega⟩
theorem mD (a:Int):iP a=some (clz a):=by
  unfold iP clz;simp only [br,bsm];by_cases h:a < 0∨13 < a
  · rw [ae (by simp only [aC,an]; omega),ae h]
  · rw [ab (by simp only [aC,an]; omega),ab h]
theorem uB (a:Int):clz (clz a)=clz a:=by
  unfold clz
  repeat' split
  all_goals omega
theorem BE (a b:Int):eZ a b=eZ (clz a) (clz b):=by
  unfold eZ;rw [mD,mD,mD,mD,uB,uB]
theorem BA (a b:Int):cR a b=cR (clz a) (clz b):=by
  have h:∀(a:Int),((orE (decide (a < 0)) (some (decide (a > 13)))).bind fun d_6=>if d_6=true then (some (0):Option (Int)) else (some (a):Option (Int)))=some (clz a):=fun a=>by
    have:=mD a;unfold iP at this;exact this
  unfold cR;rw [h,h,h,h,uB,uB]
theorem uQ (a b:Int):∃x,eZ a b=some x∧cR a b=some x∧pj a b=x∧(x=2→(a=6↔b=6))∧(x≠0→(a=1∨a=2∨a=3∨b=1∨b=2∨b=3)→a=1∧b=2):=by
  obtain ⟨i,hi,i14,i0⟩:=AZ a;obtain ⟨j,hj,j14,j0⟩:=AZ b;have h:=List.all_eq_true.1 (List.all_eq_true.1 Gj i (List.mem_range.2 i14)) j (List.mem_range.2 j14);have ia:∀n:Nat,0 < n→n < 14→(a=(n:Int)↔i=n):=fun n h0 h1=>by
    constructor
    · intro e
      unfold clz at hi;split at hi <;> omega
    · intro e; subst e; exact i0 h0
  have jb:∀n:Nat,0 < n→n < 14→(b=(n:Int)↔j=n):=fun n h0 h1=>by
    constructor
    · intro e
      unfold clz at hj;split at hj <;> omega
    · intro e; subst e; exact j0 h0
  have a1:=ia 1 (by omega) (by omega);have a2:=ia 2 (by omega) (by omega);have a3:=ia 3 (by omega) (by omega);have a6:=ia 6 (by omega) (by omega);have b1:=jb 1 (by omega) (by omega);have b2:=jb 2 (by omega) (by omega);have b3:=jb 3 (by omega) (by omega);have b6:=jb 6 (by omega) (by omega);unfold pj;rw [BE,BA,hi,hj];unfold pjT at h;split at h
  · rename_i x y e1 e2
    simp only [aq,aC,aS,jQ,wJ,cw,jI,eO] at h;obtain ⟨⟨hxy,h2⟩,h3⟩:=h;subst hxy;refine ⟨x,e1,e2,by rw [e1]; rfl,fun hx=>?_,fun hx hc=>?_⟩
    · rcases h2 with q | q
      · exact absurd hx q
      · have q1:(i==6)=(j==6):=q
        rw [cg,aS,aS] at q1;omega
    · rcases h3 with (q | q) | q
      · exact absurd q hx
      · exfalso
        omega
      · omega
  · cases h
theorem ED (a b:Int):eZ a b=some (pj a b):=by
  obtain ⟨x,h1,_,h3,_⟩:=uQ a b;rw [h1,h3]
theorem Gi (a b:Int):cR a b=some (pj a b):=by
  obtain ⟨x,_,h2,h3,_⟩:=uQ a b;rw [h2,h3]
theorem Gh (a b:Int) (h:pj a b=2):a=6↔b=6:=by
  obtain ⟨x,_,_,h3,h4,_⟩:=uQ a b;exact h4 (by omega)
def sgB (s:Sg):bu:=⟨s.some,s.last,s.pict,s.conj,s.odd⟩
theorem xY (s:Sg) (p:am):cG (sgB s) p=some (sgB (sgN s p),sgJ pj s p):=by
  have hj:cQ (sgB s) p=some (sgJ pj s p):=by
    unfold cQ sgB sgJ;simp only [ba,bsm,ED]
    cases s.some with
    | false=>rfl
    | true=>
      simp only [cm,ak,aU,dh]
      cases h1:(p.Conj==1 && s.conj==2) with
      | true=>rfl
      | false=>
        simp only [ak,aU,bsm,di]
        cases h2:(p.Pict && s.pict==2) with
        | true=>rfl
        | false=>
          simp only [ak,aU,di];by_cases h3:pj s.last p.Break=1
          · rw [ae (by simpa using h3),h3]
            rfl
          · rw [ab (by simpa using h3),show (pj s.last p.Break==1)=false by simpa using h3,di]
            by_cases h4:pj s.last p.Break=2
            · rw [ae (by simpa using h4),h4]
              rfl
            · rw [ab (by simpa using h4),show (pj s.last p.Break==2)=false by simpa using h4]
              rfl
  have hp:cN (sgB s) p=some (nxP s.pict p):=by
    unfold cN sgB nxP;simp only [ba,bsm];by_cases h1:p.Pict=true
    · rw [ae h1,ae h1]
    · rw [ab h1,ab h1]
      by_cases h2:s.pict=1∧p.Break=4
      · rw [ae (by simpa using h2),ae h2]
      · rw [ab (by simpa using h2),ab h2]
        by_cases h3:s.pict=1∧p.Break=5
        · rw [ae (by simpa using h3),ae h3]
        · rw [ab (by simpa using h3),ab h3]
  have hc:cJ (sgB s) p=some (nxC s.conj p):=by
    unfold cJ sgB nxC;simp only [aS]
    repeat' split
    all_goals rfl
  unfold cG;simp only [ak,aU];rw [hj,hp,hc];simp only [bsm,ba];rfl
theorem wv (d:bu):dC d=some (sgB sg0):=rfl
theorem qh {α:Type} {l:List α} {k:Nat} (h:k < l.length):(l.take (k+1)).reverse=l[k] :: (l.take k).reverse:=by
  rw [aj h,List.reverse_append];rfl
theorem Fj (x:am) (l:List am) (n:Nat):cj (x :: l) n=if x.Conj=1 then decide (0 < n) else if x.Conj=2 then cj l (n+1) else if x.Conj=3 then cj l n else false:=rfl
theorem EC (x:am) (l:List am):pk (x :: l)=if x.Pict=true then true else if x.Break=4 then pk l else false:=rfl
theorem Ev (x:am) (l:List am):ri (x :: l)=if x.Break=6 then ri l+1 else 0:=rfl
theorem zH {P:List am} (hP:P.length≤1000000) {i:Nat} (hi:i < P.length):eq P i=some (P[i].Conj==1 && cj (P.take i).reverse 0):=by
  unfold eq;rw [aW hi];simp only [bsm];by_cases h1:P[i].Conj=1
  · rw [ab (by simpa using h1),show (P[i].Conj==1)=true by simpa using h1,dh]
    have e1:w64 ((i:Int) - 1)=(i:Int) - 1:=aJ (by omega);rw [e1];refine wN (fun s=>∃k n:Nat,s=((n:Int),(k:Int) - 1)∧k≤i∧n+k≤i∧cj (P.take k).reverse n=cj (P.take i).reverse 0) (fun s=>(s.2+1).toNat) (fun u=>(match u with | .inl b=>b | .inr _=>false)=cj (P.take i).reverse 0) (fun s hs=>?_) ⟨i,0,rfl,ay _,by omega,rfl⟩ (by simp only; omega) (fun u hu=>?_)
    · obtain ⟨k,n,rfl,hk,hn,hI⟩:=hs
      simp only
      cases k with
      | zero=>
        rw [ab (by simp)];exact .inr ⟨_,rfl,by rw [←hI]; rfl⟩
      | succ k=>
        have e2:((k+1:Nat):Int) - 1=(k:Int):=by omega
        have hkl:k < P.length:=by omega
        rw [qh hkl] at hI;rw [Fj] at hI;rw [e2,ae (by simp),aW hkl];simp only [bsm];by_cases c1:P[k].Conj=1
        · rw [ae (by simpa using c1)]
          rw [ae c1] at hI;exact .inr ⟨_,rfl,by rw [←hI]; simp⟩
        · rw [ab (by simpa using c1)]
          rw [ab c1] at hI;have e3:w64 ((k:Int) - 1)=(k:Int) - 1:=aJ (by omega);have e4:w64 ((n:Int)+1)=((n+1:Nat):Int):=by rw [aJ (by omega)]; simp
          simp only [ba,bsm,e3,e4];by_cases c2:P[k].Conj=2
          · rw [ae (by simpa using c2)]
            simp only [bsm];rw [ab (by simp [c2])];rw [ae c2] at hI;exact .inl ⟨_,rfl,⟨k,n+1,rfl,by omega,by omega,hI⟩,by simp only; omega⟩
          · rw [ab (by simpa using c2)]
            rw [ab c2] at hI;simp only [bsm];by_cases c3:P[k].Conj=3
            · rw [ab (by simp [c3])]
              rw [ae c3] at hI;exact .inl ⟨_,rfl,⟨k,n,rfl,by omega,by omega,hI⟩,by simp only; omega⟩
            · rw [ae (by simp [c2,c3])]
              rw [ab c3] at hI;exact .inr ⟨_,rfl,by rw [←hI]⟩
    · cases u with
      | inl b=>simp only at hu⊢; rw [hu]
      | inr u=>simp only at hu⊢; rw [hu]
  · rw [ae (by simpa using h1),show (P[i].Conj==1)=false by simpa using h1]
    rfl
theorem zG {P:List am} (hP:P.length≤1000000) {i:Nat} (hi:i < P.length) (h0:1≤i):eL P i=some (P[i].Pict && (!(P[i - 1]'(by omega)).Pict && (P[i - 1]'(by omega)).Break==5 && pk (P.take (i - 1)).reverse)):=by
  have e1:w64 ((i:Int) - 1)=((i - 1:Nat):Int):=by rw [aJ (by omega)]; omega
  unfold eL;rw [aW hi,e1,aW (show i - 1 < P.length by omega)];simp only [bsm,br];by_cases hc:P[i].Pict=true∧2≤i∧(P[i - 1]'(by omega)).Break=5∧(P[i - 1]'(by omega)).Pict=false
  · obtain ⟨c1,c2,c3,c4⟩:=hc
    rw [ab (by rw [c1,c3,c4]; simp; omega),c1,c3,c4];simp only [fb,kr,dh];have e2:w64 ((i:Int) - 2)=((i - 1:Nat):Int) - 1:=by rw [aJ (by omega)]; omega
    rw [e2];refine wN (fun s=>∃k:Nat,s=(k:Int) - 1∧k≤i - 1∧pk (P.take k).reverse=pk (P.take (i - 1)).reverse) (fun s=>(s+1).toNat) (fun u=>(match u with | .inl b=>b | .inr _=>false)=pk (P.take (i - 1)).reverse) (fun s hs=>?_) ⟨i - 1,rfl,ay _,rfl⟩ (by omega) (fun u hu=>?_)
    · obtain ⟨k,rfl,hk,hI⟩:=hs
      cases k with
      | zero=>
        rw [ab (by simp)];exact .inr ⟨_,rfl,by rw [←hI]; rfl⟩
      | succ k=>
        have e2:((k+1:Nat):Int) - 1=(k:Int):=by omega
        have hkl:k < P.length:=by omega
        rw [qh hkl] at hI;rw [EC] at hI;rw [e2,ae (by simp),aW hkl];simp only [bsm];by_cases d1:P[k].Pict=true
        · rw [ae d1]
          rw [ae d1] at hI;exact .inr ⟨_,rfl,by rw [←hI]⟩
        · rw [ab d1]
          rw [ab d1] at hI;by_cases d2:P[k].Break=4
          · rw [ab (by simpa using d2),aJ (by omega)]
            rw [ae d2] at hI;exact .inl ⟨_,rfl,⟨k,rfl,by omega,hI⟩,by omega⟩
          · rw [ae (by simpa using d2)]
            rw [ab d2] at hI;exact .inr ⟨_,rfl,by rw [←hI]⟩
    · cases u with
      | inl b=>simp only at hu⊢; rw [hu]
      | inr u=>simp only at hu⊢; rw [hu]
  · rw [ae ?_]
    · congr 1
      rw [eq_comm,zl];intro hh;simp only [aq,cw,aS] at hh;obtain ⟨g1,⟨g2,g3⟩,g4⟩:=hh;by_cases h2:2≤i
      · exact hc ⟨g1,h2,g3,g2⟩
      · rw [show i - 1=0 by omega] at g4
        simp [pk] at g4
    · simp only [aC,cw,an,jQ,wJ]
      by_cases g1:P[i].Pict=true
      · by_cases g2:2≤i
        · by_cases g3:(P[i - 1]'(by omega)).Break=5
          · right
            cases g4:(P[i - 1]'(by omega)).Pict with
            | true=>rfl
            | false=>exact absurd ⟨g1,g2,g3,g4⟩ hc
          · exact .inl (.inr g3)
        · exact .inl (.inl (.inr (by omega)))
      · exact .inl (.inl (.inl (by simpa using g1)))
theorem CM {P:List am} (hP:P.length≤1000000) {i:Nat} (hi:i < P.length):(cv (σ:=Int×Int) (τ:=Int) (((w64 ((i:Int) - 1)) - 0).toNat+2) (fun s_62=>
 (bD (decide (s_62.2≥0)) ((idx P s_62.2).bind fun x_69=>
 some (x_69.Break==6))).bind fun d_65=>
 if d_65=true then
 some (.inl ((w64 (s_62.1+1)),(w64 (s_62.2 - 1))))
 else
 some (.inr (s_62.1))) (0,(w64 ((i:Int) - 1))))=some (ri (P.take i).reverse:Int):=by
  have e1:w64 ((i:Int) - 1)=(i:Int) - 1:=aJ (by omega);rw [e1];obtain ⟨t,h1,h2⟩:=mF (σ:=Int×Int) (τ:=Int) (step:=fun s_62=>
 (bD (decide (s_62.2≥0)) ((idx P s_62.2).bind fun x_69=>
 some (x_69.Break==6))).bind fun d_65=>
 if d_65=true then
 some (.inl ((w64 (s_62.1+1)),(w64 (s_62.2 - 1))))
 else
 some (.inr (s_62.1))) (fun s=>∃k n:Nat,s=((n:Int),(k:Int) - 1)∧k≤i∧n+k≤i∧n+ri (P.take k).reverse=ri (P.take i).reverse) (fun s=>(s.2+1).toNat) (fun t=>t=(ri (P.take i).reverse:Int)) (fun s hs=>by
      obtain ⟨k,n,rfl,hk,hn,hI⟩:=hs;simp only
      cases k with
      | zero=>
        rw [show decide (((0:Nat):Int) - 1≥0)=false by simp,iS];exact .inr ⟨_,rfl,by rw [←hI]; simp [ri]⟩
      | succ k=>
        have e2:((k+1:Nat):Int) - 1=(k:Int):=by omega
        have hkl:k < P.length:=by omega
        rw [qh hkl] at hI;rw [Ev] at hI;rw [e2,show decide ((k:Int)≥0)=true by simp,gH,aW hkl];simp only [bsm];by_cases c1:P[k].Break=6
        · rw [ae (by simpa using c1),aJ (by omega),aJ (by omega)]
          rw [ae c1] at hI;exact .inl ⟨_,rfl,⟨k,n+1,by simp,by omega,by omega,by omega⟩,by simp only; omega⟩
        · rw [ab (by simpa using c1)]
          rw [ab c1] at hI;exact .inr ⟨_,rfl,by rw [←hI]; simp⟩) ((((i:Int) - 1) - 0).toNat+2) (0,(i:Int) - 1) ⟨i,0,rfl,ay _,by omega,by omega⟩ (by simp only; omega)
  rw [h1,h2]
theorem yj {P:List am} (hP:P.length≤1000000) {i:Nat} (hi:i < P.length):ek P i=some (rj pj (P.take i).reverse P[i]):=by
  unfold ek;simp only [br,bsm];by_cases h0:i=0
  · subst h0
    rw [ae (by simp)];rfl
  · obtain ⟨j,rfl⟩:∃j,i=j+1:=⟨i - 1,by omega⟩
    rw [ab (by simp; omega)];have e1:w64 (((j+1:Nat):Int) - 1)=(j:Int):=by rw [aJ (by omega)]; omega
    have hj:j < P.length:=by omega
    have hp:=zG hP hi (by omega);simp only [xK] at hp;have hr:=CM hP hi;rw [e1] at hr⊢;rw [aW hj,aW hi];simp only [bsm,Gi,zH hP hi,hp];simp only [br,bsm];rw [qh hj];unfold rj;simp only;rw [qh hj] at hr;generalize hA:(pj P[j].Break P[j+1].Break==1 || (P[j+1].Conj==1 && cj (P[j] :: (P.take j).reverse) 0) || (P[j+1].Pict && (!P[j].Pict && P[j].Break==5 && pk (P.take j).reverse)))=A
    cases A with
    | true=>simp
    | false=>
      simp only [ak,aU,di];by_cases hc:pj P[j].Break P[j+1].Break=2∧P[j+1].Break=6
      · have b1:(pj P[j].Break P[j+1].Break==2)=true:=by rw [aS]; exact hc.1
        have b2:(P[j+1].Break==6)=true:=by rw [aS]; exact hc.2
        have b3:(pj P[j].Break P[j+1].Break != 2)=false:=by rw [bne,b1]; rfl
        have b4:(P[j+1].Break != 6)=false:=by rw [bne,b2]; rfl
        rw [ab (by rw [b3,b4]; simp),hr];simp only [bsm,b1,b2,dh,aK];rw [cg,aS,aS,DZ (by omega)];omega
      · rw [ae (by simp only [aC,jQ,wJ]; omega)]
        congr 1
        rw [eq_comm,zl];simp only [wJ,aq,aS];exact fun h=>hc ⟨h.1.1,h.1.2⟩
def R32 (l:List Int):Prop:=∀x∈l,r32 x
theorem uP (l:List Int) (h:R32 l) (hl:l.length≤1000000):(cv (σ:=(List am)×Int) (τ:=(List am)) (((l.length:Int) - 0).toNat+1) (fun s_7=>
 if (decide (s_7.2 < (l.length:Int)))=true then
 (idx l s_7.2).bind fun x_16=>
 (dL x_16).bind fun x_18=>
 (app s_7.1 ([x_18]:List am)).bind fun x_20=>
 some (.inl (x_20,(w64 (s_7.2+1))))
 else
 some (.inr (s_7.1))) (([]:List am),0))=some (l.map pr):=by
  obtain ⟨t,h1,h2⟩:=eG (σ:=(List am)×Int) (τ:=(List am)) (n:=l.length) (fuel:=((l.length:Int) - 0).toNat+1) (s:=(([]:List am),0))
    (fun i s=>s=((l.take i).map pr,(i:Int))) (fun t=>t=l.map pr) (step:=fun s_7=>
 if (decide (s_7.2 < (l.length:Int)))=true then
 (idx l s_7.2).bind fun x_16=>
 (dL x_16).bind fun x_18=>
 (app s_7.1 ([x_18]:List am)).bind fun x_20=>
 some (.inl (x_20,(w64 (s_7.2+1))))
 else
 some (.inr (s_7.1)))
    (fun i s hi e=>by
      subst e;simp only;rw [ae (dlt hi),aW hi,ci hi (by omega)];simp only [bsm];rw [Hw _ (h _ (ax hi))];simp only [bsm];rw [eP (by simp; omega)];refine .inl ⟨_,rfl,?_⟩;rw [aj hi,bO];rfl)
    (fun s e=>by subst e; exact ⟨_,by simp only; rw [ab (by simp)],by rw [aH (ay _)]⟩)
    rfl (by omega)
  rw [h1,h2]
theorem CP (l:List Int) (h:R32 l) (hl:l.length≤1000000):fp l=some (l.map pr):=by
  unfold fp;rw [uP l h hl];rfl
theorem C6 {l:List Int} (hl:l.length≤1000000) {i:Nat} (hi:i < l.length):ek (l.map pr) i=some (jn pj pr (l.take i) l[i]):=by
  rw [yj (by simpa using hl) (by simpa using hi)];unfold jn;rw [F8 pj Gh,dR,List.map_take]
theorem Bb (l:List Int) (h:R32 l) (hl:l.length≤1000000):fa l=some ((sts pj pr l).map fun n:Nat=>(n:Int)):=by
  unfold fa;rw [CP l h hl];simp only [bsm,cM];have hsl:∀l:List Int,(sts pj pr l).length≤l.length:=fun l=>by
    unfold sts;exact dd (nS _ _) (by simp)
  refine gF (n:=l.length) (fun i s=>s=((sts pj pr (l.take i)).map fun n:Nat=>(n:Int),(i:Int))) (fun u=>u=(sts pj pr l).map fun n:Nat=>(n:Int)) (fun i s hi e=>?_) (fun s e=>?_) rfl (by omega) (fun u hu=>by rw [hu])
  · subst e
    simp only;rw [ae (dlt hi),C6 hl hi,ci hi (by omega)];simp only [bsm];rw [aj hi,uH];have hle:=hsl (l.take i);rw [az] at hle
    cases jn pj pr (l.take i) l[i] with
    | true=>
      simp only [cm,ak,aU,bsm,bw,da];exact .inl ⟨_,rfl,rfl⟩
    | false=>
      simp only [fb,bw,ak,aU];rw [eP (by simp; omega)];refine .inl ⟨_,rfl,?_⟩;rw [bO,az,cC (tP hi)];rfl
  · subst e
    exact ⟨_,by simp only; rw [ab (by simp)],by rw [aH (ay _)]⟩
theorem Ed (l:List Int):(sts pj pr l++ [l.length]).Pairwise (· < ·):=by
  rw [List.pairwise_append];refine ⟨?_,by simp,fun a ha b hb=>?_⟩
  · unfold sts
    exact List.Pairwise.filter _ List.pairwise_lt_range
  · rw [List.mem_singleton.1 hb]
    exact zp ha
theorem yO (l:List Int) (h:R32 l) (hl:l.length≤1000000):ep l=some (cls pj pr l):=by
  have hsl:(sts pj pr l).length≤l.length:=by
    unfold sts;exact dd (nS _ _) (by simp)
  unfold ep;rw [Bb l h hl];simp only [bsm];rw [eP (by simp; omega)];simp only [bsm];have e0:((sts pj pr l).map fun n:Nat=>(n:Int))++ [(l.length:Int)]=(sts pj pr l++ [l.length]).map fun n:Nat=>(n:Int):=by rw [bO]; rfl
  rw [e0,←EF (pj:=pj) (pr:=pr) l];have hinc:=Ed l;have hAl:(sts pj pr l++ [l.length]).length=(sts pj pr l).length+1:=by simp
  have hle:∀a∈sts pj pr l++ [l.length],a≤l.length:=fun a ha=>by
    rcases List.mem_append.1 ha with ha | ha
    · exact tP (zp ha)
    · rw [List.mem_singleton.1 ha]; exact ay _
  generalize sts pj pr l++ [l.length]=A at *;simp only [cM];have e1:w64 (0+1)=1:=rfl;rw [e1];refine gF (n:=A.length - 1) (fun i s=>s=((List.range i).map (fun i=>slx l (A.getD i 0) (A.getD (i+1) 0)),(i:Int))) (fun u=>u=pcs l A) (fun i s hi e=>?_) (fun s e=>?_) rfl (by omega) (fun u hu=>by rw [hu])
  · subst e
    have hi1:i+1 < A.length:=by omega
    simp only;rw [ci (show i < A.length by omega) (by omega),ae (by simp; omega)];rw [aW (show i < (A.map fun n:Nat=>(n:Int)).length by simp; omega),aW (show i+1 < (A.map fun n:Nat=>(n:Int)).length by simp; omega)];simp only [bsm,dR];have hlt:=List.pairwise_iff_getElem.1 hinc i (i+1) (by omega) hi1 (by omega);have hb:=hle _ (ax hi1);rw [rC (by omega) hb];simp only [bsm];rw [eP (by simp; omega),bN];simp only [bsm];rw [eP (by simp; omega)];refine .inl ⟨_,rfl,?_⟩;rw [lf,bO];simp only [rP,List.map_nil,fM,oT]
    congr 2
    unfold slx;have g:∀j (h:j < A.length),A.getD j 0=A[j]:=fun j h=>by rw [ao,af h]; rfl
    rw [g i (by omega),g (i+1) hi1]
  · subst e
    refine ⟨_,?_,rfl⟩;simp only;rw [aJ (by omega),ab (by simp; omega)];rfl
def Hn (n:Nat):Bool:= !sil n || (((pr n).Break==1 || (pr n).Break==2 || (pr n).Break==3) && !(pr n).Pict && (pr n).Conj==0)
theorem Eh:(List.range 160).all Hn=true:=by kernel_rfl
theorem GF:gT.all (fun x=> !(x.2.2==1 || x.2.2==2) || (decide (0≤x.1) && decide (x.2.1≤31)))=true:=by kernel_rfl
theorem F5 {r:Int} (h:sil r=true):0≤r∧r < 160:=by
  unfold sil at h;simp only [aC,aq,an] at h;omega
theorem Cq:Sil pj pr sil:=by
  refine ⟨fun r hr=>?_,fun a b ha hne=>?_,fun a b hb hne=>?_,fun r hr=>?_⟩
  · obtain ⟨h1,h2⟩:=F5 hr
    have:=List.all_eq_true.1 Eh r.toNat (List.mem_range.2 (by omega));unfold Hn at this;rw [pC h1,hr] at this;simp only [cm,di,aq,aC,aS,cw] at this;obtain ⟨⟨q1,q2⟩,q3⟩:=this;exact ⟨by rcases q1 with (q | q) | q <;> simp [q],q2,q3⟩
  · obtain ⟨x,_,_,h3,_,h5⟩:=uQ a b
    exact h5 (by omega) (by omega)
  · obtain ⟨x,_,_,h3,_,h5⟩:=uQ a b
    exact h5 (by omega) (by omega)
  · have e:(pr r).Break=(lk gT r).getD (hcl r):=rfl
    rw [e] at hr;have hh:hcl r=9∨hcl r=10∨hcl r=11∨hcl r=0∨hcl r=12∨hcl r=13:=by
      unfold hcl
      repeat' split
      all_goals simp
    cases hx:fnd (fun x:Int×Int×Int=>x.1) (fun x=>x.2.1) gT r with
    | none=>
      unfold lk at hr;rw [hx] at hr;simp only [Jm,Option.getD_none] at hr;omega
    | some x=>
      unfold lk at hr;rw [hx] at hr;simp only [gi,Jb] at hr;obtain ⟨m1,m2⟩:=xu hx;have:=List.all_eq_true.1 GF x m1;rw [ss] at m2;simp only [aC,cw,jI,eO,aq,an] at this;unfold sil;simp only [aC,aq,an];omega
def fo {α β:Type} (f:β→α→Option β):β→List α→Option β
  | b,[]=>some b
  | b,a :: l=>(f b a).bind fun b'=>fo f b' l
theorem GK {α β:Type} (f:β→α→Option β) (b:β) (l m:List α):fo f b (l++m)=(fo f b l).bind fun b'=>fo f b' m:=by
  induction l generalizing b with
  | nil=>rfl
  | cons a l ih=>
    show (f b a).bind (fun b'=>fo f b' (l++m))=((f b a).bind fun b'=>fo f b' l).bind fun b'=>fo f b' m;rw [I2]
    congr 1
    funext b'
    exact ih b'
theorem qQ {α β:Type} (f:β→α→Option β) (b:β) (l:List α) (a:α):fo f b (l++ [a])=(fo f b l).bind fun b'=>f b' a:=by
  rw [GK]
  congr 1
  funext b'
  show (f b' a).bind (fun b'=>some b')=f b' a
  cases f b' a <;> rfl
def Dq (q:ag) (r:Int):Option ag:=(dK q r).map (·.1)
def w16 (c:List Int):Int:=wz (gf (c.take 16) ((c.take 16).map pr))
def tD (q:ag) (c:List Int):Option ag:=
  if sil (c.headD 0)=true then fo Dq q c else (aT q (w16 c) (c.take 16)).map (·.1)
theorem uX {q:ag} {a:Int} {t:List Int} (h:sil a=true):tD q (a :: t)=fo Dq q (a :: t):=by
  unfold tD;rw [ae (show sil ((a :: t).headD 0)=true from h)]
theorem yy {q:ag} {a:Int} {t:List Int} (h:sil a=false):tD q (a :: t)=(aT q (w16 (a :: t)) ((a :: t).take 16)).map (·.1):=by
  unfold tD;rw [ab (show ¬sil ((a :: t).headD 0)=true by rw [List.headD_cons,h]; simp)]
theorem Hl:dj=cG:=rfl
theorem Bj (s:Sg) (p:am):dj (sgB s) p=some (sgB (sgN s p),sgJ pj s p):=by
 rw [Hl];exact xY s p
theorem Fg {l:List Int} {i:Nat} {cs0:List (List Int)} {cl:List Int} (h:cls pj pr (l.take i)=cs0++ [cl]):∀d,i+d≤l.length→∃t x,cls pj pr (l.take (i+d))=cs0++(t++ [x]):=by
 intro d
 induction d with
 | zero=>exact fun _=>⟨[],cl,h⟩
 | succ d ih=>
  intro hd;obtain ⟨t,x,e⟩:=ih (by omega);rw [show i+(d+1)=i+d+1 by omega,aj (by omega),oM];split
  ·exact ⟨t,x++ [l[i+d]],by rw [e,←aF,mw,aF]⟩
  ·exact ⟨t++ [x],[l[i+d]],by rw [e,aF,aF]⟩
end Go.Proofs.YtclmdpamofdoiaaGreatDoor
namespace Go.Proofs.YtclmdpamofdoiaaGreatDoor
def ld (b:Int):Int:=if b < 128 then 1 else if 194≤b∧b≤223 then 2 else if 224≤b∧b≤239 then 3 else if 240≤b∧b≤244 then 4 else 0
def slo (b:Int):Int:=if b=224 then 160 else if b=240 then 144 else 128
def shi (b:Int):Int:=if b=237 then 159 else if b=244 then 143 else 191
theorem tV (b:Int):0≤ld b∧ld b≤4:=by
 unfold ld
 repeat' split
 all_goals omega
def bg:List Int→Int
 | [a]=>ld a
 | [a,b]=>if 2≤ld a∧slo a≤b∧b≤shi a then ld a else 0
 | [a,b,c]=>if 3≤ld a∧slo a≤b∧b≤shi a∧128≤c∧c≤191 then ld a else 0
 | [a,b,c,d]=>if ld a=4∧slo a≤b∧b≤shi a∧128≤c∧c≤191∧128≤d∧d≤191 then 4 else 0
 | _=>0
def b0 (a:Int):Int:=if ld a=2 then a - 192 else if ld a=3 then a - 224 else if ld a=4 then a - 240 else a
def vl:List Int→Int
 | []=>0
 | a :: l=>l.foldl (fun v x=>v * 64+(x - 128)) (b0 a)
def rs0 (b:Int):List Int×List Int:=if 1 < ld b then ([],[b]) else if ld b=1 then ([b],[]) else ([65533],[])
def fZ (h:List Int) (b:Int):List Int×List Int:=
 if h= [] then rs0 b else if (h.length:Int)+1 < bg (h++ [b]) then ([],h++ [b]) else if 0 < bg (h++ [b]) then ([vl (h++ [b])],[]) else (65533 :: (rs0 b).1,(rs0 b).2)
def eV:List Int→List Int→List Int×List Int
 | h,[]=>([],h)
 | h,b :: p=>((fZ h b).1++(eV (fZ h b).2 p).1,(eV (fZ h b).2 p).2)
theorem wC (h a b:List Int):eV h (a++b)=((eV h a).1++(eV (eV h a).2 b).1,(eV (eV h a).2 b).2):=by
 induction a generalizing h with
 | nil=>simp [eV]
 | cons x a ih=>simp [eV,ih]
theorem zy (h a:List Int) (x:Int):eV h (a++ [x])=((eV h a).1++(fZ (eV h a).2 x).1,(fZ (eV h a).2 x).2):=by
 rw [wC];simp [eV]
def Hh (h:List Int):Prop:=h= []∨(h.length:Int) < bg h
theorem Hh.len {h:List Int} (hh:Hh h):h.length≤3:=by
 rcases hh with rfl | hh
 ·simp
 ·match h,hh with
  | [],_=>simp
  | [_],_=>simp
  | [_,_],_=>simp
  | [_,_,_],_=>simp
  | [a,b,c,d],q=>simp only [bg,aI,bd] at q; split at q <;> omega
  | _ :: _ :: _ :: _ :: _ :: _,q=>simp only [bg,aI] at q; omega
end Go.Proofs.YtclmdpamofdoiaaGreatDoor
namespace Go.Proofs.YtclmdpamofdoiaaGreatDoor
open Go Go.Lt
def Byt (b:Int):Prop:=0≤b∧b≤255
def Bts (l:List Int):Prop:=∀x∈l,Byt x
theorem yr {b:Int} (h:Byt b):jq b=some (ld b):=by
 obtain ⟨h1,h2⟩:=h;unfold jq ld;simp only [ba,bsm,aq,an,zO];have e1:w64 (0+1)=1:=rfl;have e2:w64 (1+1)=2:=rfl;have e3:w64 (2+1)=3:=rfl;have e4:w64 (3+1)=4:=rfl;rw [e1,e2,e3,e4]
 repeat' split
 all_goals first | rfl | omega
theorem zK {b:Int} (h:Byt b) (hl:2≤ld b):ka b=some (slo b,shi b):=by
 unfold ka slo shi;rw [yr h];simp only [bsm,aS,an];rw [ab (by omega)];have e1:IntKind.u8.wrap (IntKind.u8.wrap (191 - 16) - 32)=143:=by decide
 have e2:IntKind.u8.wrap (191 - 32)=159:=by decide
 rw [e1,e2];by_cases a1:b=224
 ·subst a1; rfl
 by_cases a2:b=240
 ·subst a2; rfl
 by_cases a3:b=244
 ·subst a3; rfl
 by_cases a4:b=237
 ·subst a4; rfl
 rw [ab a1,ab a2,ab a3,ab a4,ab a1,ab a2,ab a4,ab a3];rfl
def DJ (n:Nat):Bool:=(lM n==if ld n=0 then some 0 else some (b0 n))
theorem DI:(List.range 256).all DJ=true:=by kernel_rfl
theorem CV {b:Int} (h:Byt b) (hl:1≤ld b):lM b=some (b0 b):=by
 obtain ⟨h1,h2⟩:=h;have:=List.all_eq_true.1 DI b.toNat (List.mem_range.2 (by omega));unfold DJ at this;rw [aS,pC h1,ab (by omega)] at this;exact this
def Cn (n:Nat):Bool:=(fw .u8 n 63==if 128≤n∧n≤191 then (n:Int) - 128 else fw .u8 n 63)
theorem Cm:(List.range 256).all Cn=true:=by kernel_rfl
theorem Cl {b:Int} (h1:128≤b) (h2:b≤191):fw .u8 b 63=b - 128:=by
 have:=List.all_eq_true.1 Cm b.toNat (List.mem_range.2 (by omega));unfold Cn at this;rw [aS,pC (by omega),ae (by omega)] at this;exact this
theorem Gs {x y:Nat} (hx:x < 1000000000) (hy:y < 64):iW .i64 ((x:Int) * 64) (y:Int)=((x * 64+y:Nat):Int):=by
 have e1:BitVec.ofInt 64 ((x:Int) * 64)=BitVec.ofNat 64 (x * 64):=by
  rw [show ((x:Int) * 64)=((x * 64:Nat):Int) by simp,Iw]
 have e2:BitVec.ofInt 64 (y:Int)=BitVec.ofNat 64 y:=Iw _ _;have e3:(x * 64) ||| y=x * 64+y:=by
  have:=Nat.shiftLeft_add_eq_or_of_lt (show y < 2 ^ 6 by omega) x;rw [Nat.shiftLeft_eq] at this;exact this.symm
 unfold iW;rw [show IntKind.i64.bits=64 from rfl,e1,e2,BitVec.toNat_or,I0,I0,Ad (by omega),Ad (by omega),e3];exact aJ (by omega)
def Dv (d:bB) (h:List Int):Prop:=
 Hh h∧Bts h∧d=(match h with | []=>⟨0,0,0,0,0⟩ | [a]=>⟨1,ld a - 1,slo a,shi a,b0 a⟩ | a :: b :: t=>⟨(h.length:Int),bg h - (h.length:Int),128,191,vl h⟩)
theorem wS {b:Int} (h:Byt b):∃d',cr ⟨0,0,0,0,0⟩ b=some (d',(rs0 b).1)∧Dv d' (rs0 b).2:=by
 have hb:=h;obtain ⟨h1,h2⟩:=hb;unfold cr rs0;rw [yr h];simp only [bsm,aS];have hin:=tV b;by_cases e0:ld b=0
 ·rw [ae e0,ab (by omega),ab (by omega)];exact ⟨_,rfl,.inl rfl,fun x hx=>by simp at hx,rfl⟩
 ·rw [ab e0];by_cases e1:ld b=1
  ·rw [ae e1,ab (by omega),ae e1,wV (by omega)];exact ⟨_,rfl,.inl rfl,fun x hx=>by simp at hx,rfl⟩
  ·rw [ab e1,ae (by omega),CV h (by omega),zK h (by omega)];simp only [bsm];rw [aJ (by omega)];refine ⟨_,rfl,.inr ?_,fun x hx=>?_,rfl⟩
   ·simp only [aI,bd,bg]; omega
   ·rw [List.mem_singleton.1 hx]; exact h
theorem Ea {h:List Int} (hne:h≠ []) (b:Int):vl (h++ [b])=vl h * 64+(b - 128):=by
 cases h with
 | nil=>exact absurd rfl hne
 | cons a t=>simp [vl,jH]
theorem DN {a:Int} (h:Byt a) (hl:2≤ld a):0≤b0 a∧b0 a≤31:=by
 obtain ⟨h1,h2⟩:=h;unfold b0;unfold ld at hl;unfold ld
 repeat' split at hl
 all_goals (repeat' split)
 all_goals omega
theorem Hj {h:List Int} (hh:Hh h) (hb:Bts h) (hne:h≠ []):0≤vl h∧vl h≤131071:=by
 rcases hh with rfl | hh
 ·exact absurd rfl hne
 ·match h,hh with
  | [],_=>exact absurd rfl hne
  | [a],q=>
   have ha:=hb a (by simp);simp only [bg,aI,bd] at q;have:=DN ha (by omega);simp only [vl,List.foldl];omega
  | [a,b],q=>
   have ha:=hb a (by simp);simp only [bg,aI,bd] at q;split at q
   ·rename_i g
    have:=DN ha (by omega);have hs:128≤b∧b≤191:=by
     have:=g.2;unfold slo shi at this
     repeat' split at this
     all_goals omega
    simp only [vl,List.foldl];omega
   ·omega
  | [a,b,c],q=>
   have ha:=hb a (by simp);simp only [bg,aI,bd] at q;split at q
   ·rename_i g
    have:=DN ha (by omega);have hs:128≤b∧b≤191:=by
     have:=g.2;unfold slo shi at this
     repeat' split at this
     all_goals omega
    simp only [vl,List.foldl];omega
   ·omega
  | [a,b,c,d],q=>simp only [bg,aI,bd] at q; split at q <;> omega
  | _ :: _ :: _ :: _ :: _ :: _,q=>simp only [bg,aI] at q; omega
theorem CX {h:List Int} (hh:(h.length:Int) < bg h) (hne:h≠ []) (b:Int):∃lo hi,(match h with | [a]=>(slo a,shi a) | _=>(128,191))=(lo,hi)∧128≤lo∧hi≤191∧
  ((lo≤b∧b≤hi)→bg (h++ [b])=bg h)∧(¬(lo≤b∧b≤hi)→bg (h++ [b])=0):=by
 match h,hh with
 | [],_=>exact absurd rfl hne
 | [a],q=>
  simp only [bg,aI,bd] at q;refine ⟨slo a,shi a,rfl,by unfold slo; repeat' split; all_goals omega,by unfold shi; repeat' split; all_goals omega,fun g=>?_,fun g=>?_⟩
  ·simp only [cZ,bN,bg];rw [ae ⟨by omega,g.1,g.2⟩]
  ·simp only [cZ,bN,bg];rw [ab (fun c=>g c.2)]
 | [a,c],q=>
  simp only [bg,aI,bd] at q;refine ⟨128,191,rfl,by omega,by omega,fun g=>?_,fun g=>?_⟩
  ·simp only [cZ,bN,bg];split at q
   ·rename_i r
    rw [ae ⟨by omega,r.2.1,r.2.2,g.1,g.2⟩,ae r]
   ·omega
  ·simp only [cZ,bN,bg];rw [ab (fun r=>g r.2.2.2)]
 | [a,c,d],q=>
  have hl:=tV a;simp only [bg,aI,bd] at q;refine ⟨128,191,rfl,by omega,by omega,fun g=>?_,fun g=>?_⟩
  ·simp only [cZ,bN,bg];split at q
   ·rename_i r
    rw [ae ⟨by omega,r.2.1,r.2.2.1,r.2.2.2.1,r.2.2.2.2,g.1,g.2⟩,ae r];omega
   ·omega
  ·simp only [cZ,bN,bg];rw [ab (fun r=>g r.2.2.2.2.2)]
 | [a,b,c,d],q=>simp only [bg,aI,bd] at q; split at q <;> omega
 | _ :: _ :: _ :: _ :: _ :: _,q=>simp only [bg,aI] at q; omega
theorem Dv.shape {d:bB} {h:List Int} (v:Dv d h) (hne:h≠ []):∃lo hi,(match h with | [a]=>(slo a,shi a) | _=>(128,191))=(lo,hi)∧d=⟨(h.length:Int),bg h - (h.length:Int),lo,hi,vl h⟩:=by
 obtain ⟨_,_,e⟩:=v
 match h,e with
 | [],_=>exact absurd rfl hne
 | [a],e=>exact ⟨_,_,rfl,e⟩
 | a :: b :: t,e=>exact ⟨_,_,rfl,e⟩
theorem Dr {d:bB} {h:List Int} (v:Dv d h) {b:Int} (hb:Byt b):∃d',cP d b=some (d',(fZ h b).1)∧Dv d' (fZ h b).2:=by
 have v0:=v;obtain ⟨hh,hbs,e⟩:=v;unfold cP fZ;simp only [ak,aU];by_cases hne:h= []
 ·subst hne;simp only at e;subst e;obtain ⟨d',a1,a2⟩:=wS hb;simp only [kr,eq_self,bw,a1,bsm];exact ⟨d',rfl,a2⟩
 ·obtain ⟨lo,hi,e1,e2⟩:=v0.shape hne;have hlt:(h.length:Int) < bg h:=by
   rcases hh with q | q
   ·exact absurd q hne
   ·exact q
  obtain ⟨lo',hi',f1,f2,f3,f4,f5⟩:=CX hlt hne b;rw [e1] at f1;cases f1;subst e2;have hlen:0 < h.length:=by
   cases h with
   | nil=>exact absurd rfl hne
   | cons _ _=>simp
  have hl3:=hh.len;rw [ab hne];simp only [aS];rw [ab (by omega)];simp only [br,bsm,aC,an,gt_iff_lt];by_cases hr:lo≤b∧b≤hi
  ·have hbg:=f4 hr;have hvl:=Hj hh hbs hne;have hbgl:bg h≤4:=by
    match h,hlen with
    | [a],_=>simp only [bg]; exact (tV a).2
    | [a,b],_=>simp only [bg]; split <;> first | exact (tV a).2 | omega
    | [a,b,c],_=>simp only [bg]; split <;> first | exact (tV a).2 | omega
    | a :: b :: c :: x :: t,_=>simp at hl3
   have hbits:iW .i64 (w64 (vl h * 2 ^ 6)) (w64 (fw .u8 b 63))=vl h * 64+(b - 128):=by
    obtain ⟨x,hx⟩:∃x:Nat,vl h=(x:Int):=⟨(vl h).toNat,by omega⟩;obtain ⟨y,hy⟩:∃y:Nat,b - 128=(y:Int):=⟨(b - 128).toNat,by omega⟩;rw [Cl (by omega) (by omega),hx,hy,show ((x:Int) * 2 ^ 6)=(x:Int) * 64 from rfl,aJ (by omega),aJ (by omega),Gs (by omega) (by omega)];simp
   have hbs':Bts (h++ [b]):=fun x hx=>by
    rcases List.mem_append.1 hx with hx | hx
    ·exact hbs x hx
    ·rw [List.mem_singleton.1 hx]; exact hb
   have hsn:=Ea hne b;rw [ab (by omega),aJ (by omega),aJ (by omega),hbits,←hsn];by_cases hm:(h.length:Int)+1 < bg h
   ·rw [ae (by omega),ae (by rw [hbg]; omega)];refine ⟨_,rfl,.inr (by rw [hbg]; simp; omega),hbs',?_⟩;simp only [hbg]
    match h,hlen with
    | a :: t,_=>
     cases t with
     | nil=>simp only [cZ,bN,aI,bd,bB.mk.injEq,oT,uG]; omega
     | cons b2 t=>simp only [cZ,aI,av,bd,bB.mk.injEq,oT,uG]; omega
   ·rw [ab (by omega),ab (by rw [hbg]; omega),ae (by rw [hbg]; omega),wV (by rw [hsn]; omega)];exact ⟨_,rfl,.inl rfl,fun x hx=>by simp at hx,rfl⟩
  ·have hz:=f5 hr;rw [ae (by omega),ab (by rw [hz]; omega),ab (by rw [hz]; omega)];have hfl:bH ⟨(h.length:Int),bg h - (h.length:Int),lo,hi,vl h⟩=some (⟨0,0,0,0,0⟩,[65533]):=by
    unfold bH cz;simp only [ak,aU,bsm,aS];rw [ab (by omega)]
   rw [hfl];simp only [bsm];obtain ⟨d',a1,a2⟩:=wS hb;rw [a1];simp only [bsm];have hrl:(rs0 b).1.length≤1:=by
    unfold rs0;split
    ·simp
    ·split <;> simp
   rw [eP (by simp; omega)];exact ⟨d',rfl,a2⟩
theorem Ds {d:bB} {h:List Int} (v:Dv d h):cz d=some (h.length:Int):=by
 unfold cz;simp only [ak,aU];by_cases hne:h= []
 ·subst hne;obtain ⟨_,_,e⟩:=v;simp only at e;rw [e];rfl
 ·obtain ⟨lo,hi,_,e⟩:=v.shape hne;rw [e]
theorem BV {d:bB} {h:List Int} (v:Dv d h):bH d=some (⟨0,0,0,0,0⟩,if h= [] then [] else [65533]):=by
 unfold bH;rw [Ds v];simp only [bsm,aS];by_cases hne:h= []
 ·subst hne;obtain ⟨_,_,e⟩:=v;simp only at e;rw [ae (by simp),ae rfl,e]
 ·rw [ab (fun e=>hne (ck (by omega))),ab hne]
theorem Dv.zero:Dv ⟨0,0,0,0,0⟩ []:=⟨.inl rfl,fun x hx=>by simp at hx,rfl⟩
def fr (n:Nat):Int:=if n=2 then 128 else if n=3 then 2048 else if n=4 then 65536 else 0
theorem qo (a:Int):(ld a=1∧a < 128)∨(ld a=2∧194≤a∧a≤223)∨(ld a=3∧224≤a∧a≤239)∨(ld a=4∧240≤a∧a≤244)∨(ld a=0∧128≤a∧¬(194≤a∧a≤244)):=by
 unfold ld
 repeat' split
 all_goals omega
theorem Ih {p:List Int} (h:0 < bg p):(p.length:Int)≤bg p:=by
 match p,h with
 | [],h=>simp [bg] at h
 | [a],h=>simp only [bg,aI,bd] at h⊢; omega
 | [a,b],h=>simp only [bg,aI,bd] at h⊢; split at h <;> rename_i g; rw [ae g]; omega; omega
 | [a,b,c],h=>simp only [bg,aI,bd] at h⊢; split at h <;> rename_i g; rw [ae g]; omega; omega
 | [a,b,c,d],h=>simp only [bg,aI,bd] at h⊢; split at h <;> rename_i g; rw [ae g]; omega; omega
 | _ :: _ :: _ :: _ :: _ :: _,h=>simp [bg] at h
theorem Ig (p:List Int):0≤bg p∧bg p≤4:=by
 match p with
 | []=>simp [bg]
 | [a]=>exact tV a
 | [a,b]=>simp only [bg]; split <;> first | exact tV a | omega
 | [a,b,c]=>simp only [bg]; split <;> first | exact tV a | omega
 | [a,b,c,d]=>simp only [bg]; split <;> omega
 | _ :: _ :: _ :: _ :: _ :: _=>simp [bg]
theorem Bts.snoc {h:List Int} (hb:Bts h) {b:Int} (h1:Byt b):Bts (h++ [b]):=fun x hx=>by
 rcases List.mem_append.1 hx with hx | hx
 ·exact hb x hx
 ·rw [List.mem_singleton.1 hx]; exact h1
theorem Br (h:List Int) (b:Int):(fZ h b).1.length≤2:=by
 have hrl:(rs0 b).1.length≤1:=by
  unfold rs0;split
  ·simp
  ·split <;> simp
 unfold fZ;split
 ·omega
 ·split
  ·simp
  ·split
   ·simp
   ·simp; omega
theorem Bs {h:List Int} (hb:Bts h) {b:Int} (h1:Byt b):Bts (fZ h b).2:=by
 have h0:Bts (rs0 b).2:=by
  unfold rs0;split
  ·intro x hx; rw [List.mem_singleton.1 hx]; exact h1
  ·split <;> (intro x hx; simp at hx)
 unfold fZ;split
 ·exact h0
 ·split
  ·exact hb.snoc h1
  ·split
   ·intro x hx; simp at hx
   ·exact h0
theorem wB {h p:List Int} (hb:Bts h) (hp:Bts p):Bts (eV h p).2:=by
 induction p generalizing h with
 | nil=>exact hb
 | cons b p ih=>exact ih (Bs hb (hp b (by simp))) (fun x hx=>hp x (oU _ hx))
theorem Bts.nil:Bts []:=fun x hx=>by simp at hx
end Go.Proofs.YtclmdpamofdoiaaGreatDoor
namespace Go.Proofs.YtclmdpamofdoiaaGreatDoor
open Go Go.Lt
variable {s C:Sto} {f k g W H:Nat} {q P:ag} {ks:List Nat}
def Sto.sf (s:Sto) (f:Nat) (x:bC):Sto:={ s with feed_Feeder:=s.feed_Feeder.set f x}
theorem qi {x:bC} (h:f < s.feed_Feeder.length):s.set_feed_Feeder f x=some (s.sf f x):=by
 unfold Sto.set_feed_Feeder;rw [ae h];rfl
theorem tj {x:bC} (h:f < s.feed_Feeder.length):(s.sf f x).feed_Feeder[f]? = some x:=by simp [Sto.sf,h]
theorem Fy (s:Sto) (f:Nat) (x y:bC):(s.sf f x).sf f y=s.sf f y:=by simp [Sto.sf]
theorem xd (s:Sto) (f:Nat) (x:bC):(s.sf f x).feed_Feeder.length=s.feed_Feeder.length:=by simp [Sto.sf]
theorem Pv.sf (h:Pv s s k g W q ks) (x:bC):Pv (s.sf f x) (s.sf f x) k g W q ks:=
 ⟨h.p,⟨h.g.g,h.g.r,h.g.h1,h.g.h2,h.g.w1,h.g.w2⟩,h.nd,h.l,rfl,h.f.rgp ⟨rfl,rfl,rfl⟩ ⟨rfl,rfl,rfl⟩⟩
theorem Wc.sf {j:Nat} {c:ai} {y:aV} {t:List Int} {n:Int} (h:Wc s j c y t n) (x:bC):Wc (s.sf f x) j c y t n:=⟨h.x⟩
def Gp (C:Sto) (f j:Nat):Prop:=∃x,C.feed_Feeder[f]? = some x∧x.open_=some j
structure Fz (C s:Sto) (f:Nat) (op:Option Nat):Prop where
 fl:C.feed_Feeder.length≤s.feed_Feeder.length
 ff:∀j,j < C.feed_Feeder.length→j≠f→s.feed_Feeder[j]? = C.feed_Feeder[j]?
 wl:C.widen_Cluster.length≤s.widen_Cluster.length
 wc:∀j,j < C.widen_Cluster.length→¬Gp C f j→s.widen_Cluster[j]? = C.widen_Cluster[j]?
 oc:∀j,op=some j→Gp C f j∨C.widen_Cluster.length≤j
 sc:s.screen_Screen=C.screen_Screen
theorem pa {a b:Sto} (h:a.oth=b.oth):a.feed_Feeder=b.feed_Feeder:=by
 have:=mM Sto.feed_Feeder h;exact this
theorem xn {a b:Sto} (h:a.oth=b.oth):a.screen_Screen=b.screen_Screen:=by
 have:=mM Sto.screen_Screen h;exact this
theorem Fz.oth {s':Sto} {op:Option Nat} (h:Fz C s f op) (e:s'.oth=s.oth):Fz C s' f op:=by
 refine ⟨by rw [pa e]; exact h.fl,by rw [pa e]; exact h.ff,by rw [tz e]; exact h.wl,by rw [tz e]; exact h.wc,h.oc,by rw [xn e]; exact h.sc⟩
theorem Fz.sf {op:Option Nat} (h:Fz C s f op) (x:bC) (op':Option Nat) (ho:∀j,op'=some j→Gp C f j∨C.widen_Cluster.length≤j):Fz C (s.sf f x) f op':=
 ⟨by rw [xd]; exact h.fl,fun j a b=>by simp only [Sto.sf]; rw [aQ (tO b)]; exact h.ff j a b,h.wl,h.wc,ho,h.sc⟩
theorem Fz.more {op:Option Nat} (h:Fz C s f op) {s':Sto} {z:bj} (e:s'.oth=(s.add_widen_Cluster z).oth):Fz C s' f op:=by
 have e1:s'.feed_Feeder=s.feed_Feeder:=(pa e).trans rfl;have e2:s'.widen_Cluster=s.widen_Cluster++ [z]:=(tz e).trans rfl;have e3:s'.screen_Screen=s.screen_Screen:=(xn e).trans rfl;have hl:=h.wl;exact ⟨by rw [e1]; exact h.fl,by rw [e1]; exact h.ff,by rw [e2,av]; omega,fun j a b=>by rw [e2,aB (by omega)]; exact h.wc j a b,h.oc,by rw [e3]; exact h.sc⟩
theorem Fz.grow {j:Nat} (h:Fz C s f (some j)) {s':Sto} {z:bj} (e:s'.oth=(s.sc j z).oth):Fz C s' f (some j):=by
 have e1:s'.feed_Feeder=s.feed_Feeder:=(pa e).trans rfl;have e2:s'.widen_Cluster=s.widen_Cluster.set j z:=(tz e).trans rfl;have e3:s'.screen_Screen=s.screen_Screen:=(xn e).trans rfl;refine ⟨by rw [e1]; exact h.fl,by rw [e1]; exact h.ff,by rw [e2,cp]; exact h.wl,fun i a b=>?_,h.oc,by rw [e3]; exact h.sc⟩;rw [e2,aQ ?_]
 ·exact h.wc i a b
 ·rintro rfl;rcases h.oc j rfl with q | q
  ·exact b q
  ·omega
def yu (G:List Int):Bool:=match G.getLast? with | none=>true | some x=>sil x
theorem lA (G:List Int) (r:Int):yu (G++ [r])=sil r:=by simp [yu]
def oX (G:List Int):Sg:=if yu G=true then sg0 else sgF (G.map pr)
structure Op (s:Sto) (k g W H:Nat) (P:ag) (G:List Int) (q:ag) (j:Nat):Prop where
 x:∃q0 c C0 s0 ks0 cs0 cl,cls pj pr G=cs0++ [cl]∧cl≠ []∧sil (cl.headD 0)=false∧fo tD P cs0=some q0∧Pv C0 s0 k g W q0 ks0∧ks0.length=H∧
  Wc s j c (gf (cl.take 16) ((cl.take 16).map pr)) (cl.take 16) (w16 cl)∧aT q0 (w16 cl) (cl.take 16)=some (q,c)
structure Fd (C s:Sto) (f k g W H:Nat) (P:ag) (G h:List Int) (q:ag) (ks:List Nat) (op:Option Nat):Prop where
 v:Pv s s k g W q ks
 fr:Fr C s k g ks
 fz:Fz C s f op
 n:ks.length=H
 hd:Hd q.At W H
 l:fo tD P (cls pj pr G)=some q
 gv:∀x∈G,vld x=true
 d:∃d,s.feed_Feeder[f]? = some ⟨some k,d,sgB (oX G),op⟩∧Dv d h
 o1:yu G=true→op=none
 o2:yu G=false→∃j,op=some j∧Op s k g W H P G q j
theorem FW {x:Int} (h:vld x=true):r32 x:=by
 unfold vld at h;unfold r32;simp only [aq,an] at h;omega
theorem E9 {q q':ag} {r:Int} {b:Bool} (h:dK q r=some (q',b)):Dq q r=some q':=by
 unfold Dq;rw [h];rfl
theorem D9 (c:List Int):(c.take 16).length≤16:=by rw [az]; omega
theorem qr (t:List Int) (r:Int):gf (t++ [r]) ((t++ [r]).map pr)=gz (gf t (t.map pr)) r (pr r):=by
 rw [uA (by simp) r];have e:((t++ [r]).map pr).take t.length=t.map pr:=by simp
 rw [←EU t ((t++ [r]).map pr) (ay _),e];simp
theorem Dh {r:Int} (h:vld r=true):gj r=r:=by unfold gj; rw [ae h]
theorem CO {C s:Sto} {k g W H:Nat} {q0 q:ag} {ks:List Nat} (h:Pv C s k g W q0 ks) (hn:ks.length=H) {n:Int} {t:List Int} (ht:t.length≤1000000) {c:ai} (hp:aT q0 n t=some (q,c)):Hd q.At W H:=by
 obtain ⟨s',q',ks',i,a,_,_,a2,_,_,a5,_⟩:=zI h n t ht;rw [hp] at a2;cases a2;rw [←hn];exact a5
theorem Dz {G h:List Int} {op:Option Nat} (F:Fd C s f k g W H P G h q ks op) {r:Int} (hr:vld r=true):∃s' q' ks' op',gn s (some f) r=some s'∧Fd C s' f k g W H P (G++ [r]) h q' ks' op':=by
 obtain ⟨d,hd,hdv⟩:=F.d;have hf:=cK hd;have hgv:∀x∈G++ [r],vld x=true:=fun x hx=>by
  rcases List.mem_append.1 hx with hx | hx
  ·exact F.gv x hx
  ·rw [List.mem_singleton.1 hx]; exact hr
 have hcs:=oM pj pr G r;unfold gn;rw [zr];simp only [bsm]
 cases hs:sil r with
 | true=>
  simp only [bw];unfold cY;simp only [bI,fb,bw,bsm,hd];rw [qi hf];simp only [bsm,wv];rw [qi (by rw [xd]; exact hf),Fy];simp only [bsm];rw [tj hf];simp only [bsm];obtain ⟨s',q',ks',a1,a2,a3,hks,hcd⟩:=Fb (F.v.sf (f:=f) ⟨some k,d,sgB sg0,none⟩) r;rw [a1];have hdo:=E9 a2;have hf1:Fr C (s.sf f ⟨some k,d,sgB sg0,none⟩) k g ks:=F.fr.rgp (Rgp.self _) ⟨rfl,rfl,rfl⟩;have hv1:=F.v.sf (f:=f) ⟨some k,d,sgB sg0,none⟩;refine ⟨s',q',ks',none,rfl,⟨a3.self,hf1.trans hv1.oG hv1.oR a3.f,(F.fz.sf ⟨some k,d,sgB sg0,none⟩ none (fun j e=>by cases e)).oth a3.o,by rw [hks]; exact F.n,by rw [←F.n]; exact hcd (by rw [F.n]; exact F.hd),?_,hgv,⟨d,?_,hdv⟩,fun _=>rfl,fun e=>?_⟩⟩
  ·
   rw [hcs];split
   ·rename_i hj
    obtain ⟨l0,x,rfl,hx⟩:=Cq.yes hs hj;obtain ⟨cs0,c,ec⟩:=jm ((oN (pj:=pj) (pr:=pr) (l0++ [x])).2.2 (by simp));obtain ⟨c',rfl⟩:=yP ec;rw [ec,mw];have hall:=Cq.all (l0++ [x]) (c'++ [x]) (by rw [ec]; simp);have hal:∀y∈c'++ [x],sil y=true:=by
     rcases hall with q | q
     ·exact q
     ·have:=q x (by simp); rw [hx] at this; cases this
    have hl:=F.l;rw [ec,qQ] at hl;rw [qQ]
    cases hq0:fo tD P cs0 with
    | none=>rw [hq0] at hl; cases hl
    | some q0=>
     rw [hq0] at hl;simp only [bsm] at hl⊢;obtain ⟨a,t,ea⟩:∃a t,c'++ [x]=a :: t:=by
      cases h:c'++ [x] with
      | nil=>simp at h
      | cons a t=>exact ⟨a,t,rfl⟩
     have ha:sil a=true:=hal a (by rw [ea]; simp);rw [ea,uX ha] at hl;rw [ea,cZ,uX ha,←cZ,qQ,hl];exact hdo
   ·rw [qQ,F.l];simp only [bsm];rw [uX hs];show (Dq q r).bind (fun b=>some b)=_;rw [hdo];rfl
  ·have:oX (G++ [r])=sg0:=by unfold oX; rw [lA,ae hs]
   rw [this,pa a3.o];exact tj hf
  ·rw [lA,hs] at e;cases e
 | false=>
  simp only [ak,aU];rw [zn r (FW hr)];simp only [bsm,hd];rw [xY];simp only [bsm];rw [qi hf];simp only [bsm];have hsj:sgJ pj (oX G) (pr r)=jn pj pr G r∧sgN (oX G) (pr r)=sgF ((G++ [r]).map pr):=by
   unfold oX;rw [bO,qH,rY]
   cases hL:yu G with
   | false=>simp only [ak,aU]; exact ⟨rfl,trivial⟩
   | true=>
    simp only [bw];by_cases hG:G= []
    ·subst hG; exact ⟨rfl,rfl⟩
    ·obtain ⟨G0,x,rfl⟩:=jm hG;rw [lA] at hL;rw [Cq.no G0 hL hs,Cq.new G0 hL];exact ⟨rfl,rfl⟩
  rw [hsj.1,hsj.2];have hsg:oX (G++ [r])=sgF ((G++ [r]).map pr):=by unfold oX; rw [lA,hs]; rfl
  rw [←hsg];have hv1:=F.v.sf (f:=f) ⟨some k,d,sgB (oX (G++ [r])),op⟩;have hf1:Fr C (s.sf f ⟨some k,d,sgB (oX (G++ [r])),op⟩) k g ks:=F.fr.rgp (Rgp.self _) ⟨rfl,rfl,rfl⟩;have hz1:=F.fz.sf ⟨some k,d,sgB (oX (G++ [r])),op⟩ op F.fz.oc;have hg1:(s.sf f ⟨some k,d,sgB (oX (G++ [r])),op⟩).feed_Feeder[f]? = some ⟨some k,d,sgB (oX (G++ [r])),op⟩:=tj hf;simp only [ba,bsm];rw [hg1];simp only [bsm];have hfix:=Dh hr
  cases hj:jn pj pr G r with
  | true=>
   have hL:yu G=false:=by
    cases hL:yu G with
    | false=>rfl
    | true=>
     obtain ⟨G0,x,rfl⟩:=jm (wM pj pr hj);rw [lA] at hL;rw [Cq.no G0 hL hs] at hj;cases hj
   obtain ⟨j,rfl,⟨q0,c,C0,s0,ks0,cs0,cl,ec,hcne,hcs0,hq0,hp0,hn0,hw,hput⟩⟩:=F.o2 hL;simp only [bI,fb,Bool.and_self,bw];have hcs2:cls pj pr (G++ [r])=cs0++ [cl++ [r]]:=by rw [hcs,ae hj,ec,mw]
   have hclv:∀x∈cl.take 16,vld x=true:=fun x hx=>F.gv x (by
    rw [←(oN (pj:=pj) (pr:=pr) G).1,ec];exact List.mem_flatten.2 ⟨cl,by simp,jF hx⟩)
   have hhd:sil ((cl++ [r]).headD 0)=false:=by
    cases cl with
    | nil=>exact absurd rfl hcne
    | cons a t=>exact hcs0
   have hw16:w16 cl=wz (gf (cl.take 16) ((cl.take 16).map pr)):=rfl;rw [hw16] at hw hput;have on:On C (s.sf f ⟨some k,d,sgB (oX (G++ [r])),some j⟩) k g W H j q0 (gf (cl.take 16) ((cl.take 16).map pr)) (cl.take 16) q c ks:=⟨hv1,hf1,hw.sf _,F.n,hput⟩;have hlayc:∀q2 c2,aT q0 (w16 (cl++ [r])) ((cl++ [r]).take 16)=some (q2,c2)→fo tD P (cls pj pr (G++ [r]))=some q2:=fun q2 c2 e=>by
    rw [hcs2,qQ,hq0];simp only [bsm]
    cases hcc:cl++ [r] with
    | nil=>simp at hcc
    | cons a t=>
     rw [hcc] at e hhd;rw [yy (by simpa using hhd),e];rfl
   have hlen:cl.length < 16∨16≤cl.length:=by omega
   have hcl1:1≤cl.length:=by
    cases cl with
    | nil=>exact absurd rfl hcne
    | cons _ _=>simp
   rcases hlen with hlt | hge
   ·have et:cl.take 16=cl:=aH (by omega);have et2:(cl++ [r]).take 16=cl++ [r]:=aH (by simp; omega);rw [et] at on hclv;obtain ⟨s',q',c',ks',b1,b2,z,b3⟩:=EO hp0 hn0 on hcl1 hlt hclv r (pr r);rw [b1];simp only [bsm];rw [hfix,←qr] at b2;have hw2:w16 (cl++ [r])=wz (gf (cl++ [r]) ((cl++ [r]).map pr)):=by unfold w16; rw [et2]
    refine ⟨s',q',ks',some j,rfl,⟨b2.v,b2.f,hz1.grow b3,b2.n,CO hp0 hn0 (D9 cl |> fun _=>by simp; omega) b2.p,hlayc q' c' (by rw [hw2,et2]; exact b2.p),hgv,⟨d,?_,hdv⟩,fun e=>?_,fun _=>⟨j,rfl,⟨q0,c',C0,s0,ks0,cs0,cl++ [r],hcs2,by simp,hhd,hq0,hp0,hn0,?_,by rw [hw2,et2]; exact b2.p⟩⟩⟩⟩
    ·rw [show s'.feed_Feeder=(s.sf f ⟨some k,d,sgB (oX (G++ [r])),some j⟩).feed_Feeder from (pa b3).trans rfl];exact hg1
    ·rw [lA,hs] at e; cases e
    ·rw [hw2,et2];exact b2.w
   ·have hfl:(cl.take 16).length=16:=by rw [az]; omega
    have et2:(cl++ [r]).take 16=cl.take 16:=dF hge;have hw2:w16 (cl++ [r])=w16 cl:=by unfold w16; rw [et2]
    rw [BL on hfl r (pr r)];simp only [bsm];refine ⟨_,q,ks,some j,rfl,⟨hv1,hf1,hz1,F.n,F.hd,hlayc q c (by rw [hw2,et2]; exact hput),hgv,⟨d,hg1,hdv⟩,fun e=>?_,fun _=>⟨j,rfl,⟨q0,c,C0,s0,ks0,cs0,cl++ [r],hcs2,by simp,hhd,hq0,hp0,hn0,?_,by rw [hw2,et2]; exact hput⟩⟩⟩⟩
    ·rw [lA,hs] at e; cases e
    ·rw [hw2,et2];exact hw.sf _
  | false=>
   simp only [gY,ak,aU];obtain ⟨s2,q2,c2,ks2,b1,b2,z,b3⟩:=DK hv1 r (pr r);rw [b1];simp only [bsm];have e1:s2.feed_Feeder=(s.sf f ⟨some k,d,sgB (oX (G++ [r])),op⟩).feed_Feeder:=(pa b3).trans rfl;rw [e1,hg1];simp only [bsm];have hf2:f < s2.feed_Feeder.length:=by rw [e1,xd]; exact hf
   rw [qi hf2];rw [hfix] at b2;have hgf:gz ⟨false,false,false⟩ r (pr r)=gf [r] ([r].map pr):=by
    have:=qr [] r;simp only [bN] at this;rw [this];rfl
   rw [hgf] at b2;have hcs2:cls pj pr (G++ [r])=cls pj pr G++ [[r]]:=by rw [hcs,hj]; rfl
   have hlay:fo tD P (cls pj pr (G++ [r]))=some q2:=by
    rw [hcs2,qQ,F.l];simp only [bsm];rw [yy hs];show (aT q (wz (gf [r] ([r].map pr))) [r]).map (·.1)=some q2;rw [b2.p];rfl
   refine ⟨_,q2,ks2,some (s.sf f ⟨some k,d,sgB (oX (G++ [r])),op⟩).widen_Cluster.length,rfl,⟨b2.v.sf _,?_,(hz1.more b3).sf _ _ (fun j e=>?_),b2.n.trans F.n,CO F.v F.n (by simp) b2.p,hlay,hgv,⟨d,tj hf2,hdv⟩,fun e=>?_,fun _=>⟨_,rfl,⟨q,c2,_,_,ks,cls pj pr G,[r],hcs2,by simp,hs,F.l,F.v,F.n,b2.w.sf _,b2.p⟩⟩⟩⟩
   ·exact (hf1.trans hv1.oG hv1.oR b2.f).rgp (Rgp.self _) ⟨rfl,rfl,rfl⟩
   ·cases e;exact .inr hz1.wl
   ·rw [lA,hs] at e; cases e
end Go.Proofs.YtclmdpamofdoiaaGreatDoor
namespace Go.Proofs.YtclmdpamofdoiaaGreatDoor
open Go Go.Lt
theorem yF:dg=bY:=rfl
theorem BW (t:List Int) (h:R32 t) (hl:t.length≤1000000):lE t=some (wz (gf t (t.map pr))):=by
 unfold lE;refine gF (n:=t.length) (fun i (a:Int×Int×Bool×Bool×Bool)=>a=(wz (gf (t.take i) ((t.take i).map pr)),(i:Int),(gf (t.take i) ((t.take i).map pr)).some,(gf (t.take i) ((t.take i).map pr)).pict,(gf (t.take i) ((t.take i).map pr)).wide)) (fun u=>u.1=wz (gf t (t.map pr))) (fun i a hi e=>?_) (fun a e=>?_) rfl (by omega) (fun u e=>by rw [e])
 ·left
  subst e;simp only;rw [ae (dlt hi),aW hi,bsm,zn _ (h _ (ax hi)),bsm,yF,vh,bsm,ci hi (by omega)];refine ⟨_,rfl,?_⟩;rw [aj hi,qr]
 ·subst e;exact ⟨_,by simp only; rw [ab (by simp)],by simp only; rw [bU]⟩
variable {s C:Sto} {k g W:Nat} {q P:ag} {ks:List Nat}
end Go.Proofs.YtclmdpamofdoiaaGreatDoor
namespace Go.Proofs.YtclmdpamofdoiaaGreatDoor
open Go Go.Lt
theorem Ij {σ:Type} {y:σ→Int→List Int→Option (σ×Bool)} (l:List Int) (h:R32 l) (hl:l.length≤1000000) {s0:σ} (P:List (List Int)→σ→Prop)
  (hy:∀cs0 s c (i:Int),(∃t,cls pj pr l=cs0++c :: t)→P cs0 s→∃s',y s i c=some (s',true)∧P (cs0++ [c]) s') (hf:P [] s0):∃s1,kf y l s0=some s1∧P (cls pj pr l) s1:=by
 have hsl:∀k m:Nat,k≤m→m≤l.length→slc l (k:Int) (m:Int)=some ((l.drop k).take (m - k)):=fun k m h1 h2=>rC h1 h2;have hsn:∀(k i:Nat) (hi:i < l.length),k≤i→(l.drop k).take (i+1 - k)=(l.drop k).take (i - k)++ [l[i]]:=fun k i hi hk=>by
  have e:i+1 - k=(i - k)+1:=by omega
  have hd:i - k < (l.drop k).length:=by rw [bm]; omega
  rw [e,aj hd,I8]
  congr 3
  omega
 unfold kf;refine ga (n:=l.length) (p:=fun s1=>P (cls pj pr l) s1) (fun i (a:bu×Int×Int×σ)=>∃(k:Nat) (s:σ),a=(sgB (sgF ((l.take i).map pr)),(k:Int),(i:Int),s)∧((i=0∧k=0∧s=s0)∨∃cs0,cls pj pr (l.take i)=cs0++ [(l.drop k).take (i - k)]∧k < i∧P cs0 s))
  (fun (u:σ ⊕ (Int×σ))=>∃(k:Nat) (s:σ),u= .inr ((k:Int),s)∧((l.length=0∧k=0∧s=s0)∨∃cs0,cls pj pr l=cs0++ [(l.drop k).take (l.length - k)]∧k < l.length∧P cs0 s)) (fun i a hi hI=>?_) (fun a hI=>?_) ⟨0,s0,rfl,.inl ⟨rfl,rfl,rfl⟩⟩ (by omega) (fun u hu=>?_)
 ·obtain ⟨k,s,rfl,hI⟩:=hI
  left
  simp only;have hst:=oM pj pr (l.take i) l[i];rw [←aj hi] at hst;have hsg:sgF ((l.take (i+1)).map pr)=sgN (sgF ((l.take i).map pr)) (pr l[i]):=by rw [aj hi,bO,qH,rY]
  rw [ae (dlt hi),ci hi (by omega),aW hi,bsm,zn _ (h _ (ax hi)),bsm,Bj,bsm,br,bsm];have hjn:sgJ pj (sgF ((l.take i).map pr)) (pr l[i])=jn pj pr (l.take i) l[i]:=rfl;simp only;rw [hjn,←hsg];rcases hI with ⟨rfl,rfl,rfl⟩ | ⟨cs0,hc,hk,hs⟩
  ·rw [ae (by simp)];refine ⟨_,rfl,0,s,rfl,.inr ⟨[],?_,by omega,hf⟩⟩;have hz:jn pj pr ([]:List Int) l[0]=false:=rfl;rw [hst,fW,hz,ab (by simp),hsn 0 0 hi (ay _)];rfl
  ·cases hj:jn pj pr (l.take i) l[i] with
   | true=>
    rw [ae (by simp)];rw [hj,ae rfl,hc,mw] at hst;exact ⟨_,rfl,k,s,rfl,.inr ⟨cs0,by rw [hst,hsn k i hi (by omega)],by omega,hs⟩⟩
   | false=>
    rw [ab (by simp; omega),hsl k i (by omega) (by omega),bsm];rw [hj,ab (by simp),hc] at hst;obtain ⟨t,x,ht⟩:=Fg hst (l.length - (i+1)) (by omega);rw [show i+1+(l.length - (i+1))=l.length by omega,bU] at ht;obtain ⟨s',h1,h2⟩:=hy cs0 s ((l.drop k).take (i - k)) (k:Int) ⟨t++ [x],by rw [ht]; simp⟩ hs;rw [h1,bsm,ab (by simp)];refine ⟨_,rfl,i,s',rfl,.inr ⟨cs0++ [(l.drop k).take (i - k)],?_,by omega,?_⟩⟩
    ·rw [hst,hsn i i hi (ay _),mj];rfl
    ·exact h2
 ·obtain ⟨k,s,rfl,hI⟩:=hI;refine ⟨_,by simp only; rw [ab (by simp)],k,s,rfl,?_⟩;rw [bU] at hI;exact hI
 ·obtain ⟨k,s,rfl,hI⟩:=hu;simp only;rcases hI with ⟨h0,rfl,rfl⟩ | ⟨cs0,hc,hk,hs⟩
  ·rw [ab (by rw [an]; omega)];obtain rfl:=ck h0;exact ⟨_,rfl,hf⟩
  ·rw [ae (by rw [an]; omega),hsl k l.length (by omega) (ay _),bsm];obtain ⟨s',h1,h2⟩:=hy cs0 s ((l.drop k).take (l.length - k)) (k:Int) ⟨[],by rw [hc]⟩ hs;rw [h1,bsm];refine ⟨_,rfl,?_⟩;rw [hc];exact h2
theorem Dx (l:List Int) (h:R32 l) (hl:l.length≤1000000):gG l=some ((cls pj pr l).length:Int):=by
 unfold gG jT;have hc:(cls pj pr l).length≤1000000:=by
  obtain ⟨hf,hne,_⟩:=oN (pj:=pj) (pr:=pr) l;have key:∀cs:List (List Int),(∀c∈cs,c≠ [])→cs.length≤cs.flatten.length:=by
   intro cs
   induction cs with
   | nil=>intro _; simp
   | cons c cs ih=>
    intro h;have h1:=ih fun d hd=>h d (oU _ hd);have h2:1≤c.length:=by
     cases c with
     | nil=>exact absurd rfl (h [] (by simp))
     | cons _ _=>simp
    simp only [nG,aI,av];omega
  have:=key (cls pj pr l) hne;rw [hf] at this;omega
 obtain ⟨r,h1,h2⟩:=Ij (y:=fun (out:List Int) i _=>(app out [i]).bind fun o=>some (o,true)) (s0:=[]) l h hl (fun cs s=>s.length=cs.length) (fun cs0 s c i ⟨t,ht⟩ hs=>by
  have:cs0.length+1≤(cls pj pr l).length:=by rw [ht]; simp
  rw [ma _ _ (by simp; omega),bsm];exact ⟨_,rfl,by simp [hs]⟩) rfl
 rw [h1,bsm,h2]
theorem Bf (t:List Int) (hl:t.length≤1000000):∃r,ce t=some r∧decide (r≥0)=t.any sil:=by
 unfold ce;refine ga (n:=t.length) (fun i (a:Int)=>a=(i:Int)∧(t.take i).any sil=false) (fun u=>(∃k:Nat,u= .inl (k:Int)∧t.any sil=true)∨(u= .inr ()∧t.any sil=false)) (fun i a hi hI=>?_) (fun a hI=>?_) ⟨rfl,by simp⟩ (by omega) (fun u hu=>?_)
 ·obtain ⟨rfl,hI⟩:=hI;rw [ae (dlt hi),aW hi,bsm,zr,bsm];by_cases hs:sil t[i]=true
  ·right
   rw [ae hs];exact ⟨_,rfl,.inl ⟨i,rfl,List.any_eq_true.2 ⟨_,ax hi,hs⟩⟩⟩
  ·left
   rw [ab hs,ci hi (by omega)];refine ⟨_,rfl,rfl,?_⟩;rw [aj hi,Ce,hI];simpa using hs
 ·obtain ⟨rfl,hI⟩:=hI;rw [bU] at hI;exact ⟨_,by rw [ab (by simp)],.inr ⟨rfl,hI⟩⟩
 ·rcases hu with ⟨k,rfl,hu⟩ | ⟨rfl,hu⟩
  ·exact ⟨_,rfl,by rw [hu]; simp⟩
  ·exact ⟨_,rfl,by rw [hu]; decide⟩
theorem xc (t:List Int) (hl:t.length≤1000000):bA t=some (t.any sil):=by
 unfold bA;obtain ⟨r,h1,h2⟩:=Bf t hl;rw [h1,bsm,h2]
theorem B8 (t:List Int):dv t [65533]=some (decide (t= [65533])):=by
 unfold dv
 match t with
 | []=>rfl
 | [x]=>
  by_cases hx:x=65533
  ·subst hx; rfl
  ·have e:(x != 65533)=true:=by simpa using hx
   have e2:decide ([x]= [65533])=false:=by simpa using hx
   rw [e2];simp [cv,idx,hx]
 | x :: y :: z=>
  rw [ae (by simp; omega)];simp
theorem CK (t:List Int) (h:R32 t) (hl:t.length≤16):gN t=some (wz (gf t (t.map pr))):=by
 unfold gN;rw [uP _ h (by omega)];simp only [bsm];rw [Hr _ _ (by simp) (by omega)];rfl
def drw (c:aa):Bool:=
 (c.Kind==0 || c.Kind==3) || (c.Kind==1 && decide (c.Text= [65533])) || (!c.Text.any sil && (((cls pj pr c.Text).length:Int)==1 && wz (gf c.Text (c.Text.map pr))==c.Kind))
theorem A7 {t:List Int} (h:t.all vld=true):R32 t:=fun x hx=>by
 have:=List.all_eq_true.1 h x hx;unfold vld at this;simp only [aq,an] at this;unfold r32;omega
theorem mC {c:aa} (h:rgt c=true):(c.Kind=0∧c.Text= [])∨(c.Kind=3∧c.Text= [])∨((c.Kind=1∨c.Kind=2)∧1≤c.Text.length∧c.Text.length≤16∧c.Text.all vld=true):=by
 unfold rgt at h;split at h
 ·rename_i q
  have e:c.Text= []:=by simpa using h
  rcases q with q | q
  ·exact .inl ⟨q,e⟩
  ·exact .inr (.inl ⟨q,e⟩)
 ·simp only [aq,aC,an] at h;exact .inr (.inr ⟨h.1.1.1,h.1.1.2,h.1.2,h.2⟩)
theorem Dm (c:aa) (h:rgt c=true):jh c=some (drw c):=by
 unfold jh drw;rcases mC h with ⟨h0,ht⟩ | ⟨h0,ht⟩ | ⟨h0,h1,h2,h3⟩
 ·rw [h0]; rfl
 ·rw [h0]; rfl
 ·have hR:=A7 h3;rw [B8,Dx _ hR (by omega),xc _ (by omega),BW _ hR (by omega)];have n0:(c.Kind==0)=false:=by simp; omega
  have n3:(c.Kind==3)=false:=by simp; omega
  simp only [n0,n3,ak,aU,bsm,ba];rcases h0 with q | q
  ·rw [q];simp only [show ((1:Int)==2)=false from rfl,ak,aU,show ((1:Int)==1)=true from rfl,dh,di];by_cases hb:c.Text= [65533]
   ·simp [hb]
   ·simp only [hb,decide_false,ak,aU,di]
    cases (c.Text.any sil) <;> simp
  ·rw [q];simp only [show ((2:Int)==2)=true from rfl,bw,show ((2:Int)==1)=false from rfl,gY,ak,aU,di]
   cases (c.Text.any sil) <;> simp
theorem Bw (c:aa) (h:rgt c=true):ei c=some (drw c):=by
 unfold ei drw;simp only [br,ba,bsm];rcases mC h with ⟨h0,ht⟩ | ⟨h0,ht⟩ | ⟨h0,h1,h2,h3⟩
 ·rw [h0]; rfl
 ·rw [h0]; rfl
 ·have hR:=A7 h3;have n0:(c.Kind==0)=false:=by simp; omega
  have n3:(c.Kind==3)=false:=by simp; omega
  simp only [n0,n3,di,cW];have hbad:((bD (c.Kind==1 && (c.Text.length:Int)==1) ((idx c.Text 0).bind fun g=>some (g==65533))).bind fun e=>some e)=some (c.Kind==1 && decide (c.Text= [65533])):=by
   match hc:c.Text,h1 with
   | [x],_=>
    cases (c.Kind==1)
    ·rfl
    ·by_cases hx:x=65533
     ·subst hx; rfl
     ·have e2:decide ([x]= [65533])=false:=by simpa using hx
      rw [e2];simp [bD,idx,hx]
   | x :: y :: z,_=>
    have e1:((((x :: y :: z).length:Nat):Int)==1)=false:=by simp; omega
    have e2:decide (x :: y :: z= [65533])=false:=by simp
    rw [e1,e2];simp [bD]
  rw [hbad,bsm];by_cases hb:(c.Kind==1 && decide (c.Text= [65533]))=true
  ·rw [ae hb,hb]; rfl
  ·rw [ab hb,show (c.Kind==1 && decide (c.Text= [65533]))=false by simpa using hb,di,yO _ hR (by omega),CK _ hR h2];refine gF (n:=c.Text.length) (fun i (a:Int)=>a=(i:Int)∧(c.Text.take i).any sil=false) (fun u=>(u= .inl false∧c.Text.any sil=true)∨(u= .inr ()∧c.Text.any sil=false)) (fun i a hi hI=>?_) (fun a hI=>?_) ⟨rfl,by simp⟩ (by omega) (fun u hu=>?_)
   ·obtain ⟨rfl,hI⟩:=hI;rw [ae (dlt hi),aW hi,bsm,nj,bsm];by_cases hs:sil c.Text[i]=true
    ·right
     rw [ae hs];exact ⟨_,rfl,.inl ⟨rfl,List.any_eq_true.2 ⟨_,ax hi,hs⟩⟩⟩
    ·left
     rw [ab hs,ci hi (by omega)];refine ⟨_,rfl,rfl,?_⟩;rw [aj hi,Ce,hI];simpa using hs
   ·obtain ⟨rfl,hI⟩:=hI;rw [bU] at hI;exact ⟨_,by rw [ab (by simp)],.inr ⟨rfl,hI⟩⟩
   ·rcases hu with ⟨rfl,hu⟩ | ⟨rfl,hu⟩
    ·rw [hu]; rfl
    ·rw [hu];simp only [bsm,ba];rfl
theorem Ii (u:Nat) (h:u < 2000000):fw .i32 (u:Int) 63=((u % 64:Nat):Int):=by
 have e1:(BitVec.ofInt 32 (u:Int) &&& BitVec.ofInt 32 63).toNat=u % 64:=by
  have b1:(BitVec.ofInt 32 (u:Int)).toNat=u:=by rw [BitVec.toNat_ofInt]; omega
  have b2:(BitVec.ofInt 32 63).toNat=63:=rfl;rw [BitVec.toNat_and,b1,b2];exact Nat.and_two_pow_sub_one_eq_mod u 6
 show IntKind.i32.wrap ((BitVec.ofInt 32 (u:Int) &&& BitVec.ofInt 32 63).toNat:Int)=_;rw [e1];exact wV (by omega)
theorem HL:∀y:Fin 64,iW .u8 128 (IntKind.u8.wrap (y.val:Int))=128+(y.val:Int):=by decide +kernel
theorem HK:∀y:Fin 32,iW .u8 192 (IntKind.u8.wrap (y.val:Int))=192+(y.val:Int):=by decide +kernel
theorem HJ:∀y:Fin 16,iW .u8 224 (IntKind.u8.wrap (y.val:Int))=224+(y.val:Int):=by decide +kernel
theorem HI:∀y:Fin 8,iW .u8 240 (IntKind.u8.wrap (y.val:Int))=240+(y.val:Int):=by decide +kernel
theorem or0:∀y:Fin 128,iW .u8 0 (IntKind.u8.wrap (y.val:Int))=(y.val:Int):=by decide +kernel
def frm (r:Int):List Int:=if r < 128 then [r] else if r < 2048 then [192+r / 64,128+r % 64] else if r < 65536 then [224+r / 4096,128+r / 64 % 64,128+r % 64] else [240+r / 262144,128+r / 4096 % 64,128+r / 64 % 64,128+r % 64]
def szf (r:Int):Int:=if r < 128 then 1 else if r < 2048 then 2 else if r < 65536 then 3 else 4
theorem wW {r:Int} (h:vld r=true):0≤r∧r≤1114111:=by
 unfold vld at h;simp only [aq,an] at h;omega
theorem AQ (r:Int):(frm r).length≤4:=by
 unfold frm
 repeat' split
 all_goals simp
theorem Cy {r:Int} (h:vld r=true):kR r=some (szf r):=by
 unfold kR szf;rw [ot,h];simp only [bsm,cm,ak,aU,an]
 repeat' split
 all_goals rfl
theorem BR (u:Nat):(u:Int).fdiv (2 ^ 6)=((u / 64:Nat):Int):=by
 rw [D4 _ (by decide)];rfl
theorem BF {u:Nat} (h:u < 2000000):iW .u8 128 (IntKind.u8.wrap (fw .i32 (u:Int) 63))=128+((u % 64:Nat):Int):=by
 rw [Ii u h];exact HL ⟨u % 64,DW _ (by decide)⟩
theorem Cz {r:Int} (h:vld r=true):kS r=some (frm r):=by
 obtain ⟨r0,r9⟩:=wW h;unfold kS;rw [Cy h,bsm];obtain ⟨u,rfl⟩:∃u:Nat,r=(u:Int):=⟨r.toNat,by omega⟩;unfold szf frm;by_cases h1:(u:Int) < 128
 ·rw [ae h1,ae h1];refine D5 (b:=some [iW .u8 0 (IntKind.u8.wrap (u:Int))]) rfl ?_;rw [or0 ⟨u,by omega⟩]
 ·rw [ab h1,ab h1];by_cases h2:(u:Int) < 2048
  ·rw [ae h2,ae h2];refine D5 (b:=some [iW .u8 192 (IntKind.u8.wrap ((u:Int).fdiv (2 ^ 6))),iW .u8 128 (IntKind.u8.wrap (fw .i32 (u:Int) 63))]) rfl ?_;rw [BF (by omega),BR,HK ⟨u / 64,by omega⟩];rfl
  ·rw [ab h2,ab h2];by_cases h3:(u:Int) < 65536
   ·rw [ae h3,ae h3];refine D5 (b:=some [iW .u8 224 (IntKind.u8.wrap (((u:Int).fdiv (2 ^ 6)).fdiv (2 ^ 6))),iW .u8 128 (IntKind.u8.wrap (fw .i32 ((u:Int).fdiv (2 ^ 6)) 63)),iW .u8 128 (IntKind.u8.wrap (fw .i32 (u:Int) 63))]) rfl ?_;rw [BR,BR,BF (by omega),BF (by omega),HJ ⟨u / 64 / 64,by omega⟩];simp only [aK,Cd,oT];refine ⟨?_,?_,?_⟩ <;> omega
   ·rw [ab h3,ab h3];refine D5 (b:=some [iW .u8 240 (IntKind.u8.wrap ((((u:Int).fdiv (2 ^ 6)).fdiv (2 ^ 6)).fdiv (2 ^ 6))),iW .u8 128 (IntKind.u8.wrap (fw .i32 (((u:Int).fdiv (2 ^ 6)).fdiv (2 ^ 6)) 63)),iW .u8 128 (IntKind.u8.wrap (fw .i32 ((u:Int).fdiv (2 ^ 6)) 63)),iW .u8 128 (IntKind.u8.wrap (fw .i32 (u:Int) 63))]) rfl ?_;rw [BR,BR,BR,BF (by omega),BF (by omega),BF (by omega),HI ⟨u / 64 / 64 / 64,by omega⟩];simp only [aK,Cd,oT];refine ⟨?_,?_,?_,?_⟩ <;> omega
theorem yH (l:List Int):(l.flatMap frm).length≤4 * l.length:=by
 induction l with
 | nil=>simp
 | cons x l ih=>
  rw [ry,av,aI];have:=AQ x;omega
theorem BP {l:List Int} {i:Nat} (h:i < l.length):(l.take (i+1)).flatMap frm=(l.take i).flatMap frm++frm l[i]:=by
 rw [aj h,wk];simp
theorem Dg {l:List Int} (hl:l.length≤1000000) {i:Nat} (h:i < l.length):app ((l.take i).flatMap frm) (frm l[i])=some ((l.take (i+1)).flatMap frm):=by
 have h1:=yH (l.take i);have h2:=AQ l[i];rw [az] at h1;rw [eP (by omega),BP h]
theorem Ej {l:List Int} (hv:∀x∈l,vld x=true) (hl:l.length≤1000000):lJ l=some (l.flatMap frm,Er.nil):=by
 unfold lJ;refine gF (n:=l.length) (fun i a=>a=((l.take i).flatMap frm,(i:Int))) (fun u=>u= .inr (l.flatMap frm)) (fun i a hi e=>?_) (fun a e=>?_) rfl (by omega) (fun u e=>by rw [e])
 ·left
  subst e;have hx:=hv _ (ax hi);simp only;rw [ae (dlt hi),aW hi,bsm,ot,hx,bsm,ab (by simp),Cz hx,bsm,Dg hl hi,bsm,ci hi (by omega)];exact ⟨_,rfl,rfl⟩
 ·subst e;exact ⟨_,by simp only; rw [ab (by simp)],by rw [bU]⟩
theorem yQ {a:List aa} (ha:a.length≤9223372036854775807) (hs:∀c∈a,c.Text.length≤9223372036854775807):fU a a=some true:=by
  unfold fU;rw [ab (by simp)];refine gF (n:=a.length) (fun i (q:Int)=>q=(i:Int)) (fun t=>t= .inr ()) (fun i q hi e=>?_) (fun q e=>?_) rfl (by omega) (fun t ht=>by rw [ht])
  · subst e
    left
    have hm:=hs _ (ax hi);obtain ⟨t,h1,h2⟩:=Bl a[i].Text hm a[i].Text;refine ⟨_,?_,rfl⟩;simp only [dlt hi,bw,aW hi,bsm,ci hi ha,h1,h2.2 rfl,yZ,cm,cW,ak,aU]
  · subst e
    exact ⟨_,by rw [ab (by simp)],rfl⟩
theorem yw {a:List ah} (ha:a.length≤9223372036854775807) (hs:∀x∈a,x.Cells.length≤9223372036854775807∧∀c∈x.Cells,c.Text.length≤9223372036854775807):fR a a=some true:=by
  unfold fR;rw [ab (by simp)];refine gF (n:=a.length) (fun i (q:Int)=>q=(i:Int)) (fun t=>t= .inr ()) (fun i q hi e=>?_) (fun q e=>?_) rfl (by omega) (fun t ht=>by rw [ht])
  · subst e
    left
    have hm:=hs _ (ax hi);refine ⟨_,?_,rfl⟩;simp only [dlt hi,bw,aW hi,bsm,ci hi ha,yQ hm.1 hm.2,kr,cm,cW,ak,aU]
  · subst e
    exact ⟨_,by rw [ab (by simp)],rfl⟩
def VwR (v:aE):Prop:=v.Lines.length≤35184372088832∧∀l∈v.Lines,l.Cells.length≤35184372088832∧∀c∈l.Cells,c.Text.length≤35184372088832
theorem El {v:aE} (h:VwR v):eK v v=some true:=by
  have h1:=h.1;unfold eK;rw [yw (by omega) (fun x hx=>⟨by have:=(h.2 x hx).1; omega,fun c hc=>by have:=(h.2 x hx).2 c hc; omega⟩)];simp only [kr,gH,ba,bsm,Bool.and_self]
def bare (v:aE):aE:=⟨v.Wide,v.High,v.Lines.map fun l=>⟨l.Cells,false⟩,⟨v.At.Row,v.At.Col,false⟩,v.Auto⟩
theorem zE (v:aE) (h:v.Lines.length≤1000):eJ v=some (bare v):=by
  unfold eJ;refine gF (n:=v.Lines.length) (fun i a=>a=((v.Lines.take i).map fun l=>(⟨l.Cells,false⟩:ah),(i:Int))) (fun u=>u=v.Lines.map fun l=>(⟨l.Cells,false⟩:ah)) (fun i a hi e=>?_) (fun a e=>?_) rfl (by omega) (fun u e=>by rw [e]; rfl)
  · left
    subst e;simp only;rw [ae (dlt hi),aW hi,bsm,ma _ _ (by simp; omega),bsm,ci hi (by omega)];refine ⟨_,rfl,?_⟩;rw [aj hi,bO];rfl
  · subst e
    refine ⟨_,by simp only; rw [ab (by simp)],?_⟩;simp only [bU]
theorem Fo (v:aE) (h:v.Lines.length≤1000) (hc:∀l∈v.Lines,l.Cells.length≤1000∧∀c∈l.Cells,c.Text.length≤35184372088832):kU v=some (bare v):=by
  unfold kU;refine gF (n:=v.Lines.length) (fun i a=>a=((i:Int),(v.Lines.take i).map fun l=>(⟨l.Cells,false⟩:ah))) (fun u=>u=v.Lines.map fun l=>(⟨l.Cells,false⟩:ah)) (fun i a hi e=>?_) (fun a e=>?_) rfl (by omega) (fun u e=>by rw [e]; rfl)
  · left
    subst e;have hm:=hc _ (ax hi);simp only;rw [ae (dlt hi),aW hi,bsm];refine exL (ga (n:=v.Lines[i].Cells.length) (fun k b=>b=(v.Lines[i].Cells.take k,(k:Int))) (fun t=>t=v.Lines[i].Cells) (fun k b hk e=>?_) (fun b e=>?_) rfl (by omega) (fun t e=>?_))
    · left
      subst e;have hx:=hm.2 _ (ax hk);have hcl:jC v.Lines[i].Cells[k].Text=some v.Lines[i].Cells[k].Text:=by
        unfold jC appW EY;rw [ae (by simp; omega)];simp
      simp only;rw [ae (dlt hk),aW hk,bsm,hcl,bsm,ma _ _ (by simp; omega),bsm,ci hk (by omega)];refine ⟨_,rfl,?_⟩;rw [aj hk]
    · subst e
      refine ⟨_,by simp only; rw [ab (by simp)],?_⟩;simp only [bU]
    · subst e
      rw [ma _ _ (by simp; omega),bsm,ci hi (by omega)];refine ⟨_,rfl,_,rfl,?_⟩;rw [aj hi,bO];rfl
  · subst e
    refine ⟨_,by simp only; rw [ab (by simp)],?_⟩;simp only [bU]
def nz (l:List ah):Nat:=(l.map (·.Cells.length)).sum
theorem tX (l:List ah) (x:ah):nz (l++ [x])=nz l+x.Cells.length:=by simp [nz]
theorem wT {l:List ah} {x:ah} (h:x∈l):x.Cells.length≤nz l:=by
  induction l with
  | nil=>cases h
  | cons a t ih=>
    simp only [nz,rP,List.sum_cons] at *;rcases List.mem_cons.1 h with q | q
    · subst q; omega
    · have:=ih q; omega
theorem AN (v:aE) (h:VwR v):∃b,em v=some b∧(b=false→v.Lines.length≤100∧nz v.Lines < 400):=by
  have h1:=h.1;unfold em;refine ga (n:=v.Lines.length) (fun i (a:Int×Int)=>a.2=(i:Int)∧a.1=(nz (v.Lines.take i):Int)∧nz (v.Lines.take i)≤35184372089232) (fun (t:Int)=>t < 400→t=(nz v.Lines:Int)) (fun i a hi hI=>?_) (fun a hI=>?_) ⟨rfl,rfl,by simp [nz]⟩ (by omega) (fun t ht=>?_)
  · obtain ⟨n,q⟩:=a
    obtain ⟨e,e2,h2⟩:=hI;simp only at e e2;subst e;subst e2;have hm:=(h.2 _ (ax hi)).1;simp only [dlt hi,gH,bsm];by_cases hn:(nz (v.Lines.take i):Int) < 400
    · left
      rw [ae (by simpa using hn),aW hi,bsm,ci hi (by omega),aJ (by omega)];refine ⟨_,rfl,rfl,?_,?_⟩
      · rw [aj hi,tX]
        simp
      · rw [aj hi,tX]
        omega
    · right
      rw [ab (by simpa using hn)];exact ⟨_,rfl,fun q=>absurd q hn⟩
  · obtain ⟨n,q⟩:=a
    obtain ⟨e,e2,h2⟩:=hI;simp only at e e2;subst e;subst e2;rw [bU];refine ⟨_,by simp only [show decide ((v.Lines.length:Int) < (v.Lines.length:Int))=false by simp,iS,bsm]; rw [ab (by simp)],fun _=>rfl⟩
  · simp only [br,bsm]
    refine ⟨_,rfl,fun q=>?_⟩;simp only [jI,du] at q;have:=ht (by omega);omega
def tQ (v:aE):Prop:=VwP v∧∀l∈v.Lines,∀c∈l.Cells,drw c=true
theorem ut {l:List aa} (h:Snd l):∀c∈l,rgt c=true:=fun c hc=>by
  obtain ⟨i,hi,rfl⟩:=List.mem_iff_getElem.1 hc;exact (h i hi).1
theorem zV (v:aE) (hL:v.Lines.length≤100) (hc:∀l∈v.Lines,l.Cells.length≤400):∃b,kz v=some b∧(b=true↔tQ v):=by
  unfold kz;obtain ⟨b,b1,b2⟩:=Ca v hL hc;rw [b1,bsm]
  cases b with
  | false=>
    rw [ae (by decide)];exact ⟨_,rfl,fun q=>(by cases q),fun q=>b2.2 q.1⟩
  | true=>
    have P:=b2.1 rfl;rw [ab (by simp)];refine ga (n:=v.Lines.length) (p:=fun b=>(b=true↔tQ v)) (fun i (a:Int)=>a=(i:Int)∧∀l∈v.Lines.take i,∀c∈l.Cells,drw c=true) (fun t=>(t= .inl false∧¬tQ v)∨(t= .inr ()∧∀l∈v.Lines,∀c∈l.Cells,drw c=true)) (fun i a hi hI=>?_) (fun a hI=>?_) ⟨rfl,by simp⟩ (by omega) (fun t ht=>?_)
    · obtain ⟨rfl,h⟩:=hI
      have hm:=ax hi;have hl:=hc _ hm;have hr:=ut (P.lines _ hm).2;rw [ae (dlt hi),aW hi,bsm];obtain ⟨t,t1,t2⟩:∃t,cv (σ:=Int) (τ:=Bool ⊕ Unit) (((v.Lines[i].Cells.length:Int) - 0).toNat+1) (fun d=>
 if (decide (d < (v.Lines[i].Cells.length:Int)))=true then
 (idx v.Lines[i].Cells d).bind fun f=>
 (jh f).bind fun g=>
 if (!g)=true then
 some (.inr (.inl false))
 else
 some (.inl ((w64 (d+1))))
 else
 some (.inr (.inr ()))) (0)=some t∧((t= .inl false∧¬∀c∈v.Lines[i].Cells,drw c=true)∨(t= .inr ()∧∀c∈v.Lines[i].Cells,drw c=true)):=by
        refine eG (n:=v.Lines[i].Cells.length) (fun k (a:Int)=>a=(k:Int)∧∀c∈v.Lines[i].Cells.take k,drw c=true) _ (fun k a hk hI=>?_) (fun a hI=>?_) ⟨rfl,by simp⟩ (by omega)
        · obtain ⟨rfl,hI⟩:=hI
          have hk':=ax hk;rw [ae (dlt hk),aW hk,bsm,Dm _ (hr _ hk'),bsm]
          cases hd:drw v.Lines[i].Cells[k] with
          | true=>
            left
            rw [ab (by simp),ci hk (by omega)];refine ⟨_,rfl,rfl,fun c hcm=>?_⟩;rw [aj hk] at hcm;rcases List.mem_append.1 hcm with q | q
            · exact hI c q
            · rw [List.mem_singleton.1 q]; exact hd
          | false=>
            right
            rw [ae (by decide)];exact ⟨_,rfl,.inl ⟨rfl,fun q=>by have:=q _ hk'; rw [hd] at this; cases this⟩⟩
        · obtain ⟨rfl,hI⟩:=hI
          rw [bU] at hI;exact ⟨_,by rw [ab (by simp)],.inr ⟨rfl,hI⟩⟩
      rw [t1,bsm];rcases t2 with ⟨rfl,t2⟩ | ⟨rfl,t2⟩
      · right
        exact ⟨_,rfl,.inl ⟨rfl,fun q=>t2 (q.2 _ hm)⟩⟩
      · left
        rw [ci hi (by omega)];refine ⟨_,rfl,rfl,fun l hlm=>?_⟩;rw [aj hi] at hlm;rcases List.mem_append.1 hlm with q | q
        · exact h l q
        · rw [List.mem_singleton.1 q]; exact t2
    · obtain ⟨rfl,h⟩:=hI
      rw [bU] at h;exact ⟨_,by rw [ab (by simp)],.inr ⟨rfl,h⟩⟩
    · rcases ht with ⟨rfl,h⟩ | ⟨rfl,h⟩
      · exact ⟨_,rfl,fun q=>(by cases q),fun q=>absurd q h⟩
      · exact ⟨_,rfl,fun _=>⟨P,h⟩,fun _=>rfl⟩
theorem wF (v:aE) (hL:v.Lines.length≤100) (hc:∀l∈v.Lines,l.Cells.length≤400):∃b,dV v=some b∧(b=true↔tQ v):=by
  unfold dV;obtain ⟨b,b1,b2⟩:=yi v ⟨by omega,fun l hl=>by have:=hc l hl; omega⟩;rw [b1,bsm]
  cases b with
  | false=>
    rw [ae (by decide)];exact ⟨_,rfl,fun q=>(by cases q),fun q=>b2.2 q.1⟩
  | true=>
    have P:=b2.1 rfl;rw [ab (by simp)];refine ga (n:=v.Lines.length) (p:=fun b=>(b=true↔tQ v)) (fun i (a:Int)=>a=(i:Int)∧∀l∈v.Lines.take i,∀c∈l.Cells,drw c=true) (fun t=>(t= .inl false∧¬tQ v)∨(t= .inr ()∧∀l∈v.Lines,∀c∈l.Cells,drw c=true)) (fun i a hi hI=>?_) (fun a hI=>?_) ⟨rfl,by simp⟩ (by omega) (fun t ht=>?_)
    · obtain ⟨rfl,h⟩:=hI
      have hm:=ax hi;have hl:=hc _ hm;have hr:=ut (P.lines _ hm).2;rw [ae (dlt hi),aW hi,bsm];obtain ⟨t,t1,t2⟩:∃t,cv (σ:=Int) (τ:=Bool ⊕ Unit) (((v.Lines[i].Cells.length:Int) - 0).toNat+1) (fun d=>
 (some v.Lines[i]).bind fun f=>
 if (decide (d < (f.Cells.length:Int)))=true then
 (some v.Lines[i]).bind fun g=>
 (idx g.Cells d).bind fun h=>
 (ei h).bind fun i=>
 if (!i)=true then
 some (.inr (.inl false))
 else
 some (.inl ((w64 (d+1))))
 else
 some (.inr (.inr ()))) (0)=some t∧((t= .inl false∧¬∀c∈v.Lines[i].Cells,drw c=true)∨(t= .inr ()∧∀c∈v.Lines[i].Cells,drw c=true)):=by
        refine eG (n:=v.Lines[i].Cells.length) (fun k (a:Int)=>a=(k:Int)∧∀c∈v.Lines[i].Cells.take k,drw c=true) _ (fun k a hk hI=>?_) (fun a hI=>?_) ⟨rfl,by simp⟩ (by omega)
        · obtain ⟨rfl,hI⟩:=hI
          have hk':=ax hk;rw [bsm,ae (dlt hk),bsm,aW hk,bsm,Bw _ (hr _ hk'),bsm]
          cases hd:drw v.Lines[i].Cells[k] with
          | true=>
            left
            rw [ab (by simp),ci hk (by omega)];refine ⟨_,rfl,rfl,fun c hcm=>?_⟩;rw [aj hk] at hcm;rcases List.mem_append.1 hcm with q | q
            · exact hI c q
            · rw [List.mem_singleton.1 q]; exact hd
          | false=>
            right
            rw [ae (by decide)];exact ⟨_,rfl,.inl ⟨rfl,fun q=>by have:=q _ hk'; rw [hd] at this; cases this⟩⟩
        · obtain ⟨rfl,hI⟩:=hI
          rw [bU] at hI;exact ⟨_,by rw [bsm,ab (by simp)],.inr ⟨rfl,hI⟩⟩
      rw [t1,bsm];rcases t2 with ⟨rfl,t2⟩ | ⟨rfl,t2⟩
      · right
        exact ⟨_,rfl,.inl ⟨rfl,fun q=>t2 (q.2 _ hm)⟩⟩
      · left
        rw [ci hi (by omega)];refine ⟨_,rfl,rfl,fun l hlm=>?_⟩;rw [aj hi] at hlm;rcases List.mem_append.1 hlm with q | q
        · exact h l q
        · rw [List.mem_singleton.1 q]; exact t2
    · obtain ⟨rfl,h⟩:=hI
      rw [bU] at h;exact ⟨_,by rw [ab (by simp)],.inr ⟨rfl,h⟩⟩
    · rcases ht with ⟨rfl,h⟩ | ⟨rfl,h⟩
      · exact ⟨_,rfl,fun q=>(by cases q),fun q=>absurd q h⟩
      · exact ⟨_,rfl,fun _=>⟨P,h⟩,fun _=>rfl⟩
end Go.Proofs.YtclmdpamofdoiaaGreatDoor
namespace Go.Lt
open Go.ChangeShapes Go.WideShapes Go.RowKit
theorem RdM.sliceB {P:Program} {t e:TypeId} {α:Type} {R:Rp α} {K:α→Prop} (ht:P.underlying t=some (.slice e)) (hc:P.cellsOf t=1) (h0:0 < R.size) (h:RdM P e R K):RdM P t (RL R) (fun xs=>xs.length * P.bytesOf e≤reachBytes∧∀x∈xs,K x):=by
 refine ⟨hc,fun {H enc w sp held fuel cs x} hd hw=>?_⟩;rcases DataW.trod_slice ht hd with ⟨rfl,_⟩ | ⟨a,len,cap,elems,rest,n,_,rfl,hx,_,hl,hm,hlen,hel,_,_⟩
 ·exact ⟨[],⟨_,rfl,Sl.nl R _⟩,by simp,fun x hx=>by cases hx⟩
 ·subst hx;simp only [DataW.weights,ht] at hw;have hlr:len * P.bytesOf e≤reachBytes:=by
   have h1:=hw _ (xM ..);have h2:len * P.bytesOf e≤((elems.map (·.1)).length+(rest.map (·.1)).length) * P.bytesOf e:=by
    rw [cM,hlen];exact gW _ (Nat.le_add_right _ _)
   omega
  obtain ⟨b,o,s⟩:=a;have key:∀i,i < len→∃x,K x∧∃b' off l,(some ⟨b,o,s⟩:Option Addr)=some ⟨b',off,none⟩∧R.cells (C0 w) l x∧∀j u,l[j]? = some u→Im (C0 w) b' (off+i * R.size+j) u:=by
   intro i hi;have hs:s=none:=by
    have hE:=hel 0 (by omega);rw [af (show 0 < elems.length by omega),FM] at hE;obtain ⟨cs,hcs,_⟩:=hE;obtain ⟨c1,c2⟩:=yR hcs;have hp:0 < cs.length:=by rw [c1,h.1]; exact h0
    have:=World.cell?_spot (c2 0 _ (af hp));simpa [Addr.add] using this
   subst hs;have hE:=hel i hi;rw [af (show i < elems.length by omega),FM] at hE;obtain ⟨cs,hcs,hr⟩:=hE;obtain ⟨c1,c2⟩:=yR hcs;have hget:(elems.map (·.1))[i]? = some elems[i].1:=by
    rw [bz,af (show i < elems.length by omega)];rfl
   obtain ⟨x,hx,hk⟩:=h.2 hr fun n hn=>hw n (oU _ (ew _ (tR hget n hn)));refine ⟨x,hk,b,o,cs,rfl,hx,fun j u hu=>im0 ?_⟩;have:=c2 j u hu;rw [FT,FT,h.1] at this;exact this
  obtain ⟨xs,hxl,hxs⟩:=HB len key;subst hxl;refine ⟨xs,⟨_,rfl,some ⟨b,o,s⟩,cap,rfl,hl,hm,fun i x hx=>(hxs i x hx).2⟩,hlr,fun x hx=>?_⟩;obtain ⟨i,hi⟩:=List.mem_iff_getElem?.1 hx;exact (hxs i x hi).1
end Go.Lt
namespace Go.Proofs.YtclmdpamofdoiaaGreatDoor
open Go Go.Lt Go.ChangeShapes Go.WideShapes Go.RowKit
set_option maxRecDepth 100000
def FQ (xs:List Int):Prop:=xs.length * Tryz.prog.bytesOf 21≤reachBytes∧∀x∈xs,Ir x
theorem Iu:RdM Tryz.prog 32 (RL (RI .i32)) FQ:=RdM.sliceB Tryz.underlying32 (by kernel_rfl) (by decide) IZ.m
def DY (c:aa):Prop:=K_3 c.Kind∧FQ c.Text
theorem G7:RdM Tryz.prog 114 aw DY:=by
 refine ⟨by kernel_rfl,fun {H enc w sp held fuel cs x} h hw=>?_⟩;obtain ⟨xs,n,rfl,rfl,hl,hn,hf⟩:=rA Tryz.underlying114 h;replace hl:=hl.trans (show Tryz.prog.cellsOf 114=2 by kernel_rfl);obtain ⟨a0,a1,rfl⟩:=HM hl;obtain ⟨y0,e0,k0⟩:=RdM.field Tryz.underlying114 hw hf hn 0 rfl D_3.m;have e0: [a0]= [.int .i64 y0]:=e0;cases e0;obtain ⟨y1,e1,k1⟩:=RdM.field Tryz.underlying114 hw hf hn 1 rfl Iu;obtain ⟨v1,e1,s1⟩:=e1;have e1: [a1]= [v1]:=e1;cases e1;exact ⟨⟨y0,y1⟩,⟨_,rfl,s1⟩,k0,k1⟩
def FO (xs:List aa):Prop:=xs.length * Tryz.prog.bytesOf 114≤reachBytes∧∀x∈xs,DY x
theorem It:RdM Tryz.prog 46 (RL aw) FO:=RdM.sliceB Tryz.underlying46 (by kernel_rfl) (by decide) G7
def FN (l:ah):Prop:=FO l.Cells
theorem Is:RdM Tryz.prog 48 aL FN:=by
 refine ⟨by kernel_rfl,fun {H enc w sp held fuel cs x} h hw=>?_⟩;obtain ⟨xs,n,rfl,rfl,hl,hn,hf⟩:=rA Tryz.underlying48 h;replace hl:=hl.trans (show Tryz.prog.cellsOf 48=2 by kernel_rfl);obtain ⟨a0,a1,rfl⟩:=HM hl;obtain ⟨y0,e0,k0⟩:=RdM.field Tryz.underlying48 hw hf hn 0 rfl It;obtain ⟨v0,e0,s0⟩:=e0;have e0: [a0]= [v0]:=e0;cases e0;obtain ⟨y1,e1,k1⟩:=RdM.field Tryz.underlying48 hw hf hn 1 rfl D_4.m;have e1: [a1]= [.bool y1]:=e1;cases e1;exact ⟨⟨y0,y1⟩,⟨_,rfl,s0⟩,k0⟩
def FR (xs:List ah):Prop:=xs.length * Tryz.prog.bytesOf 48≤reachBytes∧∀x∈xs,FN x
theorem Iv:RdM Tryz.prog 27 (RL aL) FR:=RdM.sliceB Tryz.underlying27 (by kernel_rfl) (by decide) Is
def FP (v:aE):Prop:=FR v.Lines
theorem FU:RdM Tryz.prog 45 Ac FP:=by
 refine ⟨by kernel_rfl,fun {H enc w sp held fuel cs x} h hw=>?_⟩;obtain ⟨xs,n,rfl,rfl,hl,hn,hf⟩:=rA Tryz.underlying45 h;replace hl:=hl.trans (show Tryz.prog.cellsOf 45=7 by kernel_rfl);obtain ⟨a0,a1,a2,a3,a4,a5,a6,rfl⟩:=IG hl;obtain ⟨y0,e0,k0⟩:=RdM.field Tryz.underlying45 hw hf hn 0 rfl D_3.m;have e0: [a0]= [.int .i64 y0]:=e0;cases e0;obtain ⟨y1,e1,k1⟩:=RdM.field Tryz.underlying45 hw hf hn 1 rfl D_3.m;have e1: [a1]= [.int .i64 y1]:=e1;cases e1;obtain ⟨y2,e2,k2⟩:=RdM.field Tryz.underlying45 hw hf hn 2 rfl Iv;obtain ⟨v2,e2,s2⟩:=e2;have e2: [a2]= [v2]:=e2;cases e2;obtain ⟨y3,e3,k3⟩:=RdM.field Tryz.underlying45 hw hf hn 3 rfl IY.m;have e3: [a3,a4,a5]= [.int .i64 y3.Row,.int .i64 y3.Col,.bool y3.Pending]:=e3;cases e3;obtain ⟨y4,e4,k4⟩:=RdM.field Tryz.underlying45 hw hf hn 4 rfl D_4.m;have e4: [a6]= [.bool y4]:=e4;cases e4;exact ⟨⟨y0,y1,y2,y3,y4⟩,⟨_,rfl,s2⟩,k2⟩
theorem Ci {v:aE} (k:FP v):VwR v:=by
 have b1:Tryz.prog.bytesOf 48=32:=by kernel_rfl
 have b2:Tryz.prog.bytesOf 114=32:=by kernel_rfl
 have b3:Tryz.prog.bytesOf 21=4:=by kernel_rfl
 have h1:=k.1;rw [b1] at h1;unfold reachBytes at h1;refine ⟨by omega,fun l hl=>?_⟩;obtain ⟨h2,h3⟩:=k.2 l hl;rw [b2] at h2;unfold reachBytes at h2;refine ⟨by omega,fun c hc=>?_⟩;have h4:=(h3 c hc).2.1;rw [b3] at h4;unfold reachBytes at h4;omega
end Go.Proofs.YtclmdpamofdoiaaGreatDoor
namespace Go.Proofs.YtclmdpamofdoiaaGreatDoor
open Go Go.Lt
set_option maxRecDepth 100000 in
theorem Ai:dB=some true:=by kernel_rfl
def cop (r k:Int) (c:aa):List aM:=if c.Text.length=0 then [] else [⟨2,r,k,[]⟩,⟨0,0,0,c.Text.flatMap frm⟩]
def lop (r:Int) (l:List aa) (k:Nat):List aM:=(List.range k).flatMap fun (j:Nat)=>match l[j]? with | some c=>cop r j c | none=>[]
theorem uU (r:Int) {l:List aa} {k:Nat} (h:k < l.length):lop r l (k+1)=lop r l k++cop r k l[k]:=by
 unfold lop;rw [lf,wk,ry,Jf,da];simp only [af h]
def uW (l:List aa) (k:Nat):Nat:=((l.take k).filter fun c=>decide (0 < c.Text.length)).length
theorem wK {l:List aa} {k:Nat} (h:k < l.length):uW l (k+1)=uW l k+(if 0 < l[k].Text.length then 1 else 0):=by
 unfold uW;rw [aj h,IV,av]
 congr 1
 by_cases q:0 < l[k].Text.length
 ·rw [ae q,List.filter_cons_of_pos (by simpa using q)]; rfl
 ·rw [ab q,List.filter_cons_of_neg (by simpa using q)]; rfl
theorem uy (l:List aa) (k:Nat):uW l k≤l.length:=by
 unfold uW;exact dd (nS _ _) (by rw [az]; omega)
theorem ux (r:Int) (l:List aa):∀k,k≤l.length→(lop r l k).length=2 * uW l k
 | 0,_=>rfl
 | k+1,h=>by
  rw [uU r h,wK h,av,ux r l k (by omega)];unfold cop;by_cases q:0 < l[k].Text.length
  ·rw [ab (by omega),ae q]; simp; omega
  ·rw [ae (by omega),ab q]; simp
theorem BJ (r:Int) (l:List aa) (hl:l.length≤400) (hr:∀c∈l,rgt c=true):kT r l=some (lop r l l.length):=by
 unfold kT;refine gF (n:=l.length) (fun k a=>a=(lop r l k,(k:Int))) (fun u=>u=lop r l l.length) (fun k a hk e=>?_) (fun a e=>?_) rfl (by omega) (fun u e=>by rw [e])
 ·left
  subst e;simp only;rw [ae (dlt hk),aW hk,bsm,ci hk (by omega),uU r hk];have hlen:=ux r l k (by omega);have hcn:=uy l k;unfold cop;by_cases q:l[k].Text.length=0
  ·rw [ae (by simp [q]),ae q,bsm,da];exact ⟨_,rfl,rfl⟩
  ·rw [ab (by simpa using fun e=>q (by simp [e])),ab q];rcases mC (hr _ (ax hk)) with ⟨_,e⟩ | ⟨_,e⟩ | ⟨_,_,h2,h3⟩
   ·exact absurd (by rw [e]; rfl) q
   ·exact absurd (by rw [e]; rfl) q
   ·rw [Ej (fun x hx=>List.all_eq_true.1 h3 x hx) (by omega),bsm,ma _ _ (by simp; omega),bsm,bsm];exact ⟨_,rfl,rfl⟩
 ·subst e;exact ⟨_,by simp only; rw [ab (by simp)],rfl⟩
def tB (ls:List ah) (n:Nat):List aM:=(List.range n).flatMap fun (i:Nat)=>match ls[i]? with | some l=>lop i l.Cells l.Cells.length | none=>[]
theorem tA {ls:List ah} {n:Nat} (h:n < ls.length):tB ls (n+1)=tB ls n++lop n ls[n].Cells ls[n].Cells.length:=by
 unfold tB;rw [lf,wk,ry,Jf,da];simp only [af h]
def sK:List ah→Nat→Nat
 | _,0=>0
 | ls,n+1=>sK ls n+(match ls[n]? with | some l=>uW l.Cells l.Cells.length | none=>0)
theorem tG {ls:List ah} {n:Nat} (h:n < ls.length):sK ls (n+1)=sK ls n+uW ls[n].Cells ls[n].Cells.length:=by
 show sK ls n+(match ls[n]? with | some l=>uW l.Cells l.Cells.length | none=>0)=_;rw [af h]
theorem su (ls:List ah):∀n,n≤ls.length→(tB ls n).length=2 * sK ls n
 | 0,_=>rfl
 | n+1,h=>by
  rw [tA h,tG h,av,su ls n (by omega),ux _ _ _ (ay _)];omega
theorem ph (ls:List ah) (hc:∀l∈ls,l.Cells.length≤400):∀n,n≤ls.length→sK ls n≤n * 400
 | 0,_=>dp _
 | n+1,h=>by
  rw [tG h];have h1:=ph ls hc n (by omega);have h2:=uy ls[n].Cells ls[n].Cells.length;have h3:=hc _ (ax h);omega
def nq (v:aE):List aM:=(⟨12,0,0,[]⟩ :: tB v.Lines v.Lines.length)++(if v.Auto=true then [⟨12,1,0,[]⟩] else [])++ [⟨2,v.At.Row,v.At.Col,[]⟩]
theorem Gt {v:aE} (h:¬tQ v) (hL:v.Lines.length≤100) (hc:∀l∈v.Lines,l.Cells.length≤400):fJ v=some ([],false):=by
 unfold fJ;obtain ⟨b,b1,b2⟩:=zV v hL hc;rw [b1,bsm,show b=false by cases b with | false=>rfl | true=>exact absurd (b2.1 rfl) h,ae (by decide)]
theorem zJ {v:aE} (h:tQ v) (hL:v.Lines.length≤100) (hc:∀l∈v.Lines,l.Cells.length≤400):fJ v=some (nq v,true):=by
 unfold fJ;obtain ⟨b,b1,b2⟩:=zV v hL hc;rw [b1,bsm,b2.2 h,ab (by simp)];have hcn:=ph v.Lines hc v.Lines.length (ay _);have hln:=su v.Lines v.Lines.length (ay _);refine gF (n:=v.Lines.length) (fun i a=>a=((⟨12,0,0,[]⟩:aM) :: tB v.Lines i,(i:Int))) (fun u=>u=(⟨12,0,0,[]⟩:aM) :: tB v.Lines v.Lines.length) (fun i a hi e=>?_) (fun a e=>?_) rfl (by omega) (fun u e=>?_)
 ·left
  subst e;have hm:=ax hi;have h1:=ph v.Lines hc i (by omega);have h2:=su v.Lines i (by omega);have h3:=ux (i:Int) v.Lines[i].Cells _ (ay _);have h4:=uy v.Lines[i].Cells v.Lines[i].Cells.length;have h5:=hc _ hm;simp only;rw [ae (dlt hi),aW hi,bsm,BJ _ _ h5 (ut (h.1.lines _ hm).2),bsm,ma _ _ (by simp only [aI]; omega),bsm,ci hi (by omega),tA hi];exact ⟨_,rfl,rfl⟩
 ·subst e;exact ⟨_,by simp only; rw [ab (by simp)],rfl⟩
 ·subst e;unfold nq
  cases v.Auto with
  | true=>
   rw [ae rfl,ae rfl,ma _ _ (by simp only [aI,bd]; omega),bsm,bsm,ma _ _ (by simp only [aI,bd,av]; omega),bsm]
  | false=>
   rw [ab (by simp),ab (by simp),bsm,ma _ _ (by simp only [aI,bd,av]; omega),bsm,da]
theorem zT (v:aE) (hL:v.Lines.length≤100) (hc:∀l∈v.Lines,l.Cells.length≤400):eo v=some (sK v.Lines v.Lines.length:Int):=by
 unfold eo;refine gF (n:=v.Lines.length) (fun i a=>a=((sK v.Lines i:Int),(i:Int))) (fun u=>u=(sK v.Lines v.Lines.length:Int)) (fun i a hi e=>?_) (fun a e=>?_) rfl (by omega) (fun u e=>by rw [e])
 ·left
  subst e;have hm:=ax hi;have h1:=ph v.Lines hc i (by omega);have h5:=hc _ hm;simp only;rw [ae (dlt hi),aW hi,bsm,ci hi (by omega),tG hi];refine exL (ga (n:=v.Lines[i].Cells.length) (fun k b=>b=(((sK v.Lines i+uW v.Lines[i].Cells k:Nat):Int),(k:Int))) (fun t=>t=((sK v.Lines i+uW v.Lines[i].Cells v.Lines[i].Cells.length:Nat):Int)) (fun k b hk e=>?_) (fun b e=>?_) rfl (by omega) (fun t e=>?_))
  ·left
   subst e;have h6:=uy v.Lines[i].Cells k;simp only;rw [bsm,ae (dlt hk),bsm,aW hk,bsm,wK hk,ci hk (by omega)];by_cases q:0 < v.Lines[i].Cells[k].Text.length
   ·rw [ae (by simpa using q),ae q,bsm,aJ (by omega)];exact ⟨_,rfl,by simp; omega⟩
   ·rw [ab (by simpa using q),ab q,bsm];exact ⟨_,rfl,rfl⟩
  ·subst e;exact ⟨_,by simp only; rw [bsm,ab (by simp)],rfl⟩
  ·subst e;exact ⟨_,rfl,_,rfl,rfl⟩
 ·subst e;exact ⟨_,by simp only; rw [ab (by simp)],rfl⟩
theorem xo {v:aE}:(nq v).length≤3+2 * sK v.Lines v.Lines.length:=by
 unfold nq;have:=su v.Lines v.Lines.length (ay _);simp only [av,aI,bd];split <;> simp <;> omega
end Go.Proofs.YtclmdpamofdoiaaGreatDoor
namespace Go.Proofs.YtclmdpamofdoiaaGreatDoor
open Go Go.Lt
variable {s C:Sto} {f k g W H:Nat} {q P:ag} {ks:List Nat} {op:Option Nat}
theorem FX {p:List Int} (hp:Bts p) (hb:bg p=(p.length:Int)) (hne:p≠ []):vld (vl p)=true:=by
 have h4:=Ig p;unfold vld;simp only [aq,an]
 match p,hne with
 | [a],_=>
  obtain ⟨a1,a2⟩:=hp a (by simp);have hl:=qo a;simp only [bg,aI,bd] at hb;simp only [vl,List.foldl,b0]
  repeat' split
  all_goals simp only [aC,an]
  all_goals omega
 | [a,b],_=>
  obtain ⟨a1,a2⟩:=hp a (by simp);have hl:=qo a;simp only [bg,aI,bd] at hb;split at hb
  ·rename_i g
   have hs:128≤b∧b≤191:=by
    have:=g.2;unfold slo shi at this
    repeat' split at this
    all_goals omega
   simp only [vl,List.foldl,b0]
   repeat' split
   all_goals simp only [aC,an]
   all_goals omega
  ·omega
 | [a,b,c],_=>
  obtain ⟨a1,a2⟩:=hp a (by simp);have hl:=qo a;simp only [bg,aI,bd] at hb;split at hb
  ·rename_i g
   have hs:128≤b∧b≤191∧(a=237→b≤159):=by
    have:=g.2;unfold slo shi at this
    repeat' split at this
    all_goals omega
   simp only [vl,List.foldl,b0]
   repeat' split
   all_goals simp only [aC,an]
   all_goals omega
  ·omega
 | [a,b,c,d],_=>
  obtain ⟨a1,a2⟩:=hp a (by simp);have hl:=qo a;simp only [bg,aI,bd] at hb;split at hb
  ·rename_i g
   have hs:128≤b∧b≤191∧(a=240→144≤b)∧(a=244→b≤143):=by
    have:=g.2;unfold slo shi at this
    repeat' split at this
    all_goals omega
   simp only [vl,List.foldl,b0]
   repeat' split
   all_goals simp only [aC,an]
   all_goals omega
  ·omega
 | _ :: _ :: _ :: _ :: _ :: _,_=>simp only [bg,aI] at hb; omega
theorem Ao {b:Int} (h:Byt b):∀x∈(rs0 b).1,vld x=true:=fun x hx=>by
 obtain ⟨h1,h2⟩:=h;have hl:=qo b;unfold rs0 at hx;split at hx
 ·simp at hx
 ·split at hx
  ·rw [List.mem_singleton.1 hx];unfold vld;simp only [aq,aC,an];omega
  ·rw [List.mem_singleton.1 hx]; rfl
theorem Bq {h:List Int} (hb:Bts h) {b:Int} (h1:Byt b):∀x∈(fZ h b).1,vld x=true:=fun x hx=>by
 unfold fZ at hx;split at hx
 ·exact Ao h1 x hx
 ·split at hx
  ·simp at hx
  ·split at hx
   ·rename_i g1 g2
    rw [List.mem_singleton.1 hx];refine FX (hb.snoc h1) ?_ (by simp);have:=Ih g2;simp only [av,aI,bd] at this⊢;omega
   ·rcases List.mem_cons.1 hx with hx | hx
    ·rw [hx]; rfl
    ·exact Ao h1 x hx
theorem ex4 {α β γ δ:Type} {X:Option α} {Q:α→β→γ→δ→Prop} (h:∃a,X=some a∧∃b c d,Q a b c d):∃a b c d,X=some a∧Q a b c d:=by
 obtain ⟨a,h1,b,c,d,h2⟩:=h;exact ⟨a,b,c,d,h1,h2⟩
theorem AU {G h:List Int} (F:Fd C s f k g W H P G h q ks op) {l:List Int} (hl:l.length≤1000000) (hv:∀x∈l,vld x=true):∃s' q' ks' op',gg s (some f) l=some s'∧Fd C s' f k g W H P (G++l) h q' ks' op':=by
 unfold gg;refine ex4 (ga (n:=l.length) (fun i (st:Int×Sto)=>st.1=(i:Int)∧∃q' ks' op',Fd C st.2 f k g W H P (G++l.take i) h q' ks' op') (fun u:Sto=>∃q' ks' op',Fd C u f k g W H P (G++l) h q' ks' op') (p:=fun s':Sto=>∃q' ks' op',Fd C s' f k g W H P (G++l) h q' ks' op') (fun i st hi hI=>?_) (fun st hI=>?_) ⟨rfl,q,ks,op,by simpa using F⟩ (by omega) (fun u hu=>⟨u,rfl,hu⟩))
 ·obtain ⟨i',st⟩:=st;obtain ⟨e,q1,ks1,op1,F1⟩:=hI;simp only at e F1;subst e;simp only;rw [ae (dlt hi),aW hi,ci hi (by omega)];simp only [bsm];obtain ⟨s2,q2,ks2,op2,b1,b2⟩:=Dz F1 (hv _ (ax hi));rw [b1];refine .inl ⟨_,rfl,rfl,q2,ks2,op2,?_⟩;rw [aj hi,←aF];exact b2
 ·obtain ⟨i',st⟩:=st;obtain ⟨e,q1,ks1,op1,F1⟩:=hI;simp only at e F1;subst e;refine ⟨st,by simp only; rw [ab (by simp)],q1,ks1,op1,?_⟩;rw [aH (ay _)] at F1;exact F1
theorem Fd.dec {G h h':List Int} (F:Fd C s f k g W H P G h q ks op) {d d':bB} (hd:s.feed_Feeder[f]? = some ⟨some k,d,sgB (oX G),op⟩) (hv:Dv d' h'):Fd C (s.sf f ⟨some k,d',sgB (oX G),op⟩) f k g W H P G h' q ks op:=by
 have hf:=cK hd;refine ⟨F.v.sf _,F.fr.rgp (Rgp.self _) ⟨rfl,rfl,rfl⟩,F.fz.sf _ _ F.fz.oc,F.n,F.hd,F.l,F.gv,⟨d',tj hf,hv⟩,F.o1,fun e=>?_⟩;obtain ⟨j,e1,⟨q0,c,C0,s0,ks0,cs0,cl,a1,a2,a3,a4,a5,a6,a7,a8⟩⟩:=F.o2 e;exact ⟨j,e1,⟨q0,c,C0,s0,ks0,cs0,cl,a1,a2,a3,a4,a5,a6,a7.sf _,a8⟩⟩
theorem BS {G h:List Int} (F:Fd C s f k g W H P G h q ks op) (hb:Bts h) {b:List Int} (hl:b.length≤9223372036854775807) (hbt:Bts b):∃s' q' ks' op',gp s (some f) b=some s'∧Fd C s' f k g W H P (G++(eV h b).1) (eV h b).2 q' ks' op':=by
 unfold gp;simp only [bI,ak,aU,bsm];refine ex4 (ga (n:=b.length) (fun i (st:Int×Sto)=>st.1=(i:Int)∧∃q' ks' op',Fd C st.2 f k g W H P (G++(eV h (b.take i)).1) (eV h (b.take i)).2 q' ks' op') (fun u:Sto=>∃q' ks' op',Fd C u f k g W H P (G++(eV h b).1) (eV h b).2 q' ks' op') (p:=fun s':Sto=>∃q' ks' op',Fd C s' f k g W H P (G++(eV h b).1) (eV h b).2 q' ks' op') (fun i st hi hI=>?_) (fun st hI=>?_) ⟨rfl,q,ks,op,by simpa [eV] using F⟩ (by omega) (fun u hu=>⟨u,rfl,hu⟩))
 ·obtain ⟨i',st⟩:=st;obtain ⟨e,q1,ks1,op1,F1⟩:=hI;simp only at e F1;subst e;simp only;rw [ae (dlt hi),aW hi,ci hi (by omega)];obtain ⟨d,hd,hdv⟩:=F1.d;simp only [bsm,hd];have hx:=hbt _ (ax hi);obtain ⟨d',c1,c2⟩:=Dr hdv hx;rw [c1];simp only [bsm];rw [qi (cK hd)];simp only [bsm];have hbt':Bts (b.take i):=fun x hx=>hbt x (jF hx);obtain ⟨s2,q2,ks2,op2,b1,b2⟩:=AU (F1.dec hd c2) (l:=(fZ (eV h (b.take i)).2 b[i]).1) (by have:=Br (eV h (b.take i)).2 b[i]; omega) (Bq (wB hb hbt') hx);rw [b1];refine .inl ⟨_,rfl,rfl,q2,ks2,op2,?_⟩;rw [aj hi,zy];simp only;rw [←aF];exact b2
 ·obtain ⟨i',st⟩:=st;obtain ⟨e,q1,ks1,op1,F1⟩:=hI;simp only at e F1;subst e;refine ⟨st,by simp only; rw [ab (by simp)],q1,ks1,op1,?_⟩;rw [aH (ay _)] at F1;exact F1
theorem tF {G h:List Int} (F:Fd C s f k g W H P G h q ks op):∃s',cY s (some f)=some s'∧Fd C s' f k g W H q [] h q ks none:=by
 obtain ⟨d,hd,hdv⟩:=F.d;have hf:=cK hd;unfold cY;simp only [bI,fb,bw,bsm,hd];rw [qi hf];simp only [bsm,wv];rw [qi (by rw [xd]; exact hf),Fy];refine ⟨_,rfl,⟨F.v.sf _,F.fr.rgp (Rgp.self _) ⟨rfl,rfl,rfl⟩,F.fz.sf _ none (fun j e=>by cases e),F.n,F.hd,rfl,fun x hx=>by simp at hx,⟨d,tj hf,hdv⟩,fun _=>rfl,fun e=>by cases e⟩⟩
theorem BQ {G h:List Int} (F:Fd C s f k g W H P G h q ks op):∃s' q' ks',go s (some f)=some s'∧Fd C s' f k g W H q' [] [] q' ks' none∧fo tD P (cls pj pr (G++(if h= [] then [] else [65533])))=some q':=by
 obtain ⟨d,hd,hdv⟩:=F.d;have hf:=cK hd;unfold go;simp only [bI,ak,aU,bsm,hd];rw [BV hdv];simp only [bsm];rw [qi hf];simp only [bsm];obtain ⟨s2,q2,ks2,op2,b1,b2⟩:=AU (F.dec hd Dv.zero) (l:=if h= [] then [] else [65533]) (by split <;> simp) (fun x hx=>by
  split at hx
  ·simp at hx
  ·rw [List.mem_singleton.1 hx]; rfl)
 rw [b1];simp only [bsm];obtain ⟨s3,c1,c2⟩:=tF b2;rw [c1];exact ⟨s3,q2,ks2,rfl,c2,b2.l⟩
theorem Fz.self (s:Sto) (f:Nat) (op:Option Nat) (h:∀x,s.feed_Feeder[f]? = some x→x.open_=op) (hf:f < s.feed_Feeder.length):Fz s s f op:=
 ⟨ay _,fun _ _ _=>rfl,ay _,fun _ _ _=>rfl,fun j e=> .inl ⟨s.feed_Feeder[f],af hf,by rw [h _ (af hf)]; exact e⟩,rfl⟩
theorem Pv.addf (h:Pv s s k g W q ks) (x:bC):Pv (s.add_feed_Feeder x) (s.add_feed_Feeder x) k g W q ks:=
 ⟨h.p,⟨h.g.g,h.g.r,h.g.h1,h.g.h2,h.g.w1,h.g.w2⟩,h.nd,h.l,rfl,h.f.rgp ⟨rfl,rfl,rfl⟩ ⟨rfl,rfl,rfl⟩⟩
theorem Di (h:Pv s s k g W q ks) (hh:Hd q.At W ks.length):∃s',ny s (some k)=some (s',some s.feed_Feeder.length)∧Fd s' s' s.feed_Feeder.length k g W ks.length q [] [] q ks none∧s'=s.add_feed_Feeder ⟨some k,⟨0,0,0,0,0⟩,⟨false,0,0,0,false⟩,none⟩:=by
 unfold ny;simp only [bI,cW,bsm,h.p,ak,aU];have hg:(s.add_feed_Feeder ⟨some k,⟨0,0,0,0,0⟩,⟨false,0,0,0,false⟩,none⟩).feed_Feeder[s.feed_Feeder.length]? = some ⟨some k,⟨0,0,0,0,0⟩,⟨false,0,0,0,false⟩,none⟩:=by simp [Sto.add_feed_Feeder]
 refine ⟨_,rfl,⟨h.addf _,(h.addf _).f,Fz.self _ _ _ (fun x hx=>?_) (cK hg),rfl,hh,rfl,fun x hx=>by simp at hx,⟨_,hg,Dv.zero⟩,fun _=>rfl,fun e=>by cases e⟩,rfl⟩;rw [hg] at hx;cases hx;rfl
end Go.Proofs.YtclmdpamofdoiaaGreatDoor
namespace Go.Proofs.YtclmdpamofdoiaaGreatDoor
open Go Go.Lt
variable {s:Sto} {k:Nat} {l p:List aa} {w:Bool}
theorem H0 {c m:Nat} (h:c≤m):cl (c:Int) m=c:=by unfold cl; omega
theorem AK (n:Int) (m:Nat):fK n 0 m=some ((cl n m:Nat):Int):=by
 simp only [fK,gZ,dW,cl,aK];omega
def rg (l:List aa) (w:Bool) (a b:Nat):bp:=if a < b then ⟨pl l a (List.replicate (b - a) bl),pw l w a (b - a)⟩ else ⟨l,w⟩
theorem CI {a b:Nat} (h:Snd l) (hb:b≤l.length):Snd (rg l w a b).cells:=by
 unfold rg;split
 ·exact h.paint (th _) (by simp; omega)
 ·exact h
theorem Ge (a b:Nat):(rg l w a b).cells.length=l.length:=by
 unfold rg;split
 ·exact iN _ _ _
 ·rfl
theorem sn (h:s.row_Row[k]? = some ⟨l,w⟩) (hs:Snd l) (hl:l.length≤1024) (a b:Int):
  gx s (some k) a b=some (s.sr k (rg l w (cl a l.length) (cl b l.length))):=by
 unfold gx;simp only [iZ h,bsm,AK];have ha:=mX a l.length;have hb:=mX b l.length;generalize cl a l.length=a' at *;generalize cl b l.length=b' at *;unfold rg;by_cases hab:a' < b'
 ·have e:w64 ((b':Int) - (a':Int))=((b' - a':Nat):Int):=by rw [aJ (by omega)]; omega
  rw [ae (by simp; omega),ae hab,e,tN,show (max 0 (min (((b' - a':Nat)):Int) 1024)).toNat=b' - a' by omega];simp only [bsm];rw [ow h hs hl (th _) (by simp; omega) (by simp; omega)];simp
 ·rw [ab (by simp; omega),ab hab,xV h]
theorem ox (l:List aa) (w:Bool) (hl:l.length≤1024) (a b:Int):dy l w a b=some ((rg l w (cl a l.length) (cl b l.length)).cells,(rg l w (cl a l.length) (cl b l.length)).wrap):=by
 unfold dy;have ha:=mX a l.length;have hb:=mX b l.length;have ea:bb 0 (aO a (l.length:Int))=((cl a l.length:Nat):Int):=by simp only [gZ,dW,cl]; omega
 have eb:bb 0 (aO b (l.length:Int))=((cl b l.length:Nat):Int):=by simp only [gZ,dW,cl]; omega
 rw [ea,eb];generalize cl a l.length=a' at *;generalize cl b l.length=b' at *;unfold rg;by_cases hab:a' < b'
 ·have e:w64 ((b':Int) - (a':Int))=((b' - a':Nat):Int):=by rw [aJ (by omega)]; omega
  rw [ab (by simp; omega),ae hab,e,oZ _ (by omega)];simp only [bsm];have:=qM l w a' (List.replicate (b' - a') bl) (by omega) (by omega) (by simp; omega);rw [lx] at this;rw [show (List.replicate (((b' - a':Nat):Int).toNat) (⟨0,([]:List Int)⟩:aa))=List.replicate (b' - a') bl by rfl,this];rfl
 ·rw [ae (by simp; omega),ab hab]
theorem DC (h:s.row_Row[k]? = some ⟨l,w⟩) (hs:Snd l) (hl:l.length≤1024) (col n:Int):
  jL s (some k) col n=some (if 0≤col∧0 < n then s.sr k (rg l w (cl col l.length) (cl (((cl col l.length:Nat):Int)+((cl n l.length:Nat):Int)) l.length)) else s):=by
 unfold jL;simp only [ba,bsm];by_cases hc:0≤col∧0 < n
 ·rw [ae (by simp; omega),ae hc];simp only [iZ h,bsm,AK];have h1:=mX col l.length;have h2:=mX n l.length;rw [aJ (by omega),sn h hs hl];simp only [bsm,H0 h1]
 ·rw [ab (by simp; omega),ab hc]
def ac (l:List aa) (w:Bool) (x A B:Int):bp:=
 if x=0 then rg l w (cl A l.length) (cl B l.length)
 else if x=1 then rg l w 0 (cl (max (-1) (min A l.length)+1) l.length)
 else if x=2 then rg l w (cl A l.length) l.length
 else if x=3 then ⟨(rg l w 0 l.length).cells,false⟩
 else if 0≤A∧0 < B then rg l w (cl A l.length) (cl (((cl A l.length:Nat):Int)+((cl B l.length:Nat):Int)) l.length) else ⟨l,w⟩
theorem FB {a b:Nat} (h:b≤a):rg l w a b=⟨l,w⟩:=by
 unfold rg;rw [ab (by omega)]
theorem DA (m:Nat):cl 0 m=0:=by unfold cl; omega
theorem uC (m:Nat):cl (m:Int) m=m:=by unfold cl; omega
theorem zR (h:s.row_Row[k]? = some ⟨l,w⟩) (hs:Snd l) (hl:l.length≤1024) (a b:Int):lO s (some k) a=some (s.sr k (ac l w 1 a b)):=by
 unfold lO fK;simp only [iZ h,bsm,gZ,dW];rw [aJ (by omega),sn h hs hl,DA];rfl
theorem yI (h:s.row_Row[k]? = some ⟨l,w⟩) (hs:Snd l) (hl:l.length≤1024) (a b:Int):kV s (some k) a=some (s.sr k (ac l w 2 a b)):=by
 unfold kV;simp only [iZ h,bsm];rw [sn h hs hl,uC];rfl
theorem wQ (h:s.row_Row[k]? = some ⟨l,w⟩) (hs:Snd l) (hl:l.length≤1024) (a b:Int):kg s (some k)=some (s.sr k (ac l w 3 a b)):=by
 have hk:=cK h;unfold kg;simp only [iZ h,bsm];rw [sn h hs hl,uC,DA];simp only [bsm];rw [uM (l:=(rg l w 0 l.length).cells) (w:=(rg l w 0 l.length).wrap) (rB hk),Al];rfl
theorem yJ (h:s.row_Row[k]? = some ⟨l,w⟩) (hs:Snd l) (hl:l.length≤1024) (a b:Int):jL s (some k) a b=some (s.sr k (ac l w 4 a b)):=by
 rw [DC h hs hl,show ac l w 4 a b=if 0≤a∧0 < b then rg l w (cl a l.length) (cl (((cl a l.length:Nat):Int)+((cl b l.length:Nat):Int)) l.length) else ⟨l,w⟩ by rfl];split
 ·rfl
 ·rw [xV h]
theorem Ey (l:List aa) (w:Bool) (hl:l.length≤1024) (x A B:Int):kL l w x A B=some ((ac l w x A B).cells,(ac l w x A B).wrap):=by
 unfold kL ac;by_cases h0:x=0
 ·rw [ae (by simpa using h0),ae h0,ox l w hl];rfl
 rw [ab (by simpa using h0),ab h0];by_cases h1:x=1
 ·rw [ae (by simpa using h1),ae h1];by_cases hA:A < 0
  ·rw [ae (by simpa using hA),show max (-1) (min A (l.length:Int))+1=0 by omega,DA,FB (ay _)]
  ·rw [ab (by simpa using hA),dW,aJ (by omega),ox l w hl,DA,show max (-1) (min A (l.length:Int))=min A (l.length:Int) by omega];rfl
 rw [ab (by simpa using h1),ab h1];by_cases h2:x=2
 ·rw [ae (by simpa using h2),ae h2,ox l w hl,uC];rfl
 rw [ab (by simpa using h2),ab h2];by_cases h3:x=3
 ·rw [ae (by simpa using h3),ae h3,ox l w hl,uC,DA];rfl
 rw [ab (by simpa using h3),ab h3];simp only [br,bsm];by_cases hA:0≤A∧0 < B
 ·rw [ae hA];by_cases hg:(l.length:Int)≤A
  ·rw [ae (by simp; omega),show cl A l.length=l.length by unfold cl; omega,FB (mX _ _)]
  ·rw [ab (by simp; omega),dW,aJ (by omega),ox l w hl];rw [show cl (A+min B (l.length:Int)) l.length=cl (((cl A l.length:Nat):Int)+((cl B l.length:Nat):Int)) l.length by unfold cl; omega];rfl
 ·rw [ab hA,ae (by simp; omega)]
theorem GX (hs:Snd l) (x A B:Int):Snd (ac l w x A B).cells:=by
 unfold ac
 repeat' split
 all_goals first | exact hs | exact CI hs (mX _ _) | exact CI hs (ay _)
theorem GY (x A B:Int):(ac l w x A B).cells.length=l.length:=by
 unfold ac
 repeat' split
 all_goals first | rfl | exact Ge _ _
theorem iO {α:Type} {l:List α} {n:Nat} {f:Nat→α} (hl:l.length=n) (h:∀i,i < n→l[i]? = some (f i)):l=(List.range n).map f:=by
 apply be;intro i;rcases aG i n with hi | hi
 ·rw [h i hi]; simp [hi]
 ·rw [aA (by omega),aA (by simp; exact hi)]
def trc (l:List aa) (c j:Nat):aa:=if kd l c=3∧(j=c∨j+1=c) then bl else l.getD j bl
def tr (l:List aa) (c:Nat):List aa:=(List.range l.length).map (trc l c)
theorem qf (l:List aa) (c:Nat):(tr l c).length=l.length:=by simp [tr]
theorem Ck {c j:Nat} (h:j < l.length):(tr l c)[j]? = some (trc l c j):=by simp [tr,h]
theorem Cj (l:List aa) (c j:Nat):(trc l c j).Kind=if kd l c=3∧(j=c∨j+1=c) then 0 else kd l j:=by
 unfold trc;split
 ·rfl
 ·exact lH l j
theorem AG (c j:Nat):kd (tr l c) j=if kd l c=3∧(j=c∨j+1=c) then 0 else kd l j:=by
 rcases aG j l.length with h | h
 ·rw [←Cj]; simp [kd,Ck h]
 ·rw [kK (by rw [qf]; exact h),kK (l:=l) h]; simp
theorem Fw {c:Nat} (h:kd l c≠3):tr l c=l:=by
 symm
 refine iO rfl fun i hi=>?_;unfold trc;rw [ab (by intro e; exact h e.1),ao,af hi];rfl
theorem wX (hs:Snd l) (c:Nat):Snd (tr l c):=fun j hj=>by
 have hj':j < l.length:=by rw [qf] at hj; exact hj
 have he:(tr l c)[j]=trc l c j:=by
  have:=Ck (c:=c) hj';rw [af hj] at this;exact bi this
 have h2:=fun (h:kd l j=2)=>hs.two h;have h3:=fun (h:kd l j=3)=>hs.three h;have hc:=fun (h:kd l c=3)=>hs.three h;rw [he,Cj,AG,AG];refine ⟨?_,?_,?_⟩
 ·unfold trc;split
  ·rfl
  ·exact hs.rg hj'
 ·intro e;split at e
  ·cases e
  ·rename_i hn
   have:=h2 e;rw [ab]
   ·exact this
   ·rintro ⟨q1,q2⟩;have:=hc q1;rcases q2 with rfl | q2
    ·exact hn ⟨q1,.inr rfl⟩
    ·obtain rfl:c=j+2:=by omega
     rw [show j+2 - 1=j+1 by omega] at this;omega
 ·intro e;split at e
  ·cases e
  ·rename_i hn
   have:=h3 e;refine ⟨this.1,?_⟩;rw [ab]
   ·exact this.2
   ·rintro ⟨q1,q2⟩;have:=hc q1;rcases q2 with q2 | q2
    ·rw [←q2] at q1;omega
    ·exact hn ⟨q1,.inl (by omega)⟩
theorem uY (l:List aa) (c:Nat):kd (tr l c) c≠3:=by
 rw [AG];split
 ·decide
 ·rename_i h
  intro e;exact h ⟨e,.inl rfl⟩
theorem wZ (hs:Snd l) (hl:l.length≤1024) (c:Nat):jo l c=some (tr l c):=by
 unfold jo;rcases aG c l.length with h | h
 ·have hd:decide ((c:Int) < (l.length:Int))=true:=by simp; exact h
  simp only [hd,gH,aW h,bsm];by_cases h3:kd l c=3
  ·have hb:(l[c].Kind==3)=true:=by rw [←iU h,h3]; rfl
   obtain ⟨h0,_⟩:=hs.three h3;have e1:w64 ((c:Int) - 1)=((c - 1:Nat):Int):=by rw [aJ (by omega)]; omega
   rw [hb,ae rfl,e1,aW (by omega:c - 1 < l.length)];simp only [bsm];rw [jV (by omega)];simp only [bsm];rw [aW (by rw [cp]; exact h)];simp only [bsm];rw [jV (by rw [cp]; exact h)];simp only [bsm]
   congr 1
   refine iO (by simp) fun i hi=>?_;unfold trc;by_cases q1:c=i
   ·subst q1;rw [bh (by rw [cp]; exact h),ae ⟨h3,.inl rfl⟩];rfl
   ·rw [aQ q1];by_cases q2:c - 1=i
    ·subst q2;rw [bh (by omega),ae ⟨h3,.inr (by omega)⟩];rfl
    ·rw [aQ q2,ab (by rintro ⟨_,q⟩; omega),ao,af hi];rfl
  ·have hb:(l[c].Kind==3)=false:=by rw [←iU h]; simp [h3]
   rw [hb,ab (by decide),Fw h3]
 ·have hd:decide ((c:Int) < (l.length:Int))=false:=by simp; exact h
  simp only [hd,iS,bsm];rw [ab (by decide),Fw (by rw [kK h]; decide)]
theorem wY (hl:l.length≤1024) (c:Nat):fT l c=some (tr l c):=by
 unfold fT;refine xI (uZ (n:=l.length) (trc l c) (t:=tr l c) (fun i hi=>?_) ?_ (by omega)) rfl
 ·simp only [dlt hi,bw,aW hi,bsm,ci hi (by omega),br];have hz:bD (decide ((c:Int) < (l.length:Int))) ((idx l c).bind fun x_29=>some (x_29.Kind==3))=some (kd l c==3):=by
   rcases aG c l.length with h | h
   ·have hd:decide ((c:Int) < (l.length:Int))=true:=by simp; exact h
    simp only [hd,gH,aW h,bsm,←iU h]
   ·have hd:decide ((c:Int) < (l.length:Int))=false:=by simp; exact h
    simp only [hd,iS];rw [kK h];rfl
  simp only [hz,bsm,ba];rw [show (kd l c==3 && ((i:Int)==(c:Int) || ((i+1:Nat):Int)==(c:Int)))=decide (kd l c=3∧(i=c∨i+1=c)) by
   rw [cg];simp only [aq,aC,aS,an];omega]
  have hx:(if decide (kd l c=3∧(i=c∨i+1=c))=true then (some (0,([]:List Int)):Option (Int×(List Int))) else (some (l[i].Kind,l[i].Text):Option (Int×(List Int))))=some ((trc l c i).Kind,(trc l c i).Text):=by
   unfold trc;split
   ·rename_i h
    rw [ae (ns h)];rfl
   ·rename_i h
    rw [ab (by simpa using h),ao,af hi];rfl
  rw [hx];simp only [bsm];rw [eP (by simp; omega)];rfl
 ·simp only [dnl];rfl
def inx (l:List aa) (c n j:Nat):aa:=if j < c then (tr l c).getD j bl else if j < c+n then bl else (tr l c).getD (j - n) bl
def ug (l:List aa) (c n j:Nat):aa:=if j+1=l.length∧(inx l c n j).Kind=2 then bl else inx l c n j
def ve (l:List aa) (c n:Nat):List aa:=(List.range l.length).map (ug l c n)
theorem oz (l:List aa) (c n:Nat):(ve l c n).length=l.length:=by simp [ve]
theorem yA {c n j:Nat} (h:j < l.length):(ve l c n)[j]? = some (ug l c n j):=by simp [ve,h]
theorem vd (l:List aa) (c n j:Nat):(inx l c n j).Kind=if j < c then kd (tr l c) j else if j < c+n then 0 else kd (tr l c) (j - n):=by
 unfold inx;split
 ·exact lH _ _
 ·split
  ·rfl
  ·exact lH _ _
theorem sw (l:List aa) (c n j:Nat) (h:j < l.length):kd (ve l c n) j=if j+1=l.length∧(inx l c n j).Kind=2 then 0 else (inx l c n j).Kind:=by
 rw [show kd (ve l c n) j=(ug l c n j).Kind by simp [kd,yA h]];unfold ug;split <;> rfl
theorem sa (hs:Snd l) (j:Nat):rgt (l.getD j bl)=true:=by
 rcases aG j l.length with h | h
 ·exact hs.rg h
 ·rw [ao,aA h];rfl
theorem EP {A:Prop} [Decidable A] {X:Int} (h:(if A∧X=2 then (0:Int) else X)=2):X=2∧¬A:=by
 by_cases q:A∧X=2
 ·rw [ae q] at h; omega
 ·rw [ab q] at h; exact ⟨h,fun a=>q ⟨a,h⟩⟩
theorem BN {A:Prop} [Decidable A] {X:Int} (h:(if A∧X=2 then (0:Int) else X)=3):X=3:=by
 by_cases q:A∧X=2
 ·rw [ae q] at h; omega
 ·rwa [ab q] at h
theorem C8 {A:Prop} [Decidable A] {X:Int} (h:X≠2):(if A∧X=2 then (0:Int) else X)=X:=ab fun q=>h q.2
theorem yz (hs:Snd l) (c n:Nat):Snd (ve l c n):=fun j hj=>by
 have hj':j < l.length:=by rw [oz] at hj; exact hj
 have he:(ve l c n)[j]=ug l c n j:=by
  have:=yA (c:=c) (n:=n) hj';rw [af hj] at this;exact bi this
 have ht:=wX hs c;have hlen:=qf l c;have hat:=uY l c;rw [←iU hj,he];refine ⟨?_,?_,?_⟩
 ·unfold ug;split
  ·rfl
  ·unfold inx;split
   ·exact sa ht j
   ·split
    ·rfl
    ·exact sa ht (j - n)
 ·intro e;rw [sw l c n j hj',vd] at e;obtain ⟨e,hl⟩:=EP e
  ·rw [sw l c n (j+1) (by omega),vd];have key:(if j+1 < c then kd (tr l c) (j+1) else if j+1 < c+n then 0 else kd (tr l c) (j+1 - n))=3:=by
    split at e
    ·have h3:=ht.two e;rw [ae]
     ·exact h3
     ·rcases aG (j+1) c with q | q
      ·exact q
      ·obtain rfl:c=j+1:=by omega
       exact absurd h3 hat
    ·split at e
     ·cases e
     ·have h3:=ht.two e;rw [ab (by omega),ab (by omega),show j+1 - n=j - n+1 by omega];exact h3
   rw [key];exact C8 (by decide)
 ·intro e;rw [sw l c n j hj',vd] at e;have e':=BN e;split at e'
  ·obtain ⟨h0,h2⟩:=ht.three e';refine ⟨h0,?_⟩;rw [sw l c n (j - 1) (by omega),vd,ab (by rintro ⟨q,_⟩; omega),ae (by omega)];exact h2
  ·split at e'
   ·cases e'
   ·obtain ⟨h0,h2⟩:=ht.three e';have hne:j - n≠c:=by
     intro q;rw [q] at e';exact hat e'
    refine ⟨by omega,?_⟩;rw [sw l c n (j - 1) (by omega),vd,ab (by rintro ⟨q,_⟩; omega),ab (by omega),ab (by omega),show j - 1 - n=j - n - 1 by omega];exact h2
theorem GD (hl:l.length≤1024) {c n:Nat} (hc:c < l.length) (h1:1≤n) (hn:c+n≤l.length):jd (tr l c) n c=some (ve l c n):=by
 unfold jd;have htl:=qf l c;rw [tN,show (max 0 (min (n:Int) 1024)).toNat=n by omega];simp only [bsm];have hi:jA (tr l c) c (List.replicate n bl)=some ((tr l c).take c++List.replicate n bl++(tr l c).drop c):=by
  unfold jA;rw [ae (by rw [htl,lx]; unfold far; omega),bT]
 rw [hi];simp only [bsm];have hO:slc ((tr l c).take c++List.replicate n bl++(tr l c).drop c) 0 ((tr l c).length:Int)=some ((List.range l.length).map (inx l c n)):=by
  have:=rC (xs:=(tr l c).take c++List.replicate n bl++(tr l c).drop c) (i:=0) (j:=(tr l c).length) (by omega) (by simp [htl]; omega);rw [show ((0:Nat):Int)=0 by rfl] at this;rw [this]
  congr 1
  refine iO (by simp [htl]; omega) fun i hi=>?_;rw [nH,aN,ae (by omega),aF];unfold inx;have htk:((tr l c).take c).length=c:=by simp [htl]; omega
  split
  ·rename_i q
   rw [aB (by omega),aN,ae q,ao,af (by omega:i < (tr l c).length)];rfl
  ·rename_i q
   rw [aY (by omega),htk];split
   ·rw [aB (by simp; omega),iD,ae (by omega)]
   ·rw [aY (by simp; omega),lx,bP,show c+(i - c - n)=i - n by omega,ao,af (by omega:i - n < (tr l c).length)];rfl
 rw [hO];simp only [bsm];have e1:w64 (((tr l c).length:Int) - 1)=((l.length - 1:Nat):Int):=by rw [aJ (by omega),htl]; omega
 rw [e1,aW (by simp; omega)];simp only [bsm,dR,xN];by_cases hk:(inx l c n (l.length - 1)).Kind=2
 ·rw [ae (by rw [hk]; rfl),jV (by simp; omega)];simp only [bsm]
  congr 1
  refine iO (by simp) fun i hi=>?_;unfold ug;by_cases q:l.length - 1=i
  ·subst q;rw [bh (by simp; omega),ae ⟨by omega,hk⟩];rfl
  ·rw [aQ q,ab (by rintro ⟨q,_⟩; omega)];simp [hi]
 ·rw [ab (by simp; exact hk)];simp only [bsm]
  congr 1
  refine iO (by simp) fun i hi=>?_;unfold ug;by_cases q:l.length - 1=i
  ·subst q;rw [ab (by rintro ⟨_,q⟩; exact hk q)];simp [hi]
  ·rw [ab (by rintro ⟨q,_⟩; omega)];simp [hi]
def tt (l:List aa) (c n:Nat):List aa:=tr (tr l c) (c+n)
theorem zo (l:List aa) (c n:Nat):(tt l c n).length=l.length:=by simp [tt,qf]
def dlx (l:List aa) (c n j:Nat):aa:=if j < c then (tt l c n).getD j bl else if j+n < l.length then (tt l c n).getD (j+n) bl else bl
def vk (l:List aa) (c n:Nat):List aa:=(List.range l.length).map (dlx l c n)
theorem oK (l:List aa) (c n:Nat):(vk l c n).length=l.length:=by simp [vk]
theorem yN {c n j:Nat} (h:j < l.length):(vk l c n)[j]? = some (dlx l c n j):=by simp [vk,h]
theorem qP (l:List aa) (c n j:Nat) (h:j < l.length):kd (vk l c n) j=if j < c then kd (tt l c n) j else if j+n < l.length then kd (tt l c n) (j+n) else 0:=by
 rw [show kd (vk l c n) j=(dlx l c n j).Kind by simp [kd,yN h]];unfold dlx;split
 ·exact lH _ _
 ·split
  ·exact lH _ _
  ·rfl
theorem yM (hs:Snd l) (c n:Nat):Snd (vk l c n):=fun j hj=>by
 have hj':j < l.length:=by rw [oK] at hj; exact hj
 have he:(vk l c n)[j]=dlx l c n j:=by
  have:=yN (c:=c) (n:=n) hj';rw [af hj] at this;exact bi this
 have ht:Snd (tt l c n):=wX (wX hs c) (c+n);have hlen:=zo l c n;have hat1:kd (tt l c n) c≠3:=by
  unfold tt;rw [AG];split
  ·decide
  ·exact uY l c
 have hat2:kd (tt l c n) (c+n)≠3:=uY _ _;rw [←iU hj,he];refine ⟨?_,?_,?_⟩
 ·unfold dlx;split
  ·exact sa ht j
  ·split
   ·exact sa ht _
   ·rfl
 ·intro e;rw [qP l c n j hj'] at e;split at e
  ·have h3:=ht.two e;have hlt:=sv (l:=tt l c n) (j:=j+1) (by omega);rw [qP l c n (j+1) (by omega),ae]
   ·exact h3
   ·rcases aG (j+1) c with q | q
    ·exact q
    ·obtain rfl:c=j+1:=by omega
     exact absurd h3 hat1
  ·split at e
   ·have h3:=ht.two e;have hlt:=sv (l:=tt l c n) (j:=j+n+1) (by omega);rw [qP l c n (j+1) (by omega),ab (by omega),ae (by omega),show j+1+n=j+n+1 by omega];exact h3
   ·omega
 ·intro e;rw [qP l c n j hj'] at e;split at e
  ·obtain ⟨h0,h2⟩:=ht.three e;refine ⟨h0,?_⟩;rw [qP l c n (j - 1) (by omega),ae (by omega)];exact h2
  ·split at e
   ·obtain ⟨h0,h2⟩:=ht.three e;have hne:j≠c:=by
     intro q;rw [q] at e;exact hat2 e
    refine ⟨by omega,?_⟩;rw [qP l c n (j - 1) (by omega),ab (by omega),ae (by omega),show j - 1+n=j+n - 1 by omega];exact h2
   ·omega
theorem GP (hs:Snd l) (hl:l.length≤1024) {c n:Nat} (hc:c < l.length) (h1:1≤n) (hn:c+n≤l.length):je (tr l c) n c=some (vk l c n):=by
 unfold je;have htl:=zo l c n;have e1:w64 ((c:Int)+(n:Int))=((c+n:Nat):Int):=by rw [aJ (by omega)]; simp
 rw [e1,wZ (wX hs c) (by rw [qf]; exact hl)];simp only [bsm];rw [show tr (tr l c) (c+n)=tt l c n by rfl];have hd:jB (tt l c n) c ((c+n:Nat):Int)=some ((tt l c n).take c++(tt l c n).drop (c+n)):=by
  unfold jB;rw [ae (by rw [htl]; omega),bT,bT]
 rw [hd,tN,show (max 0 (min (n:Int) 1024)).toNat=n by omega];simp only [bsm];rw [eP (by simp [htl]; omega)];simp only [bsm]
 congr 1
 refine iO (by simp [htl]; omega) fun i hi=>?_;unfold dlx;have htk:((tt l c n).take c).length=c:=by simp [htl]; omega
 rw [aF];split
 ·rename_i q
  rw [aB (by omega),aN,ae q,ao,af (by omega:i < (tt l c n).length)];rfl
 ·rename_i q
  rw [aY (by omega),htk];split
  ·rw [aB (by simp [htl]; omega),bP,show c+n+(i - c)=i+n by omega,ao,af (by omega:i+n < (tt l c n).length)];rfl
  ·rw [aY (by simp [htl]; omega),iD,ae (by simp [htl]; omega)]
theorem yn (h:p.length=l.length):pl l 0 p=p:=by
 symm
 refine iO h fun i hi=>?_;unfold pc;rw [ae ⟨dp _,by omega⟩,zj,ao,af (by omega)];rfl
theorem yk (h1:1≤l.length):pw l w 0 l.length=false:=by
 unfold pw tch;rw [show decide (0 < l.length)=true by simp; omega,show decide (0≤l.length - 1)=true by simp,show decide (l.length - 1 < 0+l.length)=true by simp; omega];simp
def mvs (col n:Int) (m:Nat):Bool:=decide (0≤col) && decide (col < (m:Int)) && decide (1≤n)
def ish (l:List aa) (w:Bool) (col n:Int):bp:=if mvs col n l.length=true then ⟨ve l col.toNat (min n ((l.length:Int) - col)).toNat,false⟩ else ⟨l,w⟩
def dsh (l:List aa) (w:Bool) (col n:Int):bp:=if mvs col n l.length=true then ⟨vk l col.toNat (min n ((l.length:Int) - col)).toNat,false⟩ else ⟨l,w⟩
theorem EQ (hs:Snd l) (col n:Int):Snd (ish l w col n).cells:=by
 unfold ish;split
 ·exact yz hs _ _
 ·exact hs
theorem E3 (hs:Snd l) (col n:Int):Snd (dsh l w col n).cells:=by
 unfold dsh;split
 ·exact yM hs _ _
 ·exact hs
theorem ER (col n:Int):(ish l w col n).cells.length=l.length:=by
 unfold ish;split
 ·exact oz _ _ _
 ·rfl
theorem E4 (col n:Int):(dsh l w col n).cells.length=l.length:=by
 unfold dsh;split
 ·exact oK _ _ _
 ·rfl
theorem uw {col n:Int} {m:Nat}:(decide (col < 0) || decide (col≥(m:Int)) || decide (n < 1))= !mvs col n m:=by
 rw [cg];simp only [mvs,aC,cw,ly,an,du];omega
theorem xq {col n:Int} {m:Nat} (h:mvs col n m=true):∃c e:Nat,col=(c:Int)∧min n ((m:Int) - col)=(e:Int)∧c < m∧1≤e∧c+e≤m:=by
 simp only [mvs,aq,an] at h;exact ⟨col.toNat,(min n ((m:Int) - col)).toNat,by omega,by omega,by omega,by omega,by omega⟩
theorem Bg (h:s.row_Row[k]? = some ⟨l,w⟩) (hs:Snd l) (hl:l.length≤1024) (col n:Int):jX s (some k) col n=some (s.sr k (ish l w col n)):=by
 unfold jX dX;simp only [iZ h,bsm,br,uw];unfold ish;by_cases hm:mvs col n l.length=true
 ·obtain ⟨c,e,rfl,he,h1,h2,h3⟩:=xq hm;rw [ab (by rw [hm]; decide),ae hm,qL h (by omega) hs.sht];simp only [bsm,wZ hs hl];have e1:aO n (w64 ((l.length:Int) - (c:Int)))=(e:Int):=by rw [aJ (by omega),dW]; exact he
  rw [e1,GD hl h1 h2 h3,he];simp only [bsm,bT];have:=ow h hs hl (yz hs c e) (a:=0) (by rw [oz]; omega) (by rw [oz]; omega);rw [show ((0:Nat):Int)=0 by rfl] at this;rw [this,yn (oz l c e),oz,yk (by omega)];rfl
 ·rw [ae (by simpa using hm),ab hm,xV h];rfl
theorem Bh (h:s.row_Row[k]? = some ⟨l,w⟩) (hs:Snd l) (hl:l.length≤1024) (col n:Int):jY s (some k) col n=some (s.sr k (dsh l w col n)):=by
 unfold jY dY;simp only [iZ h,bsm,br,uw];unfold dsh;by_cases hm:mvs col n l.length=true
 ·obtain ⟨c,e,rfl,he,h1,h2,h3⟩:=xq hm;rw [ab (by rw [hm]; decide),ae hm,qL h (by omega) hs.sht];simp only [bsm,wZ hs hl];have e1:aO n (w64 ((l.length:Int) - (c:Int)))=(e:Int):=by rw [aJ (by omega),dW]; exact he
  rw [e1,GP hs hl h1 h2 h3,he];simp only [bsm,bT];have:=ow h hs hl (yM hs c e) (a:=0) (by rw [oK]; omega) (by rw [oK]; omega);rw [show ((0:Nat):Int)=0 by rfl] at this;rw [this,yn (oK l c e),oK,yk (by omega)];rfl
 ·rw [ae (by simpa using hm),ab hm,xV h];rfl
theorem Ew (hl:l.length≤1024) (col n:Int) (w:Bool):jr l col n=some ((ish l w col n).cells,mvs col n l.length):=by
 unfold jr;simp only [bsm,br,uw];unfold ish;by_cases hm:mvs col n l.length=true
 ·rw [hm];obtain ⟨c,e,rfl,he,h1,h2,h3⟩:=xq hm;have e1:aO n (w64 ((l.length:Int) - (c:Int)))=(e:Int):=by rw [aJ (by omega),dW]; exact he
  rw [ab (by decide),ae rfl,wY hl,e1,he];simp only [bsm,bT];refine xI (uZ (n:=l.length) (ug l c e) (t:=ve l c e) (fun i hi=>?_) ?_ (by omega)) rfl
  ·have e2:w64 ((c:Int)+(e:Int))=((c+e:Nat):Int):=by rw [aJ (by omega)]; simp
   simp only [dlt hi,bw,ci hi (by omega),e2,ba,bsm];have htl:=qf l c;have hx:((if decide ((i:Int) < (c:Int))=true then (idx (tr l c) (i:Int)).bind fun x=>(some (x.Kind,x.Text):Option (Int×(List Int))) else (some (0,([]:List Int)):Option (Int×(List Int)))).bind fun z=>
     if decide ((i:Int)≥((c+e:Nat):Int))=true then (idx (tr l c) (w64 ((i:Int) - (e:Int)))).bind fun x=>(some (x.Kind,x.Text):Option (Int×(List Int))) else (some (z.1,z.2):Option (Int×(List Int))))=some ((inx l c e i).Kind,(inx l c e i).Text):=by
    unfold inx;by_cases q1:i < c
    ·rw [ae (by simp; omega),aW (by omega:i < (tr l c).length)];simp only [bsm];rw [ab (by simp; omega),ae q1,ao,af (by omega:i < (tr l c).length)];rfl
    ·rw [ab (by simp; omega),ab q1];simp only [bsm];by_cases q2:i < c+e
     ·rw [ab (by simp; omega),ae q2];rfl
     ·have e3:w64 ((i:Int) - (e:Int))=((i - e:Nat):Int):=by rw [aJ (by omega)]; omega
      rw [ae (by simp; omega),ab q2,e3,aW (by omega:i - e < (tr l c).length),ao,af (by omega:i - e < (tr l c).length)];rfl
   refine (I2 _ _ _).symm.trans ?_;rw [hx];simp only [bsm];have hy:(if (((i+1:Nat):Int)==(l.length:Int) && (inx l c e i).Kind==2)=true then (some (0,([]:List Int)):Option (Int×(List Int))) else (some ((inx l c e i).Kind,(inx l c e i).Text):Option (Int×(List Int))))=some ((ug l c e i).Kind,(ug l c e i).Text):=by
    unfold ug;by_cases q:i+1=l.length∧(inx l c e i).Kind=2
    ·rw [ae (by simp only [aq,aS]; omega),ae q];rfl
    ·rw [ab (by simp only [aq,aS]; omega),ab q]
   rw [hy];simp only [bsm];rw [eP (by simp; omega)];rfl
  ·simp only [dnl];rfl
 ·rw [ae (by simpa using hm),ab hm];simp only [tf] at hm;rw [hm]
theorem Ex (hl:l.length≤1024) (col n:Int) (w:Bool):js l col n=some ((dsh l w col n).cells,mvs col n l.length):=by
 unfold js;simp only [bsm,br,uw];unfold dsh;by_cases hm:mvs col n l.length=true
 ·rw [hm];obtain ⟨c,e,rfl,he,h1,h2,h3⟩:=xq hm;have e1:aO n (w64 ((l.length:Int) - (c:Int)))=(e:Int):=by rw [aJ (by omega),dW]; exact he
  have e2:w64 ((c:Int)+(e:Int))=((c+e:Nat):Int):=by rw [aJ (by omega)]; simp
  rw [ab (by decide),ae rfl,wY hl,e1,he];simp only [bsm,bT,e2];rw [wY (by rw [qf]; exact hl)];simp only [bsm];rw [show tr (tr l c) (c+e)=tt l c e by rfl];refine xI (uZ (n:=l.length) (dlx l c e) (t:=vk l c e) (fun i hi=>?_) ?_ (by omega)) rfl
  ·have htl:=zo l c e;have e3:w64 ((i:Int)+(e:Int))=((i+e:Nat):Int):=by rw [aJ (by omega)]; simp
   simp only [dlt hi,bw,ci hi (by omega),e3];have hx:(if decide ((i:Int) < (c:Int))=true then (idx (tt l c e) (i:Int)).bind fun x=>(some (x.Kind,x.Text):Option (Int×(List Int))) else if decide (((i+e:Nat):Int) < (l.length:Int))=true then (idx (tt l c e) ((i+e:Nat):Int)).bind fun x=>(some (x.Kind,x.Text):Option (Int×(List Int))) else (some (0,([]:List Int)):Option (Int×(List Int))))=some ((dlx l c e i).Kind,(dlx l c e i).Text):=by
    unfold dlx;by_cases q1:i < c
    ·rw [ae (by simp; omega),aW (by omega:i < (tt l c e).length),ae q1,ao,af (by omega:i < (tt l c e).length)];rfl
    ·rw [ab (by simp; omega),ab q1];by_cases q2:i+e < l.length
     ·rw [ae (by simp only [an]; omega),ae q2,aW (by omega:i+e < (tt l c e).length),ao,af (by omega:i+e < (tt l c e).length)];rfl
     ·rw [ab (by simp only [an]; omega),ab q2];rfl
   rw [hx];simp only [bsm];rw [eP (by simp; omega)];rfl
  ·simp only [dnl];rfl
 ·rw [ae (by simpa using hm),ab hm];simp only [tf] at hm;rw [hm]
end Go.Proofs.YtclmdpamofdoiaaGreatDoor
namespace Go.Proofs.YtclmdpamofdoiaaGreatDoor
open Go Go.Lt
variable {s C:Sto} {g k W:Nat} {ks:List Nat} {q:ag}
def w38 (o:aM):Int:=if o.Kind < 2∨12 < o.Kind then 5 else if (o.Kind=3∨o.Kind=4)∧(o.A < 0∨2 < o.A) then 3 else 0
def e38 (o:aM):Er:=if w38 o=5 then .sent 4 else if w38 o=3 then .sent 2 else .nil
theorem FV (o:aM):w38 o=5∨w38 o=3∨w38 o=0:=by
  unfold w38
  repeat' split
  all_goals simp
def BU (n:Int):Bool:=decide (2≤n) && decide (n≤12)
theorem BT (n:Int):mJ n=some (BU n):=by
  unfold mJ BU;simp only [ba,bsm,zO]
theorem HZ (o:aM):BU o.Kind=(w38 o != 5):=by
  rw [cg];unfold BU w38;simp only [aq,an,jQ,wJ]
  repeat' split
  all_goals omega
theorem vj (o:aM):kC o=some (e38 o):=by
  unfold kC;rw [BT];have hd:BU o.Kind= !decide (o.Kind < 2∨12 < o.Kind):=by
    rw [cg];simp only [BU,aq,an,cw,du];omega
  simp only [bsm,hd,ba,br,Bool.not_not];unfold e38;by_cases h:o.Kind < 2∨12 < o.Kind
  · have e:w38 o=5:=by unfold w38; rw [ae h]
    rw [ae (by simpa using h),ae e]
  · rw [ab (by simpa using h)]
    by_cases h2:(o.Kind=3∨o.Kind=4)∧(o.A < 0∨2 < o.A)
    · have e:w38 o=3:=by unfold w38; rw [ab h,ae h2]
      rw [ae (by simp only [aq,aC,an,jQ,wJ]; omega),e];rfl
    · have e:w38 o=0:=by unfold w38; rw [ab h,ab h2]
      rw [ab (by simp only [aq,aC,an,jQ,wJ]; omega),e];rfl
theorem AV (o:aM):(e38 o).isNil=(w38 o==0):=by
  unfold e38;rcases FV o with h | h | h <;> rw [h] <;> rfl
def lt (r:bp):ah:=⟨r.cells,r.wrap⟩
theorem DV (h:Pv C s k g W q ks) {i:Nat} (hi:i < ks.length) (x a b:Int):dx q i x a b=some ⟨q.L.set i (lt (ac (q.L.getD i dl).Cells (q.L.getD i dl).Wrap x a b)),q.At,q.Auto⟩:=by
  have hl:=h.len;have hlt:i < q.L.length:=by omega
  have hok:=h.ok _ (ax hlt);have w2:=h.g.w2;unfold dx;rw [aW hlt];simp only [bsm];rw [Ey _ _ (by rw [hok.2]; exact w2)];simp only [bsm];rw [se h hi,gdl hlt];rfl
theorem Pv.ac (h:Pv C s k g W q ks) {i:Nat} (hi:i < ks.length) (x a b:Int):Pv C (s.sr ks[i] (ac (q.L.getD i dl).Cells (q.L.getD i dl).Wrap x a b)) k g W ⟨q.L.set i (lt (Go.Proofs.YtclmdpamofdoiaaGreatDoor.ac (q.L.getD i dl).Cells (q.L.getD i dl).Wrap x a b)),q.At,q.Auto⟩ ks:=by
  have hl:=h.len;have hlt:i < q.L.length:=by omega
  have hok:=h.ok _ (ax hlt);have e:q.L.getD i dl=q.L[i]:=gdl hlt;rw [e];exact h.row hi (GX hok.1 x a b) (by rw [GY]; exact hok.2)
theorem Pv.rw_ (h:Pv C s k g W q ks) {i:Nat} (hi:i < ks.length):s.row_Row[ks[i]]? = some ⟨(q.L.getD i dl).Cells,(q.L.getD i dl).Wrap⟩∧Snd (q.L.getD i dl).Cells∧(q.L.getD i dl).Cells.length=W:=by
  have hl:=h.len;have hlt:i < q.L.length:=by omega
  have hok:=h.ok _ (ax hlt);obtain ⟨r,h1,h2,h3⟩:=h.g.at hi;have e:q.L[i]=⟨r.cells,r.wrap⟩:=by rw [h.at hi,nt h1]
  rw [gdl hlt,e];exact ⟨h1,h2,h3⟩
def md (mode:Int):Int:=if mode=0 then 2 else if mode=1 then 1 else 3
theorem wR (h:Pv C s k g W q ks) {i:Nat} (hi:i < ks.length) (hr:q.At.Row=(i:Int)) (mode:Int):lD s (some k) mode=some (s.sr ks[i] (ac (q.L.getD i dl).Cells (q.L.getD i dl).Wrap (md mode) q.At.Col 0)):=by
  obtain ⟨r1,r2,r3⟩:=h.rw_ hi;have w2:=h.g.w2;unfold lD md;simp only [bsm,h.p,hr];rw [eW h.g hi];simp only [bsm];by_cases h0:mode=0
  · rw [ae (by simpa using h0),ae h0,yI r1 r2 (by omega) _ 0]
    rfl
  · rw [ab (by simpa using h0),ab h0]
    by_cases h1:mode=1
    · rw [ae (by simpa using h1),ae h1,zR r1 r2 (by omega) _ 0]
      rfl
    · rw [ab (by simpa using h1),ab h1,wQ r1 r2 (by omega) q.At.Col 0]
      rfl
def eS (cond:Nat→Bool) (L:List ah):Nat→List ah
  | 0=>L
  | i+1=>if cond i=true then (eS cond L i).set i (lt (ac ((eS cond L i).getD i dl).Cells ((eS cond L i).getD i dl).Wrap 3 0 0)) else eS cond L i
def cnd (mode:Int) (row:Int) (i:Nat):Bool:=mode==2 || (mode==0 && decide ((i:Int) > row)) || (mode==1 && decide ((i:Int) < row))
theorem ya (h:Pv C s k g W q ks) (mode:Int) {H:Int} (hH:H=(ks.length:Int)):∃s',(cv (σ:=Int×Sto) (τ:=Sto) ((H - 0).toNat+1) (fun s_12=>
 if (decide (s_12.1 < H))=true then
 ((orE (mode==2) ((bD (mode==0) ((s_12.2.place_Pen[k]?).bind fun o_32=>
 some (decide (s_12.1 > o_32.At.Row)))).bind fun d_25=>
 some d_25)).bind fun d_21=>
 (orE d_21 ((bD (mode==1) ((s_12.2.place_Pen[k]?).bind fun o_45=>
 some (decide (s_12.1 < o_45.At.Row)))).bind fun d_38=>
 some d_38)).bind fun d_34=>
 if d_34=true then
 (s_12.2.place_Pen[k]?).bind fun o_51=>
 (bv s_12.2 o_51.G s_12.1).bind fun x_53=>
 (kg s_12.2 x_53).bind fun x_54=>
 (some (x_54):Option (Sto))
 else
 (some (s_12.2):Option (Sto))).bind fun z_15=>
 some (.inl ((w64 (s_12.1+1)),z_15))
 else
 some (.inr (s_12.2))) (0,s))=some s'∧Pv C s' k g W ⟨eS (cnd mode q.At.Row) q.L ks.length,q.At,q.Auto⟩ ks:=by
  subst hH;have hh:=h.g.h2;refine eG (n:=ks.length) (fun i st=>st.1=(i:Int)∧Pv C st.2 k g W ⟨eS (cnd mode q.At.Row) q.L i,q.At,q.Auto⟩ ks) (fun st=>Pv C st k g W ⟨eS (cnd mode q.At.Row) q.L ks.length,q.At,q.Auto⟩ ks) (fun i st hi hI=>?_) (fun st hI=>?_) ⟨rfl,h⟩ (by omega)
  · obtain ⟨i',st⟩:=st
    obtain ⟨e,v⟩:=hI;simp only at e v;subst e;simp only;rw [ae (dlt hi)];have hp:=v.p;simp only at hp;simp only [hp,bsm,ba,br];rw [ci hi (by omega)];by_cases hc:cnd mode q.At.Row i=true
    · rw [ae (show (mode==2 || mode==0 && decide ((i:Int) > q.At.Row) || mode==1 && decide ((i:Int) < q.At.Row))=true from hc),eW v.g hi]
      obtain ⟨r1,r2,r3⟩:=v.rw_ hi;simp only [bsm];have w2:=h.g.w2;rw [wQ r1 r2 (by omega) 0 0];refine .inl ⟨_,rfl,rfl,?_⟩;simp only [eS];rw [ae hc];exact v.ac hi 3 0 0
    · rw [ab (show ¬(mode==2 || mode==0 && decide ((i:Int) > q.At.Row) || mode==1 && decide ((i:Int) < q.At.Row))=true from hc)]
      refine .inl ⟨_,rfl,rfl,?_⟩;simp only [eS];rw [ab hc];exact v
  · obtain ⟨i',st⟩:=st
    obtain ⟨e,v⟩:=hI;simp only at e v;subst e;exact ⟨st,by simp,v⟩
theorem zM (h:Pv C s k g W q ks) (kind mode:Int):(cv (σ:=Int×(List ah)×Int×Int×Bool×Bool) (τ:=((List ah)×Int×Int×Bool×Bool)) (((q.L.length:Int) - 0).toNat+1) (fun s_23=>
 (bD (decide (s_23.1 < (s_23.2.1.length:Int))) (some (kind==4))).bind fun d_29=>
 if d_29=true then
 ((orE (mode==2) ((bD (mode==0) (some (decide (s_23.1 > s_23.2.2.1)))).bind fun d_41=>
 some d_41)).bind fun d_37=>
 (orE d_37 ((bD (mode==1) (some (decide (s_23.1 < s_23.2.2.1)))).bind fun d_52=>
 some d_52)).bind fun d_48=>
 if d_48=true then
 (dx (⟨s_23.2.1,(⟨s_23.2.2.1,s_23.2.2.2.1,s_23.2.2.2.2.1⟩:ai),s_23.2.2.2.2.2⟩:ag) s_23.1 3 0 0).bind fun x_62=>
 (some (x_62.L,x_62.At.Row,x_62.At.Col,x_62.At.Pending,x_62.Auto):Option ((List ah)×Int×Int×Bool×Bool))
 else
 (some (s_23.2.1,s_23.2.2.1,s_23.2.2.2.1,s_23.2.2.2.2.1,s_23.2.2.2.2.2):Option ((List ah)×Int×Int×Bool×Bool))).bind fun z_34=>
 some (.inl ((w64 (s_23.1+1)),z_34.1,z_34.2.1,z_34.2.2.1,z_34.2.2.2.1,z_34.2.2.2.2))
 else
 some (.inr (s_23.2.1,s_23.2.2.1,s_23.2.2.2.1,s_23.2.2.2.2.1,s_23.2.2.2.2.2))) (0,q.L,q.At.Row,q.At.Col,q.At.Pending,q.Auto))=
    some (if kind=4 then eS (cnd mode q.At.Row) q.L ks.length else q.L,q.At.Row,q.At.Col,q.At.Pending,q.Auto):=by
  have hh:=h.g.h2;have hl:=h.len;by_cases hk:kind=4
  · subst hk
    rw [ae rfl];obtain ⟨t,h1,h2⟩:=eG (σ:=Int×(List ah)×Int×Int×Bool×Bool) (τ:=((List ah)×Int×Int×Bool×Bool)) (n:=ks.length) (fuel:=((q.L.length:Int) - 0).toNat+1) (s:=(0,q.L,q.At.Row,q.At.Col,q.At.Pending,q.Auto))
      (fun i st=>st=((i:Int),eS (cnd mode q.At.Row) q.L i,q.At.Row,q.At.Col,q.At.Pending,q.Auto)∧∃s',Pv C s' k g W ⟨eS (cnd mode q.At.Row) q.L i,q.At,q.Auto⟩ ks) (fun t=>t=(eS (cnd mode q.At.Row) q.L ks.length,q.At.Row,q.At.Col,q.At.Pending,q.Auto))
      (step:=fun s_23=>
 (bD (decide (s_23.1 < (s_23.2.1.length:Int))) (some ((4:Int)==4))).bind fun d_29=>
 if d_29=true then
 ((orE (mode==2) ((bD (mode==0) (some (decide (s_23.1 > s_23.2.2.1)))).bind fun d_41=>
 some d_41)).bind fun d_37=>
 (orE d_37 ((bD (mode==1) (some (decide (s_23.1 < s_23.2.2.1)))).bind fun d_52=>
 some d_52)).bind fun d_48=>
 if d_48=true then
 (dx (⟨s_23.2.1,(⟨s_23.2.2.1,s_23.2.2.2.1,s_23.2.2.2.2.1⟩:ai),s_23.2.2.2.2.2⟩:ag) s_23.1 3 0 0).bind fun x_62=>
 (some (x_62.L,x_62.At.Row,x_62.At.Col,x_62.At.Pending,x_62.Auto):Option ((List ah)×Int×Int×Bool×Bool))
 else
 (some (s_23.2.1,s_23.2.2.1,s_23.2.2.2.1,s_23.2.2.2.2.1,s_23.2.2.2.2.2):Option ((List ah)×Int×Int×Bool×Bool))).bind fun z_34=>
 some (.inl ((w64 (s_23.1+1)),z_34.1,z_34.2.1,z_34.2.2.1,z_34.2.2.2.1,z_34.2.2.2.2))
 else
 some (.inr (s_23.2.1,s_23.2.2.1,s_23.2.2.2.1,s_23.2.2.2.2.1,s_23.2.2.2.2.2)))
      (fun i st hi hI=>by
        obtain ⟨rfl,s',v⟩:=hI;have hvl:(eS (cnd mode q.At.Row) q.L i).length=ks.length:=v.len;simp only [ba,bsm,br];rw [ae (by simp [hvl,hi]),ci hi (by omega)];by_cases hc:cnd mode q.At.Row i=true
        · rw [ae (show (mode==2 || mode==0 && decide ((i:Int) > q.At.Row) || mode==1 && decide ((i:Int) < q.At.Row))=true from hc)]
          have ha:=DV v hi 3 0 0;rw [show (⟨eS (cnd mode q.At.Row) q.L i,⟨q.At.Row,q.At.Col,q.At.Pending⟩,q.Auto⟩:ag)=⟨eS (cnd mode q.At.Row) q.L i,q.At,q.Auto⟩ from rfl,ha];refine .inl ⟨_,rfl,?_,s'.sr ks[i] (ac ((eS (cnd mode q.At.Row) q.L i).getD i dl).Cells ((eS (cnd mode q.At.Row) q.L i).getD i dl).Wrap 3 0 0),?_⟩
          · simp only [eS]
            rw [ae hc]
          · simp only [eS]
            rw [ae hc];exact v.ac hi 3 0 0
        · rw [ab (show ¬(mode==2 || mode==0 && decide ((i:Int) > q.At.Row) || mode==1 && decide ((i:Int) < q.At.Row))=true from hc)]
          refine .inl ⟨_,rfl,?_,s',?_⟩
          · simp only [eS]
            rw [ab hc]
          · simp only [eS]
            rw [ab hc];exact v)
      (fun st hI=>by
        obtain ⟨rfl,s',v⟩:=hI;have hvl:(eS (cnd mode q.At.Row) q.L ks.length).length=ks.length:=v.len;refine ⟨_,?_,rfl⟩;simp only [ba,bsm];rw [ab (by simp [hvl])])
      ⟨rfl,s,h⟩ (by omega)
    rw [h1,h2]
  · rw [ab hk]
    have hf:(kind==4)=false:=by simpa using hk
    rw [show ((q.L.length:Int) - 0).toNat+1=q.L.length+1 by omega];simp only [cv,hf,ba,D6,bsm,ak,aU]
theorem Cg (h:Pv C s k g W q ks) {i:Nat} (hi:i < ks.length) {c:List aa} {done:Bool} {r:bp} (hc:c=r.cells) (hd:done=true→r.wrap=false) (hn:done=false→r=⟨(q.L.getD i dl).Cells,(q.L.getD i dl).Wrap⟩) {z:ag} (hz:z=q):
    (if done=true then (cq z i ⟨c,false⟩).bind fun x_172=>(some (x_172.L,x_172.At.Row,x_172.At.Col,x_172.At.Pending,x_172.Auto):Option ((List ah)×Int×Int×Bool×Bool))
     else (some (z.L,z.At.Row,z.At.Col,z.At.Pending,z.Auto):Option ((List ah)×Int×Int×Bool×Bool)))=some (q.L.set i (lt r),q.At.Row,q.At.Col,q.At.Pending,q.Auto):=by
  subst hz hc;have hl:=h.len
  cases done with
  | true=>
    rw [ae rfl,se h hi];simp only [bsm];unfold lt;rw [hd rfl]
  | false=>
    rw [ab (by simp),hn rfl];unfold lt;rw [gdl (show i < z.L.length by omega),uq]
theorem C9 {l:List aa} {w:Bool} {a b:Int}:(mvs a b l.length=true→(ish l w a b).wrap=false)∧(mvs a b l.length=false→ish l w a b=⟨l,w⟩):=by
  unfold ish;refine ⟨fun h=>by rw [ae h],fun h=>by rw [ab (by rw [h]; simp)]⟩
theorem Dl {l:List aa} {w:Bool} {a b:Int}:(mvs a b l.length=true→(dsh l w a b).wrap=false)∧(mvs a b l.length=false→dsh l w a b=⟨l,w⟩):=by
  unfold dsh;refine ⟨fun h=>by rw [ae h],fun h=>by rw [ab (by rw [h]; simp)]⟩
theorem AF (h:Pv C s k g W q ks) {i:Nat} (hi:i < ks.length) (hr:q.At.Row=(i:Int)) (kind:Int) {mode:Int} (hm:0≤mode∧mode≤2):∃L1,L1=q.L.set i (lt (ac (q.L.getD i dl).Cells (q.L.getD i dl).Wrap (md mode) q.At.Col 0))∧
    jO q kind mode=some ⟨if kind=4 then eS (cnd mode q.At.Row) L1 ks.length else L1,q.At,q.Auto⟩:=by
  refine ⟨_,rfl,?_⟩;unfold jO;have hidx:idx ([2,1,3]:List Int) mode=some (md mode):=by
    have:mode=0∨mode=1∨mode=2:=by omega
    rcases this with e | e | e <;> rw [e] <;> rfl
  have v:=h.ac hi (md mode) q.At.Col 0;have e0:dx q q.At.Row (md mode) q.At.Col 0=some ⟨q.L.set i (lt (ac (q.L.getD i dl).Cells (q.L.getD i dl).Wrap (md mode) q.At.Col 0)),q.At,q.Auto⟩:=by
    rw [hr];exact DV h hi _ _ _
  rw [hidx];simp only [bsm];rw [e0];simp only [bsm];have:=zM v kind mode;simp only at this;rw [this];rfl
theorem EZ (h:Pv C s k g W q ks) (o:aM) (hw:w38 o=0):∃s' q' ks',oE s (some k) o=some (s',Er.nil)∧eD q o=some q'∧Pv C s' k g W q' ks'∧ks'.length=ks.length∧Hd q'.At W ks.length∧q'.At.Pending=false:=by
  have hh:=h.g.h2;have h1:=h.g.h1;have w1:=h.g.w1;have w2:=h.g.w2;have hkind:2≤o.Kind∧o.Kind≤12:=by
    unfold w38 at hw;split at hw
    · cases hw
    · omega
  have hmode:(o.Kind=3∨o.Kind=4)→0≤o.A∧o.A≤2:=fun e=>by
    unfold w38 at hw;rw [ab (by omega)] at hw;split at hw
    · cases hw
    · omega
  have hnil:e38 o=Er.nil:=by unfold e38; rw [hw]; rfl
  have hd0:=sx q.At w1 h1;have hv:Pv C (s.sp k ⟨some g,⟨(hc q.At W ks.length).Row,(hc q.At W ks.length).Col,false⟩,q.Auto⟩) k g W ⟨q.L,⟨(hc q.At W ks.length).Row,(hc q.At W ks.length).Col,false⟩,q.Auto⟩ ks:=h.set _ _;have hd:Hd ⟨(hc q.At W ks.length).Row,(hc q.At W ks.length).Col,false⟩ W ks.length:=⟨hd0.rr,hd0.cc,fun e=>by cases e⟩;unfold oE eD;rw [vj,hnil,oy h];simp only [bsm,Er.isNil,cm,ak,aU,bI,cW,h.p];rw [jc h.g,eH h.g];simp only [bsm];rw [oL _ w1 w2 h1 hh];simp only [bsm];rw [iH (cK h.p)];simp only [bsm];rw [iH (by simp [Sto.sp]; exact cK h.p),wt];simp only [bsm];generalize hc q.At W ks.length=c at *;obtain ⟨i,hi⟩:∃i:Nat,c.Row=(i:Int):=⟨c.Row.toNat,by have:=hd.rr; simp only at this; omega⟩;have hik:i < ks.length:=by have:=hd.rr; simp only at this; omega
  have hlen:=hv.len;simp only at hlen;obtain ⟨c1,c2,c3⟩:=c;simp only at hi hv hd;subst hi;simp only;rw [aW (show i < q.L.length by omega)];simp only [bsm];generalize s.sp k ⟨some g,⟨(i:Int),c2,false⟩,q.Auto⟩=s1 at *;obtain ⟨L,⟨_,_,_⟩,au⟩:=q;simp only at hv hlen⊢;obtain ⟨r1,r2,r3⟩:=hv.rw_ hik;simp only at r1 r2 r3;obtain ⟨kd_,A,B,bs⟩:=o;simp only at hkind hmode⊢;have hcell:L[i]'(by omega)=L.getD i dl:=(gdl (by omega)).symm;rw [hcell];have:kd_=2∨kd_=3∨kd_=4∨kd_=5∨kd_=6∨kd_=7∨kd_=8∨kd_=9∨kd_=10∨kd_=11∨kd_=12:=by omega
  have hcc:=hd.cc;simp only at hcc;rcases this with e | e | e | e | e | e | e | e | e | e | e <;> subst e <;> simp only [Int.reduceBEq,ak,aU,bw,bsm]
  ·
    unfold fL;simp only [bsm,hv.p];rw [eW hv.g hik];simp only [bsm,Int.reduceBEq,bw];rw [jc hv.g,eH hv.g];simp only [bsm];unfold iR;rw [oL _ w1 w2 h1 hh,sj hv,hlen];simp only [bsm];rw [sm _ w1 w2 h1 hh,iH (cK hv.p)];exact ⟨_,_,ks,rfl,rfl,hv.set (hc ⟨A,B,false⟩ W ks.length) au,rfl,sx _ w1 h1,by simp [hc]⟩
  ·
    have hm:=hmode (.inl rfl);obtain ⟨L1,e1,e2⟩:=AF hv hik rfl 3 hm;simp only at e1;rw [e2];unfold fL;simp only [bsm,hv.p];rw [eW hv.g hik];simp only [bsm,Int.reduceBEq,ak,aU,bw];rw [wR hv hik rfl A];refine ⟨_,_,ks,rfl,rfl,?_,rfl,hd,rfl⟩;have:=hv.ac hik (md A) c2 0;simp only at this;rw [ab (by decide),e1];exact this
  ·
    have hm:=hmode (.inr rfl);obtain ⟨L1,e1,e2⟩:=AF hv hik rfl 4 hm;simp only at e1;rw [e2];unfold fL;simp only [bsm,hv.p];rw [eW hv.g hik];simp only [bsm,Int.reduceBEq,ak,aU,bw];unfold mx;rw [wR hv hik rfl A];have hv2:=hv.ac hik (md A) c2 0;simp only at hv2;rw [←e1] at hv2;simp only [bsm,hv2.p];rw [eH hv2.g];simp only [bsm];obtain ⟨s',l1,l2⟩:=ya hv2 A rfl;rw [l1];exact ⟨_,_,ks,rfl,rfl,l2,rfl,hd,rfl⟩
  ·
    unfold fL;simp only [bsm,hv.p];rw [eW hv.g hik];simp only [bsm,Int.reduceBEq,ak,aU,bw];rw [yJ r1 r2 (by omega),DV hv hik];exact ⟨_,_,ks,rfl,rfl,hv.ac hik 4 c2 A,rfl,hd,rfl⟩
  ·
    have hsn:=EQ (w:=(L.getD i dl).Wrap) r2 c2 A;have hlw:=ER (l:=(L.getD i dl).Cells) (w:=(L.getD i dl).Wrap) c2 A;have hdn:=C9 (l:=(L.getD i dl).Cells) (w:=(L.getD i dl).Wrap) (a:=c2) (b:=A);unfold fL;simp only [bsm,hv.p];rw [eW hv.g hik];simp only [bsm,Int.reduceBEq,ak,aU,bw];rw [Bg r1 r2 (by omega),Ew (by omega) _ _ (L.getD i dl).Wrap];simp only [bsm];have:=Cg hv hik (c:=(ish (L.getD i dl).Cells (L.getD i dl).Wrap c2 A).cells) (done:=mvs c2 A (L.getD i dl).Cells.length) (r:=ish (L.getD i dl).Cells (L.getD i dl).Wrap c2 A) rfl hdn.1 hdn.2 rfl;simp only at this;rw [this];exact ⟨_,_,ks,rfl,rfl,hv.row hik hsn (by rw [hlw]; exact r3),rfl,hd,rfl⟩
  ·
    have hsn:=E3 (w:=(L.getD i dl).Wrap) r2 c2 A;have hlw:=E4 (l:=(L.getD i dl).Cells) (w:=(L.getD i dl).Wrap) c2 A;have hdn:=Dl (l:=(L.getD i dl).Cells) (w:=(L.getD i dl).Wrap) (a:=c2) (b:=A);unfold fL;simp only [bsm,hv.p];rw [eW hv.g hik];simp only [bsm,Int.reduceBEq,ak,aU,bw];rw [Bh r1 r2 (by omega),Ex (by omega) _ _ (L.getD i dl).Wrap];simp only [bsm];have:=Cg hv hik (c:=(dsh (L.getD i dl).Cells (L.getD i dl).Wrap c2 A).cells) (done:=mvs c2 A (L.getD i dl).Cells.length) (r:=dsh (L.getD i dl).Cells (L.getD i dl).Wrap c2 A) rfl hdn.1 hdn.2 rfl;simp only at this;rw [this];exact ⟨_,_,ks,rfl,rfl,hv.row hik hsn (by rw [hlw]; exact r3),rfl,hd,rfl⟩
  ·
    obtain ⟨s',ks',u1,⟨u2,u3,u4,u5⟩,u6,u7⟩:=yK hv.g hv.nd (i:Int) (ks.length:Int) A;have hm:=ql (W:=W) (L:=L) (by omega) w2 (fun x hx=>(hv.ok x hx).2) (i:Int) (ks.length:Int) A false;rw [hlen] at hm⊢;unfold iL;simp only [bsm,hv.p];rw [eH hv.g];simp only [bsm,Int.reduceBEq,ak,aU,bw];rw [u1,hm];have hp:s'.place_Pen[k]? = some ⟨some g,⟨(i:Int),c2,false⟩,au⟩:=by rw [kx u6]; exact hv.p
    simp only [bsm,hp,dt];rw [iH (cK hp)];refine ⟨_,_,ks',rfl,rfl,⟨xb (cK hp),u2.sp _ _,u3,?_,(qK u6).trans hv.o,(hv.f.step u7 (kx u6)).sp _⟩,u4,⟨hd.rr,by simp only; omega,fun e=>by cases e⟩,rfl⟩;exact u5.trans (by rw [hv.l])
  ·
    obtain ⟨s',ks',u1,⟨u2,u3,u4,u5⟩,u6,u7⟩:=zm hv.g hv.nd (i:Int) (ks.length:Int) A;have hm:=ql (W:=W) (L:=L) (by omega) w2 (fun x hx=>(hv.ok x hx).2) (i:Int) (ks.length:Int) A true;rw [hlen] at hm⊢;unfold iL;simp only [bsm,hv.p];rw [eH hv.g];simp only [bsm,Int.reduceBEq,ak,aU,bw];rw [u1,hm];have hp:s'.place_Pen[k]? = some ⟨some g,⟨(i:Int),c2,false⟩,au⟩:=by rw [kx u6]; exact hv.p
    simp only [bsm,hp,dt];rw [iH (cK hp)];refine ⟨_,_,ks',rfl,rfl,⟨xb (cK hp),u2.sp _ _,u3,?_,(qK u6).trans hv.o,(hv.f.step u7 (kx u6)).sp _⟩,u4,⟨hd.rr,by simp only; omega,fun e=>by cases e⟩,rfl⟩;exact u5.trans (by rw [hv.l])
  ·
    obtain ⟨s',ks',u1,⟨u2,u3,u4,u5⟩,u6,u7⟩:=zm hv.g hv.nd 0 (ks.length:Int) A;have hm:=ql (W:=W) (L:=L) (by omega) w2 (fun x hx=>(hv.ok x hx).2) 0 (ks.length:Int) A true;rw [hlen] at hm⊢;unfold iL;simp only [bsm,hv.p];rw [eH hv.g];simp only [bsm,Int.reduceBEq,ak,aU,bw];rw [u1,hm];refine ⟨_,_,ks',rfl,rfl,⟨by rw [kx u6]; exact hv.p,u2,u3,?_,(qK u6).trans hv.o,hv.f.step u7 (kx u6)⟩,u4,hd,rfl⟩;exact u5.trans (by rw [hv.l])
  ·
    obtain ⟨s',ks',u1,⟨u2,u3,u4,u5⟩,u6,u7⟩:=yK hv.g hv.nd 0 (ks.length:Int) A;have hm:=ql (W:=W) (L:=L) (by omega) w2 (fun x hx=>(hv.ok x hx).2) 0 (ks.length:Int) A false;rw [hlen] at hm⊢;unfold iL;simp only [bsm,hv.p];rw [eH hv.g];simp only [bsm,Int.reduceBEq,ak,aU,bw];rw [u1,hm];refine ⟨_,_,ks',rfl,rfl,⟨by rw [kx u6]; exact hv.p,u2,u3,?_,(qK u6).trans hv.o,hv.f.step u7 (kx u6)⟩,u4,hd,rfl⟩;exact u5.trans (by rw [hv.l])
  ·
    unfold fL;simp only [bsm,hv.p];rw [eW hv.g hik];simp only [bsm,Int.reduceBEq,ak,aU,bw];rw [iH (cK hv.p)];exact ⟨_,_,ks,rfl,rfl,hv.set ⟨(i:Int),c2,false⟩ (A != 0),rfl,hd,rfl⟩
end Go.Proofs.YtclmdpamofdoiaaGreatDoor
