/- Parts of the proofs of ConsoleGoesOn: the walk through the code, and plain Lean. No condition. -/
import Derived.Test.YtceciacilfhmjaaGreatDoorCoD
import Derived.Test.YtceciacilfhmjaaGreatDoorCoB
import Derived.Test.YtceciacilfhmjaaGreatDoorCoA
import Derived.Test.YtceciacilfhmjaaGreatDoorCoC
import Derived.KernelRfl
import Derived.Lib.SplitLaws
import Derived.Lib.Atoi
import Derived.Lib.ItoaNum
set_option linter.unusedVariables false
set_option linter.unusedSimpArgs false
namespace Go.Proofs.YtceciacilfhmjaaGreatDoor
open Go Go.Lt
variable {s:Sto} {k:Nat} {l p:List aa} {w:Bool}
theorem uC (p:List Int) (hp:p.length≤1000000):gw p=some (p.map fc):=by
 unfold gw;rw [qn _ (by omega),qn _ (by omega)];simp only [bsm];obtain ⟨t,h1,h2⟩:=eY (σ:=(List Int)×Int) (τ:=List Int) (n:=p.length) (fuel:=((p.length:Int) - 0).toNat+1) (s:=(List.replicate (0:Int).toNat 0,0))
  (fun i q=>q=((p.take i).map fc,(i:Int))) (fun t=>t=p.map fc)
  (step:=fun s_12=>
 if (decide (s_12.2 < (p.length:Int)))=true then
 (idx p s_12.2).bind fun x_15=>
 ((dE x_15).bind fun x_21=>
 if (!x_21)=true then
 (some (65533):Option (Int))
 else
 (some (x_15):Option (Int))).bind fun z_19=>
 (app s_12.1 ([z_19]:List Int)).bind fun x_29=>
 some (.inl (x_29,(w64 (s_12.2+1))))
 else
 some (.inr (s_12.1)))
  (fun i q hi e=>by
   subst e;refine .inl ⟨_,?_,rfl⟩;have e5:w64 ((i:Int)+1)=((i+1:Nat):Int):=by rw [aL (by omega)]; simp
   have hd:decide ((i:Int) < (p.length:Int))=true:=by simp; exact hi
   simp only [hd,bG,bz hi,bsm,oI,e5];have hz:(if (!vld p[i])=true then (some (65533):Option Int) else some p[i])=some (fc p[i]):=by
    unfold fc
    cases vld p[i] <;> rfl
   rw [hz];simp only [bsm];rw [du (by simp; omega)];simp only [bsm];rw [ay hi,bb];rfl)
  (fun q e=>⟨_,by subst e; simp,rfl⟩)
  rfl (by omega)
 subst h2;rw [h1];rfl
theorem C8 (wide:Int) (t:List Int) (ht:t.length≤9223372036854775807):pa wide t=some (dU wide (fx t)):=by
 unfold pa;have hz:(if (decide (wide≥2))=true then (app ([(⟨0,([]:List Int)⟩:aa)]:List aa) ([(⟨0,([]:List Int)⟩:aa)]:List aa)).bind fun x_14=>(some (x_14):Option ((List aa))) else
   (some (([(⟨0,([]:List Int)⟩:aa)]:List aa)):Option ((List aa))))=some (if 2≤wide then [bl,bl] else [bl]):=by
  by_cases h:2≤wide
  ·rw [af (by simpa using h),af h,du (by simp)];rfl
  ·rw [ab (by simpa using h),ab h];rfl
 rw [hz];simp only [bsm];unfold dU;by_cases h0:t= []
 ·subst h0;rw [af (show ((([]:List Int).length:Int)==0)=true from rfl),af (show fx []= [] from rfl)];by_cases h:2≤wide
  ·rw [af h,af (show wide > 1 by omega)]
  ·rw [ab h,ab (show ¬(wide > 1) by omega)]
 ·have hl:0 < t.length:=List.length_pos_iff.2 h0;have hf:fx t≠ []:=by
   have:=CX t;intro h;rw [h,aB] at this;omega
  rw [ab (by rw [aA]; omega),ab hf,eV,show (min (t.length:Int) 16)=((min t.length 16:Nat):Int) by omega,show (0:Int)=((0:Nat):Int) from rfl,Bz (cR _) (Nat.min_le_left _ _)];simp only [bsm];rw [uC _ (by simp; omega)];have ef:((t.drop 0).take (min t.length 16 - 0)).map fc=fx t:=by
   unfold fx;rw [iT,qb]
   congr 1
   rcases Nat.le_total t.length 16 with h | h
   ·rw [cH h,aJ (ao _),aJ h]
   ·rw [Nat.min_eq_right h]
  rw [ef];by_cases h:2≤wide
  ·rw [af h,af (show wide > 1 by omega),show decide (wide≥2)=true by simpa using h];rfl
  ·rw [ab h,ab (show ¬(wide > 1) by omega),show decide (wide≥2)=false by simpa using h];rfl
theorem Di (wide:Int) (t:List Int):1≤(dU wide t).length∧(dU wide t).length≤2:=by
 unfold dU
 repeat' split
 all_goals simp
theorem Bx (wide:Int) (t:List Int):Snd (dU wide (fx t)):=Dl wide (JJ t) (JK t)
theorem KN {t:List Int} (h:∀x∈t,vld x=true) (hl:t.length≤16):fx t=t:=by
 unfold fx;rw [aJ hl]
 conv=>rhs; rw [←np t]
 refine dm fun x hx=>?_;unfold fc;rw [af (h x hx)];rfl
theorem Fq (h:s.row_Row[k]? = some ⟨l,w⟩) (hs:Snd l) (hl:l.length≤1024) {a:Nat} (wide:Int) {t:List Int} (ht:t.length≤9223372036854775807) (ha:a+(dU wide (fx t)).length≤l.length):
  lc s (some k) a wide t=some (s.sr k ⟨pl l a (dU wide (fx t)),pw l w a (dU wide (fx t)).length⟩,Er.nil):=by
 unfold lc;rw [C8 wide t ht];simp only [bsm];rw [oK h hs hl (Bx wide t) (Di wide _).1 ha];rfl
def mat (l:List aa) (i:Int):Option Nat:=if 0≤i∧i < l.length then (if kd l i.toNat=0 then none else if kd l i.toNat=3 then some (i.toNat - 1) else some i.toNat) else none
theorem yL (h:s.row_Row[k]? = some ⟨l,w⟩) {i:Int} (hi:¬(0≤i∧i < l.length)):fN s (some k) i=some (bl,false):=by
 unfold fN;rw [jt h];simp only [bsm,bS];rw [af (by simp; omega)];rfl
theorem JA (hs:Snd l) (j:Nat):kd l j=0∨kd l j=1∨kd l j=2∨kd l j=3:=by
 rcases aR j l.length with h | h
 ·have:=(hs j h).1;unfold rgt at this;rw [lD h];split at this
  ·omega
  ·simp only [an,aC,ai] at this;omega
 ·exact .inl (nc h)
theorem HK (h:s.row_Row[k]? = some ⟨l,w⟩) (hs:Snd l) (i:Int) (hi: -9223372036854775808≤i∧i≤9223372036854775807):
  oV s (some k) i=some (match mat l i with | some j=>((j:Int),⟨kd l j,(l.getD j bl).Text⟩,true) | none=>(0,⟨0,[]⟩,false)):=by
 unfold oV mat;by_cases hin:0≤i∧i < l.length
 ·obtain ⟨j,rfl⟩:∃j:Nat,i=(j:Int):=⟨i.toNat,by omega⟩;have hj:j < l.length:=by omega
  rw [af hin,Ac h hj hs.sht,bp];have hkd:=lD hj;have hgd:l.getD j bl=l[j]:=by rw [aw,ah hj]; rfl
  simp only [bsm,eO];by_cases h3:kd l j=3
  ·obtain ⟨p1,p2⟩:=hs.three h3;have hj2:j - 1 < l.length:=by omega
   have hkd2:=lD hj2;rw [af (by rw [aA,←hkd]; exact h3),aL (by omega),show ((j:Int) - 1)=((j - 1:Nat):Int) by omega,Ac h hj2 hs.sht];simp only [bsm,eO];rw [ab (show ¬kd l j=0 by omega),af h3,ab (by rw [aA,←hkd2]; omega),af (by rw [aA,←hkd2]; exact p2)];simp only;rw [p2,aw,ah hj2];rfl
  ·rw [ab (by rw [aA,←hkd]; exact h3)];simp only [bsm,eO];rcases JA hs j with h0 | h1 | h2 | h4
   ·rw [ab (by rw [aA,←hkd]; omega),ab (by rw [aA,←hkd]; omega),af h0]
   ·rw [af (by rw [aA,←hkd]; exact h1),ab (by omega),ab h3];simp only;rw [h1,hgd]
   ·rw [ab (by rw [aA,←hkd]; omega),af (by rw [aA,←hkd]; exact h2),ab (by omega),ab h3];simp only;rw [h2,hgd]
   ·exact absurd h4 h3
 ·rw [ab hin,yL h hin];rfl
theorem E8 {a j:Nat} (h:a≤j∧j < a+p.length):pc l a p j=p.getD (j - a) bl:=by unfold pc; rw [af h]
theorem Jh {a j:Nat} (h:¬(a≤j∧j < a+p.length)):pc l a p j=if tch l a p.length j=true then bl else l.getD j bl:=by unfold pc; rw [ab h]
end Go.Proofs.YtceciacilfhmjaaGreatDoor
namespace Go.Proofs.YtceciacilfhmjaaGreatDoor
open Go Go.Lt
variable {s C:Sto} {g k W:Nat} {ks:List Nat} {l p:List aa} {w:Bool} {q:ae}
def Sto.sp (s:Sto) (k:Nat) (x:bf):Sto:={ s with place_Pen:=s.place_Pen.set k x}
theorem jc {x:bf} (h:k < s.place_Pen.length):s.set_place_Pen k x=some (s.sp k x):=by
 simp only [Sto.set_place_Pen,h,bG];rfl
theorem Bw {x:bf} (h:k < s.place_Pen.length):(s.sp k x).place_Pen[k]? = some x:=by simp [Sto.sp,h]
theorem zR (s:Sto) (k:Nat) (x y:bf):(s.sp k x).sp k y=s.sp k y:=by simp [Sto.sp]
theorem Gw.sp (h:Gw s g ks W) (k:Nat) (x:bf):Gw (s.sp k x) g ks W:=⟨h.g,h.r,h.h1,h.h2,h.w1,h.w2⟩
def ownG (C:Sto) (k g:Nat):Prop:=∃x,C.place_Pen[k]? = some x∧x.G=some g
def ownR (C:Sto) (k r:Nat):Prop:=∃g y,ownG C k g∧C.grid_Grid[g]? = some y∧some r∈y.rows
structure Fr (C s:Sto) (k g:Nat) (ks:List Nat):Prop where
 pl:C.place_Pen.length≤s.place_Pen.length
 gl:C.grid_Grid.length≤s.grid_Grid.length
 rl:C.row_Row.length≤s.row_Row.length
 pn:∀j,j < C.place_Pen.length→j≠k→s.place_Pen[j]? = C.place_Pen[j]?
 gr:∀j,j < C.grid_Grid.length→¬ownG C k j→s.grid_Grid[j]? = C.grid_Grid[j]?
 rw:∀j,j < C.row_Row.length→¬ownR C k j→s.row_Row[j]? = C.row_Row[j]?
 ng:ownG C k g∨C.grid_Grid.length≤g
 nr:∀r∈ks,ownR C k r∨C.row_Row.length≤r
theorem Fr.self {p:bf} (h:s.place_Pen[k]? = some p) (hg:p.G=some g) (hk:s.grid_Grid[g]? = some ⟨ks.map some⟩):Fr s s k g ks:=
 ⟨ao _,ao _,ao _,fun _ _ _=>rfl,fun _ _ _=>rfl,fun _ _ _=>rfl,.inl ⟨p,h,hg⟩,fun r hr=> .inl ⟨g,_,⟨p,h,hg⟩,hk,List.mem_map.2 ⟨r,hr,rfl⟩⟩⟩
theorem Fr.new (h1:C.place_Pen.length≤s.place_Pen.length) (h2:C.grid_Grid.length≤s.grid_Grid.length) (h3:C.row_Row.length≤s.row_Row.length) (h4:∀j,j < C.place_Pen.length→s.place_Pen[j]? = C.place_Pen[j]?)
  (h5:∀j,j < C.grid_Grid.length→s.grid_Grid[j]? = C.grid_Grid[j]?) (h6:∀j,j < C.row_Row.length→s.row_Row[j]? = C.row_Row[j]?) (h7:C.grid_Grid.length≤g) (h8:∀r∈ks,C.row_Row.length≤r):Fr C s k g ks:=
 ⟨h1,h2,h3,fun j a _=>h4 j a,fun j a _=>h5 j a,fun j a _=>h6 j a,.inr h7,fun r hr=> .inr (h8 r hr)⟩
theorem Fr.step {s':Sto} {g':Nat} {ks':List Nat} (h:Fr C s k g ks) (f:Rf s s' g ks g' ks') (hp:s'.place_Pen=s.place_Pen):Fr C s' k g' ks':=by
 refine ⟨by rw [hp]; exact h.pl,cQ h.gl f.gl,cQ h.rl f.rl,fun j a b=>by rw [hp]; exact h.pn j a b,fun j a b=>?_,fun j a b=>?_,?_,fun r hr=>?_⟩
 ·have:=h.gl;rw [f.gr j (by omega) ?_,h.gr j a b];rintro rfl;rcases h.ng with q | q
  ·exact b q
  ·omega
 ·have:=h.rl;rw [f.rw j (by omega) ?_,h.rw j a b];intro hj;rcases h.nr j hj with q | q
  ·exact b q
  ·omega
 ·rcases f.ng with rfl | q
  ·exact h.ng
  ·exact .inr (cQ h.gl q)
 ·rcases f.nr r hr with q | q
  ·exact h.nr r q
  ·exact .inr (cQ h.rl q)
theorem Fr.sp (h:Fr C s k g ks) (x:bf):Fr C (s.sp k x) k g ks:=
 ⟨by simp only [Sto.sp,cf]; exact h.pl,h.gl,h.rl,fun j a b=>by simp only [Sto.sp]; rw [aT (rS b)]; exact h.pn j a b,h.gr,h.rw,h.ng,h.nr⟩
theorem Fr.sr (h:Fr C s k g ks) {i:Nat} (hi:i∈ks) (r:bm):Fr C (s.sr i r) k g ks:=by
 refine h.step (s':=s.sr i r) ⟨ao _,by simp [Sto.sr],fun _ _ _=>rfl,fun j _ b=>?_,.inl rfl,fun r hr=> .inl hr⟩ rfl;exact zP (fun e=>b (e▸ hi))
theorem Fr.addp (h:Fr C s k g ks) (x:bf):Fr C (s.add_place_Pen x) k g ks:=
 ⟨by have:=h.pl; simp only [Sto.add_place_Pen,ag]; omega,h.gl,h.rl,fun j a b=>by have:=h.pl; simp only [Sto.add_place_Pen]; rw [aG (by omega)]; exact h.pn j a b,h.gr,h.rw,h.ng,h.nr⟩
structure Rgp (s s':Sto):Prop where
 r:s'.row_Row=s.row_Row
 g:s'.grid_Grid=s.grid_Grid
 p:s'.place_Pen=s.place_Pen
theorem Rgp.self (s:Sto):Rgp s s:=⟨rfl,rfl,rfl⟩
theorem Rgp.symm {s s':Sto} (h:Rgp s s'):Rgp s' s:=⟨h.r.symm,h.g.symm,h.p.symm⟩
theorem Rgp.ownG {s s':Sto} (h:Rgp s s') (k g:Nat):ownG s' k g↔ownG s k g:=by unfold Go.Proofs.YtceciacilfhmjaaGreatDoor.ownG; rw [h.p]
theorem Rgp.ownR {s s':Sto} (h:Rgp s s') (k r:Nat):ownR s' k r↔ownR s k r:=by unfold Go.Proofs.YtceciacilfhmjaaGreatDoor.ownR; rw [h.g]; simp only [h.ownG]
theorem Fr.rgp {C' s':Sto} (h:Fr C s k g ks) (hC:Rgp C C') (hs:Rgp s s'):Fr C' s' k g ks:=by
 refine ⟨by rw [hC.p,hs.p]; exact h.pl,by rw [hC.g,hs.g]; exact h.gl,by rw [hC.r,hs.r]; exact h.rl,?_,?_,?_,?_,?_⟩
 ·rw [hC.p,hs.p]; exact h.pn
 ·rw [hC.g,hs.g]; simp only [hC.ownG]; exact h.gr
 ·rw [hC.r,hs.r]; simp only [hC.ownR]; exact h.rw
 ·rw [hC.g,hC.ownG]; exact h.ng
 ·rw [hC.r]; simp only [hC.ownR]; exact h.nr
theorem Fr.trans {B:Sto} {g0:Nat} {ks0:List Nat} (h:Fr B C k g0 ks0) (hg:∀j,ownG C k j→j=g0) (hr:∀j,ownR C k j→j∈ks0) (h':Fr C s k g ks):Fr B s k g ks:=by
 have hl:=h.gl;have hl2:=h.rl;have hl3:=h.pl;refine ⟨cQ h.pl h'.pl,cQ h.gl h'.gl,cQ h.rl h'.rl,fun j a b=>?_,fun j a b=>?_,fun j a b=>?_,?_,fun r hr'=>?_⟩
 ·rw [h'.pn j (by omega) b,h.pn j a b]
 ·rw [h'.gr j (by omega) ?_,h.gr j a b];intro q;obtain rfl:=hg j q;rcases h.ng with q | q
  ·exact b q
  ·omega
 ·rw [h'.rw j (by omega) ?_,h.rw j a b];intro q;rcases h.nr j (hr j q) with q | q
  ·exact b q
  ·omega
 ·rcases h'.ng with q | q
  ·obtain rfl:=hg g q; exact h.ng
  ·exact .inr (by omega)
 ·rcases h'.nr r hr' with q | q
  ·exact h.nr r (hr r q)
  ·exact .inr (by omega)
structure Pv (C s:Sto) (k g_ W:Nat) (q:ae) (ks:List Nat):Prop where
 p:s.place_Pen[k]? = some ⟨some g_,q.At,q.Auto⟩
 g:Gw s g_ ks W
 nd:ks.Nodup
 l:ks.map (ln s)=q.L
 o:s.oth=C.oth
 f:Fr C s k g_ ks
theorem Pv.self (h:Pv C s k g W q ks):Pv s s k g W q ks:=⟨h.p,h.g,h.nd,h.l,rfl,Fr.self h.p rfl h.g.g⟩
theorem Pv.oG (h:Pv C s k g W q ks) (j:Nat) (hj:ownG s k j):j=g:=by
 obtain ⟨x,h1,h2⟩:=hj;rw [h.p] at h1;cases h1;exact (aH h2).symm
theorem Pv.oR (h:Pv C s k g W q ks) (j:Nat) (hj:ownR s k j):j∈ks:=by
 obtain ⟨g',y,h1,h2,h3⟩:=hj;obtain rfl:=h.oG g' h1;rw [h.g.g] at h2;cases h2;obtain ⟨r,h4,h5⟩:=List.mem_map.1 h3;cases h5;exact h4
theorem Pv.len (h:Pv C s k g W q ks):q.L.length=ks.length:=by rw [←h.l,aQ]
theorem Pv.ok (h:Pv C s k g W q ks):∀x∈q.L,Okl W x:=by rw [←h.l]; exact xp h.g
theorem Pv.at (h:Pv C s k g W q ks) {i:Nat} (hi:i < ks.length):q.L[i]'(by rw [h.len]; exact hi)=ln s ks[i]:=by
 have:=h.l;have e:q.L[i]? = (ks.map (ln s))[i]? :=by rw [this]
 rw [ah (by rw [h.len]; exact hi),dx,ah hi] at e;exact aH e
theorem Pv.set (h:Pv C s k g W q ks) (c:aj) (a:Bool):Pv C (s.sp k ⟨some g,c,a⟩) k g W ⟨q.L,c,a⟩ ks:=
 ⟨Bw (cX h.p),h.g.sp _ _,h.nd,h.l,h.o,h.f.sp _⟩
theorem Pv.row (h:Pv C s k g W q ks) {i:Nat} (hi:i < ks.length) {r:bm} (hr:Snd r.cells) (hl:r.cells.length=W):Pv C (s.sr ks[i] r) k g W ⟨q.L.set i ⟨r.cells,r.wrap⟩,q.At,q.Auto⟩ ks:=by
 have hlt:=(h.g.at hi).lt;refine ⟨h.p,⟨h.g.g,fun j hj=>?_,h.g.h1,h.g.h2,h.g.w1,h.g.w2⟩,h.nd,?_,h.o,h.f.sr (aF hi) _⟩
 ·by_cases e:ks[i]=j
  ·subst e; exact ⟨r,rV hlt,hr,hl⟩
  ·obtain ⟨r0,h1,h2⟩:=h.g.r j hj;exact ⟨r0,(zP e).trans h1,h2⟩
 ·refine dy fun j=>?_;rw [dx,List.getElem?_set];rcases aR j ks.length with hj | hj
  ·rw [ah hj,jr];by_cases e:i=j
   ·subst e;rw [af rfl,af (by rw [h.len]; exact hi),oN (rV hlt)]
   ·have hne:ks[i]≠ks[j]:=by
     rcases LB e with h1 | h1
     ·exact List.pairwise_iff_getElem.1 h.nd i j _ _ h1
     ·exact (List.pairwise_iff_getElem.1 h.nd j i _ _ h1).symm
    rw [ab e,ah (by rw [h.len]; exact hj),h.at hj];unfold ln;rw [zP hne]
  ·rw [bI hj,ab (by omega),bI (by rw [h.len]; exact hj)];rfl
def hc (c:aj) (W h:Nat):aj:=⟨max 0 (min c.Row ((h:Int) - 1)),max 0 (min c.Col ((W:Int) - 1)),c.Pending && (c.Col==(W:Int) - 1)⟩
theorem tj {n:Nat} (h1:1≤n) (h2:n≤1024):fH n=some (n:Int):=by
 unfold fH;rw [ik,eV]
 congr 1
 omega
theorem vQ {n:Nat} (h1:1≤n) (h2:n≤1024):cO n=some (n:Int):=by
 unfold cO;rw [ab (by simp; omega),ab (by simp; omega)]
theorem tl (c:aj) {W h:Nat} (w1:1≤W) (w2:W≤1024) (h1:1≤h) (h2:h≤1024):ed c W h=some (hc c W h):=by
 unfold ed jK;rw [tj w1 w2,tj h1 h2];simp only [bsm,bd];rw [aL (by omega),aL (by omega),ik,eV,ik,eV];rfl
theorem vP (n:Int) {m:Nat} (h1:1≤m) (h2:m≤1024):gj n m=some (max 0 (min n ((m:Int) - 1))):=by
 unfold gj;rw [aL (by omega)];by_cases a:n < 0
 ·rw [af (by simpa using a)]
  congr 1
  omega
 ·rw [ab (by simpa using a)];by_cases b:(m:Int)≤n
  ·rw [af (by simpa using b)]
   congr 1
   omega
  ·rw [ab (by simpa using b)]
   congr 1
   omega
theorem Ae (c:aj) {W h:Nat} (w1:1≤W) (w2:W≤1024) (h1:1≤h) (h2:h≤1024):il c W h=some (hc c W h):=by
 unfold il;rw [vQ h1 h2,vQ w1 w2];simp only [bsm,bd];rw [vP _ h1 h2,vP _ w1 w2,aL (by omega)];rfl
structure Hd (c:aj) (W h:Nat):Prop where
 rr:0≤c.Row∧c.Row < (h:Int)
 cc:0≤c.Col∧c.Col < (W:Int)
 pp:c.Pending=true→c.Col=(W:Int) - 1
theorem wy (c:aj) {W h:Nat} (w1:1≤W) (h1:1≤h):Hd (hc c W h) W h:=by
 refine ⟨by simp only [hc]; omega,by simp only [hc]; omega,fun hp=>?_⟩;simp only [hc,an,aA] at hp⊢;omega
theorem KH {c:aj} {W h:Nat} (hd:Hd c W h):hc c W h=c:=by
 obtain ⟨h1,h2,h3⟩:=hd;obtain ⟨a,b,d⟩:=c;simp only at h1 h2 h3;unfold hc;simp only [aj.mk.injEq];refine ⟨by omega,by omega,?_⟩
 cases d with
 | false=>rfl
 | true=>rw [h3 rfl]; simp
theorem yb (h:Pv C s k g W q ks):fU s (some k)=some (s.sp k ⟨some g,hc q.At W ks.length,q.Auto⟩,true):=by
 unfold fU;simp only [bO,db,bsm,h.p,am,aU];rw [jE h.g,eL h.g];simp only [bsm];rw [tl _ h.g.w1 h.g.w2 h.g.h1 h.g.h2];simp only [bsm];rw [jc (cX h.p)];rfl
theorem sP (h:Pv C s k g W q ks):dZ q=some (W:Int):=by
 have hl:=h.len;have h1:=h.g.h1;have h0:idx q.L (0:Int)=some (q.L[0]'(by omega)):=bz (i:=0) (by omega);unfold dZ;rw [h0];simp only [bsm];rw [(h.ok _ (aF _)).2]
theorem qp (h:Pv C s k g W q ks):cz q=some ⟨q.L,hc q.At W ks.length,q.Auto⟩:=by
 unfold cz;rw [sP h];simp only [bsm];rw [h.len,Ae _ h.g.w1 h.g.w2 h.g.h1 h.g.h2];rfl
theorem vS (h:Pv C s k g W q ks):∃s' q' ks',eN s (some k)=some s'∧er q=some q'∧Pv C s' k g W q' ks'∧ks'.length=ks.length∧
  Hd q'.At W ks.length∧q'.At.Pending=false∧q'.At.Col=(hc q.At W ks.length).Col∧q'.Auto=q.Auto:=by
 have h1:=h.set (hc q.At W ks.length) q.Auto;have hd:=wy q.At h.g.w1 h.g.h1;have hh:=h.g.h2;unfold eN er;rw [yb h,qp h];generalize hc q.At W ks.length=c at *;simp only [bsm,eK,am,aU];rw [h1.p];simp only [bsm];rw [eL h1.g];simp only [bsm];unfold mC;rw [tj h.g.h1 h.g.h2];simp only [bsm];rw [aL (by omega),aL (by have:=hd.rr; omega),h.len];have hr:=hd.rr;by_cases he:(ks.length:Int) - 1≤c.Row
 ·rw [af (by simpa using he),ab (by simp; omega)];have h2:=h1.set ⟨c.Row,c.Col,false⟩ q.Auto;rw [zR] at h2;simp only [bsm];rw [jc (by rw [show (s.sp k ⟨some g,c,q.Auto⟩).place_Pen.length=s.place_Pen.length by simp [Sto.sp]]; exact cX h.p),zR];simp only [bsm,bG];rw [eL h2.g];simp only [bsm];obtain ⟨s',ks',u1,⟨u2,u3,u4,u5⟩,u6,u7⟩:=Bq h2.g h2.nd 0 (ks.length:Int) 1;have hm:=qo (W:=W) (L:=q.L) (by rw [h.len]; exact hh) h.g.w2 (fun x hx=>(h.ok x hx).2) 0 (ks.length:Int) 1 true;rw [h.len] at hm;rw [u1,hm];refine ⟨s',_,ks',rfl,rfl,⟨?_,u2,u3,?_,(sM u6).trans h2.o,h2.f.step u7 (mz u6)⟩,u4,⟨hr,hd.cc,fun e=>by cases e⟩,rfl,rfl,rfl⟩
  ·rw [mz u6]; exact h2.p
  ·rw [u5,h2.l]
 ·rw [ab (by simpa using he),af (by simp; omega)];have h2:=h1.set ⟨c.Row+1,c.Col,false⟩ q.Auto;rw [zR] at h2;simp only [bsm];rw [jc (by rw [show (s.sp k ⟨some g,c,q.Auto⟩).place_Pen.length=s.place_Pen.length by simp [Sto.sp]]; exact cX h.p),zR];simp only [bsm,am,aU];exact ⟨_,_,ks,rfl,rfl,h2,rfl,⟨by simp only; omega,hd.cc,fun e=>by cases e⟩,rfl,rfl,rfl⟩
theorem sO (h:Pv C s k g W q ks) {i:Nat} (hi:i < ks.length) (x:aq):cy q i x=some ⟨q.L.set i x,q.At,q.Auto⟩:=by
 have hl:=h.len;have hh:=h.g.h2;unfold cy;rw [du (by simp; omega),bq];simp only [bsm];rw [bz (show i < q.L.length by omega),nv (show i < q.L.length by omega)];rfl
theorem CW (h:Pv C s k g W q ks) (hd:0≤q.At.Row∧q.At.Row < (ks.length:Int)):∃s' q' ks',fp s (some k)=some s'∧cS q=some q'∧Pv C s' k g W q' ks'∧ks'.length=ks.length∧
  Hd q'.At W ks.length∧q'.At.Pending=false∧q'.At.Col=0∧q'.Auto=q.Auto:=by
 obtain ⟨i,hi⟩:∃i:Nat,q.At.Row=(i:Int):=⟨q.At.Row.toNat,by omega⟩;have hik:i < ks.length:=by omega
 have hl:=h.len;obtain ⟨r,r1,r2,r3⟩:=h.g.at hik;have hrow:=h.row hik (r:=⟨r.cells,true⟩) r2 r3;have h2:=hrow.set ⟨q.At.Row,0,false⟩ q.Auto;have w1:=h.g.w1;unfold fp cS;simp only [bsm,h.p,hi];rw [eZ h.g hik];simp only [bsm];rw [vO (l:=r.cells) (w:=r.wrap) r1];simp only [bsm];rw [hrow.p];simp only [bsm,dr];rw [jc (cX hrow.p)];simp only [bsm];rw [bz (show i < q.L.length by omega),h.at hik,oN r1];simp only [bsm];rw [sO h hik];simp only [bsm,hi];obtain ⟨s',q',ks',n1,n2,n3,n4,n5,n6,n7,n8⟩:=vS h2;rw [hi] at n1 n2;rw [n1,n2];refine ⟨s',q',ks',rfl,rfl,n3,n4,n5,n6,?_,n8⟩;rw [n7];simp only [hc];omega
theorem Ai (h:Pv C s k g W q ks) {i a:Nat} (hi:i < ks.length) (hp:Snd p) (hn:1≤p.length) (ha:a+p.length≤W):∃s' q',dH s (some ks[i]) a p=some (s',Er.nil)∧cu q i a p=some q'∧
  Pv C s' k g W q' ks∧q'.At=q.At∧q'.Auto=q.Auto∧q'.L=q.L.set i ⟨pl (ln s ks[i]).Cells a p,pw (ln s ks[i]).Cells (ln s ks[i]).Wrap a p.length⟩:=by
 obtain ⟨r,r1,r2,r3⟩:=h.g.at hi;have w2:=h.g.w2;have hl:=h.len;have hrow:=h.row hi (r:=⟨pl r.cells a p,pw r.cells r.wrap a p.length⟩) (r2.paint hp (by rw [r3]; exact ha)) (by rw [je]; exact r3);refine ⟨_,_,oK (l:=r.cells) (w:=r.wrap) r1 r2 (by omega) hp hn (by omega),?_,hrow,rfl,rfl,by rw [oN r1]⟩;unfold cu;rw [bz (show i < q.L.length by omega),h.at hi,oN r1];simp only [bsm];rw [tS _ _ _ _ (by omega) (by omega) (by omega)];simp only [bsm];rw [sO h hi];rfl
end Go.Proofs.YtceciacilfhmjaaGreatDoor
namespace Go.Proofs.YtceciacilfhmjaaGreatDoor
open Go Go.Lt
def ca (c:aj) (d W:Nat) (au:Bool):aj:=if c.Col < (W:Int) - d then ⟨c.Row,c.Col+d,false⟩ else ⟨c.Row,(W:Int) - 1,au⟩
theorem D5 (c:aj) {d W:Nat} (hd:d=1∨d=2) (w1:1≤W) (w2:W≤1024) (hc:0≤c.Col∧c.Col < (W:Int)) (au:Bool):kj c d W au=some (ca c d W au):=by
 unfold kj ca;rw [tj w1 w2];simp only [bsm,ik,eV];rw [show max (1:Int) (min (d:Int) 2)=(d:Int) by omega,aL (by omega),aL (by omega),aL (by omega)];by_cases h:c.Col < (W:Int) - d
 ·rw [af (by simpa using h),af h]
 ·rw [ab (by simpa using h),ab h]
theorem xZ (c:aj) {d W:Nat} (hd:d=1∨d=2) (w1:1≤W) (w2:W≤1024) (hc:0≤c.Col∧c.Col < (W:Int)) (au:Bool):jP c d W au=some (ca c d W au):=by
 unfold jP ca;have hz:(if decide ((d:Int) > 1)=true then (some 2:Option Int) else some 1)=some (d:Int):=by
  rcases hd with rfl | rfl <;> rfl
 rw [hz];simp only [bsm];rw [vQ w1 w2];simp only [bsm];rw [aL (by omega),aL (by omega),aL (by omega)];by_cases h:c.Col < (W:Int) - d
 ·rw [ab (by simp; omega),af h]
 ·rw [af (by simp; omega),ab h]
variable {s C:Sto} {g k W:Nat} {ks:List Nat} {q:ae}
theorem KY {c:aj} {d h:Nat} (hd:d=1∨d=2) (w1:1≤W) (hc:0≤c.Col∧c.Col < (W:Int)) (hr:0≤c.Row∧c.Row < (h:Int)) (au:Bool):Hd (ca c d W au) W h:=by
 unfold ca;by_cases h:c.Col < (W:Int) - d
 ·rw [af h];exact ⟨hr,by simp only; omega,fun e=>by cases e⟩
 ·rw [ab h];exact ⟨hr,by simp only; omega,fun _=>rfl⟩
theorem nS (d:Nat) (hd:d=1∨d=2) (t:List Int):(dU (d:Int) t).length=d:=by
 unfold dU;rcases hd with rfl | rfl <;> (repeat' split) <;> first | rfl | (exfalso; omega)
def fld (q:ae):(List aq)×Int×Int×Bool×Bool:=(q.L,q.At.Row,q.At.Col,q.At.Pending,q.Auto)
def rp1 (q:ae):Option ((List aq)×Int×Int×Bool×Bool):=
 if q.At.Pending=true then
 (cS q).bind fun x_34=>
 (some (x_34.L,x_34.At.Row,x_34.At.Col,x_34.At.Pending,x_34.Auto):Option ((List aq)×Int×Int×Bool×Bool))
 else
 (some (q.L,q.At.Row,q.At.Col,q.At.Pending,q.Auto):Option ((List aq)×Int×Int×Bool×Bool))
def rp2 (d W:Int) (z_28:(List aq)×Int×Int×Bool×Bool):Option ((List aq)×Int×Int×Bool×Bool):=
 (bX (d==2) (some (z_28.2.2.1==(w64 (W - 1))))).bind fun d_40=>
 if d_40=true then
 if z_28.2.2.2.2=true then
 (rep 1 (⟨0,([]:List Int)⟩:aa)).bind fun x_58=>
 (cu (⟨z_28.1,(⟨z_28.2.1,z_28.2.2.1,z_28.2.2.2.1⟩:aj),z_28.2.2.2.2⟩:ae) z_28.2.1 (w64 (W - 1)) x_58).bind fun x_59=>
 (cS x_59).bind fun x_60=>
 (some (x_60.L,x_60.At.Row,x_60.At.Col,x_60.At.Pending,x_60.Auto):Option ((List aq)×Int×Int×Bool×Bool))
 else
 (some (z_28.1,z_28.2.1,(w64 (W - 2)),z_28.2.2.2.1,z_28.2.2.2.2):Option ((List aq)×Int×Int×Bool×Bool))
 else
 (some (z_28.1,z_28.2.1,z_28.2.2.1,z_28.2.2.2.1,z_28.2.2.2.2):Option ((List aq)×Int×Int×Bool×Bool))
def cp1 (s:Sto) (p0:Option Nat):Option Sto:=
 (p0).bind fun k_3=>
 (s.place_Pen[k_3]?).bind fun o_6=>
 if o_6.At.Pending=true then
 (fp s p0).bind fun x_9=>
 (some (x_9):Option (Sto))
 else
 (some (s):Option (Sto))
theorem IJ (h:Pv C s k g W q ks) (hd:Hd q.At W ks.length):∃s' q' ks',cp1 s (some k)=some s'∧rp1 q=some (fld q')∧Pv C s' k g W q' ks'∧ks'.length=ks.length∧Hd q'.At W ks.length∧q'.Auto=q.Auto∧q'.At.Pending=false:=by
 unfold cp1 rp1;simp only [bsm,h.p]
 cases hp:q.At.Pending with
 | false=>
  simp only [am,aU];exact ⟨s,q,ks,rfl,by unfold fld; rw [hp],h,rfl,hd,rfl,hp⟩
 | true=>
  simp only [bG];obtain ⟨s',q',ks',a1,a2,a3,a4,a5,a6,a7,a8⟩:=CW h hd.rr;rw [a1,a2];exact ⟨s',q',ks',rfl,rfl,a3,a4,a5,a8,a6⟩
theorem CI (h:Pv C s k g W q ks) (hd:Hd q.At W ks.length) {d:Nat} (hdd:d=1∨d=2) (hdw:d≤W):
  ∃s' q' ks' z,iO s (some k) d=some s'∧rp1 q=some z∧rp2 d W z=some (fld q')∧Pv C s' k g W q' ks'∧ks'.length=ks.length∧(0≤q'.At.Row∧q'.At.Row < (ks.length:Int))∧(0≤q'.At.Col∧q'.At.Col+d≤(W:Int))∧q'.Auto=q.Auto:=by
 obtain ⟨s1,q1,ks1,a1,a2,v1,n1,hd1,au1,pe1⟩:=IJ h hd;have w1:=h.g.w1;have w2:=h.g.w2;have hcc:=hd1.cc;unfold iO
 change ∃s' q' ks' z,((cp1 s (some k)).bind _)=some s'∧_
 rw [a1];simp only [bsm,v1.p];rw [jE v1.g];simp only [bsm,bS];have e1:w64 ((W:Int) - 1)=((W - 1:Nat):Int):=by rw [aL (by omega)]; omega
 have e2:w64 ((W:Int) - 2)=(W:Int) - 2:=aL (by omega);rw [e1];unfold rp2;by_cases hA:d=1∨q1.At.Col < (W:Int) - 1
 ·rw [af (by simp only [aC,aA,ai]; omega)];refine ⟨s1,q1,ks1,_,rfl,a2,?_,v1,n1,hd1.rr,by omega,au1⟩;simp only [fld,bd,bsm,e1];rw [ab (by simp only [an,aA]; omega)]
 ·rw [ab (by simp only [aC,aA,ai]; omega)];have hd2:d=2:=by omega
  have hcol:q1.At.Col=(W:Int) - 1:=by omega
  obtain ⟨i,hi⟩:∃i:Nat,q1.At.Row=(i:Int):=⟨q1.At.Row.toNat,by have:=hd1.rr; omega⟩;have hik:i < ks1.length:=by have:=hd1.rr; omega
  cases hau:q1.Auto with
  | true=>
   simp only [bG];rw [hi,eZ v1.g hik];simp only [bsm];rw [show eh 1=some [bl] from xb 1];simp only [bsm];obtain ⟨s2,q2,b1,b2,v2,at2,au2,_⟩:=Ai (p:=[bl]) (a:=W - 1) v1 hik (tL 1) (by decide) (by simp; omega);rw [b1];simp only [bsm];obtain ⟨s3,q3,ks3,c1,c2,v3,n3,hd3,pe3,co3,au3⟩:=CW v2 (by rw [at2,n1]; exact hd1.rr);rw [c1];refine ⟨s3,q3,ks3,_,rfl,a2,?_,v3,n3.trans n1,by rw [←n1]; exact hd3.rr,by rw [co3]; omega,by rw [au3,au2,au1]⟩;simp only [fld,bd,bsm,e1];rw [af (by simp only [an,aA]; omega)];simp only [hau,bG];rw [qn _ (by decide),hi];simp only [bsm];rw [show (List.replicate (1:Int).toNat (⟨0,[]⟩:aa))= [bl] from rfl];have b2':cu ⟨q1.L,⟨(i:Int),q1.At.Col,q1.At.Pending⟩,true⟩ i ((W - 1:Nat):Int) [bl]=some q2:=by rw [←hi,←hau]; rw [←hi] at b2; exact b2
   rw [b2'];simp only [bsm];rw [c2];rfl
  | false=>
   simp only [am,aU];rw [jc (cX v1.p)];simp only [bsm];have e3:w64 (q1.At.Col - 1)=(W:Int) - 2:=by rw [aL (by omega)]; omega
   have v2:=v1.set ⟨q1.At.Row,(W:Int) - 2,q1.At.Pending⟩ q1.Auto;rw [hau] at v2;rw [e3];refine ⟨_,_,ks1,_,rfl,a2,?_,v2,n1,hd1.rr,by simp only; omega,by simp only; rw [←hau]; exact au1⟩;simp only [fld,bd,bsm,e1,e2];rw [af (by simp only [an,aA]; omega)];simp only [hau,am,aU]
def cl2 (p1:Int) (t:List Int) (W:Nat):Nat×List Int:=if max 1 (min p1 2) > (W:Int) then (1,[65533]) else ((max 1 (min p1 2)).toNat,t)
theorem Gk (p1:Int) (t:List Int) (w1:1≤W):((cl2 p1 t W).1=1∨(cl2 p1 t W).1=2)∧(cl2 p1 t W).1≤W:=by
 unfold cl2;split
 ·exact ⟨.inl rfl,w1⟩
 ·simp only;omega
theorem Gj (p1:Int) (t:List Int):(if (decide ((aS 1 (aM p1 2)) > (W:Int)))=true then (some (1,([65533]:List Int)):Option (Int×(List Int))) else (some ((aS 1 (aM p1 2)),t):Option (Int×(List Int))))=some (((cl2 p1 t W).1:Int),(cl2 p1 t W).2):=by
 rw [eV,ik];unfold cl2;by_cases h:max 1 (min p1 2) > (W:Int)
 ·rw [af (by simpa using h),af h];rfl
 ·rw [ab (by simpa using h),ab h];simp only;rw [pV (by omega)]
theorem BJ (h:Pv C s k g W q ks) (p1:Int) (t:List Int) (ht:t.length≤1000000):∃(s':Sto) (q':ae) (ks':List Nat) (i a:Nat),i < ks.length∧ib s (some k) p1 t=some (s',⟨(i:Int),(a:Int),false⟩)∧aZ q p1 t=some (q',⟨(i:Int),(a:Int),false⟩)∧
  Pv C s' k g W q' ks'∧ks'.length=ks.length∧Hd q'.At W ks.length∧q'.Auto=q.Auto∧a+(cl2 p1 t W).1≤W∧
  ∃l0 w0,l0.length=W∧q'.L[i]? = some ⟨pl l0 a (dU (cl2 p1 t W).1 (fx (cl2 p1 t W).2)),w0⟩:=by
 have hl:(cl2 p1 t W).2.length≤1000000:=by unfold cl2; split <;> simp; exact ht
 obtain ⟨hdd,hdw⟩:=Gk p1 t h.g.w1;have hce:=Gj (W:=W) p1 t;have w1:=h.g.w1;have w2:=h.g.w2;have h1:=h.set (hc q.At W ks.length) q.Auto;have hd:=wy q.At h.g.w1 h.g.h1;unfold ib aZ;rw [yb h,qp h];generalize hc q.At W ks.length=c at *;simp only [bsm,eK,am,aU,h1.p];rw [jE h1.g,sP h1];simp only [bsm];rw [hce];generalize (cl2 p1 t W).2=t2 at *;generalize (cl2 p1 t W).1=d at *;simp only [bsm];obtain ⟨s2,q2,ks2,z,a1,a2,a3,v2,n2,hr,hcl,au⟩:=CI h1 hd hdd hdw;rw [a1];obtain ⟨i,hi⟩:∃i:Nat,q2.At.Row=(i:Int):=⟨q2.At.Row.toNat,by omega⟩;obtain ⟨a,ha⟩:∃a:Nat,q2.At.Col=(a:Int):=⟨q2.At.Col.toNat,by omega⟩;have hik:i < ks2.length:=by omega
 obtain ⟨L2,⟨row2,col2,pd2⟩,ua2⟩:=q2;simp only at hi ha hr hcl au;subst hi ha;simp only [bsm,v2.p];rw [eZ v2.g hik];simp only [bsm];unfold lc;rw [C8 _ _ (by omega)];simp only [bsm];have hsl:=nS d hdd (fx t2);obtain ⟨s3,q3,b1,b2,v3,at3,au3,l3⟩:=Ai (p:=dU d (fx t2)) (a:=a) v2 hik (Bx _ _) (by rw [hsl]; omega) (by rw [hsl]; omega);rw [b1];simp only [bsm,v3.p];rw [jE v3.g];simp only [bsm];have hc2:0≤(⟨(i:Int),(a:Int),false⟩:aj).Col∧(⟨(i:Int),(a:Int),false⟩:aj).Col < (W:Int):=by simp only; omega
 rw [D5 _ hdd w1 w2 hc2];simp only [bsm];rw [jc (cX v3.p)];simp only [bsm];have v4:=v3.set (ca ⟨(i:Int),(a:Int),false⟩ d W q3.Auto) q3.Auto
 change ∃s' q' ks' i_1 a_1,_∧_∧((rp1 ⟨q.L,c,q.Auto⟩).bind fun z_28=>(rp2 d W z_28).bind _)=_∧_
 rw [a2];simp only [bsm];rw [a3];simp only [fld,bsm];rw [E4 _ _ (by omega)];simp only [bsm];rw [b2];simp only [bsm];rw [xZ _ hdd w1 w2 hc2];simp only [bsm];refine ⟨_,_,ks2,i,a,by omega,rfl,rfl,v4,n2,KY hdd w1 hc2 (by simp only; omega) _,by simp only; rw [au3,au],by omega,(ln s2 ks2[i]).Cells,pw (ln s2 ks2[i]).Cells (ln s2 ks2[i]).Wrap a (dU d (fx t2)).length,?_,?_⟩
 ·have:=v2.ok _ (aF (show i < L2.length by have:=v2.len; simp only at this; omega));rw [v2.at hik] at this;exact this.2
 ·simp only;rw [l3,be (by have:=v2.len; simp only at this⊢; omega)]
end Go.Proofs.YtceciacilfhmjaaGreatDoor
namespace Go.Proofs.YtceciacilfhmjaaGreatDoor
open Go Go.Lt
variable {s:Sto} {k g W:Nat} {l p p':List aa} {w:Bool} {q:ae} {ks:List Nat}
theorem sF (l:List aa) (a n j:Nat):tch l a n j=true↔(a≤j∧j < a+n)∨(kd l j=2∧a≤j+1∧j+1 < a+n)∨(kd l j=3∧a+1≤j∧j < a+n+1):=by
 simp only [tch,aC,an,ai];omega
theorem yN {c j:Nat} (h:¬(c≤j∧j < c+p.length)):pc l c p j=if (kd l j=2∧j+1=c∧0 < p.length)∨(kd l j=3∧j=c+p.length∧0 < p.length) then bl else l.getD j bl:=by
 rw [Jh h];by_cases ht:tch l c p.length j=true
 ·rw [af ht,af];rw [sF] at ht;omega
 ·rw [ab ht,ab];rw [sF] at ht;omega
theorem FI {c j:Nat} (hj:j < l.length) (h:¬(c≤j∧j < c+p.length)):kd (pl l c p) j=if (kd l j=2∧j+1=c∧0 < p.length)∨(kd l j=3∧j=c+p.length∧0 < p.length) then 0 else kd l j:=by
 rw [FH hj,yN h];split
 ·rfl
 ·exact nV l j
theorem yM {a c:Nat} (h1:a≤c) (h2:c+p.length≤a+p'.length) (h3:a+p'.length≤l.length):pl (pl l c p) a p'=pl l a p':=by
 apply dy;intro j;rcases aR j l.length with hj | hj
 ·rw [tU (by rw [je]; exact hj),tU hj]
  congr 1
  by_cases hi:a≤j∧j < a+p'.length
  ·rw [E8 hi,E8 hi]
  ·have hc:¬(c≤j∧j < c+p.length):=by omega
   have hg:(pl l c p).getD j bl=pc l c p j:=by rw [aw,tU hj]; rfl
   rw [yN hi,yN hi,FI hj hc,hg,yN hc];by_cases hA:(kd l j=2∧j+1=c∧0 < p.length)∨(kd l j=3∧j=c+p.length∧0 < p.length)
   ·rw [af hA,af hA,ab (by omega),af (by omega)]
   ·rw [ab hA,ab hA]
 ·rw [bI (by rw [je,je]; exact hj),bI (by rw [je]; exact hj)]
theorem CK {a c:Nat} (h1:a≤c) (h2:c+p.length≤a+p'.length) (h3:a+p'.length≤l.length):pw (pl l c p) (pw l w c p.length) a p'.length=pw l w a p'.length:=by
 unfold pw;rw [je];by_cases hl:0 < l.length
 ·have e:(tch l c p.length (l.length - 1) || tch (pl l c p) a p'.length (l.length - 1))=tch l a p'.length (l.length - 1):=by
   rw [da,aC,sF,sF,sF];by_cases hc:c≤l.length - 1∧l.length - 1 < c+p.length
   ·omega
   ·rw [FI (by omega) hc];split <;> omega
  rw [show decide (0 < l.length)=true by simpa using hl,gG,gG,Bool.and_assoc,←Bool.not_or,e,gG]
 ·rw [show decide (0 < l.length)=false by simpa using hl];simp
end Go.Proofs.YtceciacilfhmjaaGreatDoor
namespace Go.Proofs.YtceciacilfhmjaaGreatDoor
open Go Go.Lt
variable {s C:Sto} {k g W:Nat} {l p p':List aa} {w:Bool} {q:ae} {ks:List Nat}
def rdy (q:ae) (W H d:Nat):Option ((List aq)×Int×Int×Bool×Bool):=(rp1 ⟨q.L,hc q.At W H,q.Auto⟩).bind (rp2 d W)
def DB (L:List aq) (i a d W:Nat) (au:Bool) (t:List Int):ae:=
 ⟨L.set i ⟨pl (L.getD i dl).Cells a (dU d (fx t)),pw (L.getD i dl).Cells (L.getD i dl).Wrap a d⟩,ca ⟨(i:Int),(a:Int),false⟩ d W au,au⟩
theorem sQ {L:List aq} {c:aj} {au:Bool} {i a:Nat} (hi:i < L.length) (hL:L.length≤1024) (hw:(L.getD i dl).Cells.length≤1024) (hp:p.length≤1000000) (ha:a≤1000000):
  cu ⟨L,c,au⟩ i a p=some ⟨L.set i ⟨pl (L.getD i dl).Cells a p,pw (L.getD i dl).Cells (L.getD i dl).Wrap a p.length⟩,c,au⟩:=by
 unfold cu cy;simp only [gdl hi] at hw⊢;simp only [bz hi,bsm];rw [tS _ _ _ _ (by omega) ha hp];simp only [bsm];rw [du (by simp; omega),bq];simp only [bsm];rw [bz hi,nv hi];rfl
theorem jW {L2:List aq} {i a d:Nat} {pd au:Bool} (hdd:d=1∨d=2) (h:Pv C s k g W q ks) (hr:rdy q W ks.length d=some (L2,(i:Int),(a:Int),pd,au)) (hi:i < ks.length) (ha:a+d≤W) (hL:L2.length=ks.length) (hok:∀x∈L2,Okl W x) (p1:Int) (t:List Int) (ht:t.length≤1000000)
  (hcl:(cl2 p1 t W).1=d):aZ q p1 t=some (DB L2 i a d W au (cl2 p1 t W).2,⟨(i:Int),(a:Int),false⟩):=by
 have hl:(cl2 p1 t W).2.length≤1000000:=by unfold cl2; split <;> simp; exact ht
 have hce:=Gj (W:=W) p1 t;have w1:=h.g.w1;have w2:=h.g.w2;have h1:=h.set (hc q.At W ks.length) q.Auto;have h2:=h.g.h2;unfold aZ;rw [qp h];unfold rdy at hr;generalize hc q.At W ks.length=c at *;simp only [bsm];rw [sP h1];simp only [bsm];rw [hce,hcl];generalize (cl2 p1 t W).2=t2 at *;simp only [bsm];have hsl:=nS d hdd (fx t2);have hc2:0≤(⟨(i:Int),(a:Int),false⟩:aj).Col∧(⟨(i:Int),(a:Int),false⟩:aj).Col < (W:Int):=by simp only; omega
 obtain ⟨z,hz1,hz2⟩:=bs hr
 change ((rp1 ⟨q.L,c,q.Auto⟩).bind fun z_28=>(rp2 d W z_28).bind _)=_
 rw [hz1];simp only [bsm];rw [hz2];simp only [bsm];rw [E4 _ _ (by omega)];simp only [bsm];have hlt:i < L2.length:=by omega
 have hcells:(L2.getD i dl).Cells.length=W:=by
  rw [gdl hlt];exact (hok _ (aF hlt)).2
 rw [sQ hlt (by omega) (by omega) (by omega) (by omega)];simp only [bsm];rw [xZ _ hdd w1 w2 hc2];simp only [bsm,DB,hsl]
theorem E5 (h:Pv C s k g W q ks) {d:Nat} (hdd:d=1∨d=2) (hdw:d≤W):∃L2 i a pd,rdy q W ks.length d=some (L2,((i:Nat):Int),((a:Nat):Int),pd,q.Auto)∧i < ks.length∧a+d≤W∧L2.length=ks.length∧(∀x∈L2,Okl W x):=by
 have h1:=h.set (hc q.At W ks.length) q.Auto;have hd:=wy q.At h.g.w1 h.g.h1;obtain ⟨s2,q2,ks2,z,_,a2,a3,v2,n2,hr,hcl,au⟩:=CI h1 hd hdd hdw;obtain ⟨i,hi⟩:∃i:Nat,q2.At.Row=(i:Int):=⟨q2.At.Row.toNat,by omega⟩;obtain ⟨a,ha⟩:∃a:Nat,q2.At.Col=(a:Int):=⟨q2.At.Col.toNat,by omega⟩;refine ⟨q2.L,i,a,q2.At.Pending,?_,by omega,by omega,by rw [v2.len,n2],v2.ok⟩;unfold rdy;rw [a2];simp only [bsm];rw [a3];simp only [fld,hi,ha,au]
theorem Hv (h:Pv C s k g W q ks):∃L1 i c,rp1 ⟨q.L,hc q.At W ks.length,q.Auto⟩=some (L1,((i:Nat):Int),((c:Nat):Int),false,q.Auto)∧i < ks.length∧c+1≤W∧L1.length=ks.length∧(∀x∈L1,Okl W x):=by
 have h1:=h.set (hc q.At W ks.length) q.Auto;have hd:=wy q.At h.g.w1 h.g.h1;obtain ⟨s2,q2,ks2,a1,a2,v2,n2,hd2,au,pe⟩:=IJ h1 hd;have hr:=hd2.rr;have hcc:=hd2.cc;obtain ⟨i,hi⟩:∃i:Nat,q2.At.Row=(i:Int):=⟨q2.At.Row.toNat,by omega⟩;obtain ⟨a,ha⟩:∃a:Nat,q2.At.Col=(a:Int):=⟨q2.At.Col.toNat,by omega⟩;refine ⟨q2.L,i,a,?_,by omega,by omega,by rw [v2.len,n2],v2.ok⟩;rw [a2];simp only [fld,hi,ha,au,pe]
theorem CG (W:Int) (z:(List aq)×Int×Int×Bool×Bool):rp2 1 W z=some z:=by
 unfold rp2;simp only [bd,bsm];rw [ab (by simp)]
theorem DC (h:Pv C s k g W q ks) {p1 p2:Int} {t1 t2:List Int} (ht1:t1.length≤1000000) (ht2:t2.length≤1000000) (hc1:(cl2 p1 t1 W).1=1) {q':ae} {at_:aj} (hp:aZ q p1 t1=some (q',at_))
  {s' C':Sto} {ks':List Nat} (h':Pv C' s' k g W q' ks') (hk:ks'.length=ks.length):aZ ⟨q'.L,at_,q'.Auto⟩ p2 t2=aZ q p2 t2:=by
 obtain ⟨L1,i,c,e1,hi,hcw,hL1,hok1⟩:=Hv h;have w1:=h.g.w1;have w2:=h.g.w2;have hh2:=h.g.h2;have r1:rdy q W ks.length 1=some (L1,(i:Int),(c:Int),false,q.Auto):=by
  unfold rdy;rw [e1];exact CG (W:Int) _
 have hq:=jW (.inl rfl) h r1 hi hcw hL1 hok1 p1 t1 ht1 hc1;rw [hp] at hq;simp only [az,gE] at hq;obtain ⟨rfl,rfl⟩:=hq;simp only [DB];have hlt:i < L1.length:=by omega
 generalize hX:(⟨pl (L1.getD i dl).Cells c (dU (1:Nat) (fx (cl2 p1 t1 W).2)),pw (L1.getD i dl).Cells (L1.getD i dl).Wrap c 1⟩:aq)=X;have hst:=nS 1 (.inl rfl) (fx (cl2 p1 t1 W).2);have hcells:(L1.getD i dl).Cells.length=W:=by
  rw [gdl hlt];exact (hok1 _ (aF hlt)).2
 have hXc:X.Cells.length=W:=by rw [←hX]; simp only [je]; exact hcells
 have h2:=h'.set ⟨(i:Int),(c:Int),false⟩ q.Auto;simp only [DB] at h2;rw [hX] at h2;have hcid:hc ⟨(i:Int),(c:Int),false⟩ W ks.length=⟨(i:Int),(c:Int),false⟩:=KH ⟨by simp only; omega,by simp only; omega,fun e=>by cases e⟩;have e2:rp1 ⟨L1.set i X,hc ⟨(i:Int),(c:Int),false⟩ W ks'.length,q.Auto⟩=some (L1.set i X,(i:Int),(c:Int),false,q.Auto):=by
  rw [hk,hcid];unfold rp1;simp only [am,aU]
 have hg:(L1.set i X).getD i dl=X:=by
  rw [aw,be hlt];rfl
 have hokX:∀x∈L1.set i X,Okl W x:=h2.ok;obtain ⟨hdd,hdw⟩:=Gk p2 t2 w1;have over:∀(a d:Nat),d=1∨d=2→a≤c→c+1≤a+d→a+d≤W→∀p:List aa,p.length=d→(L1.set i X).set i ⟨pl ((L1.set i X).getD i dl).Cells a p,pw ((L1.set i X).getD i dl).Cells ((L1.set i X).getD i dl).Wrap a d⟩=L1.set i ⟨pl (L1.getD i dl).Cells a p,pw (L1.getD i dl).Cells (L1.getD i dl).Wrap a d⟩:=by
  intro a d _ g1 g2 g3 p hpl;rw [hg,List.set_set]
  congr 1
  rw [←hX];simp only;have o1:=yM (l:=(L1.getD i dl).Cells) (p:=dU (1:Nat) (fx (cl2 p1 t1 W).2)) (p':=p) g1 (by omega) (by omega);have o2:=CK (l:=(L1.getD i dl).Cells) (w:=(L1.getD i dl).Wrap) (p:=dU (1:Nat) (fx (cl2 p1 t1 W).2)) (p':=p) g1 (by omega) (by omega);rw [hst,hpl] at o2;rw [o1,o2]
 have fin:∀(a d:Nat) (pd pd':Bool),d=1∨d=2→(cl2 p2 t2 W).1=d→a≤c→c+1≤a+d→a+d≤W→rdy q W ks.length d=some (L1,(i:Int),(a:Int),pd,q.Auto)→rdy ⟨L1.set i X,⟨(i:Int),(c:Int),false⟩,q.Auto⟩ W ks'.length d=some (L1.set i X,(i:Int),(a:Int),pd',q.Auto)→
   aZ ⟨L1.set i X,⟨(i:Int),(c:Int),false⟩,q.Auto⟩ p2 t2=aZ q p2 t2:=by
  intro a d pd pd' g0 g1 g2 g3 g4 b1 b2;rw [jW g0 h b1 hi g4 hL1 hok1 p2 t2 ht2 g1,jW g0 h2 b2 (by omega) g4 (by rw [cf]; omega) hokX p2 t2 ht2 g1];have:=over a d g0 g2 g3 g4 (dU d (fx (cl2 p2 t2 W).2)) (nS d g0 _);unfold DB;rw [this]
 have f1:∀(L:List aq) (d:Nat),d=2→c+1 < W→rp2 d W (L,(i:Int),(c:Int),false,q.Auto)=some (L,(i:Int),(c:Int),false,q.Auto):=by
  intro L d hd hcn;unfold rp2;simp only [bd,bsm];rw [aL (by omega),ab (by simp only [an,aA]; omega)]
 rcases hdd with hd1 | hd2
 ·refine fin c 1 false false (.inl rfl) hd1 (ao _) (ao _) hcw r1 ?_;unfold rdy;rw [e2];exact CG (W:Int) _
 ·by_cases hcn:c+1 < W
  ·refine fin c 2 false false (.inr rfl) hd2 (ao _) (by omega) (by omega) ?_ ?_
   ·unfold rdy;rw [e1];exact f1 _ 2 rfl hcn
   ·unfold rdy;rw [e2];exact f1 _ 2 rfl hcn
  ·have hcW:(c:Int)=(W:Int) - 1:=by omega
   have ew1:w64 ((W:Int) - 1)=((W - 1:Nat):Int):=by rw [aL (by omega)]; omega
   have ew2:w64 ((W:Int) - 2)=((W - 2:Nat):Int):=by rw [aL (by omega)]; omega
   cases hau:q.Auto with
   | true=>
    have hpa:∀L:List aq,L.length=ks.length→(L.getD i dl).Cells.length=W→rp2 (2:Nat) W (L,(i:Int),(c:Int),false,true)=
      (cS ⟨L.set i ⟨pl (L.getD i dl).Cells (W - 1) [bl],pw (L.getD i dl).Cells (L.getD i dl).Wrap (W - 1) 1⟩,⟨(i:Int),(c:Int),false⟩,true⟩).bind fun x_60=>(some (x_60.L,x_60.At.Row,x_60.At.Col,x_60.At.Pending,x_60.Auto):Option ((List aq)×Int×Int×Bool×Bool)):=by
     intro L hL hLw;unfold rp2;simp only [bd,bsm];rw [af (by simp only [an,aA]; rw [ew1]; omega)];simp only [bG];rw [qn _ (by decide)];simp only [bsm];rw [show (List.replicate (1:Int).toNat (⟨0,[]⟩:aa))= [bl] from rfl,ew1,sQ (by omega) (by omega) (by omega) (by decide) (by omega)];simp only [bsm];rfl
    obtain ⟨L2,i2,a2,pd2,g1,g2,g3,g4,g5⟩:=E5 h (.inr rfl) (by omega:2≤W);have hsame:rdy ⟨L1.set i X,⟨(i:Int),(c:Int),false⟩,true⟩ W ks'.length 2=rdy q W ks.length 2:=by
     rw [hau] at e1 e2;unfold rdy;rw [hau,e1,e2];simp only [bsm];rw [hpa _ (by rw [cf]; omega) (by rw [hg]; exact hXc),hpa _ hL1 hcells];rw [over (W - 1) 1 (.inl rfl) (by omega) (by omega) (by omega) [bl] rfl]
    rw [hau] at h2;rw [jW (.inr rfl) h g1 g2 g3 g4 g5 p2 t2 ht2 hd2,jW (.inr rfl) h2 (hsame.trans g1) (by omega) g3 (by omega) g5 p2 t2 ht2 hd2]
   | false=>
    have hna:∀L:List aq,rp2 (2:Nat) W (L,(i:Int),(c:Int),false,q.Auto)=some (L,(i:Int),((W - 2:Nat):Int),false,q.Auto):=by
     intro L;unfold rp2;simp only [bd,bsm];rw [af (by simp only [an,aA]; rw [ew1]; omega)];simp only [hau,am,aU];rw [ew2]
    have key:=fin (W - 2) 2 false false (.inr rfl) hd2 (by omega) (by omega) (by omega) (by unfold rdy; rw [e1]; exact hna _) (by unfold rdy; rw [e2]; exact hna _);rw [hau] at key;exact key
end Go.Proofs.YtceciacilfhmjaaGreatDoor
namespace Go.Proofs.YtceciacilfhmjaaGreatDoor
open Go Go.Lt
variable {s:Sto} {k g W:Nat} {l p p':List aa} {w:Bool} {q:ae} {ks:List Nat}
theorem Ie {x:Int} (h:vld x=true):fc x=x:=by unfold fc; rw [af h]
theorem BW (x:Int):fc (fc x)=fc x:=Ie (vG x)
theorem FW {t:List Int} (ht:t.length≤15) (x:Int):fx (t++ [fc x])=fx (t++ [x]):=by
 unfold fx;rw [aJ (by simp; omega),aJ (by simp; omega),bb,bb];simp [BW]
theorem EI {d:Nat} (hd:d=1∨d=2) {t:List Int} (ht:t≠ []):dU (d:Int) t=if d=2 then [⟨2,t⟩,⟨3,[]⟩] else [⟨1,t⟩]:=by
 unfold dU;rw [ab ht];rcases hd with rfl | rfl <;> rfl
theorem DJ {l0:List aa} {a d:Nat} {t:List Int} (hdd:d=1∨d=2) (h:s.row_Row[k]? = some ⟨pl l0 a (dU d t),w⟩) (hs:Snd (pl l0 a (dU d t))) (hl:l0.length≤1024) (ha:a+d≤l0.length) (ht1:1≤t.length) (ht2:t.length≤15) (x:Int):
  nC s (some k) a x=some (s.sr k ⟨pl l0 a (dU d (fx (t++ [x]))),pw (pl l0 a (dU d t)) w a d⟩,true):=by
 have hne:t≠ []:=fun e=>by rw [e] at ht1; simp at ht1
 have hsl:=nS d hdd t;have hc:pc l0 a (dU d t) a=⟨(d:Int),t⟩:=by
  rw [E8 ⟨ao _,by rw [hsl]; omega⟩,uu,EI hdd hne];rcases hdd with rfl | rfl <;> rfl
 have hkd:kd (pl l0 a (dU d t)) a=(d:Int):=by rw [FH (by omega),hc]
 have hm:mat (pl l0 a (dU d t)) (a:Int)=some a:=by
  unfold mat;rw [af (by rw [je]; omega),bp,hkd,ab (by omega),ab (by omega)]
 unfold nC;rw [HK h hs a (by omega),hm];have hg:(pl l0 a (dU d t)).getD a bl=⟨(d:Int),t⟩:=by rw [aw,tU (by omega),hc]; rfl
 simp only [bsm,eK,db,hg,hkd];rw [ab (by simp; omega),du (by simp; omega)];simp only [bsm];have hsl2:=nS d hdd (fx (t++ [x]));rw [Fq h hs (by rw [je]; exact hl) _ (by simp; omega) (by rw [hsl2,je]; exact ha),yM (ao a) (by omega) (by omega),hsl2];simp only [bsm,Er.isNil]
def zb (b:Int):Bool:=b==1 || b==2 || b==3 || b==4 || b==5 || b==10 || b==11
def b2 (x:aP):Bool:= !zb x.Break && (x.East==1 || x.East==2)
theorem Cd (b:Int):lT b=some (zb b):=by
 unfold lT zb;by_cases h1:b=1
 ·subst h1; rfl
 by_cases h2:b=2
 ·subst h2; rfl
 by_cases h3:b=3
 ·subst h3; rfl
 by_cases h4:b=4
 ·subst h4; rfl
 by_cases h5:b=5
 ·subst h5; rfl
 by_cases h6:b=10
 ·subst h6; rfl
 by_cases h7:b=11
 ·subst h7; rfl
 simp [h1,h2,h3,h4,h5,h6,h7]
theorem GD (x:aP):∃n,nH x=some n∧(n==2)=b2 x:=by
 unfold nH b2;rw [Cd];simp only [bsm,bS]
 cases zb x.Break with
 | true=>exact ⟨0,rfl,rfl⟩
 | false=>
  cases h:(x.East==1 || x.East==2) with
  | true=>exact ⟨2,by simp [h],rfl⟩
  | false=>exact ⟨1,by simp [h],rfl⟩
def gz (y:br) (r:Int) (x:aP):br:=⟨true,x.Pict,y.wide || (b2 x || (y.some && ((r==65039 && y.pict) || x.Pict || x.Break==6)))⟩
def wz (y:br):Int:=if y.wide=true then 2 else 1
theorem BV (y:br) (r:Int) (x:aP):cm y r x=some (gz y r x,wz (gz y r x)):=by
 have hw:bY y r x=some (b2 x || (y.some && ((r==65039 && y.pict) || x.Pict || x.Break==6))):=by
  unfold bY;obtain ⟨n,h1,h2⟩:=GD x;rw [h1];simp only [bsm,h2,bd,bS]
  cases b2 x <;> cases y.some <;> rfl
 unfold cm;rw [hw];simp only [bsm,bS,am,aU];unfold wz gz;split <;> simp_all
structure Cv (c:bC) (t:List Int):Prop where
 n:c.n=(t.length:Int)
 h:t.length≤16
 t:(a16 c.text).take t.length=t
theorem zf {c:bC} {t:List Int} (h:Cv c t):bQ c=some (decide (t.length=16)):=by
 unfold bQ cP;simp only [am,aU,bsm,h.n]
 congr 1
 rw [da,aA,ai];omega
theorem JT {c:bC} {t:List Int} (h:Cv c t) (h2:t.length < 16) (x:Int):∃c',ci c x=some (c',true)∧Cv c' (t++ [x]):=by
 unfold ci;rw [zf h];simp only [db,bsm];rw [ab (by simp; omega),h.n,bz (by rw [oh]; exact h2)];simp only [bsm];refine ⟨_,rfl,by simp only; rw [aL (by omega)]; simp,by simp; omega,?_⟩;simp only;rw [Bj,bp,ag];simp only [ak,aB];rw [ay (by rw [cf,oh]; exact h2),List.take_set_of_le (ao _),h.t,Kb]
theorem C5 {c:bC} {t:List Int} (h:Cv c t):bP c=some t:=by
 unfold bP;simp only [am,aU,h.n];have:=Bz (xs:=a16 c.text) (i:=0) (j:=t.length) (cR _) (by rw [oh]; exact h.h);rw [show ((0:Nat):Int)=0 by rfl] at this;rw [this];simp only [bsm,iT,qb,h.t];unfold fK;rw [du (by have:=h.h; simp; omega)];rfl
end Go.Proofs.YtceciacilfhmjaaGreatDoor
namespace Go.Proofs.YtceciacilfhmjaaGreatDoor
open Go Go.Lt
variable {s C:Sto} {k g W j:Nat} {w:Bool} {q:ae} {ks:List Nat}
def Sto.sc (s:Sto) (j:Nat) (x:aX):Sto:={ s with widen_Cluster:=s.widen_Cluster.set j x}
theorem tN {x:aX} (h:j < s.widen_Cluster.length):s.set_widen_Cluster j x=some (s.sc j x):=by
 unfold Sto.set_widen_Cluster;rw [af h];rfl
theorem qj {x:aX} (h:j < s.widen_Cluster.length):(s.sc j x).widen_Cluster[j]? = some x:=by simp [Sto.sc,h]
theorem xU (s:Sto) (j:Nat) (x y:aX):(s.sc j x).sc j y=s.sc j y:=by simp [Sto.sc]
theorem Gw.sc (h:Gw s g ks W) (j:Nat) (x:aX):Gw (s.sc j x) g ks W:=⟨h.g,h.r,h.h1,h.h2,h.w1,h.w2⟩
theorem Gw.addc (h:Gw s g ks W) (x:aX):Gw (s.add_widen_Cluster x) g ks W:=⟨h.g,h.r,h.h1,h.h2,h.w1,h.w2⟩
theorem Pv.sc (h:Pv s s k g W q ks) (j:Nat) (x:aX):Pv (s.sc j x) (s.sc j x) k g W q ks:=
 ⟨h.p,h.g.sc j x,h.nd,h.l,rfl,h.f.rgp ⟨rfl,rfl,rfl⟩ ⟨rfl,rfl,rfl⟩⟩
theorem Pv.addc (h:Pv s s k g W q ks) (x:aX):Pv (s.add_widen_Cluster x) (s.add_widen_Cluster x) k g W q ks:=
 ⟨h.p,h.g.addc x,h.nd,h.l,rfl,h.f.rgp ⟨rfl,rfl,rfl⟩ ⟨rfl,rfl,rfl⟩⟩
theorem tW {a b:Sto} (h:a.oth=b.oth):a.widen_Cluster=b.widen_Cluster:=by
 have:=dG Sto.widen_Cluster h;exact this
structure Wc (s:Sto) (j:Nat) (c:aj) (y:br) (t:List Int) (n:Int):Prop where
 x:∃b,s.widen_Cluster[j]? = some ⟨c,n,b,y⟩∧Cv b t
theorem Wc.lt {c:aj} {y:br} {t:List Int} {n:Int} (h:Wc s j c y t n):j < s.widen_Cluster.length:=by
 obtain ⟨b,h,_⟩:=h.x;exact cX h
theorem Hm (r:Int):((dE r).bind fun x_6=>if (!x_6)=true then (some (65533):Option (Int)) else (some (r):Option (Int)))=some (fc r):=by
 rw [oI];unfold fc
 cases vld r <;> rfl
theorem GL {c:aj} {y:br} {t:List Int} {n:Int} (h:Wc s j c y t n) (ht:t.length < 16) (r:Int) (x:aP):
  ∃b',eM s (some j) r x=some (s.sc j ⟨c,n,b',gz y (fc r) x⟩,wz (gz y (fc r) x))∧Cv b' (t++ [fc r]):=by
 have hj:=h.lt;obtain ⟨b,hb,hv⟩:=h.x;obtain ⟨b',h1,h2⟩:=JT hv ht (fc r);refine ⟨b',?_,h2⟩;unfold eM;rw [Hm];simp only [bsm,hb,h1];rw [tN hj];simp only [bsm,BV];rw [tN (by simp [Sto.sc]; exact hj),xU];rfl
theorem It (t:List Int) (h:2≤W):cl2 2 t W=(2,t):=by
 unfold cl2;rw [ab (by omega)];rfl
theorem C6 (t:List Int) (h:1≤W):cl2 1 t W=(1,t):=by
 unfold cl2;rw [ab (by omega)];rfl
theorem C7 (t:List Int):cl2 2 t 1=(1,[65533]):=by
 unfold cl2;rw [af (by decide)]
structure On (C s:Sto) (k g W H j:Nat) (q0:ae) (y:br) (t:List Int) (q:ae) (c:aj) (ks:List Nat):Prop where
 v:Pv s s k g W q ks
 f:Fr C s k g ks
 w:Wc s j c y t (wz y)
 n:ks.length=H
 p:aZ q0 (wz y) t=some (q,c)
theorem GC {q0:ae} (h:Pv C s k g W q0 ks) (r:Int) (x:aP):∃s' q' c ks',kL s (some k) r x=some (s',some s.widen_Cluster.length)∧
  On C s' k g W ks.length s.widen_Cluster.length q0 (gz ⟨false,false,false⟩ (fc r) x) [fc r] q' c ks'∧∃z,s'.oth=(s.add_widen_Cluster z).oth:=by
 unfold kL;simp only [bO,db,bsm,h.p,am,aU];have h0:Wc (s.add_widen_Cluster ⟨⟨0,0,false⟩,0,⟨(0,0,0,0,0,0,0,0,0,0,0,0,0,0,0,0),0⟩,⟨false,false,false⟩⟩) s.widen_Cluster.length ⟨0,0,false⟩ ⟨false,false,false⟩ [] 0:=
  ⟨⟨⟨(0,0,0,0,0,0,0,0,0,0,0,0,0,0,0,0),0⟩,by simp [Sto.add_widen_Cluster],⟨rfl,by simp,rfl⟩⟩⟩
 obtain ⟨b,h1,h2⟩:=GL h0 (by simp) r x;have hlt:=h0.lt;rw [h1];have hv:=(h.self.addc ⟨⟨0,0,false⟩,0,⟨(0,0,0,0,0,0,0,0,0,0,0,0,0,0,0,0),0⟩,⟨false,false,false⟩⟩).sc s.widen_Cluster.length ⟨⟨0,0,false⟩,0,b,gz ⟨false,false,false⟩ (fc r) x⟩;have hR:Rgp s (s.add_widen_Cluster ⟨⟨0,0,false⟩,0,⟨(0,0,0,0,0,0,0,0,0,0,0,0,0,0,0,0),0⟩,⟨false,false,false⟩⟩):=⟨rfl,rfl,rfl⟩;have hA:∀z,((s.add_widen_Cluster ⟨⟨0,0,false⟩,0,⟨(0,0,0,0,0,0,0,0,0,0,0,0,0,0,0,0),0⟩,⟨false,false,false⟩⟩).sc s.widen_Cluster.length z)=s.add_widen_Cluster z:=fun z=>by
  simp [Sto.sc,Sto.add_widen_Cluster]
 generalize hs1:s.add_widen_Cluster ⟨⟨0,0,false⟩,0,⟨(0,0,0,0,0,0,0,0,0,0,0,0,0,0,0,0),0⟩,⟨false,false,false⟩⟩=s1 at *;simp only [bsm];rw [qj hlt];simp only [bsm];rw [tN (by simp [Sto.sc]; exact hlt),xU];simp only [bsm];rw [C5 h2];simp only [bsm,bq];have hv2:=hv.sc s.widen_Cluster.length ⟨⟨0,0,false⟩,wz (gz ⟨false,false,false⟩ (fc r) x),b,gz ⟨false,false,false⟩ (fc r) x⟩;simp only [xU] at hv2;obtain ⟨s3,q3,ks3,i,a,p1,p2,p3,p4,p5,p6,p7,_⟩:=BJ hv2 (wz (gz ⟨false,false,false⟩ (fc r) x)) [fc r] (by simp);rw [p2];have hcl:s3.widen_Cluster=(s1.sc s.widen_Cluster.length ⟨⟨0,0,false⟩,wz (gz ⟨false,false,false⟩ (fc r) x),b,gz ⟨false,false,false⟩ (fc r) x⟩).widen_Cluster:=tW p4.o;have hg3:s3.widen_Cluster[s.widen_Cluster.length]? = some ⟨⟨0,0,false⟩,wz (gz ⟨false,false,false⟩ (fc r) x),b,gz ⟨false,false,false⟩ (fc r) x⟩:=by
  rw [hcl];exact qj hlt
 simp only [bsm];rw [hg3];simp only [bsm];rw [tN (cX hg3)];refine ⟨_,q3,_,ks3,rfl,⟨p4.self.sc _ _,?_,⟨_,qj (cX hg3),by simpa using h2⟩,p5,p3⟩,⟨⟨(i:Int),(a:Int),false⟩,wz (gz ⟨false,false,false⟩ (fc r) x),b,gz ⟨false,false,false⟩ (fc r) x⟩,?_⟩
 ·exact (h.f.trans h.oG h.oR (p4.f.rgp (C':=s) ⟨hR.symm.r,hR.symm.g,hR.symm.p⟩ (Rgp.self _))).rgp (Rgp.self _) ⟨rfl,rfl,rfl⟩
 ·rw [←hA];have:=dG (fun y:Sto=>y.sc s.widen_Cluster.length ⟨⟨(i:Int),(a:Int),false⟩,wz (gz ⟨false,false,false⟩ (fc r) x),b,gz ⟨false,false,false⟩ (fc r) x⟩) p4.o;refine this.trans ?_;show (((s1.sc _ _).sc _ _).oth)=_;rw [xU]
theorem zH (y:br):(y.wide=false∧wz y=1)∨(y.wide=true∧wz y=2):=by
 unfold wz;cases y.wide
 ·exact .inl ⟨rfl,rfl⟩
 ·exact .inr ⟨rfl,rfl⟩
theorem H3 {y:br} (h:y.wide=true) (r:Int) (x:aP):(gz y r x).wide=true:=by
 unfold gz;simp [h]
theorem Iu (p1:Int) (t t':List Int) (W:Nat):(cl2 p1 t W).1=(cl2 p1 t' W).1:=by
 unfold cl2;split <;> rfl
theorem DR {q0:ae} {y:br} {t:List Int} {c:aj} {H:Nat} (h:On C s k g W H j q0 y t q c ks) (ht:t.length=16) (r:Int) (x:aP):
  dC s (some j) (some k) r x=some (s,false):=by
 obtain ⟨b,hb,hv⟩:=h.w.x;unfold dC;simp only [bO,db,bsm,h.v.p,hb,zf hv,ht];rfl
theorem HR {C0 s0:Sto} {ks0:List Nat} {q0:ae} {H:Nat} (h0:Pv C0 s0 k g W q0 ks0) (hH:ks0.length=H) {y:br} {t:List Int} {c:aj} (h:On C s k g W H j q0 y t q c ks) (ht1:1≤t.length) (ht:t.length < 16) (hvt:∀x∈t,vld x=true) (r:Int) (x:aP):
  ∃s' q' c' ks',dC s (some j) (some k) r x=some (s',true)∧On C s' k g W H j q0 (gz y (fc r) x) (t++ [fc r]) q' c' ks'∧∃z,s'.oth=(s.sc j z).oth:=by
 have hj:=h.w.lt;obtain ⟨b',e1,e2⟩:=GL h.w ht r x;obtain ⟨b,hb,hv⟩:=h.w.x;have w1:=h0.g.w1;have w2:=h0.g.w2;unfold dC;have hfull:decide (t.length=16)=false:=by simp; omega
 simp only [bO,db,bsm,h.v.p,hb,zf hv,hfull,am,aU,e1];have htl:(t++ [fc r]).length≤1000000:=by simp; omega
 generalize hy':gz y (fc r) x=y' at *;rw [qj hj];simp only [bsm];rw [tN (by simp [Sto.sc]; exact hj),xU];simp only [bsm];have hv2:=h.v.sc j ⟨c,wz y',b',y'⟩;have hfr:Fr C (s.sc j ⟨c,wz y',b',y'⟩) k g ks:=h.f.rgp (Rgp.self _) ⟨rfl,rfl,rfl⟩;by_cases hw:wz y'=wz y
 ·rw [ab (by simp [hw])];simp only [hv2.p,bsm];rw [jE hv2.g];simp only [bsm];obtain ⟨hdd,hdw⟩:=Gk (wz y) t w1;obtain ⟨L2,i,a,pd,r1,r2,r3,r4,r5⟩:=E5 h0 hdd hdw;have hq:=jW hdd h0 r1 r2 r3 r4 r5 (wz y) t (by omega) rfl;have hq':=jW hdd h0 r1 r2 r3 r4 r5 (wz y) (t++ [fc r]) htl (Iu _ _ _ _);rw [h.p] at hq;simp only [az,gE] at hq;obtain ⟨hq1,rfl⟩:=hq;by_cases hle:wz y'≤(W:Int)
  ·rw [af (by simpa using hle)];have hcl:∀t2:List Int,cl2 (wz y) t2 W=((wz y).toNat,t2):=fun t2=>by
    rw [hw] at hle;rcases zH y with ⟨_,q1⟩ | ⟨_,q1⟩
    ·rw [q1]; exact C6 t2 w1
    ·rw [q1]; exact It t2 (by omega)
   rw [hcl] at hq1 r3 hdd hdw r1 hq';rw [hcl] at hq';simp only at hq1 r3 hdd hdw r1 hq';generalize (wz y).toNat=d at *;have hik:i < ks.length:=by rw [h.n,←hH]; exact r2
   rw [eZ hv2.g hik];simp only [bsm];have hfx:fx t=t:=KN hvt (by omega);obtain ⟨⟨rc,rw_⟩,hr0,hsn,hlw⟩:=h.v.g.at hik;simp only at hsn hlw;have hlt:i < L2.length:=by rw [r4]; exact r2
   have hat:=h.v.at hik;rw [oN hr0] at hat;have hqL:q.L=L2.set i ⟨pl (L2.getD i dl).Cells a (dU d (fx t)),pw (L2.getD i dl).Cells (L2.getD i dl).Wrap a d⟩:=by rw [hq1]; rfl
   have hgi:q.L[i]'(by rw [h.v.len]; exact hik)=⟨pl (L2.getD i dl).Cells a (dU d (fx t)),pw (L2.getD i dl).Cells (L2.getD i dl).Wrap a d⟩:=by
    have:q.L[i]? = some ⟨pl (L2.getD i dl).Cells a (dU d (fx t)),pw (L2.getD i dl).Cells (L2.getD i dl).Wrap a d⟩:=by rw [hqL,be hlt]
    rw [ah (by rw [h.v.len]; exact hik)] at this;exact aH this
   rw [hgi] at hat;simp only [aq.mk.injEq] at hat;obtain ⟨hrc,hrw⟩:=hat;subst hrc hrw;have hcells:(L2.getD i dl).Cells.length=W:=by
    rw [gdl hlt];exact (r5 _ (aF hlt)).2
   have hq1A:q.At=ca ⟨(i:Int),(a:Int),false⟩ d W q0.Auto∧q.Auto=q0.Auto:=by rw [hq1]; exact ⟨rfl,rfl⟩
   generalize hl0:(L2.getD i dl).Cells=l0 at *;generalize hw0:(L2.getD i dl).Wrap=w0 at *;rw [hfx] at hr0 hsn hqL hlw hgi;have hr0':(s.sc j ⟨⟨(i:Int),(a:Int),false⟩,wz y',b',y'⟩).row_Row[ks[i]]? = some ⟨pl l0 a (dU d t),pw l0 w0 a d⟩:=hr0;have hst:=nS d hdd t;have hst2:=nS d hdd (fx (t++ [r]));rw [DJ hdd hr0' hsn (by omega) (by omega) ht1 (by omega) r];simp only [bsm];have o1:=yM (l:=l0) (p:=dU d t) (p':=dU d (fx (t++ [r]))) (ao a) (by omega) (by omega);have o2:=CK (l:=l0) (w:=w0) (p:=dU d t) (p':=dU d (fx (t++ [r]))) (ao a) (by omega) (by omega);rw [hst,hst2] at o2;have hsn2:Snd (pl l0 a (dU d (fx (t++ [r])))):=by
    rw [←o1];exact hsn.paint (Bx _ _) (by rw [je]; omega)
   have hv4:=hv2.row hik (r:=⟨pl l0 a (dU d (fx (t++ [r]))),pw (pl l0 a (dU d t)) (pw l0 w0 a d) a d⟩) hsn2 (by simp only [je]; exact hcells);refine ⟨_,_,_,ks,rfl,⟨hv4.self,hfr.sr (aF hik) _,⟨b',qj hj,e2⟩,h.n,?_⟩,_,rfl⟩;rw [hw,hq'];have hfx2:=FW (t:=t) (by omega) r;rw [o2,hqL,hq1A.1,hq1A.2,List.set_set,←hfx2];unfold DB;rw [hl0,hw0]
  ·rw [ab (by simpa using hle)];have hW:W=1:=by
    rcases zH y' with ⟨_,q1⟩ | ⟨_,q1⟩ <;> omega
   refine ⟨_,q,_,ks,rfl,⟨hv2,hfr,⟨b',qj hj,e2⟩,h.n,?_⟩,_,rfl⟩;rw [hw,hq'];have h2:wz y=2:=by
    rcases zH y with ⟨_,q1⟩ | ⟨_,q1⟩
    ·rw [hw,q1] at hle; omega
    ·exact q1
   rw [hq1,h2,hW,C7,C7]
 ·rw [af (by simpa using hw)];have hy1:wz y=1∧wz y'=2:=by
   rcases zH y with ⟨_,q1⟩ | ⟨q1,q2⟩
   ·rcases zH y' with ⟨_,q3⟩ | ⟨_,q3⟩
    ·rw [q1,q3] at hw; exact absurd rfl hw
    ·exact ⟨q1,q3⟩
   ·have:=H3 q1 (fc r) x;rw [hy'] at this;unfold wz at hw;rw [this,q1] at hw;exact absurd rfl hw
  simp only [hv2.p,bsm];rw [jc (cX hv2.p)];simp only [bsm];have hv3:=hv2.set c q.Auto;have hc3:((s.sc j ⟨c,wz y',b',y'⟩).sp k ⟨some g,c,q.Auto⟩).widen_Cluster[j]? = some ⟨c,wz y',b',y'⟩:=qj hj;rw [hc3];simp only [bsm];rw [C5 e2];simp only [bsm];obtain ⟨s4,q4,ks4,i,a,p1,p2,p3,p4,p5,p6,p7,_⟩:=BJ hv3 (wz y') (t++ [fc r]) htl;rw [p2];simp only [bsm];have hc4:s4.widen_Cluster[j]? = some ⟨c,wz y',b',y'⟩:=by
   rw [tW p4.o];exact hc3
  rw [hc4];simp only [bsm];rw [tN (cX hc4)];refine ⟨_,q4,_,ks4,rfl,⟨p4.self.sc _ _,?_,⟨b',qj (cX hc4),e2⟩,p5.trans h.n,?_⟩,⟨⟨(i:Int),(a:Int),false⟩,wz y',b',y'⟩,?_⟩
  ·have h3:=p4.f;have:=h.f.trans h.v.oG h.v.oR (h3.rgp (C':=s) ⟨rfl,rfl,rfl⟩ (Rgp.self _));exact this.rgp (Rgp.self _) ⟨rfl,rfl,rfl⟩
  ·rw [←p3];exact (DC h0 (by omega) htl (by rw [hy1.1,C6 _ w1]) h.p h.v (h.n.trans hH.symm)).symm
  ·have:=dG (fun y:Sto=>y.sc j ⟨⟨(i:Int),(a:Int),false⟩,wz y',b',y'⟩) p4.o;refine this.trans ?_;show (((s.sc _ _).sc _ _).oth)=_;rw [xU]
def gf (t:List Int) (x:List aP):br:=(t.zip x).foldl (fun y p=>gz y p.1 p.2) ⟨false,false,false⟩
theorem zG {α β:Type}:∀(t:List α) (x:List β) (r:α) (h:t.length < x.length),(t++ [r]).zip x=t.zip x++ [(r,x[t.length])]
 | [],[],_,h=>by simp at h
 | [],b :: x,r,_=>by simp
 | a :: t,[],_,h=>by simp at h
 | a :: t,b :: x,r,h=>by
  have:=zG t x r (by simpa using h);simp only [bD,zB,this,ak,ux]
theorem Ia {t:List Int} {x:List aP} (h:t.length < x.length) (r:Int):gf (t++ [r]) x=gz (gf t x) r x[t.length]:=by
 unfold gf;rw [zG t x r h,rT];rfl
theorem zF {α β:Type}:∀(t:List α) (x:List β) (n:Nat),t.length≤n→t.zip (x.take n)=t.zip x
 | [],_,_,_=>rfl
 | _ :: _,[],_,_=>by simp
 | _ :: _,_ :: _,0,h=>by simp at h
 | a :: t,b :: x,n+1,h=>by
  rw [Lg,zB,zB,zF t x n (by simpa using h)]
theorem H4 (t:List Int) (x:List aP) {n:Nat} (h:t.length≤n):gf t (x.take n)=gf t x:=by
 unfold gf;rw [zF _ _ _ h]
end Go.Proofs.YtceciacilfhmjaaGreatDoor
namespace Go.Proofs.YtceciacilfhmjaaGreatDoor
open Go Go.Lt
variable {s C:Sto} {g k W:Nat} {ks:List Nat} {q:ae}
def bls (W H:Nat):List aq:=List.replicate H ⟨List.replicate W bl,false⟩
theorem JW {W H:Nat} (w1:1≤W) (w2:W≤1024) (h1:1≤H):∀i (h:i < (bls W H).length),1≤(bls W H)[i].Cells.length∧(bls W H)[i].Cells.length≤1024∧Snd (bls W H)[i].Cells∧(bls W H)[i].Cells.length=((bls W H)[0]'(by omega)).Cells.length:=fun i h=>by
 have e:∀j (hj:j < (bls W H).length),(bls W H)[j]=⟨List.replicate W bl,false⟩:=fun j hj=>by
  unfold bls;exact fS _
 rw [e i h,e 0 (by omega)];simp only [dO];exact ⟨w1,w2,tL W,trivial⟩
theorem FV (n m:Int):mx s n m=some ((s.addr ((bls (sd n) (sd m)).map lr)).add_grid_Grid ⟨(List.range' s.row_Row.length (sd m)).map some⟩,some s.grid_Grid.length):=by
 have hsd:=ES m;have hL:∀i,((bls (sd n) (sd m)).map lr).take i=List.replicate (min i (sd m)) ⟨List.replicate (sd n) bl,false⟩:=fun i=>by
  unfold bls;rw [List.map_replicate,Lh];rfl
 have hlen:((bls (sd n) (sd m)).map lr).length=sd m:=by simp [bls]
 have hH:aS 1 (aM m 1024)=(sd m:Int):=by
  rw [eV,ik];unfold sd;omega
 unfold mx;rw [hH];simp only [bsm];obtain ⟨t,h3,h4⟩:=eY (σ:=Int×Sto) (τ:=Sto) (n:=sd m) (fuel:=(((sd m:Nat):Int) - 0).toNat+1) (s:=(0,s.add_grid_Grid (⟨([]:List (Option Nat))⟩:cj)))
  (fun i q=>q=((i:Int),(s.addr (((bls (sd n) (sd m)).map lr).take i)).add_grid_Grid ⟨(List.range' s.row_Row.length i).map some⟩))
  (fun t=>t=(s.addr ((bls (sd n) (sd m)).map lr)).add_grid_Grid ⟨(List.range' s.row_Row.length (sd m)).map some⟩)
  (step:=fun s_12=>
 if (decide (s_12.1 < ((sd m:Nat):Int)))=true then
 (s_12.2.grid_Grid[s.grid_Grid.length]?).bind fun o_19=>
 (kx s_12.2 n).bind fun x_21=>
 (app o_19.rows ([x_21.2]:List (Option Nat))).bind fun x_23=>
 (x_21.1.set_grid_Grid s.grid_Grid.length (⟨x_23⟩:cj)).bind fun s_26001=>
 some (.inl ((w64 (s_12.1+1)),s_26001))
 else
 some (.inr (s_12.2)))
  (fun i q hi e=>by
   subst e;refine .inl ⟨_,?_,rfl⟩;have e5:w64 ((i:Int)+1)=((i+1:Nat):Int):=by rw [aL (by omega)]; simp
   have hd:decide ((i:Int) < ((sd m:Nat):Int))=true:=by simp; exact hi
   have hg:((s.addr (((bls (sd n) (sd m)).map lr).take i)).add_grid_Grid ⟨(List.range' s.row_Row.length i).map some⟩).grid_Grid[s.grid_Grid.length]? = some ⟨(List.range' s.row_Row.length i).map some⟩:=by
    simp [Sto.add_grid_Grid,Sto.addr]
   simp only [hd,bG];rw [hg,CH];simp only [bsm];rw [du (by simp; omega)];simp only [bsm];have hlt:s.grid_Grid.length < (((s.addr (((bls (sd n) (sd m)).map lr).take i)).add_grid_Grid ⟨(List.range' s.row_Row.length i).map some⟩).add_row_Row ⟨List.replicate (sd n) bl,false⟩).grid_Grid.length:=by
    simp [Sto.add_grid_Grid,Sto.addr,Sto.add_row_Row]
   rw [zV hlt,e5];simp only [bsm]
   congr 4
   refine I7 ?_ ?_ rfl
   ·simp only [Sto.sg,Sto.add_grid_Grid,Sto.add_row_Row,Sto.addr];rw [hL,hL,cH (by omega),cH (by omega),K9,aD]
   ·simp only [Sto.sg,Sto.add_grid_Grid,Sto.add_row_Row,Sto.addr];rw [vn _ _ (ao _),uu,zC,LD,bb,hL,cH (by omega)];simp)
  (fun q e=>⟨q.2,by subst e; simp,by subst e; simp only; rw [aJ (by omega)]⟩)
  (by simp [Bi]) (by omega)
 subst h4;rw [h3];rfl
theorem Fr.of_grid (xs:List bm) (x:cj) {n:Nat} (hn:n=s.grid_Grid.length) {m:Nat}:Fr s ((s.addr xs).add_grid_Grid x) k n (List.range' s.row_Row.length m):=by
 subst hn;refine Fr.new (ao _) ?_ ?_ (fun _ _=>rfl) (fun j hj=>?_) (fun j hj=>?_) (ao _) (fun r hr=>(List.mem_range'_1.1 hr).1)
 ·simp [Sto.add_grid_Grid,Sto.addr]
 ·simp [Sto.add_grid_Grid,Sto.addr]
 ·simp only [Sto.add_grid_Grid,Sto.addr]; exact aG hj
 ·simp only [Sto.add_grid_Grid,Sto.addr]; exact aG hj
theorem Gw.addp (h:Gw s g ks W) (x:bf):Gw (s.add_place_Pen x) g ks W:=⟨h.g,h.r,h.h1,h.h2,h.w1,h.w2⟩
theorem DF (n m:Int):∃s' ks,mL s n m=some (s',some s.place_Pen.length)∧Pv s s' s.place_Pen.length s.grid_Grid.length (sd n) ⟨bls (sd n) (sd m),⟨0,0,false⟩,true⟩ ks:=by
 have h1:=ES n;have h2:=ES m;have hb:(bls (sd n) (sd m)).length=sd m:=by simp [bls]
 have h0:((bls (sd n) (sd m))[0]'(by omega)).Cells.length=sd n:=by simp [bls]
 obtain ⟨g1,g2⟩:=KI (s:=s) (L:=bls (sd n) (sd m)) (by omega) (by omega) (JW h1.1 h1.2 h2.1);rw [h0] at g1;rw [hb] at g1 g2;unfold mL;rw [FV];refine ⟨_,_,rfl,⟨?_,g1.addp _,?_,?_,rfl,(Fr.of_grid _ _ rfl).addp _⟩⟩
 ·simp [Sto.add_place_Pen,Sto.add_grid_Grid,Sto.addr]
 ·exact List.nodup_range'
 ·exact g2
def sil (r:Int):Bool:=(decide (0≤r) && decide (r < 32)) || (decide (127≤r) && decide (r≤159))
theorem EN (r:Int):iQ r=some (sil r):=by
 simp only [iQ,bd,bS,bsm,sil,BU]
theorem pm (r:Int):jk r=some (sil r):=by
 simp only [jk,bd,bS,bsm,sil,BU,az];rw [da];simp;omega
theorem xY (r:Int) (h:r≠13∧r≠10∧r≠8):dF q r=some (q,sil r):=by
 unfold dF;rw [ab (by simpa using h.1)];simp only [bsm];rw [ab (by simpa using h.2.1)];simp only [bsm];rw [ab (by simpa using h.2.2)];simp only [bsm];rw [pm];rfl
theorem Ir (h:Pv C s k g W q ks) (r:Int):∃s' q' ks',oY s (some k) r=some (s',sil r)∧dF q r=some (q',sil r)∧Pv C s' k g W q' ks'∧ks'.length=ks.length∧(Hd q.At W ks.length→Hd q'.At W ks.length):=by
 have w1:=h.g.w1;have w2:=h.g.w2;unfold oY;rw [EN];simp only [bsm,bO,db,h.p];by_cases hs:sil r=true
 ·rw [hs];simp only [eK,am,aU];rw [jE h.g,eL h.g];simp only [bsm];rw [tl _ h.g.w1 h.g.w2 h.g.h1 h.g.h2];have hd:=wy q.At h.g.w1 h.g.h1;have hh:=qp h;by_cases h13:r=13
  ·subst h13;simp only [bsm,Cb,bG,dr];rw [jc (cX h.p)];refine ⟨_,_,ks,rfl,?_,h.set ⟨(hc q.At W ks.length).Row,0,false⟩ q.Auto,rfl,fun _=>⟨hd.rr,by simp only; omega,fun e=>by cases e⟩⟩;unfold dF;rw [hh,pm,hs];rfl
  by_cases h10:r=10
  ·subst h10;obtain ⟨s',q',ks',a1,a2,v,hn,hnd,_⟩:=vS h;simp only [bsm];rw [ab (by decide),af (by decide),a1];refine ⟨s',q',ks',rfl,?_,v,hn,fun _=>hnd⟩;unfold dF;rw [ab (by decide)];simp only [bsm];rw [af (by decide),show (⟨q.L,⟨q.At.Row,q.At.Col,q.At.Pending⟩,q.Auto⟩:ae)=q from rfl,a2];simp only [bsm];rw [ab (by decide),pm,hs];rfl
  by_cases h8:r=8
  ·subst h8;have hcc:=hd.cc;have hb:kR (hc q.At W ks.length)=some ⟨(hc q.At W ks.length).Row,max 0 ((hc q.At W ks.length).Col - 1),false⟩:=by
    unfold kR;by_cases h0:(hc q.At W ks.length).Col > 0
    ·rw [af (by simpa using h0),aL (by omega)];simp only [bsm,az,aj.mk.injEq,zN,tD];omega
    ·rw [ab (by simpa using h0)];simp only [bsm,az,aj.mk.injEq,zN,tD];omega
   simp only [bsm];rw [ab (by decide),ab (by decide),af (by decide),hb];simp only [bsm];rw [jc (cX h.p)];refine ⟨_,_,ks,rfl,?_,h.set ⟨(hc q.At W ks.length).Row,max 0 ((hc q.At W ks.length).Col - 1),false⟩ q.Auto,rfl,fun _=>⟨hd.rr,by simp only; omega,fun e=>by cases e⟩⟩;unfold dF;rw [ab (by decide)];simp only [bsm];rw [ab (by decide)];simp only [bsm];rw [af (by decide),show (⟨q.L,⟨q.At.Row,q.At.Col,q.At.Pending⟩,q.Auto⟩:ae)=q from rfl,hh];simp only [bsm];rw [pm,hs,aL (by omega),ik];rfl
  ·simp only [bsm];rw [ab (by simpa using h13),ab (by simpa using h10),ab (by simpa using h8)];exact ⟨s,q,ks,rfl,by rw [xY r ⟨h13,h10,h8⟩,hs],h,rfl,id⟩
 ·have hf:sil r=false:=by simpa using hs
  rw [hf];simp only [kq,bG];have hn:r≠13∧r≠10∧r≠8:=by
   refine ⟨?_,?_,?_⟩ <;> (rintro rfl; revert hf; decide)
  exact ⟨s,q,ks,rfl,by rw [xY r hn,hf],h,rfl,id⟩
end Go.Proofs.YtceciacilfhmjaaGreatDoor
namespace Go.Proofs.YtceciacilfhmjaaGreatDoor
open Go Go.Lt
def pj (a b:Int):Int:=(fD a b).getD 0
def clz (a:Int):Int:=if a < 0∨13 < a then 0 else a
def pjT (i j:Nat):Bool:=match fD i j,fQ i j with
 | some x,some y=>x==y && (x != 2 || ((i==6)==(j==6))) && (x==0 || !(i==1 || i==2 || i==3 || j==1 || j==2 || j==3) || (i==1 && j==2))
 | _,_=>false
theorem Jg:((List.range 14).all fun i=>(List.range 14).all fun j=>pjT i j)=true:=by kernel_rfl
theorem C3 (a:Int):∃i:Nat,clz a=(i:Int)∧i < 14∧(0 < i→a=(i:Int)):=by
 unfold clz;split
 ·exact ⟨0,rfl,by omega,fun h=>by omega⟩
 ·exact ⟨a.toNat,by omega,by omega,fun _=>by omega⟩
theorem mH (a:Int):iC a=some (clz a):=by
 unfold iC clz;simp only [bS,bsm];by_cases h:a < 0∨13 < a
 ·rw [af (by simp only [aC,ai]; omega),af h]
 ·rw [ab (by simp only [aC,ai]; omega),ab h]
theorem vA (a:Int):clz (clz a)=clz a:=by
 unfold clz
 repeat' split
 all_goals omega
theorem DG (a b:Int):fD a b=fD (clz a) (clz b):=by
 unfold fD;rw [mH,mH,mH,mH,vA,vA]
theorem Dz (a b:Int):fQ a b=fQ (clz a) (clz b):=by
 have h:∀(a:Int),((orE (decide (a < 0)) (some (decide (a > 13)))).bind fun d_6=>if d_6=true then (some (0):Option (Int)) else (some (a):Option (Int)))=some (clz a):=fun a=>by
  have:=mH a;unfold iC at this;exact this
 unfold fQ;rw [h,h,h,h,vA,vA]
theorem BK (a b:Int):∃x,fD a b=some x∧fQ a b=some x∧pj a b=x∧(x=2→(a=6↔b=6))∧(x≠0→(a=1∨a=2∨a=3∨b=1∨b=2∨b=3)→a=1∧b=2):=by
 obtain ⟨i,hi,i14,i0⟩:=C3 a;obtain ⟨j,hj,j14,j0⟩:=C3 b;have h:=List.all_eq_true.1 (List.all_eq_true.1 Jg i (List.mem_range.2 i14)) j (List.mem_range.2 j14);have ia:∀n:Nat,0 < n→n < 14→(a=(n:Int)↔i=n):=fun n h0 h1=>by
  constructor
  ·intro e;unfold clz at hi;split at hi <;> omega
  ·intro e; subst e; exact i0 h0
 have jb:∀n:Nat,0 < n→n < 14→(b=(n:Int)↔j=n):=fun n h0 h1=>by
  constructor
  ·intro e;unfold clz at hj;split at hj <;> omega
  ·intro e; subst e; exact j0 h0
 have a1:=ia 1 (by omega) (by omega);have a2:=ia 2 (by omega) (by omega);have a3:=ia 3 (by omega) (by omega);have a6:=ia 6 (by omega) (by omega);have b1:=jb 1 (by omega) (by omega);have b2:=jb 2 (by omega) (by omega);have b3:=jb 3 (by omega) (by omega);have b6:=jb 6 (by omega) (by omega);unfold pj;rw [DG,Dz,hi,hj];unfold pjT at h;split at h
 ·rename_i x y e1 e2
  simp only [an,aC,aA,qQ,LN,dQ,xh,bN] at h;obtain ⟨⟨hxy,h2⟩,h3⟩:=h;subst hxy;refine ⟨x,e1,e2,by rw [e1]; rfl,fun hx=>?_,fun hx hc=>?_⟩
  ·rcases h2 with q | q
   ·exact absurd hx q
   ·have q1:(i==6)=(j==6):=q;rw [da,aA,aA] at q1;omega
  ·rcases h3 with (q | q) | q
   ·exact absurd q hx
   ·exfalso
    omega
   ·omega
 ·cases h
theorem Hw (a b:Int):fD a b=some (pj a b):=by
 obtain ⟨x,h1,_,h3,_⟩:=BK a b;rw [h1,h3]
def sgB (s:Sg):cD:=⟨s.some,s.last,s.pict,s.conj,s.odd⟩
theorem ER (s:Sg) (p:aP):cW (sgB s) p=some (sgB (sgN s p),sgJ pj s p):=by
 have hj:cN (sgB s) p=some (sgJ pj s p):=by
  unfold cN sgB sgJ;simp only [bd,bsm,Hw]
  cases s.some with
  | false=>rfl
  | true=>
   simp only [eK,am,aU,gG]
   cases h1:(p.Conj==1 && s.conj==2) with
   | true=>rfl
   | false=>
    simp only [am,aU,bsm,kY]
    cases h2:(p.Pict && s.pict==2) with
    | true=>rfl
    | false=>
     simp only [am,aU,kY];by_cases h3:pj s.last p.Break=1
     ·rw [af (by simpa using h3),h3];rfl
     ·rw [ab (by simpa using h3),show (pj s.last p.Break==1)=false by simpa using h3,kY];by_cases h4:pj s.last p.Break=2
      ·rw [af (by simpa using h4),h4];rfl
      ·rw [ab (by simpa using h4),show (pj s.last p.Break==2)=false by simpa using h4];rfl
 have hp:cJ (sgB s) p=some (nxP s.pict p):=by
  unfold cJ sgB nxP;simp only [bd,bsm];by_cases h1:p.Pict=true
  ·rw [af h1,af h1]
  ·rw [ab h1,ab h1];by_cases h2:s.pict=1∧p.Break=4
   ·rw [af (by simpa using h2),af h2]
   ·rw [ab (by simpa using h2),ab h2];by_cases h3:s.pict=1∧p.Break=5
    ·rw [af (by simpa using h3),af h3]
    ·rw [ab (by simpa using h3),ab h3]
 have hc:cx (sgB s) p=some (nxC s.conj p):=by
  unfold cx sgB nxC;simp only [aA]
  repeat' split
  all_goals rfl
 unfold cW;simp only [am,aU];rw [hj,hp,hc];simp only [bsm,bd];rfl
theorem xR (d:cD):dA d=some (sgB sg0):=rfl
def Kk (n:Nat):Bool:= !sil n || (((pr n).Break==1 || (pr n).Break==2 || (pr n).Break==3) && !(pr n).Pict && (pr n).Conj==0)
theorem Hj:(List.range 160).all Kk=true:=by kernel_rfl
theorem JI:gT.all (fun x=> !(x.2.2==1 || x.2.2==2) || (decide (0≤x.1) && decide (x.2.1≤31)))=true:=by kernel_rfl
theorem I9 {r:Int} (h:sil r=true):0≤r∧r < 160:=by
 unfold sil at h;simp only [aC,an,ai] at h;omega
theorem EO:Sil pj pr sil:=by
 refine ⟨fun r hr=>?_,fun a b ha hne=>?_,fun a b hb hne=>?_,fun r hr=>?_⟩
 ·obtain ⟨h1,h2⟩:=I9 hr;have:=List.all_eq_true.1 Hj r.toNat (List.mem_range.2 (by omega));unfold Kk at this;rw [pV h1,hr] at this;simp only [eK,kY,an,aC,aA,dQ] at this;obtain ⟨⟨q1,q2⟩,q3⟩:=this;exact ⟨by rcases q1 with (q | q) | q <;> simp [q],q2,q3⟩
 ·obtain ⟨x,_,_,h3,_,h5⟩:=BK a b;exact h5 (by omega) (by omega)
 ·obtain ⟨x,_,_,h3,_,h5⟩:=BK a b;exact h5 (by omega) (by omega)
 ·have e:(pr r).Break=(lk gT r).getD (hcl r):=rfl;rw [e] at hr;have hh:hcl r=9∨hcl r=10∨hcl r=11∨hcl r=0∨hcl r=12∨hcl r=13:=by
   unfold hcl
   repeat' split
   all_goals simp
  cases hx:fnd (fun x:Int×Int×Int=>x.1) (fun x=>x.2.1) gT r with
  | none=>
   unfold lk at hr;rw [hx] at hr;simp only [Option.map_none,Option.getD_none] at hr;omega
  | some x=>
   unfold lk at hr;rw [hx] at hr;simp only [jr,LV] at hr;obtain ⟨m1,m2⟩:=Ib hx;have:=List.all_eq_true.1 JI x m1;rw [sS] at m2;simp only [aC,dQ,xh,bN,an,ai] at this;unfold sil;simp only [aC,an,ai];omega
def fo {α β:Type} (f:β→α→Option β):β→List α→Option β
 | b,[]=>some b
 | b,a :: l=>(f b a).bind fun b'=>fo f b' l
theorem JM {α β:Type} (f:β→α→Option β) (b:β) (l m:List α):fo f b (l++m)=(fo f b l).bind fun b'=>fo f b' m:=by
 induction l generalizing b with
 | nil=>rfl
 | cons a l ih=>
  show (f b a).bind (fun b'=>fo f b' (l++m))=((f b a).bind fun b'=>fo f b' l).bind fun b'=>fo f b' m;rw [Bl]
  congr 1
  funext b'
  exact ih b'
theorem qY {α β:Type} (f:β→α→Option β) (b:β) (l:List α) (a:α):fo f b (l++ [a])=(fo f b l).bind fun b'=>f b' a:=by
 rw [JM]
 congr 1
 funext b'
 show (f b' a).bind (fun b'=>some b')=f b' a
 cases f b' a <;> rfl
def Ga (q:ae) (r:Int):Option ae:=(dF q r).map (·.1)
def w16 (c:List Int):Int:=wz (gf (c.take 16) ((c.take 16).map pr))
def vX (q:ae) (c:List Int):Option ae:=
 if sil (c.headD 0)=true then fo Ga q c else (aZ q (w16 c) (c.take 16)).map (·.1)
theorem vW {q:ae} {a:Int} {t:List Int} (h:sil a=true):vX q (a :: t)=fo Ga q (a :: t):=by
 unfold vX;rw [af (show sil ((a :: t).headD 0)=true from h)]
theorem Ar {q:ae} {a:Int} {t:List Int} (h:sil a=false):vX q (a :: t)=(aZ q (w16 (a :: t)) ((a :: t).take 16)).map (·.1):=by
 unfold vX;rw [ab (show ¬sil ((a :: t).headD 0)=true by rw [List.headD_cons,h]; simp)]
end Go.Proofs.YtceciacilfhmjaaGreatDoor
namespace Go.Proofs.YtceciacilfhmjaaGreatDoor
def ld (b:Int):Int:=if b < 128 then 1 else if 194≤b∧b≤223 then 2 else if 224≤b∧b≤239 then 3 else if 240≤b∧b≤244 then 4 else 0
def slo (b:Int):Int:=if b=224 then 160 else if b=240 then 144 else 128
def shi (b:Int):Int:=if b=237 then 159 else if b=244 then 143 else 191
theorem uJ (b:Int):0≤ld b∧ld b≤4:=by
 unfold ld
 repeat' split
 all_goals omega
def bg:List Int→Int
 | [a]=>ld a
 | [a,b]=>if 2≤ld a∧slo a≤b∧b≤shi a then ld a else 0
 | [a,b,c]=>if 3≤ld a∧slo a≤b∧b≤shi a∧128≤c∧c≤191 then ld a else 0
 | [a,b,c,d]=>if ld a=4∧slo a≤b∧b≤shi a∧128≤c∧c≤191∧128≤d∧d≤191 then 4 else 0
 | _=>0
def b0 (a:Int):Int:=if ld a=2 then a - 192 else if ld a=3 then a - 224 else if ld a=4 then a - 240 else a
def vl:List Int→Int
 | []=>0
 | a :: l=>l.foldl (fun v x=>v * 64+(x - 128)) (b0 a)
def rs0 (b:Int):List Int×List Int:=if 1 < ld b then ([],[b]) else if ld b=1 then ([b],[]) else ([65533],[])
def ny (h:List Int) (b:Int):List Int×List Int:=
 if h= [] then rs0 b else if (h.length:Int)+1 < bg (h++ [b]) then ([],h++ [b]) else if 0 < bg (h++ [b]) then ([vl (h++ [b])],[]) else (65533 :: (rs0 b).1,(rs0 b).2)
def ii:List Int→List Int→List Int×List Int
 | h,[]=>([],h)
 | h,b :: p=>((ny h b).1++(ii (ny h b).2 p).1,(ii (ny h b).2 p).2)
theorem Dw (h a b:List Int):ii h (a++b)=((ii h a).1++(ii (ii h a).2 b).1,(ii (ii h a).2 b).2):=by
 induction a generalizing h with
 | nil=>simp [ii]
 | cons x a ih=>simp [ii,ih]
theorem BE (h a:List Int) (x:Int):ii h (a++ [x])=((ii h a).1++(ny (ii h a).2 x).1,(ny (ii h a).2 x).2):=by
 rw [Dw];simp [ii]
def Hh (h:List Int):Prop:=h= []∨(h.length:Int) < bg h
theorem Hh.len {h:List Int} (hh:Hh h):h.length≤3:=by
 rcases hh with rfl | hh
 ·simp
 ·match h,hh with
  | [],_=>simp
  | [_],_=>simp
  | [_,_],_=>simp
  | [_,_,_],_=>simp
  | [a,b,c,d],q=>simp only [bg,ak,aB] at q; split at q <;> omega
  | _ :: _ :: _ :: _ :: _ :: _,q=>simp only [bg,ak] at q; omega
end Go.Proofs.YtceciacilfhmjaaGreatDoor
namespace Go.Proofs.YtceciacilfhmjaaGreatDoor
open Go Go.Lt
def Byt (b:Int):Prop:=0≤b∧b≤255
def Bts (l:List Int):Prop:=∀x∈l,Byt x
theorem Al {b:Int} (h:Byt b):jh b=some (ld b):=by
 obtain ⟨h1,h2⟩:=h;unfold jh ld;simp only [bd,bsm,an,ai,BU];have e1:w64 (0+1)=1:=rfl;have e2:w64 (1+1)=2:=rfl;have e3:w64 (2+1)=3:=rfl;have e4:w64 (3+1)=4:=rfl;rw [e1,e2,e3,e4]
 repeat' split
 all_goals first | rfl | omega
theorem BM {b:Int} (h:Byt b) (hl:2≤ld b):kf b=some (slo b,shi b):=by
 unfold kf slo shi;rw [Al h];simp only [bsm,aA,ai];rw [ab (by omega)];have e1:IntKind.u8.wrap (IntKind.u8.wrap (191 - 16) - 32)=143:=by decide
 have e2:IntKind.u8.wrap (191 - 32)=159:=by decide
 rw [e1,e2];by_cases a1:b=224
 ·subst a1; rfl
 by_cases a2:b=240
 ·subst a2; rfl
 by_cases a3:b=244
 ·subst a3; rfl
 by_cases a4:b=237
 ·subst a4; rfl
 rw [ab a1,ab a2,ab a3,ab a4,ab a1,ab a2,ab a4,ab a3];rfl
def Gz (n:Nat):Bool:=(lM n==if ld n=0 then some 0 else some (b0 n))
theorem Gy:(List.range 256).all Gz=true:=by kernel_rfl
theorem Fg {b:Int} (h:Byt b) (hl:1≤ld b):lM b=some (b0 b):=by
 obtain ⟨h1,h2⟩:=h;have:=List.all_eq_true.1 Gy b.toNat (List.mem_range.2 (by omega));unfold Gz at this;rw [aA,pV h1,ab (by omega)] at this;exact this
def EG (n:Nat):Bool:=(dM .u8 n 63==if 128≤n∧n≤191 then (n:Int) - 128 else dM .u8 n 63)
theorem EF:(List.range 256).all EG=true:=by kernel_rfl
theorem EE {b:Int} (h1:128≤b) (h2:b≤191):dM .u8 b 63=b - 128:=by
 have:=List.all_eq_true.1 EF b.toNat (List.mem_range.2 (by omega));unfold EG at this;rw [aA,pV (by omega),af (by omega)] at this;exact this
theorem Jl {x y:Nat} (hx:x < 1000000000) (hy:y < 64):gi .i64 ((x:Int) * 64) (y:Int)=((x * 64+y:Nat):Int):=by
 have e1:BitVec.ofInt 64 ((x:Int) * 64)=BitVec.ofNat 64 (x * 64):=by
  rw [show ((x:Int) * 64)=((x * 64:Nat):Int) by simp,Le]
 have e2:BitVec.ofInt 64 (y:Int)=BitVec.ofNat 64 y:=Le _ _;have e3:(x * 64) ||| y=x * 64+y:=by
  have:=Nat.shiftLeft_add_eq_or_of_lt (show y < 2 ^ 6 by omega) x;rw [Nat.shiftLeft_eq] at this;exact this.symm
 unfold gi;rw [show IntKind.i64.bits=64 from rfl,e1,e2,BitVec.toNat_or,LG,LG,Cj (by omega),Cj (by omega),e3];exact aL (by omega)
def Dv (d:bv) (h:List Int):Prop:=
 Hh h∧Bts h∧d=(match h with | []=>⟨0,0,0,0,0⟩ | [a]=>⟨1,ld a - 1,slo a,shi a,b0 a⟩ | a :: b :: t=>⟨(h.length:Int),bg h - (h.length:Int),128,191,vl h⟩)
theorem yr {b:Int} (h:Byt b):∃d',cg ⟨0,0,0,0,0⟩ b=some (d',(rs0 b).1)∧Dv d' (rs0 b).2:=by
 have hb:=h;obtain ⟨h1,h2⟩:=hb;unfold cg rs0;rw [Al h];simp only [bsm,aA];have hin:=uJ b;by_cases e0:ld b=0
 ·rw [af e0,ab (by omega),ab (by omega)];exact ⟨_,rfl,.inl rfl,fun x hx=>by simp at hx,rfl⟩
 ·rw [ab e0];by_cases e1:ld b=1
  ·rw [af e1,ab (by omega),af e1,yu (by omega)];exact ⟨_,rfl,.inl rfl,fun x hx=>by simp at hx,rfl⟩
  ·rw [ab e1,af (by omega),Fg h (by omega),BM h (by omega)];simp only [bsm];rw [aL (by omega)];refine ⟨_,rfl,.inr ?_,fun x hx=>?_,rfl⟩
   ·simp only [ak,aB,bg]; omega
   ·rw [List.mem_singleton.1 hx]; exact h
theorem GZ {h:List Int} (hne:h≠ []) (b:Int):vl (h++ [b])=vl h * 64+(b - 128):=by
 cases h with
 | nil=>exact absurd rfl hne
 | cons a t=>simp [vl,rT]
theorem GF {a:Int} (h:Byt a) (hl:2≤ld a):0≤b0 a∧b0 a≤31:=by
 obtain ⟨h1,h2⟩:=h;unfold b0;unfold ld at hl;unfold ld
 repeat' split at hl
 all_goals (repeat' split)
 all_goals omega
theorem Kh {h:List Int} (hh:Hh h) (hb:Bts h) (hne:h≠ []):0≤vl h∧vl h≤131071:=by
 rcases hh with rfl | hh
 ·exact absurd rfl hne
 ·match h,hh with
  | [],_=>exact absurd rfl hne
  | [a],q=>
   have ha:=hb a (by simp);simp only [bg,ak,aB] at q;have:=GF ha (by omega);simp only [vl,List.foldl];omega
  | [a,b],q=>
   have ha:=hb a (by simp);simp only [bg,ak,aB] at q;split at q
   ·rename_i g
    have:=GF ha (by omega);have hs:128≤b∧b≤191:=by
     have:=g.2;unfold slo shi at this
     repeat' split at this
     all_goals omega
    simp only [vl,List.foldl];omega
   ·omega
  | [a,b,c],q=>
   have ha:=hb a (by simp);simp only [bg,ak,aB] at q;split at q
   ·rename_i g
    have:=GF ha (by omega);have hs:128≤b∧b≤191:=by
     have:=g.2;unfold slo shi at this
     repeat' split at this
     all_goals omega
    simp only [vl,List.foldl];omega
   ·omega
  | [a,b,c,d],q=>simp only [bg,ak,aB] at q; split at q <;> omega
  | _ :: _ :: _ :: _ :: _ :: _,q=>simp only [bg,ak] at q; omega
theorem Fo {h:List Int} (hh:(h.length:Int) < bg h) (hne:h≠ []) (b:Int):∃lo hi,(match h with | [a]=>(slo a,shi a) | _=>(128,191))=(lo,hi)∧128≤lo∧hi≤191∧
  ((lo≤b∧b≤hi)→bg (h++ [b])=bg h)∧(¬(lo≤b∧b≤hi)→bg (h++ [b])=0):=by
 match h,hh with
 | [],_=>exact absurd rfl hne
 | [a],q=>
  simp only [bg,ak,aB] at q;refine ⟨slo a,shi a,rfl,by unfold slo; repeat' split; all_goals omega,by unfold shi; repeat' split; all_goals omega,fun g=>?_,fun g=>?_⟩
  ·simp only [bD,bq,bg];rw [af ⟨by omega,g.1,g.2⟩]
  ·simp only [bD,bq,bg];rw [ab (fun c=>g c.2)]
 | [a,c],q=>
  simp only [bg,ak,aB] at q;refine ⟨128,191,rfl,by omega,by omega,fun g=>?_,fun g=>?_⟩
  ·simp only [bD,bq,bg];split at q
   ·rename_i r
    rw [af ⟨by omega,r.2.1,r.2.2,g.1,g.2⟩,af r]
   ·omega
  ·simp only [bD,bq,bg];rw [ab (fun r=>g r.2.2.2)]
 | [a,c,d],q=>
  have hl:=uJ a;simp only [bg,ak,aB] at q;refine ⟨128,191,rfl,by omega,by omega,fun g=>?_,fun g=>?_⟩
  ·simp only [bD,bq,bg];split at q
   ·rename_i r
    rw [af ⟨by omega,r.2.1,r.2.2.1,r.2.2.2.1,r.2.2.2.2,g.1,g.2⟩,af r];omega
   ·omega
  ·simp only [bD,bq,bg];rw [ab (fun r=>g r.2.2.2.2.2)]
 | [a,b,c,d],q=>simp only [bg,ak,aB] at q; split at q <;> omega
 | _ :: _ :: _ :: _ :: _ :: _,q=>simp only [bg,ak] at q; omega
theorem Dv.shape {d:bv} {h:List Int} (v:Dv d h) (hne:h≠ []):∃lo hi,(match h with | [a]=>(slo a,shi a) | _=>(128,191))=(lo,hi)∧d=⟨(h.length:Int),bg h - (h.length:Int),lo,hi,vl h⟩:=by
 obtain ⟨_,_,e⟩:=v
 match h,e with
 | [],_=>exact absurd rfl hne
 | [a],e=>exact ⟨_,_,rfl,e⟩
 | a :: b :: t,e=>exact ⟨_,_,rfl,e⟩
theorem Gb {d:bv} {h:List Int} (v:Dv d h) {b:Int} (hb:Byt b):∃d',cM d b=some (d',(ny h b).1)∧Dv d' (ny h b).2:=by
 have v0:=v;obtain ⟨hh,hbs,e⟩:=v;unfold cM ny;simp only [am,aU];by_cases hne:h= []
 ·subst hne;simp only at e;subst e;obtain ⟨d',a1,a2⟩:=yr hb;simp only [Cb,eq_self,bG,a1,bsm];exact ⟨d',rfl,a2⟩
 ·obtain ⟨lo,hi,e1,e2⟩:=v0.shape hne;have hlt:(h.length:Int) < bg h:=by
   rcases hh with q | q
   ·exact absurd q hne
   ·exact q
  obtain ⟨lo',hi',f1,f2,f3,f4,f5⟩:=Fo hlt hne b;rw [e1] at f1;cases f1;subst e2;have hlen:0 < h.length:=by
   cases h with
   | nil=>exact absurd rfl hne
   | cons _ _=>simp
  have hl3:=hh.len;rw [ab hne];simp only [aA];rw [ab (by omega)];simp only [bS,bsm,aC,ai,gt_iff_lt];by_cases hr:lo≤b∧b≤hi
  ·have hbg:=f4 hr;have hvl:=Kh hh hbs hne;have hbgl:bg h≤4:=by
    match h,hlen with
    | [a],_=>simp only [bg]; exact (uJ a).2
    | [a,b],_=>simp only [bg]; split <;> first | exact (uJ a).2 | omega
    | [a,b,c],_=>simp only [bg]; split <;> first | exact (uJ a).2 | omega
    | a :: b :: c :: x :: t,_=>simp at hl3
   have hbits:gi .i64 (w64 (vl h * 2 ^ 6)) (w64 (dM .u8 b 63))=vl h * 64+(b - 128):=by
    obtain ⟨x,hx⟩:∃x:Nat,vl h=(x:Int):=⟨(vl h).toNat,by omega⟩;obtain ⟨y,hy⟩:∃y:Nat,b - 128=(y:Int):=⟨(b - 128).toNat,by omega⟩;rw [EE (by omega) (by omega),hx,hy,show ((x:Int) * 2 ^ 6)=(x:Int) * 64 from rfl,aL (by omega),aL (by omega),Jl (by omega) (by omega)];simp
   have hbs':Bts (h++ [b]):=fun x hx=>by
    rcases List.mem_append.1 hx with hx | hx
    ·exact hbs x hx
    ·rw [List.mem_singleton.1 hx]; exact hb
   have hsn:=GZ hne b;rw [ab (by omega),aL (by omega),aL (by omega),hbits,←hsn];by_cases hm:(h.length:Int)+1 < bg h
   ·rw [af (by omega),af (by rw [hbg]; omega)];refine ⟨_,rfl,.inr (by rw [hbg]; simp; omega),hbs',?_⟩;simp only [hbg]
    match h,hlen with
    | a :: t,_=>
     cases t with
     | nil=>simp only [bD,bq,ak,aB,bv.mk.injEq,tD,zN]; omega
     | cons b2 t=>simp only [bD,ak,ag,aB,bv.mk.injEq,tD,zN]; omega
   ·rw [ab (by omega),ab (by rw [hbg]; omega),af (by rw [hbg]; omega),yu (by rw [hsn]; omega)];exact ⟨_,rfl,.inl rfl,fun x hx=>by simp at hx,rfl⟩
  ·have hz:=f5 hr;rw [af (by omega),ab (by rw [hz]; omega),ab (by rw [hz]; omega)];have hfl:bF ⟨(h.length:Int),bg h - (h.length:Int),lo,hi,vl h⟩=some (⟨0,0,0,0,0⟩,[65533]):=by
    unfold bF bT;simp only [am,aU,bsm,aA];rw [ab (by omega)]
   rw [hfl];simp only [bsm];obtain ⟨d',a1,a2⟩:=yr hb;rw [a1];simp only [bsm];have hrl:(rs0 b).1.length≤1:=by
    unfold rs0;split
    ·simp
    ·split <;> simp
   rw [du (by simp; omega)];exact ⟨d',rfl,a2⟩
theorem AV {d:bv} {h:List Int} (v:Dv d h):bT d=some (h.length:Int):=by
 unfold bT;simp only [am,aU];by_cases hne:h= []
 ·subst hne;obtain ⟨_,_,e⟩:=v;simp only at e;rw [e];rfl
 ·obtain ⟨lo,hi,_,e⟩:=v.shape hne;rw [e]
theorem D4 {d:bv} {h:List Int} (v:Dv d h):bF d=some (⟨0,0,0,0,0⟩,if h= [] then [] else [65533]):=by
 unfold bF;rw [AV v];simp only [bsm,aA];by_cases hne:h= []
 ·subst hne;obtain ⟨_,_,e⟩:=v;simp only at e;rw [af (by simp),af rfl,e]
 ·rw [ab (fun e=>hne (aW (by omega))),ab hne]
theorem Dv.zero:Dv ⟨0,0,0,0,0⟩ []:=⟨.inl rfl,fun x hx=>by simp at hx,rfl⟩
def fr (n:Nat):Int:=if n=2 then 128 else if n=3 then 2048 else if n=4 then 65536 else 0
theorem qt (a:Int):(ld a=1∧a < 128)∨(ld a=2∧194≤a∧a≤223)∨(ld a=3∧224≤a∧a≤239)∨(ld a=4∧240≤a∧a≤244)∨(ld a=0∧128≤a∧¬(194≤a∧a≤244)):=by
 unfold ld
 repeat' split
 all_goals omega
theorem K5 {p:List Int} (h:0 < bg p):(p.length:Int)≤bg p:=by
 match p,h with
 | [],h=>simp [bg] at h
 | [a],h=>simp only [bg,ak,aB] at h⊢; omega
 | [a,b],h=>simp only [bg,ak,aB] at h⊢; split at h <;> rename_i g; rw [af g]; omega; omega
 | [a,b,c],h=>simp only [bg,ak,aB] at h⊢; split at h <;> rename_i g; rw [af g]; omega; omega
 | [a,b,c,d],h=>simp only [bg,ak,aB] at h⊢; split at h <;> rename_i g; rw [af g]; omega; omega
 | _ :: _ :: _ :: _ :: _ :: _,h=>simp [bg] at h
theorem K4 (p:List Int):0≤bg p∧bg p≤4:=by
 match p with
 | []=>simp [bg]
 | [a]=>exact uJ a
 | [a,b]=>simp only [bg]; split <;> first | exact uJ a | omega
 | [a,b,c]=>simp only [bg]; split <;> first | exact uJ a | omega
 | [a,b,c,d]=>simp only [bg]; split <;> omega
 | _ :: _ :: _ :: _ :: _ :: _=>simp [bg]
theorem Bts.snoc {h:List Int} (hb:Bts h) {b:Int} (h1:Byt b):Bts (h++ [b]):=fun x hx=>by
 rcases List.mem_append.1 hx with hx | hx
 ·exact hb x hx
 ·rw [List.mem_singleton.1 hx]; exact h1
theorem Dt (h:List Int) (b:Int):(ny h b).1.length≤2:=by
 have hrl:(rs0 b).1.length≤1:=by
  unfold rs0;split
  ·simp
  ·split <;> simp
 unfold ny;split
 ·omega
 ·split
  ·simp
  ·split
   ·simp
   ·simp; omega
theorem Du {h:List Int} (hb:Bts h) {b:Int} (h1:Byt b):Bts (ny h b).2:=by
 have h0:Bts (rs0 b).2:=by
  unfold rs0;split
  ·intro x hx; rw [List.mem_singleton.1 hx]; exact h1
  ·split <;> (intro x hx; simp at hx)
 unfold ny;split
 ·exact h0
 ·split
  ·exact hb.snoc h1
  ·split
   ·intro x hx; simp at hx
   ·exact h0
theorem xX {h p:List Int} (hb:Bts h) (hp:Bts p):Bts (ii h p).2:=by
 induction p generalizing h with
 | nil=>exact hb
 | cons b p ih=>exact ih (Du hb (hp b (by simp))) (fun x hx=>hp x (gL _ hx))
theorem Bts.nil:Bts []:=fun x hx=>by simp at hx
end Go.Proofs.YtceciacilfhmjaaGreatDoor
namespace Go.Proofs.YtceciacilfhmjaaGreatDoor
open Go Go.Lt
variable {s C:Sto} {f k g W H:Nat} {q P:ae} {ks:List Nat}
def Sto.sf (s:Sto) (f:Nat) (x:bw):Sto:={ s with feed_Feeder:=s.feed_Feeder.set f x}
theorem qh {x:bw} (h:f < s.feed_Feeder.length):s.set_feed_Feeder f x=some (s.sf f x):=by
 unfold Sto.set_feed_Feeder;rw [af h];rfl
theorem tM {x:bw} (h:f < s.feed_Feeder.length):(s.sf f x).feed_Feeder[f]? = some x:=by simp [Sto.sf,h]
theorem II (s:Sto) (f:Nat) (x y:bw):(s.sf f x).sf f y=s.sf f y:=by simp [Sto.sf]
theorem yE (s:Sto) (f:Nat) (x:bw):(s.sf f x).feed_Feeder.length=s.feed_Feeder.length:=by simp [Sto.sf]
theorem Pv.sf (h:Pv s s k g W q ks) (x:bw):Pv (s.sf f x) (s.sf f x) k g W q ks:=
 ⟨h.p,⟨h.g.g,h.g.r,h.g.h1,h.g.h2,h.g.w1,h.g.w2⟩,h.nd,h.l,rfl,h.f.rgp ⟨rfl,rfl,rfl⟩ ⟨rfl,rfl,rfl⟩⟩
theorem Wc.sf {j:Nat} {c:aj} {y:br} {t:List Int} {n:Int} (h:Wc s j c y t n) (x:bw):Wc (s.sf f x) j c y t n:=⟨h.x⟩
def Ji (C:Sto) (f j:Nat):Prop:=∃x,C.feed_Feeder[f]? = some x∧x.open_=some j
def Sto.rsC (s:Sto):List dK×List co:=(s.screen_Screen,s.console_console)
theorem BD {a b:Sto} (h:a.rsC=b.rsC):a.screen_Screen=b.screen_Screen:=(Db (show (a.screen_Screen,a.console_console)=(b.screen_Screen,b.console_console) from h)).1
structure Fz (C s:Sto) (f:Nat) (op:Option Nat):Prop where
 fl:C.feed_Feeder.length≤s.feed_Feeder.length
 ff:∀j,j < C.feed_Feeder.length→j≠f→s.feed_Feeder[j]? = C.feed_Feeder[j]?
 wl:C.widen_Cluster.length≤s.widen_Cluster.length
 wc:∀j,j < C.widen_Cluster.length→¬Ji C f j→s.widen_Cluster[j]? = C.widen_Cluster[j]?
 oc:∀j,op=some j→Ji C f j∨C.widen_Cluster.length≤j
 sc:s.rsC=C.rsC
theorem po {a b:Sto} (h:a.oth=b.oth):a.feed_Feeder=b.feed_Feeder:=by
 have:=dG Sto.feed_Feeder h;exact this
theorem yO {a b:Sto} (h:a.oth=b.oth):a.rsC=b.rsC:=by
 have:=dG Sto.rsC h;exact this
theorem Fz.oth {s':Sto} {op:Option Nat} (h:Fz C s f op) (e:s'.oth=s.oth):Fz C s' f op:=by
 refine ⟨by rw [po e]; exact h.fl,by rw [po e]; exact h.ff,by rw [tW e]; exact h.wl,by rw [tW e]; exact h.wc,h.oc,by rw [yO e]; exact h.sc⟩
theorem Fz.sf {op:Option Nat} (h:Fz C s f op) (x:bw) (op':Option Nat) (ho:∀j,op'=some j→Ji C f j∨C.widen_Cluster.length≤j):Fz C (s.sf f x) f op':=
 ⟨by rw [yE]; exact h.fl,fun j a b=>by simp only [Sto.sf]; rw [aT (rS b)]; exact h.ff j a b,h.wl,h.wc,ho,h.sc⟩
theorem Fz.more {op:Option Nat} (h:Fz C s f op) {s':Sto} {z:aX} (e:s'.oth=(s.add_widen_Cluster z).oth):Fz C s' f op:=by
 have e1:s'.feed_Feeder=s.feed_Feeder:=(po e).trans rfl;have e2:s'.widen_Cluster=s.widen_Cluster++ [z]:=(tW e).trans rfl;have e3:s'.rsC=s.rsC:=(yO e).trans rfl;have hl:=h.wl;exact ⟨by rw [e1]; exact h.fl,by rw [e1]; exact h.ff,by rw [e2,ag]; omega,fun j a b=>by rw [e2,aG (by omega)]; exact h.wc j a b,h.oc,by rw [e3]; exact h.sc⟩
theorem Fz.grow {j:Nat} (h:Fz C s f (some j)) {s':Sto} {z:aX} (e:s'.oth=(s.sc j z).oth):Fz C s' f (some j):=by
 have e1:s'.feed_Feeder=s.feed_Feeder:=(po e).trans rfl;have e2:s'.widen_Cluster=s.widen_Cluster.set j z:=(tW e).trans rfl;have e3:s'.rsC=s.rsC:=(yO e).trans rfl;refine ⟨by rw [e1]; exact h.fl,by rw [e1]; exact h.ff,by rw [e2,cf]; exact h.wl,fun i a b=>?_,h.oc,by rw [e3]; exact h.sc⟩;rw [e2,aT ?_]
 ·exact h.wc i a b
 ·rintro rfl;rcases h.oc j rfl with q | q
  ·exact b q
  ·omega
def yS (G:List Int):Bool:=match G.getLast? with | none=>true | some x=>sil x
theorem lm (G:List Int) (r:Int):yS (G++ [r])=sil r:=by simp [yS]
def pi (G:List Int):Sg:=if yS G=true then sg0 else sgF (G.map pr)
structure Op (s:Sto) (k g W H:Nat) (P:ae) (G:List Int) (q:ae) (j:Nat):Prop where
 x:∃q0 c C0 s0 ks0 cs0 cl,cls pj pr G=cs0++ [cl]∧cl≠ []∧sil (cl.headD 0)=false∧fo vX P cs0=some q0∧Pv C0 s0 k g W q0 ks0∧ks0.length=H∧
  Wc s j c (gf (cl.take 16) ((cl.take 16).map pr)) (cl.take 16) (w16 cl)∧aZ q0 (w16 cl) (cl.take 16)=some (q,c)
structure Fd (C s:Sto) (f k g W H:Nat) (P:ae) (G h:List Int) (q:ae) (ks:List Nat) (op:Option Nat):Prop where
 v:Pv s s k g W q ks
 fr:Fr C s k g ks
 fz:Fz C s f op
 n:ks.length=H
 hd:Hd q.At W H
 l:fo vX P (cls pj pr G)=some q
 gv:∀x∈G,vld x=true
 d:∃d,s.feed_Feeder[f]? = some ⟨some k,d,sgB (pi G),op⟩∧Dv d h
 o1:yS G=true→op=none
 o2:yS G=false→∃j,op=some j∧Op s k g W H P G q j
theorem IY {x:Int} (h:vld x=true):r32 x:=by
 unfold vld at h;unfold r32;simp only [an,ai] at h;omega
theorem Io {q q':ae} {r:Int} {b:Bool} (h:dF q r=some (q',b)):Ga q r=some q':=by
 unfold Ga;rw [h];rfl
theorem GY (c:List Int):(c.take 16).length≤16:=by rw [av]; omega
theorem uK (t:List Int) (r:Int):gf (t++ [r]) ((t++ [r]).map pr)=gz (gf t (t.map pr)) r (pr r):=by
 rw [Ia (by simp) r];have e:((t++ [r]).map pr).take t.length=t.map pr:=by simp
 rw [←H4 t ((t++ [r]).map pr) (ao _),e];simp
theorem F3 {r:Int} (h:vld r=true):fc r=r:=by unfold fc; rw [af h]
theorem E7 {C s:Sto} {k g W H:Nat} {q0 q:ae} {ks:List Nat} (h:Pv C s k g W q0 ks) (hn:ks.length=H) {n:Int} {t:List Int} (ht:t.length≤1000000) {c:aj} (hp:aZ q0 n t=some (q,c)):Hd q.At W H:=by
 obtain ⟨s',q',ks',i,a,_,_,a2,_,_,a5,_⟩:=BJ h n t ht;rw [hp] at a2;cases a2;rw [←hn];exact a5
theorem Gf {G h:List Int} {op:Option Nat} (F:Fd C s f k g W H P G h q ks op) {r:Int} (hr:vld r=true):∃s' q' ks' op',ga s (some f) r=some s'∧Fd C s' f k g W H P (G++ [r]) h q' ks' op':=by
 obtain ⟨d,hd,hdv⟩:=F.d;have hf:=cX hd;have hgv:∀x∈G++ [r],vld x=true:=fun x hx=>by
  rcases List.mem_append.1 hx with hx | hx
  ·exact F.gv x hx
  ·rw [List.mem_singleton.1 hx]; exact hr
 have hcs:=wL pj pr G r;unfold ga;rw [EN];simp only [bsm]
 cases hs:sil r with
 | true=>
  simp only [bG];unfold cY;simp only [bO,kq,bG,bsm,hd];rw [qh hf];simp only [bsm,xR];rw [qh (by rw [yE]; exact hf),II];simp only [bsm];rw [tM hf];simp only [bsm];obtain ⟨s',q',ks',a1,a2,a3,hks,hcd⟩:=Ir (F.v.sf (f:=f) ⟨some k,d,sgB sg0,none⟩) r;rw [a1];have hdo:=Io a2;have hf1:Fr C (s.sf f ⟨some k,d,sgB sg0,none⟩) k g ks:=F.fr.rgp (Rgp.self _) ⟨rfl,rfl,rfl⟩;have hv1:=F.v.sf (f:=f) ⟨some k,d,sgB sg0,none⟩;refine ⟨s',q',ks',none,rfl,⟨a3.self,hf1.trans hv1.oG hv1.oR a3.f,(F.fz.sf ⟨some k,d,sgB sg0,none⟩ none (fun j e=>by cases e)).oth a3.o,by rw [hks]; exact F.n,by rw [←F.n]; exact hcd (by rw [F.n]; exact F.hd),?_,hgv,⟨d,?_,hdv⟩,fun _=>rfl,fun e=>?_⟩⟩
  ·
   rw [hcs];split
   ·rename_i hj
    obtain ⟨l0,x,rfl,hx⟩:=EO.yes hs hj;obtain ⟨cs0,c,ec⟩:=jV ((tq (pj:=pj) (pr:=pr) (l0++ [x])).2.2 (by simp));obtain ⟨c',rfl⟩:=AW ec;rw [ec,rd];have hall:=EO.all (l0++ [x]) (c'++ [x]) (by rw [ec]; simp);have hal:∀y∈c'++ [x],sil y=true:=by
     rcases hall with q | q
     ·exact q
     ·have:=q x (by simp); rw [hx] at this; cases this
    have hl:=F.l;rw [ec,qY] at hl;rw [qY]
    cases hq0:fo vX P cs0 with
    | none=>rw [hq0] at hl; cases hl
    | some q0=>
     rw [hq0] at hl;simp only [bsm] at hl⊢;obtain ⟨a,t,ea⟩:∃a t,c'++ [x]=a :: t:=by
      cases h:c'++ [x] with
      | nil=>simp at h
      | cons a t=>exact ⟨a,t,rfl⟩
     have ha:sil a=true:=hal a (by rw [ea]; simp);rw [ea,vW ha] at hl;rw [ea,bD,vW ha,←bD,qY,hl];exact hdo
   ·rw [qY,F.l];simp only [bsm];rw [vW hs];show (Ga q r).bind (fun b=>some b)=_;rw [hdo];rfl
  ·have:pi (G++ [r])=sg0:=by unfold pi; rw [lm,af hs]
   rw [this,po a3.o];exact tM hf
  ·rw [lm,hs] at e;cases e
 | false=>
  simp only [am,aU];rw [I2 r (IY hr)];simp only [bsm,hd];rw [ER];simp only [bsm];rw [qh hf];simp only [bsm];have hsj:sgJ pj (pi G) (pr r)=jn pj pr G r∧sgN (pi G) (pr r)=sgF ((G++ [r]).map pr):=by
   unfold pi;rw [bb,zD,vJ]
   cases hL:yS G with
   | false=>simp only [am,aU]; exact ⟨rfl,trivial⟩
   | true=>
    simp only [bG];by_cases hG:G= []
    ·subst hG; exact ⟨rfl,rfl⟩
    ·obtain ⟨G0,x,rfl⟩:=jV hG;rw [lm] at hL;rw [EO.no G0 hL hs,EO.new G0 hL];exact ⟨rfl,rfl⟩
  rw [hsj.1,hsj.2];have hsg:pi (G++ [r])=sgF ((G++ [r]).map pr):=by unfold pi; rw [lm,hs]; rfl
  rw [←hsg];have hv1:=F.v.sf (f:=f) ⟨some k,d,sgB (pi (G++ [r])),op⟩;have hf1:Fr C (s.sf f ⟨some k,d,sgB (pi (G++ [r])),op⟩) k g ks:=F.fr.rgp (Rgp.self _) ⟨rfl,rfl,rfl⟩;have hz1:=F.fz.sf ⟨some k,d,sgB (pi (G++ [r])),op⟩ op F.fz.oc;have hg1:(s.sf f ⟨some k,d,sgB (pi (G++ [r])),op⟩).feed_Feeder[f]? = some ⟨some k,d,sgB (pi (G++ [r])),op⟩:=tM hf;simp only [bd,bsm];rw [hg1];simp only [bsm];have hfix:=F3 hr
  cases hj:jn pj pr G r with
  | true=>
   have hL:yS G=false:=by
    cases hL:yS G with
    | false=>rfl
    | true=>
     obtain ⟨G0,x,rfl⟩:=jV (CR pj pr hj);rw [lm] at hL;rw [EO.no G0 hL hs] at hj;cases hj
   obtain ⟨j,rfl,⟨q0,c,C0,s0,ks0,cs0,cl,ec,hcne,hcs0,hq0,hp0,hn0,hw,hput⟩⟩:=F.o2 hL;simp only [bO,kq,IF,bG];have hcs2:cls pj pr (G++ [r])=cs0++ [cl++ [r]]:=by rw [hcs,af hj,ec,rd]
   have hclv:∀x∈cl.take 16,vld x=true:=fun x hx=>F.gv x (by
    rw [←(tq (pj:=pj) (pr:=pr) G).1,ec];exact List.mem_flatten.2 ⟨cl,by simp,ej hx⟩)
   have hhd:sil ((cl++ [r]).headD 0)=false:=by
    cases cl with
    | nil=>exact absurd rfl hcne
    | cons a t=>exact hcs0
   have hw16:w16 cl=wz (gf (cl.take 16) ((cl.take 16).map pr)):=rfl;rw [hw16] at hw hput;have on:On C (s.sf f ⟨some k,d,sgB (pi (G++ [r])),some j⟩) k g W H j q0 (gf (cl.take 16) ((cl.take 16).map pr)) (cl.take 16) q c ks:=⟨hv1,hf1,hw.sf _,F.n,hput⟩;have hlayc:∀q2 c2,aZ q0 (w16 (cl++ [r])) ((cl++ [r]).take 16)=some (q2,c2)→fo vX P (cls pj pr (G++ [r]))=some q2:=fun q2 c2 e=>by
    rw [hcs2,qY,hq0];simp only [bsm]
    cases hcc:cl++ [r] with
    | nil=>simp at hcc
    | cons a t=>
     rw [hcc] at e hhd;rw [Ar (by simpa using hhd),e];rfl
   have hlen:cl.length < 16∨16≤cl.length:=by omega
   have hcl1:1≤cl.length:=by
    cases cl with
    | nil=>exact absurd rfl hcne
    | cons _ _=>simp
   rcases hlen with hlt | hge
   ·have et:cl.take 16=cl:=aJ (by omega);have et2:(cl++ [r]).take 16=cl++ [r]:=aJ (by simp; omega);rw [et] at on hclv;obtain ⟨s',q',c',ks',b1,b2,z,b3⟩:=HR hp0 hn0 on hcl1 hlt hclv r (pr r);rw [b1];simp only [bsm];rw [hfix,←uK] at b2;have hw2:w16 (cl++ [r])=wz (gf (cl++ [r]) ((cl++ [r]).map pr)):=by unfold w16; rw [et2]
    refine ⟨s',q',ks',some j,rfl,⟨b2.v,b2.f,hz1.grow b3,b2.n,E7 hp0 hn0 (GY cl |> fun _=>by simp; omega) b2.p,hlayc q' c' (by rw [hw2,et2]; exact b2.p),hgv,⟨d,?_,hdv⟩,fun e=>?_,fun _=>⟨j,rfl,⟨q0,c',C0,s0,ks0,cs0,cl++ [r],hcs2,by simp,hhd,hq0,hp0,hn0,?_,by rw [hw2,et2]; exact b2.p⟩⟩⟩⟩
    ·rw [show s'.feed_Feeder=(s.sf f ⟨some k,d,sgB (pi (G++ [r])),some j⟩).feed_Feeder from (po b3).trans rfl];exact hg1
    ·rw [lm,hs] at e; cases e
    ·rw [hw2,et2];exact b2.w
   ·have hfl:(cl.take 16).length=16:=by rw [av]; omega
    have et2:(cl++ [r]).take 16=cl.take 16:=eu hge;have hw2:w16 (cl++ [r])=w16 cl:=by unfold w16; rw [et2]
    rw [DR on hfl r (pr r)];simp only [bsm];refine ⟨_,q,ks,some j,rfl,⟨hv1,hf1,hz1,F.n,F.hd,hlayc q c (by rw [hw2,et2]; exact hput),hgv,⟨d,hg1,hdv⟩,fun e=>?_,fun _=>⟨j,rfl,⟨q0,c,C0,s0,ks0,cs0,cl++ [r],hcs2,by simp,hhd,hq0,hp0,hn0,?_,by rw [hw2,et2]; exact hput⟩⟩⟩⟩
    ·rw [lm,hs] at e; cases e
    ·rw [hw2,et2];exact hw.sf _
  | false=>
   simp only [qS,am,aU];obtain ⟨s2,q2,c2,ks2,b1,b2,z,b3⟩:=GC hv1 r (pr r);rw [b1];simp only [bsm];have e1:s2.feed_Feeder=(s.sf f ⟨some k,d,sgB (pi (G++ [r])),op⟩).feed_Feeder:=(po b3).trans rfl;rw [e1,hg1];simp only [bsm];have hf2:f < s2.feed_Feeder.length:=by rw [e1,yE]; exact hf
   rw [qh hf2];rw [hfix] at b2;have hgf:gz ⟨false,false,false⟩ r (pr r)=gf [r] ([r].map pr):=by
    have:=uK [] r;simp only [bq] at this;rw [this];rfl
   rw [hgf] at b2;have hcs2:cls pj pr (G++ [r])=cls pj pr G++ [[r]]:=by rw [hcs,hj]; rfl
   have hlay:fo vX P (cls pj pr (G++ [r]))=some q2:=by
    rw [hcs2,qY,F.l];simp only [bsm];rw [Ar hs];show (aZ q (wz (gf [r] ([r].map pr))) [r]).map (·.1)=some q2;rw [b2.p];rfl
   refine ⟨_,q2,ks2,some (s.sf f ⟨some k,d,sgB (pi (G++ [r])),op⟩).widen_Cluster.length,rfl,⟨b2.v.sf _,?_,(hz1.more b3).sf _ _ (fun j e=>?_),b2.n.trans F.n,E7 F.v F.n (by simp) b2.p,hlay,hgv,⟨d,tM hf2,hdv⟩,fun e=>?_,fun _=>⟨_,rfl,⟨q,c2,_,_,ks,cls pj pr G,[r],hcs2,by simp,hs,F.l,F.v,F.n,b2.w.sf _,b2.p⟩⟩⟩⟩
   ·exact (hf1.trans hv1.oG hv1.oR b2.f).rgp (Rgp.self _) ⟨rfl,rfl,rfl⟩
   ·cases e;exact .inr hz1.wl
   ·rw [lm,hs] at e; cases e
end Go.Proofs.YtceciacilfhmjaaGreatDoor
namespace Go.Proofs.YtceciacilfhmjaaGreatDoor
open Go Go.Lt
variable {s C:Sto} {f k g W H:Nat} {q P:ae} {ks:List Nat} {op:Option Nat}
theorem IZ {p:List Int} (hp:Bts p) (hb:bg p=(p.length:Int)) (hne:p≠ []):vld (vl p)=true:=by
 have h4:=K4 p;unfold vld;simp only [an,ai]
 match p,hne with
 | [a],_=>
  obtain ⟨a1,a2⟩:=hp a (by simp);have hl:=qt a;simp only [bg,ak,aB] at hb;simp only [vl,List.foldl,b0]
  repeat' split
  all_goals simp only [aC,ai]
  all_goals omega
 | [a,b],_=>
  obtain ⟨a1,a2⟩:=hp a (by simp);have hl:=qt a;simp only [bg,ak,aB] at hb;split at hb
  ·rename_i g
   have hs:128≤b∧b≤191:=by
    have:=g.2;unfold slo shi at this
    repeat' split at this
    all_goals omega
   simp only [vl,List.foldl,b0]
   repeat' split
   all_goals simp only [aC,ai]
   all_goals omega
  ·omega
 | [a,b,c],_=>
  obtain ⟨a1,a2⟩:=hp a (by simp);have hl:=qt a;simp only [bg,ak,aB] at hb;split at hb
  ·rename_i g
   have hs:128≤b∧b≤191∧(a=237→b≤159):=by
    have:=g.2;unfold slo shi at this
    repeat' split at this
    all_goals omega
   simp only [vl,List.foldl,b0]
   repeat' split
   all_goals simp only [aC,ai]
   all_goals omega
  ·omega
 | [a,b,c,d],_=>
  obtain ⟨a1,a2⟩:=hp a (by simp);have hl:=qt a;simp only [bg,ak,aB] at hb;split at hb
  ·rename_i g
   have hs:128≤b∧b≤191∧(a=240→144≤b)∧(a=244→b≤143):=by
    have:=g.2;unfold slo shi at this
    repeat' split at this
    all_goals omega
   simp only [vl,List.foldl,b0]
   repeat' split
   all_goals simp only [aC,ai]
   all_goals omega
  ·omega
 | _ :: _ :: _ :: _ :: _ :: _,_=>simp only [bg,ak] at hb; omega
theorem CF {b:Int} (h:Byt b):∀x∈(rs0 b).1,vld x=true:=fun x hx=>by
 obtain ⟨h1,h2⟩:=h;have hl:=qt b;unfold rs0 at hx;split at hx
 ·simp at hx
 ·split at hx
  ·rw [List.mem_singleton.1 hx];unfold vld;simp only [an,aC,ai];omega
  ·rw [List.mem_singleton.1 hx]; rfl
theorem Ds {h:List Int} (hb:Bts h) {b:Int} (h1:Byt b):∀x∈(ny h b).1,vld x=true:=fun x hx=>by
 unfold ny at hx;split at hx
 ·exact CF h1 x hx
 ·split at hx
  ·simp at hx
  ·split at hx
   ·rename_i g1 g2
    rw [List.mem_singleton.1 hx];refine IZ (hb.snoc h1) ?_ (by simp);have:=K5 g2;simp only [ag,ak,aB] at this⊢;omega
   ·rcases List.mem_cons.1 hx with hx | hx
    ·rw [hx]; rfl
    ·exact CF h1 x hx
theorem ex4 {α β γ δ:Type} {X:Option α} {Q:α→β→γ→δ→Prop} (h:∃a,X=some a∧∃b c d,Q a b c d):∃a b c d,X=some a∧Q a b c d:=by
 obtain ⟨a,h1,b,c,d,h2⟩:=h;exact ⟨a,b,c,d,h1,h2⟩
theorem CZ {G h:List Int} (F:Fd C s f k g W H P G h q ks op) {l:List Int} (hl:l.length≤1000000) (hv:∀x∈l,vld x=true):∃s' q' ks' op',fV s (some f) l=some s'∧Fd C s' f k g W H P (G++l) h q' ks' op':=by
 unfold fV;refine ex4 (tX (n:=l.length) (fun i (st:Int×Sto)=>st.1=(i:Int)∧∃q' ks' op',Fd C st.2 f k g W H P (G++l.take i) h q' ks' op') (fun u:Sto=>∃q' ks' op',Fd C u f k g W H P (G++l) h q' ks' op') (p:=fun s':Sto=>∃q' ks' op',Fd C s' f k g W H P (G++l) h q' ks' op') (fun i st hi hI=>?_) (fun st hI=>?_) ⟨rfl,q,ks,op,by simpa using F⟩ (by omega) (fun u hu=>⟨u,rfl,hu⟩))
 ·obtain ⟨i',st⟩:=st;obtain ⟨e,q1,ks1,op1,F1⟩:=hI;simp only at e F1;subst e;simp only;rw [af (dlt hi),bz hi,eW hi (by omega)];simp only [bsm];obtain ⟨s2,q2,ks2,op2,b1,b2⟩:=Gf F1 (hv _ (aF hi));rw [b1];refine .inl ⟨_,rfl,rfl,q2,ks2,op2,?_⟩;rw [ay hi,←aD];exact b2
 ·obtain ⟨i',st⟩:=st;obtain ⟨e,q1,ks1,op1,F1⟩:=hI;simp only at e F1;subst e;refine ⟨st,by simp only; rw [ab (by simp)],q1,ks1,op1,?_⟩;rw [aJ (ao _)] at F1;exact F1
theorem Fd.dec {G h h':List Int} (F:Fd C s f k g W H P G h q ks op) {d d':bv} (hd:s.feed_Feeder[f]? = some ⟨some k,d,sgB (pi G),op⟩) (hv:Dv d' h'):Fd C (s.sf f ⟨some k,d',sgB (pi G),op⟩) f k g W H P G h' q ks op:=by
 have hf:=cX hd;refine ⟨F.v.sf _,F.fr.rgp (Rgp.self _) ⟨rfl,rfl,rfl⟩,F.fz.sf _ _ F.fz.oc,F.n,F.hd,F.l,F.gv,⟨d',tM hf,hv⟩,F.o1,fun e=>?_⟩;obtain ⟨j,e1,⟨q0,c,C0,s0,ks0,cs0,cl,a1,a2,a3,a4,a5,a6,a7,a8⟩⟩:=F.o2 e;exact ⟨j,e1,⟨q0,c,C0,s0,ks0,cs0,cl,a1,a2,a3,a4,a5,a6,a7.sf _,a8⟩⟩
theorem D0 {G h:List Int} (F:Fd C s f k g W H P G h q ks op) (hb:Bts h) {b:List Int} (hl:b.length≤9223372036854775807) (hbt:Bts b):∃s' q' ks' op',ge s (some f) b=some s'∧Fd C s' f k g W H P (G++(ii h b).1) (ii h b).2 q' ks' op':=by
 unfold ge;simp only [bO,am,aU,bsm];refine ex4 (tX (n:=b.length) (fun i (st:Int×Sto)=>st.1=(i:Int)∧∃q' ks' op',Fd C st.2 f k g W H P (G++(ii h (b.take i)).1) (ii h (b.take i)).2 q' ks' op') (fun u:Sto=>∃q' ks' op',Fd C u f k g W H P (G++(ii h b).1) (ii h b).2 q' ks' op') (p:=fun s':Sto=>∃q' ks' op',Fd C s' f k g W H P (G++(ii h b).1) (ii h b).2 q' ks' op') (fun i st hi hI=>?_) (fun st hI=>?_) ⟨rfl,q,ks,op,by simpa [ii] using F⟩ (by omega) (fun u hu=>⟨u,rfl,hu⟩))
 ·obtain ⟨i',st⟩:=st;obtain ⟨e,q1,ks1,op1,F1⟩:=hI;simp only at e F1;subst e;simp only;rw [af (dlt hi),bz hi,eW hi (by omega)];obtain ⟨d,hd,hdv⟩:=F1.d;simp only [bsm,hd];have hx:=hbt _ (aF hi);obtain ⟨d',c1,c2⟩:=Gb hdv hx;rw [c1];simp only [bsm];rw [qh (cX hd)];simp only [bsm];have hbt':Bts (b.take i):=fun x hx=>hbt x (ej hx);obtain ⟨s2,q2,ks2,op2,b1,b2⟩:=CZ (F1.dec hd c2) (l:=(ny (ii h (b.take i)).2 b[i]).1) (by have:=Dt (ii h (b.take i)).2 b[i]; omega) (Ds (xX hb hbt') hx);rw [b1];refine .inl ⟨_,rfl,rfl,q2,ks2,op2,?_⟩;rw [ay hi,BE];simp only;rw [←aD];exact b2
 ·obtain ⟨i',st⟩:=st;obtain ⟨e,q1,ks1,op1,F1⟩:=hI;simp only at e F1;subst e;refine ⟨st,by simp only; rw [ab (by simp)],q1,ks1,op1,?_⟩;rw [aJ (ao _)] at F1;exact F1
theorem yo {G h:List Int} (F:Fd C s f k g W H P G h q ks op):∃s',cY s (some f)=some s'∧Fd C s' f k g W H q [] h q ks none:=by
 obtain ⟨d,hd,hdv⟩:=F.d;have hf:=cX hd;unfold cY;simp only [bO,kq,bG,bsm,hd];rw [qh hf];simp only [bsm,xR];rw [qh (by rw [yE]; exact hf),II];refine ⟨_,rfl,⟨F.v.sf _,F.fr.rgp (Rgp.self _) ⟨rfl,rfl,rfl⟩,F.fz.sf _ none (fun j e=>by cases e),F.n,F.hd,rfl,fun x hx=>by simp at hx,⟨d,tM hf,hdv⟩,fun _=>rfl,fun e=>by cases e⟩⟩
theorem DX {G h:List Int} (F:Fd C s f k g W H P G h q ks op):∃s' q' ks',gb s (some f)=some s'∧Fd C s' f k g W H q' [] [] q' ks' none∧fo vX P (cls pj pr (G++(if h= [] then [] else [65533])))=some q':=by
 obtain ⟨d,hd,hdv⟩:=F.d;have hf:=cX hd;unfold gb;simp only [bO,am,aU,bsm,hd];rw [D4 hdv];simp only [bsm];rw [qh hf];simp only [bsm];obtain ⟨s2,q2,ks2,op2,b1,b2⟩:=CZ (F.dec hd Dv.zero) (l:=if h= [] then [] else [65533]) (by split <;> simp) (fun x hx=>by
  split at hx
  ·simp at hx
  ·rw [List.mem_singleton.1 hx]; rfl)
 rw [b1];simp only [bsm];obtain ⟨s3,c1,c2⟩:=yo b2;rw [c1];exact ⟨s3,q2,ks2,rfl,c2,b2.l⟩
theorem F5 {G h:List Int} (F:Fd C s f k g W H P G h q ks op):gJ s (some f)=some (h.length:Int):=by
 obtain ⟨d,hd,hdv⟩:=F.d;unfold gJ;simp only [bO,am,aU,bsm,hd];rw [AV hdv];rfl
theorem Fz.self (s:Sto) (f:Nat) (op:Option Nat) (h:∀x,s.feed_Feeder[f]? = some x→x.open_=op) (hf:f < s.feed_Feeder.length):Fz s s f op:=
 ⟨ao _,fun _ _ _=>rfl,ao _,fun _ _ _=>rfl,fun j e=> .inl ⟨s.feed_Feeder[f],ah hf,by rw [h _ (ah hf)]; exact e⟩,rfl⟩
theorem Pv.addf (h:Pv s s k g W q ks) (x:bw):Pv (s.add_feed_Feeder x) (s.add_feed_Feeder x) k g W q ks:=
 ⟨h.p,⟨h.g.g,h.g.r,h.g.h1,h.g.h2,h.g.w1,h.g.w2⟩,h.nd,h.l,rfl,h.f.rgp ⟨rfl,rfl,rfl⟩ ⟨rfl,rfl,rfl⟩⟩
theorem F6 (h:Pv s s k g W q ks) (hh:Hd q.At W ks.length):∃s',nG s (some k)=some (s',some s.feed_Feeder.length)∧Fd s' s' s.feed_Feeder.length k g W ks.length q [] [] q ks none∧s'=s.add_feed_Feeder ⟨some k,⟨0,0,0,0,0⟩,⟨false,0,0,0,false⟩,none⟩:=by
 unfold nG;simp only [bO,db,bsm,h.p,am,aU];have hg:(s.add_feed_Feeder ⟨some k,⟨0,0,0,0,0⟩,⟨false,0,0,0,false⟩,none⟩).feed_Feeder[s.feed_Feeder.length]? = some ⟨some k,⟨0,0,0,0,0⟩,⟨false,0,0,0,false⟩,none⟩:=by simp [Sto.add_feed_Feeder]
 refine ⟨_,rfl,⟨h.addf _,(h.addf _).f,Fz.self _ _ _ (fun x hx=>?_) (cX hg),rfl,hh,rfl,fun x hx=>by simp at hx,⟨_,hg,Dv.zero⟩,fun _=>rfl,fun e=>by cases e⟩,rfl⟩;rw [hg] at hx;cases hx;rfl
end Go.Proofs.YtceciacilfhmjaaGreatDoor
namespace Go.Proofs.YtceciacilfhmjaaGreatDoor
open Go Go.Lt
variable {s:Sto} {k:Nat} {l p:List aa} {w:Bool}
theorem KW {c m:Nat} (h:c≤m):cl (c:Int) m=c:=by unfold cl; omega
theorem CV (n:Int) (m:Nat):fF n 0 m=some ((cl n m:Nat):Int):=by
 simp only [fF,ik,eV,cl,az];omega
def rg (l:List aa) (w:Bool) (a b:Nat):bm:=if a < b then ⟨pl l a (List.replicate (b - a) bl),pw l w a (b - a)⟩ else ⟨l,w⟩
theorem E3 {a b:Nat} (h:Snd l) (hb:b≤l.length):Snd (rg l w a b).cells:=by
 unfold rg;split
 ·exact h.paint (tL _) (by simp; omega)
 ·exact h
theorem Je (a b:Nat):(rg l w a b).cells.length=l.length:=by
 unfold rg;split
 ·exact je _ _ _
 ·rfl
theorem sR (h:s.row_Row[k]? = some ⟨l,w⟩) (hs:Snd l) (hl:l.length≤1024) (a b:Int):
  go s (some k) a b=some (s.sr k (rg l w (cl a l.length) (cl b l.length))):=by
 unfold go;simp only [jt h,bsm,CV];have ha:=nh a l.length;have hb:=nh b l.length;generalize cl a l.length=a' at *;generalize cl b l.length=b' at *;unfold rg;by_cases hab:a' < b'
 ·have e:w64 ((b':Int) - (a':Int))=((b' - a':Nat):Int):=by rw [aL (by omega)]; omega
  rw [af (by simp; omega),af hab,e,xb,show (max 0 (min (((b' - a':Nat)):Int) 1024)).toNat=b' - a' by omega];simp only [bsm];rw [oK h hs hl (tL _) (by simp; omega) (by simp; omega)];simp
 ·rw [ab (by simp; omega),ab hab,zQ h]
theorem oL (l:List aa) (w:Bool) (hl:l.length≤1024) (a b:Int):dz l w a b=some ((rg l w (cl a l.length) (cl b l.length)).cells,(rg l w (cl a l.length) (cl b l.length)).wrap):=by
 unfold dz;have ha:=nh a l.length;have hb:=nh b l.length;have ea:aS 0 (aM a (l.length:Int))=((cl a l.length:Nat):Int):=by simp only [ik,eV,cl]; omega
 have eb:aS 0 (aM b (l.length:Int))=((cl b l.length:Nat):Int):=by simp only [ik,eV,cl]; omega
 rw [ea,eb];generalize cl a l.length=a' at *;generalize cl b l.length=b' at *;unfold rg;by_cases hab:a' < b'
 ·have e:w64 ((b':Int) - (a':Int))=((b' - a':Nat):Int):=by rw [aL (by omega)]; omega
  rw [ab (by simp; omega),af hab,e,qn _ (by omega)];simp only [bsm];have:=tS l w a' (List.replicate (b' - a') bl) (by omega) (by omega) (by simp; omega);rw [dO] at this;rw [show (List.replicate (((b' - a':Nat):Int).toNat) (⟨0,([]:List Int)⟩:aa))=List.replicate (b' - a') bl by rfl,this];rfl
 ·rw [af (by simp; omega),ab hab]
theorem Gn (h:s.row_Row[k]? = some ⟨l,w⟩) (hs:Snd l) (hl:l.length≤1024) (col n:Int):
  jJ s (some k) col n=some (if 0≤col∧0 < n then s.sr k (rg l w (cl col l.length) (cl (((cl col l.length:Nat):Int)+((cl n l.length:Nat):Int)) l.length)) else s):=by
 unfold jJ;simp only [bd,bsm];by_cases hc:0≤col∧0 < n
 ·rw [af (by simp; omega),af hc];simp only [jt h,bsm,CV];have h1:=nh col l.length;have h2:=nh n l.length;rw [aL (by omega),sR h hs hl];simp only [bsm,KW h1]
 ·rw [ab (by simp; omega),ab hc]
def ac (l:List aa) (w:Bool) (x A B:Int):bm:=
 if x=0 then rg l w (cl A l.length) (cl B l.length)
 else if x=1 then rg l w 0 (cl (max (-1) (min A l.length)+1) l.length)
 else if x=2 then rg l w (cl A l.length) l.length
 else if x=3 then ⟨(rg l w 0 l.length).cells,false⟩
 else if 0≤A∧0 < B then rg l w (cl A l.length) (cl (((cl A l.length:Nat):Int)+((cl B l.length:Nat):Int)) l.length) else ⟨l,w⟩
theorem IK {a b:Nat} (h:b≤a):rg l w a b=⟨l,w⟩:=by
 unfold rg;rw [ab (by omega)]
theorem Gi (m:Nat):cl 0 m=0:=by unfold cl; omega
theorem vB (m:Nat):cl (m:Int) m=m:=by unfold cl; omega
theorem BX (h:s.row_Row[k]? = some ⟨l,w⟩) (hs:Snd l) (hl:l.length≤1024) (a b:Int):lP s (some k) a=some (s.sr k (ac l w 1 a b)):=by
 unfold lP fF;simp only [jt h,bsm,ik,eV];rw [aL (by omega),sR h hs hl,Gi];rfl
theorem AL (h:s.row_Row[k]? = some ⟨l,w⟩) (hs:Snd l) (hl:l.length≤1024) (a b:Int):kP s (some k) a=some (s.sr k (ac l w 2 a b)):=by
 unfold kP;simp only [jt h,bsm];rw [sR h hs hl,vB];rfl
theorem yp (h:s.row_Row[k]? = some ⟨l,w⟩) (hs:Snd l) (hl:l.length≤1024) (a b:Int):kh s (some k)=some (s.sr k (ac l w 3 a b)):=by
 have hk:=cX h;unfold kh;simp only [jt h,bsm];rw [sR h hs hl,vB,Gi];simp only [bsm];rw [vO (l:=(rg l w 0 l.length).cells) (w:=(rg l w 0 l.length).wrap) (rV hk),CA];rfl
theorem AM (h:s.row_Row[k]? = some ⟨l,w⟩) (hs:Snd l) (hl:l.length≤1024) (a b:Int):jJ s (some k) a b=some (s.sr k (ac l w 4 a b)):=by
 rw [Gn h hs hl,show ac l w 4 a b=if 0≤a∧0 < b then rg l w (cl a l.length) (cl (((cl a l.length:Nat):Int)+((cl b l.length:Nat):Int)) l.length) else ⟨l,w⟩ by rfl];split
 ·rfl
 ·rw [zQ h]
theorem Ht (l:List aa) (w:Bool) (hl:l.length≤1024) (x A B:Int):kI l w x A B=some ((ac l w x A B).cells,(ac l w x A B).wrap):=by
 unfold kI ac;by_cases h0:x=0
 ·rw [af (by simpa using h0),af h0,oL l w hl];rfl
 rw [ab (by simpa using h0),ab h0];by_cases h1:x=1
 ·rw [af (by simpa using h1),af h1];by_cases hA:A < 0
  ·rw [af (by simpa using hA),show max (-1) (min A (l.length:Int))+1=0 by omega,Gi,IK (ao _)]
  ·rw [ab (by simpa using hA),eV,aL (by omega),oL l w hl,Gi,show max (-1) (min A (l.length:Int))=min A (l.length:Int) by omega];rfl
 rw [ab (by simpa using h1),ab h1];by_cases h2:x=2
 ·rw [af (by simpa using h2),af h2,oL l w hl,vB];rfl
 rw [ab (by simpa using h2),ab h2];by_cases h3:x=3
 ·rw [af (by simpa using h3),af h3,oL l w hl,vB,Gi];rfl
 rw [ab (by simpa using h3),ab h3];simp only [bS,bsm];by_cases hA:0≤A∧0 < B
 ·rw [af hA];by_cases hg:(l.length:Int)≤A
  ·rw [af (by simp; omega),show cl A l.length=l.length by unfold cl; omega,IK (nh _ _)]
  ·rw [ab (by simp; omega),eV,aL (by omega),oL l w hl];rw [show cl (A+min B (l.length:Int)) l.length=cl (((cl A l.length:Nat):Int)+((cl B l.length:Nat):Int)) l.length by unfold cl; omega];rfl
 ·rw [ab hA,af (by simp; omega)]
theorem J0 (hs:Snd l) (x A B:Int):Snd (ac l w x A B).cells:=by
 unfold ac
 repeat' split
 all_goals first | exact hs | exact E3 hs (nh _ _) | exact E3 hs (ao _)
theorem J1 (x A B:Int):(ac l w x A B).cells.length=l.length:=by
 unfold ac
 repeat' split
 all_goals first | rfl | exact Je _ _
theorem iz {α:Type} {l:List α} {n:Nat} {f:Nat→α} (hl:l.length=n) (h:∀i,i < n→l[i]? = some (f i)):l=(List.range n).map f:=by
 apply dy;intro i;rcases aR i n with hi | hi
 ·rw [h i hi]; simp [hi]
 ·rw [bI (by omega),bI (by simp; exact hi)]
def trc (l:List aa) (c j:Nat):aa:=if kd l c=3∧(j=c∨j+1=c) then bl else l.getD j bl
def tr (l:List aa) (c:Nat):List aa:=(List.range l.length).map (trc l c)
theorem qe (l:List aa) (c:Nat):(tr l c).length=l.length:=by simp [tr]
theorem ED {c j:Nat} (h:j < l.length):(tr l c)[j]? = some (trc l c j):=by simp [tr,h]
theorem EC (l:List aa) (c j:Nat):(trc l c j).Kind=if kd l c=3∧(j=c∨j+1=c) then 0 else kd l j:=by
 unfold trc;split
 ·rfl
 ·exact nV l j
theorem CQ (c j:Nat):kd (tr l c) j=if kd l c=3∧(j=c∨j+1=c) then 0 else kd l j:=by
 rcases aR j l.length with h | h
 ·rw [←EC]; simp [kd,ED h]
 ·rw [nc (by rw [qe]; exact h),nc (l:=l) h]; simp
theorem IH {c:Nat} (h:kd l c≠3):tr l c=l:=by
 symm
 refine iz rfl fun i hi=>?_;unfold trc;rw [ab (by intro e; exact h e.1),aw,ah hi];rfl
theorem yw (hs:Snd l) (c:Nat):Snd (tr l c):=fun j hj=>by
 have hj':j < l.length:=by rw [qe] at hj; exact hj
 have he:(tr l c)[j]=trc l c j:=by
  have:=ED (c:=c) hj';rw [ah hj] at this;exact aH this
 have h2:=fun (h:kd l j=2)=>hs.two h;have h3:=fun (h:kd l j=3)=>hs.three h;have hc:=fun (h:kd l c=3)=>hs.three h;rw [he,EC,CQ,CQ];refine ⟨?_,?_,?_⟩
 ·unfold trc;split
  ·rfl
  ·exact hs.rg hj'
 ·intro e;split at e
  ·cases e
  ·rename_i hn
   have:=h2 e;rw [ab]
   ·exact this
   ·rintro ⟨q1,q2⟩;have:=hc q1;rcases q2 with rfl | q2
    ·exact hn ⟨q1,.inr rfl⟩
    ·obtain rfl:c=j+2:=by omega
     rw [show j+2 - 1=j+1 by omega] at this;omega
 ·intro e;split at e
  ·cases e
  ·rename_i hn
   have:=h3 e;refine ⟨this.1,?_⟩;rw [ab]
   ·exact this.2
   ·rintro ⟨q1,q2⟩;have:=hc q1;rcases q2 with q2 | q2
    ·rw [←q2] at q1;omega
    ·exact hn ⟨q1,.inl (by omega)⟩
theorem wg (l:List aa) (c:Nat):kd (tr l c) c≠3:=by
 rw [CQ];split
 ·decide
 ·rename_i h
  intro e;exact h ⟨e,.inl rfl⟩
theorem yz (hs:Snd l) (hl:l.length≤1024) (c:Nat):jf l c=some (tr l c):=by
 unfold jf;rcases aR c l.length with h | h
 ·have hd:decide ((c:Int) < (l.length:Int))=true:=by simp; exact h
  simp only [hd,eO,bz h,bsm];by_cases h3:kd l c=3
  ·have hb:(l[c].Kind==3)=true:=by rw [←lD h,h3]; rfl
   obtain ⟨h0,_⟩:=hs.three h3;have e1:w64 ((c:Int) - 1)=((c - 1:Nat):Int):=by rw [aL (by omega)]; omega
   rw [hb,af rfl,e1,bz (by omega:c - 1 < l.length)];simp only [bsm];rw [nv (by omega)];simp only [bsm];rw [bz (by rw [cf]; exact h)];simp only [bsm];rw [nv (by rw [cf]; exact h)];simp only [bsm]
   congr 1
   refine iz (by simp) fun i hi=>?_;unfold trc;by_cases q1:c=i
   ·subst q1;rw [be (by rw [cf]; exact h),af ⟨h3,.inl rfl⟩];rfl
   ·rw [aT q1];by_cases q2:c - 1=i
    ·subst q2;rw [be (by omega),af ⟨h3,.inr (by omega)⟩];rfl
    ·rw [aT q2,ab (by rintro ⟨_,q⟩; omega),aw,ah hi];rfl
  ·have hb:(l[c].Kind==3)=false:=by rw [←lD h]; simp [h3]
   rw [hb,ab (by decide),IH h3]
 ·have hd:decide ((c:Int) < (l.length:Int))=false:=by simp; exact h
  simp only [hd,fq,bsm];rw [ab (by decide),IH (by rw [nc h]; decide)]
theorem yx (hl:l.length≤1024) (c:Nat):fP l c=some (tr l c):=by
 unfold fP;refine kX (wk (n:=l.length) (trc l c) (t:=tr l c) (fun i hi=>?_) ?_ (by omega)) rfl
 ·simp only [dlt hi,bG,bz hi,bsm,eW hi (by omega),bS];have hz:bX (decide ((c:Int) < (l.length:Int))) ((idx l c).bind fun x_29=>some (x_29.Kind==3))=some (kd l c==3):=by
   rcases aR c l.length with h | h
   ·have hd:decide ((c:Int) < (l.length:Int))=true:=by simp; exact h
    simp only [hd,eO,bz h,bsm,←lD h]
   ·have hd:decide ((c:Int) < (l.length:Int))=false:=by simp; exact h
    simp only [hd,fq];rw [nc h];rfl
  simp only [hz,bsm,bd];rw [show (kd l c==3 && ((i:Int)==(c:Int) || ((i+1:Nat):Int)==(c:Int)))=decide (kd l c=3∧(i=c∨i+1=c)) by
   rw [da];simp only [an,aC,aA,ai];omega]
  have hx:(if decide (kd l c=3∧(i=c∨i+1=c))=true then (some (0,([]:List Int)):Option (Int×(List Int))) else (some (l[i].Kind,l[i].Text):Option (Int×(List Int))))=some ((trc l c i).Kind,(trc l c i).Text):=by
   unfold trc;split
   ·rename_i h
    rw [af (Ak h)];rfl
   ·rename_i h
    rw [ab (by simpa using h),aw,ah hi];rfl
  rw [hx];simp only [bsm];rw [du (by simp; omega)];rfl
 ·simp only [dnl];rfl
def inx (l:List aa) (c n j:Nat):aa:=if j < c then (tr l c).getD j bl else if j < c+n then bl else (tr l c).getD (j - n) bl
def uY (l:List aa) (c n j:Nat):aa:=if j+1=l.length∧(inx l c n j).Kind=2 then bl else inx l c n j
def wu (l:List aa) (c n:Nat):List aa:=(List.range l.length).map (uY l c n)
theorem oQ (l:List aa) (c n:Nat):(wu l c n).length=l.length:=by simp [wu]
theorem AD {c n j:Nat} (h:j < l.length):(wu l c n)[j]? = some (uY l c n j):=by simp [wu,h]
theorem wt (l:List aa) (c n j:Nat):(inx l c n j).Kind=if j < c then kd (tr l c) j else if j < c+n then 0 else kd (tr l c) (j - n):=by
 unfold inx;split
 ·exact nV _ _
 ·split
  ·rfl
  ·exact nV _ _
theorem sZ (l:List aa) (c n j:Nat) (h:j < l.length):kd (wu l c n) j=if j+1=l.length∧(inx l c n j).Kind=2 then 0 else (inx l c n j).Kind:=by
 rw [show kd (wu l c n) j=(uY l c n j).Kind by simp [kd,AD h]];unfold uY;split <;> rfl
theorem sN (hs:Snd l) (j:Nat):rgt (l.getD j bl)=true:=by
 rcases aR j l.length with h | h
 ·exact hs.rg h
 ·rw [aw,bI h];rfl
theorem HS {A:Prop} [Decidable A] {X:Int} (h:(if A∧X=2 then (0:Int) else X)=2):X=2∧¬A:=by
 by_cases q:A∧X=2
 ·rw [af q] at h; omega
 ·rw [ab q] at h; exact ⟨h,fun a=>q ⟨a,h⟩⟩
theorem DS {A:Prop} [Decidable A] {X:Int} (h:(if A∧X=2 then (0:Int) else X)=3):X=3:=by
 by_cases q:A∧X=2
 ·rw [af q] at h; omega
 ·rwa [ab q] at h
theorem FK {A:Prop} [Decidable A] {X:Int} (h:X≠2):(if A∧X=2 then (0:Int) else X)=X:=ab fun q=>h q.2
theorem AB (hs:Snd l) (c n:Nat):Snd (wu l c n):=fun j hj=>by
 have hj':j < l.length:=by rw [oQ] at hj; exact hj
 have he:(wu l c n)[j]=uY l c n j:=by
  have:=AD (c:=c) (n:=n) hj';rw [ah hj] at this;exact aH this
 have ht:=yw hs c;have hlen:=qe l c;have hat:=wg l c;rw [←lD hj,he];refine ⟨?_,?_,?_⟩
 ·unfold uY;split
  ·rfl
  ·unfold inx;split
   ·exact sN ht j
   ·split
    ·rfl
    ·exact sN ht (j - n)
 ·intro e;rw [sZ l c n j hj',wt] at e;obtain ⟨e,hl⟩:=HS e
  ·rw [sZ l c n (j+1) (by omega),wt];have key:(if j+1 < c then kd (tr l c) (j+1) else if j+1 < c+n then 0 else kd (tr l c) (j+1 - n))=3:=by
    split at e
    ·have h3:=ht.two e;rw [af]
     ·exact h3
     ·rcases aR (j+1) c with q | q
      ·exact q
      ·obtain rfl:c=j+1:=by omega
       exact absurd h3 hat
    ·split at e
     ·cases e
     ·have h3:=ht.two e;rw [ab (by omega),ab (by omega),show j+1 - n=j - n+1 by omega];exact h3
   rw [key];exact FK (by decide)
 ·intro e;rw [sZ l c n j hj',wt] at e;have e':=DS e;split at e'
  ·obtain ⟨h0,h2⟩:=ht.three e';refine ⟨h0,?_⟩;rw [sZ l c n (j - 1) (by omega),wt,ab (by rintro ⟨q,_⟩; omega),af (by omega)];exact h2
  ·split at e'
   ·cases e'
   ·obtain ⟨h0,h2⟩:=ht.three e';have hne:j - n≠c:=by
     intro q;rw [q] at e';exact hat e'
    refine ⟨by omega,?_⟩;rw [sZ l c n (j - 1) (by omega),wt,ab (by rintro ⟨q,_⟩; omega),ab (by omega),ab (by omega),show j - 1 - n=j - n - 1 by omega];exact h2
theorem JD (hl:l.length≤1024) {c n:Nat} (hc:c < l.length) (h1:1≤n) (hn:c+n≤l.length):iJ (tr l c) n c=some (wu l c n):=by
 unfold iJ;have htl:=qe l c;rw [xb,show (max 0 (min (n:Int) 1024)).toNat=n by omega];simp only [bsm];have hi:jy (tr l c) c (List.replicate n bl)=some ((tr l c).take c++List.replicate n bl++(tr l c).drop c):=by
  unfold jy;rw [af (by rw [htl,dO]; unfold far; omega),bp]
 rw [hi];simp only [bsm];have hO:slc ((tr l c).take c++List.replicate n bl++(tr l c).drop c) 0 ((tr l c).length:Int)=some ((List.range l.length).map (inx l c n)):=by
  have:=Bz (xs:=(tr l c).take c++List.replicate n bl++(tr l c).drop c) (i:=0) (j:=(tr l c).length) (by omega) (by simp [htl]; omega);rw [show ((0:Nat):Int)=0 by rfl] at this;rw [this]
  congr 1
  refine iz (by simp [htl]; omega) fun i hi=>?_;rw [iT,aK,af (by omega),aD];unfold inx;have htk:((tr l c).take c).length=c:=by simp [htl]; omega
  split
  ·rename_i q
   rw [aG (by omega),aK,af q,aw,ah (by omega:i < (tr l c).length)];rfl
  ·rename_i q
   rw [aV (by omega),htk];split
   ·rw [aG (by simp; omega),tG,af (by omega)]
   ·rw [aV (by simp; omega),dO,bH,show c+(i - c - n)=i - n by omega,aw,ah (by omega:i - n < (tr l c).length)];rfl
 rw [hO];simp only [bsm];have e1:w64 (((tr l c).length:Int) - 1)=((l.length - 1:Nat):Int):=by rw [aL (by omega),htl]; omega
 rw [e1,bz (by simp; omega)];simp only [bsm,dv,zE];by_cases hk:(inx l c n (l.length - 1)).Kind=2
 ·rw [af (by rw [hk]; rfl),nv (by simp; omega)];simp only [bsm]
  congr 1
  refine iz (by simp) fun i hi=>?_;unfold uY;by_cases q:l.length - 1=i
  ·subst q;rw [be (by simp; omega),af ⟨by omega,hk⟩];rfl
  ·rw [aT q,ab (by rintro ⟨q,_⟩; omega)];simp [hi]
 ·rw [ab (by simp; exact hk)];simp only [bsm]
  congr 1
  refine iz (by simp) fun i hi=>?_;unfold uY;by_cases q:l.length - 1=i
  ·subst q;rw [ab (by rintro ⟨_,q⟩; exact hk q)];simp [hi]
  ·rw [ab (by rintro ⟨q,_⟩; omega)];simp [hi]
def tt (l:List aa) (c n:Nat):List aa:=tr (tr l c) (c+n)
theorem Bs (l:List aa) (c n:Nat):(tt l c n).length=l.length:=by simp [tt,qe]
def dlx (l:List aa) (c n j:Nat):aa:=if j < c then (tt l c n).getD j bl else if j+n < l.length then (tt l c n).getD (j+n) bl else bl
def wH (l:List aa) (c n:Nat):List aa:=(List.range l.length).map (dlx l c n)
theorem pb (l:List aa) (c n:Nat):(wH l c n).length=l.length:=by simp [wH]
theorem AU {c n j:Nat} (h:j < l.length):(wH l c n)[j]? = some (dlx l c n j):=by simp [wH,h]
theorem qW (l:List aa) (c n j:Nat) (h:j < l.length):kd (wH l c n) j=if j < c then kd (tt l c n) j else if j+n < l.length then kd (tt l c n) (j+n) else 0:=by
 rw [show kd (wH l c n) j=(dlx l c n j).Kind by simp [kd,AU h]];unfold dlx;split
 ·exact nV _ _
 ·split
  ·exact nV _ _
  ·rfl
theorem AQ (hs:Snd l) (c n:Nat):Snd (wH l c n):=fun j hj=>by
 have hj':j < l.length:=by rw [pb] at hj; exact hj
 have he:(wH l c n)[j]=dlx l c n j:=by
  have:=AU (c:=c) (n:=n) hj';rw [ah hj] at this;exact aH this
 have ht:Snd (tt l c n):=yw (yw hs c) (c+n);have hlen:=Bs l c n;have hat1:kd (tt l c n) c≠3:=by
  unfold tt;rw [CQ];split
  ·decide
  ·exact wg l c
 have hat2:kd (tt l c n) (c+n)≠3:=wg _ _;rw [←lD hj,he];refine ⟨?_,?_,?_⟩
 ·unfold dlx;split
  ·exact sN ht j
  ·split
   ·exact sN ht _
   ·rfl
 ·intro e;rw [qW l c n j hj'] at e;split at e
  ·have h3:=ht.two e;have hlt:=yf (l:=tt l c n) (j:=j+1) (by omega);rw [qW l c n (j+1) (by omega),af]
   ·exact h3
   ·rcases aR (j+1) c with q | q
    ·exact q
    ·obtain rfl:c=j+1:=by omega
     exact absurd h3 hat1
  ·split at e
   ·have h3:=ht.two e;have hlt:=yf (l:=tt l c n) (j:=j+n+1) (by omega);rw [qW l c n (j+1) (by omega),ab (by omega),af (by omega),show j+1+n=j+n+1 by omega];exact h3
   ·omega
 ·intro e;rw [qW l c n j hj'] at e;split at e
  ·obtain ⟨h0,h2⟩:=ht.three e;refine ⟨h0,?_⟩;rw [qW l c n (j - 1) (by omega),af (by omega)];exact h2
  ·split at e
   ·obtain ⟨h0,h2⟩:=ht.three e;have hne:j≠c:=by
     intro q;rw [q] at e;exact hat2 e
    refine ⟨by omega,?_⟩;rw [qW l c n (j - 1) (by omega),ab (by omega),af (by omega),show j - 1+n=j+n - 1 by omega];exact h2
   ·omega
theorem JQ (hs:Snd l) (hl:l.length≤1024) {c n:Nat} (hc:c < l.length) (h1:1≤n) (hn:c+n≤l.length):iK (tr l c) n c=some (wH l c n):=by
 unfold iK;have htl:=Bs l c n;have e1:w64 ((c:Int)+(n:Int))=((c+n:Nat):Int):=by rw [aL (by omega)]; simp
 rw [e1,yz (yw hs c) (by rw [qe]; exact hl)];simp only [bsm];rw [show tr (tr l c) (c+n)=tt l c n by rfl];have hd:jz (tt l c n) c ((c+n:Nat):Int)=some ((tt l c n).take c++(tt l c n).drop (c+n)):=by
  unfold jz;rw [af (by rw [htl]; omega),bp,bp]
 rw [hd,xb,show (max 0 (min (n:Int) 1024)).toNat=n by omega];simp only [bsm];rw [du (by simp [htl]; omega)];simp only [bsm]
 congr 1
 refine iz (by simp [htl]; omega) fun i hi=>?_;unfold dlx;have htk:((tt l c n).take c).length=c:=by simp [htl]; omega
 rw [aD];split
 ·rename_i q
  rw [aG (by omega),aK,af q,aw,ah (by omega:i < (tt l c n).length)];rfl
 ·rename_i q
  rw [aV (by omega),htk];split
  ·rw [aG (by simp [htl]; omega),bH,show c+n+(i - c)=i+n by omega,aw,ah (by omega:i+n < (tt l c n).length)];rfl
  ·rw [aV (by simp [htl]; omega),tG,af (by simp [htl]; omega)]
theorem Ah (h:p.length=l.length):pl l 0 p=p:=by
 symm
 refine iz h fun i hi=>?_;unfold pc;rw [af ⟨cR _,by omega⟩,qb,aw,ah (by omega)];rfl
theorem Af (h1:1≤l.length):pw l w 0 l.length=false:=by
 unfold pw tch;rw [show decide (0 < l.length)=true by simp; omega,show decide (0≤l.length - 1)=true by simp,show decide (l.length - 1 < 0+l.length)=true by simp; omega];simp
def mvs (col n:Int) (m:Nat):Bool:=decide (0≤col) && decide (col < (m:Int)) && decide (1≤n)
def ish (l:List aa) (w:Bool) (col n:Int):bm:=if mvs col n l.length=true then ⟨wu l col.toNat (min n ((l.length:Int) - col)).toNat,false⟩ else ⟨l,w⟩
def dsh (l:List aa) (w:Bool) (col n:Int):bm:=if mvs col n l.length=true then ⟨wH l col.toNat (min n ((l.length:Int) - col)).toNat,false⟩ else ⟨l,w⟩
theorem HT (hs:Snd l) (col n:Int):Snd (ish l w col n).cells:=by
 unfold ish;split
 ·exact AB hs _ _
 ·exact hs
theorem Ik (hs:Snd l) (col n:Int):Snd (dsh l w col n).cells:=by
 unfold dsh;split
 ·exact AQ hs _ _
 ·exact hs
theorem HU (col n:Int):(ish l w col n).cells.length=l.length:=by
 unfold ish;split
 ·exact oQ _ _ _
 ·rfl
theorem Il (col n:Int):(dsh l w col n).cells.length=l.length:=by
 unfold dsh;split
 ·exact pb _ _ _
 ·rfl
theorem vq {col n:Int} {m:Nat}:(decide (col < 0) || decide (col≥(m:Int)) || decide (n < 1))= !mvs col n m:=by
 rw [da];simp only [mvs,aC,dQ,Kd,ai,dX];omega
theorem yR {col n:Int} {m:Nat} (h:mvs col n m=true):∃c e:Nat,col=(c:Int)∧min n ((m:Int) - col)=(e:Int)∧c < m∧1≤e∧c+e≤m:=by
 simp only [mvs,an,ai] at h;exact ⟨col.toNat,(min n ((m:Int) - col)).toNat,by omega,by omega,by omega,by omega,by omega⟩
theorem Dm (h:s.row_Row[k]? = some ⟨l,w⟩) (hs:Snd l) (hl:l.length≤1024) (col n:Int):jZ s (some k) col n=some (s.sr k (ish l w col n)):=by
 unfold jZ dV;simp only [jt h,bsm,bS,vq];unfold ish;by_cases hm:mvs col n l.length=true
 ·obtain ⟨c,e,rfl,he,h1,h2,h3⟩:=yR hm;rw [ab (by rw [hm]; decide),af hm,tQ h (by omega) hs.sht];simp only [bsm,yz hs hl];have e1:aM n (w64 ((l.length:Int) - (c:Int)))=(e:Int):=by rw [aL (by omega),eV]; exact he
  rw [e1,JD hl h1 h2 h3,he];simp only [bsm,bp];have:=oK h hs hl (AB hs c e) (a:=0) (by rw [oQ]; omega) (by rw [oQ]; omega);rw [show ((0:Nat):Int)=0 by rfl] at this;rw [this,Ah (oQ l c e),oQ,Af (by omega)];rfl
 ·rw [af (by simpa using hm),ab hm,zQ h];rfl
theorem Dn (h:s.row_Row[k]? = some ⟨l,w⟩) (hs:Snd l) (hl:l.length≤1024) (col n:Int):ka s (some k) col n=some (s.sr k (dsh l w col n)):=by
 unfold ka dW;simp only [jt h,bsm,bS,vq];unfold dsh;by_cases hm:mvs col n l.length=true
 ·obtain ⟨c,e,rfl,he,h1,h2,h3⟩:=yR hm;rw [ab (by rw [hm]; decide),af hm,tQ h (by omega) hs.sht];simp only [bsm,yz hs hl];have e1:aM n (w64 ((l.length:Int) - (c:Int)))=(e:Int):=by rw [aL (by omega),eV]; exact he
  rw [e1,JQ hs hl h1 h2 h3,he];simp only [bsm,bp];have:=oK h hs hl (AQ hs c e) (a:=0) (by rw [pb]; omega) (by rw [pb]; omega);rw [show ((0:Nat):Int)=0 by rfl] at this;rw [this,Ah (pb l c e),pb,Af (by omega)];rfl
 ·rw [af (by simpa using hm),ab hm,zQ h];rfl
theorem Hr (hl:l.length≤1024) (col n:Int) (w:Bool):ji l col n=some ((ish l w col n).cells,mvs col n l.length):=by
 unfold ji;simp only [bsm,bS,vq];unfold ish;by_cases hm:mvs col n l.length=true
 ·rw [hm];obtain ⟨c,e,rfl,he,h1,h2,h3⟩:=yR hm;have e1:aM n (w64 ((l.length:Int) - (c:Int)))=(e:Int):=by rw [aL (by omega),eV]; exact he
  rw [ab (by decide),af rfl,yx hl,e1,he];simp only [bsm,bp];refine kX (wk (n:=l.length) (uY l c e) (t:=wu l c e) (fun i hi=>?_) ?_ (by omega)) rfl
  ·have e2:w64 ((c:Int)+(e:Int))=((c+e:Nat):Int):=by rw [aL (by omega)]; simp
   simp only [dlt hi,bG,eW hi (by omega),e2,bd,bsm];have htl:=qe l c;have hx:((if decide ((i:Int) < (c:Int))=true then (idx (tr l c) (i:Int)).bind fun x=>(some (x.Kind,x.Text):Option (Int×(List Int))) else (some (0,([]:List Int)):Option (Int×(List Int)))).bind fun z=>
     if decide ((i:Int)≥((c+e:Nat):Int))=true then (idx (tr l c) (w64 ((i:Int) - (e:Int)))).bind fun x=>(some (x.Kind,x.Text):Option (Int×(List Int))) else (some (z.1,z.2):Option (Int×(List Int))))=some ((inx l c e i).Kind,(inx l c e i).Text):=by
    unfold inx;by_cases q1:i < c
    ·rw [af (by simp; omega),bz (by omega:i < (tr l c).length)];simp only [bsm];rw [ab (by simp; omega),af q1,aw,ah (by omega:i < (tr l c).length)];rfl
    ·rw [ab (by simp; omega),ab q1];simp only [bsm];by_cases q2:i < c+e
     ·rw [ab (by simp; omega),af q2];rfl
     ·have e3:w64 ((i:Int) - (e:Int))=((i - e:Nat):Int):=by rw [aL (by omega)]; omega
      rw [af (by simp; omega),ab q2,e3,bz (by omega:i - e < (tr l c).length),aw,ah (by omega:i - e < (tr l c).length)];rfl
   refine (Bl _ _ _).symm.trans ?_;rw [hx];simp only [bsm];have hy:(if (((i+1:Nat):Int)==(l.length:Int) && (inx l c e i).Kind==2)=true then (some (0,([]:List Int)):Option (Int×(List Int))) else (some ((inx l c e i).Kind,(inx l c e i).Text):Option (Int×(List Int))))=some ((uY l c e i).Kind,(uY l c e i).Text):=by
    unfold uY;by_cases q:i+1=l.length∧(inx l c e i).Kind=2
    ·rw [af (by simp only [an,aA]; omega),af q];rfl
    ·rw [ab (by simp only [an,aA]; omega),ab q]
   rw [hy];simp only [bsm];rw [du (by simp; omega)];rfl
  ·simp only [dnl];rfl
 ·rw [af (by simpa using hm),ab hm];simp only [L0] at hm;rw [hm]
theorem Hs (hl:l.length≤1024) (col n:Int) (w:Bool):jj l col n=some ((dsh l w col n).cells,mvs col n l.length):=by
 unfold jj;simp only [bsm,bS,vq];unfold dsh;by_cases hm:mvs col n l.length=true
 ·rw [hm];obtain ⟨c,e,rfl,he,h1,h2,h3⟩:=yR hm;have e1:aM n (w64 ((l.length:Int) - (c:Int)))=(e:Int):=by rw [aL (by omega),eV]; exact he
  have e2:w64 ((c:Int)+(e:Int))=((c+e:Nat):Int):=by rw [aL (by omega)]; simp
  rw [ab (by decide),af rfl,yx hl,e1,he];simp only [bsm,bp,e2];rw [yx (by rw [qe]; exact hl)];simp only [bsm];rw [show tr (tr l c) (c+e)=tt l c e by rfl];refine kX (wk (n:=l.length) (dlx l c e) (t:=wH l c e) (fun i hi=>?_) ?_ (by omega)) rfl
  ·have htl:=Bs l c e;have e3:w64 ((i:Int)+(e:Int))=((i+e:Nat):Int):=by rw [aL (by omega)]; simp
   simp only [dlt hi,bG,eW hi (by omega),e3];have hx:(if decide ((i:Int) < (c:Int))=true then (idx (tt l c e) (i:Int)).bind fun x=>(some (x.Kind,x.Text):Option (Int×(List Int))) else if decide (((i+e:Nat):Int) < (l.length:Int))=true then (idx (tt l c e) ((i+e:Nat):Int)).bind fun x=>(some (x.Kind,x.Text):Option (Int×(List Int))) else (some (0,([]:List Int)):Option (Int×(List Int))))=some ((dlx l c e i).Kind,(dlx l c e i).Text):=by
    unfold dlx;by_cases q1:i < c
    ·rw [af (by simp; omega),bz (by omega:i < (tt l c e).length),af q1,aw,ah (by omega:i < (tt l c e).length)];rfl
    ·rw [ab (by simp; omega),ab q1];by_cases q2:i+e < l.length
     ·rw [af (by simp only [ai]; omega),af q2,bz (by omega:i+e < (tt l c e).length),aw,ah (by omega:i+e < (tt l c e).length)];rfl
     ·rw [ab (by simp only [ai]; omega),ab q2];rfl
   rw [hx];simp only [bsm];rw [du (by simp; omega)];rfl
  ·simp only [dnl];rfl
 ·rw [af (by simpa using hm),ab hm];simp only [L0] at hm;rw [hm]
end Go.Proofs.YtceciacilfhmjaaGreatDoor
namespace Go.Proofs.YtceciacilfhmjaaGreatDoor
open Go Go.Lt
variable {s C:Sto} {g k W:Nat} {ks:List Nat} {q:ae}
def w38 (o:ba):Int:=if o.Kind < 2∨12 < o.Kind then 5 else if (o.Kind=3∨o.Kind=4)∧(o.A < 0∨2 < o.A) then 3 else 0
def e38 (o:ba):Er:=if w38 o=5 then .sent 5 else if w38 o=3 then .sent 3 else .nil
theorem Bp (o:ba):w38 o=5∨w38 o=3∨w38 o=0:=by
  unfold w38
  repeat' split
  all_goals simp
def D3 (n:Int):Bool:=decide (2≤n) && decide (n≤12)
theorem D1 (n:Int):mO n=some (D3 n):=by
  unfold mO D3;simp only [bd,bsm,BU]
theorem KS (o:ba):D3 o.Kind=(w38 o != 5):=by
  rw [da];unfold D3 w38;simp only [an,ai,qQ,LN]
  repeat' split
  all_goals omega
theorem wF (o:ba):ky o=some (e38 o):=by
  unfold ky;rw [D1];have hd:D3 o.Kind= !decide (o.Kind < 2∨12 < o.Kind):=by
    rw [da];simp only [D3,an,ai,dQ,dX];omega
  simp only [bsm,hd,bd,bS,Bool.not_not];unfold e38;by_cases h:o.Kind < 2∨12 < o.Kind
  · have e:w38 o=5:=by unfold w38; rw [af h]
    rw [af (by simpa using h),af e]
  · rw [ab (by simpa using h)]
    by_cases h2:(o.Kind=3∨o.Kind=4)∧(o.A < 0∨2 < o.A)
    · have e:w38 o=3:=by unfold w38; rw [ab h,af h2]
      rw [af (by simp only [an,aC,ai,qQ,LN]; omega),e];rfl
    · have e:w38 o=0:=by unfold w38; rw [ab h,ab h2]
      rw [ab (by simp only [an,aC,ai,qQ,LN]; omega),e];rfl
theorem Gh (o:ba):nI (e38 o)=some (w38 o):=by
  unfold e38;rcases Bp o with h | h | h <;> rw [h] <;> rfl
theorem Ij (o:ba):(e38 o).isNil=(w38 o==0):=by
  unfold e38;rcases Bp o with h | h | h <;> rw [h] <;> rfl
def lt (r:bm):aq:=⟨r.cells,r.wrap⟩
theorem GO (h:Pv C s k g W q ks) {i:Nat} (hi:i < ks.length) (x a b:Int):dw q i x a b=some ⟨q.L.set i (lt (ac (q.L.getD i dl).Cells (q.L.getD i dl).Wrap x a b)),q.At,q.Auto⟩:=by
  have hl:=h.len;have hlt:i < q.L.length:=by omega
  have hok:=h.ok _ (aF hlt);have w2:=h.g.w2;unfold dw;rw [bz hlt];simp only [bsm];rw [Ht _ _ (by rw [hok.2]; exact w2)];simp only [bsm];rw [sO h hi,gdl hlt];rfl
theorem Pv.ac (h:Pv C s k g W q ks) {i:Nat} (hi:i < ks.length) (x a b:Int):Pv C (s.sr ks[i] (ac (q.L.getD i dl).Cells (q.L.getD i dl).Wrap x a b)) k g W ⟨q.L.set i (lt (Go.Proofs.YtceciacilfhmjaaGreatDoor.ac (q.L.getD i dl).Cells (q.L.getD i dl).Wrap x a b)),q.At,q.Auto⟩ ks:=by
  have hl:=h.len;have hlt:i < q.L.length:=by omega
  have hok:=h.ok _ (aF hlt);have e:q.L.getD i dl=q.L[i]:=gdl hlt;rw [e];exact h.row hi (J0 hok.1 x a b) (by rw [J1]; exact hok.2)
theorem Pv.rw_ (h:Pv C s k g W q ks) {i:Nat} (hi:i < ks.length):s.row_Row[ks[i]]? = some ⟨(q.L.getD i dl).Cells,(q.L.getD i dl).Wrap⟩∧Snd (q.L.getD i dl).Cells∧(q.L.getD i dl).Cells.length=W:=by
  have hl:=h.len;have hlt:i < q.L.length:=by omega
  have hok:=h.ok _ (aF hlt);obtain ⟨r,h1,h2,h3⟩:=h.g.at hi;have e:q.L[i]=⟨r.cells,r.wrap⟩:=by rw [h.at hi,oN h1]
  rw [gdl hlt,e];exact ⟨h1,h2,h3⟩
def md (mode:Int):Int:=if mode=0 then 2 else if mode=1 then 1 else 3
theorem yq (h:Pv C s k g W q ks) {i:Nat} (hi:i < ks.length) (hr:q.At.Row=(i:Int)) (mode:Int):ly s (some k) mode=some (s.sr ks[i] (ac (q.L.getD i dl).Cells (q.L.getD i dl).Wrap (md mode) q.At.Col 0)):=by
  obtain ⟨r1,r2,r3⟩:=h.rw_ hi;have w2:=h.g.w2;unfold ly md;simp only [bsm,h.p,hr];rw [eZ h.g hi];simp only [bsm];by_cases h0:mode=0
  · rw [af (by simpa using h0),af h0,AL r1 r2 (by omega) _ 0]
    rfl
  · rw [ab (by simpa using h0),ab h0]
    by_cases h1:mode=1
    · rw [af (by simpa using h1),af h1,BX r1 r2 (by omega) _ 0]
      rfl
    · rw [ab (by simpa using h1),ab h1,yp r1 r2 (by omega) q.At.Col 0]
      rfl
def eS (cond:Nat→Bool) (L:List aq):Nat→List aq
  | 0=>L
  | i+1=>if cond i=true then (eS cond L i).set i (lt (ac ((eS cond L i).getD i dl).Cells ((eS cond L i).getD i dl).Wrap 3 0 0)) else eS cond L i
def cnd (mode:Int) (row:Int) (i:Nat):Bool:=mode==2 || (mode==0 && decide ((i:Int) > row)) || (mode==1 && decide ((i:Int) < row))
theorem zW (h:Pv C s k g W q ks) (mode:Int) {H:Int} (hH:H=(ks.length:Int)):∃s',(cV (σ:=Int×Sto) (τ:=Sto) ((H - 0).toNat+1) (fun s_12=>
 if (decide (s_12.1 < H))=true then
 ((orE (mode==2) ((bX (mode==0) ((s_12.2.place_Pen[k]?).bind fun o_32=>
 some (decide (s_12.1 > o_32.At.Row)))).bind fun d_25=>
 some d_25)).bind fun d_21=>
 (orE d_21 ((bX (mode==1) ((s_12.2.place_Pen[k]?).bind fun o_45=>
 some (decide (s_12.1 < o_45.At.Row)))).bind fun d_38=>
 some d_38)).bind fun d_34=>
 if d_34=true then
 (s_12.2.place_Pen[k]?).bind fun o_51=>
 (bB s_12.2 o_51.G s_12.1).bind fun x_53=>
 (kh s_12.2 x_53).bind fun x_54=>
 (some (x_54):Option (Sto))
 else
 (some (s_12.2):Option (Sto))).bind fun z_15=>
 some (.inl ((w64 (s_12.1+1)),z_15))
 else
 some (.inr (s_12.2))) (0,s))=some s'∧Pv C s' k g W ⟨eS (cnd mode q.At.Row) q.L ks.length,q.At,q.Auto⟩ ks:=by
  subst hH;have hh:=h.g.h2;refine eY (n:=ks.length) (fun i st=>st.1=(i:Int)∧Pv C st.2 k g W ⟨eS (cnd mode q.At.Row) q.L i,q.At,q.Auto⟩ ks) (fun st=>Pv C st k g W ⟨eS (cnd mode q.At.Row) q.L ks.length,q.At,q.Auto⟩ ks) (fun i st hi hI=>?_) (fun st hI=>?_) ⟨rfl,h⟩ (by omega)
  · obtain ⟨i',st⟩:=st
    obtain ⟨e,v⟩:=hI;simp only at e v;subst e;simp only;rw [af (dlt hi)];have hp:=v.p;simp only at hp;simp only [hp,bsm,bd,bS];rw [eW hi (by omega)];by_cases hc:cnd mode q.At.Row i=true
    · rw [af (show (mode==2 || mode==0 && decide ((i:Int) > q.At.Row) || mode==1 && decide ((i:Int) < q.At.Row))=true from hc),eZ v.g hi]
      obtain ⟨r1,r2,r3⟩:=v.rw_ hi;simp only [bsm];have w2:=h.g.w2;rw [yp r1 r2 (by omega) 0 0];refine .inl ⟨_,rfl,rfl,?_⟩;simp only [eS];rw [af hc];exact v.ac hi 3 0 0
    · rw [ab (show ¬(mode==2 || mode==0 && decide ((i:Int) > q.At.Row) || mode==1 && decide ((i:Int) < q.At.Row))=true from hc)]
      refine .inl ⟨_,rfl,rfl,?_⟩;simp only [eS];rw [ab hc];exact v
  · obtain ⟨i',st⟩:=st
    obtain ⟨e,v⟩:=hI;simp only at e v;subst e;exact ⟨st,by simp,v⟩
theorem BN (h:Pv C s k g W q ks) (kind mode:Int):(cV (σ:=Int×(List aq)×Int×Int×Bool×Bool) (τ:=((List aq)×Int×Int×Bool×Bool)) (((q.L.length:Int) - 0).toNat+1) (fun s_23=>
 (bX (decide (s_23.1 < (s_23.2.1.length:Int))) (some (kind==4))).bind fun d_29=>
 if d_29=true then
 ((orE (mode==2) ((bX (mode==0) (some (decide (s_23.1 > s_23.2.2.1)))).bind fun d_41=>
 some d_41)).bind fun d_37=>
 (orE d_37 ((bX (mode==1) (some (decide (s_23.1 < s_23.2.2.1)))).bind fun d_52=>
 some d_52)).bind fun d_48=>
 if d_48=true then
 (dw (⟨s_23.2.1,(⟨s_23.2.2.1,s_23.2.2.2.1,s_23.2.2.2.2.1⟩:aj),s_23.2.2.2.2.2⟩:ae) s_23.1 3 0 0).bind fun x_62=>
 (some (x_62.L,x_62.At.Row,x_62.At.Col,x_62.At.Pending,x_62.Auto):Option ((List aq)×Int×Int×Bool×Bool))
 else
 (some (s_23.2.1,s_23.2.2.1,s_23.2.2.2.1,s_23.2.2.2.2.1,s_23.2.2.2.2.2):Option ((List aq)×Int×Int×Bool×Bool))).bind fun z_34=>
 some (.inl ((w64 (s_23.1+1)),z_34.1,z_34.2.1,z_34.2.2.1,z_34.2.2.2.1,z_34.2.2.2.2))
 else
 some (.inr (s_23.2.1,s_23.2.2.1,s_23.2.2.2.1,s_23.2.2.2.2.1,s_23.2.2.2.2.2))) (0,q.L,q.At.Row,q.At.Col,q.At.Pending,q.Auto))=
    some (if kind=4 then eS (cnd mode q.At.Row) q.L ks.length else q.L,q.At.Row,q.At.Col,q.At.Pending,q.Auto):=by
  have hh:=h.g.h2;have hl:=h.len;by_cases hk:kind=4
  · subst hk
    rw [af rfl];obtain ⟨t,h1,h2⟩:=eY (σ:=Int×(List aq)×Int×Int×Bool×Bool) (τ:=((List aq)×Int×Int×Bool×Bool)) (n:=ks.length) (fuel:=((q.L.length:Int) - 0).toNat+1) (s:=(0,q.L,q.At.Row,q.At.Col,q.At.Pending,q.Auto))
      (fun i st=>st=((i:Int),eS (cnd mode q.At.Row) q.L i,q.At.Row,q.At.Col,q.At.Pending,q.Auto)∧∃s',Pv C s' k g W ⟨eS (cnd mode q.At.Row) q.L i,q.At,q.Auto⟩ ks) (fun t=>t=(eS (cnd mode q.At.Row) q.L ks.length,q.At.Row,q.At.Col,q.At.Pending,q.Auto))
      (step:=fun s_23=>
 (bX (decide (s_23.1 < (s_23.2.1.length:Int))) (some ((4:Int)==4))).bind fun d_29=>
 if d_29=true then
 ((orE (mode==2) ((bX (mode==0) (some (decide (s_23.1 > s_23.2.2.1)))).bind fun d_41=>
 some d_41)).bind fun d_37=>
 (orE d_37 ((bX (mode==1) (some (decide (s_23.1 < s_23.2.2.1)))).bind fun d_52=>
 some d_52)).bind fun d_48=>
 if d_48=true then
 (dw (⟨s_23.2.1,(⟨s_23.2.2.1,s_23.2.2.2.1,s_23.2.2.2.2.1⟩:aj),s_23.2.2.2.2.2⟩:ae) s_23.1 3 0 0).bind fun x_62=>
 (some (x_62.L,x_62.At.Row,x_62.At.Col,x_62.At.Pending,x_62.Auto):Option ((List aq)×Int×Int×Bool×Bool))
 else
 (some (s_23.2.1,s_23.2.2.1,s_23.2.2.2.1,s_23.2.2.2.2.1,s_23.2.2.2.2.2):Option ((List aq)×Int×Int×Bool×Bool))).bind fun z_34=>
 some (.inl ((w64 (s_23.1+1)),z_34.1,z_34.2.1,z_34.2.2.1,z_34.2.2.2.1,z_34.2.2.2.2))
 else
 some (.inr (s_23.2.1,s_23.2.2.1,s_23.2.2.2.1,s_23.2.2.2.2.1,s_23.2.2.2.2.2)))
      (fun i st hi hI=>by
        obtain ⟨rfl,s',v⟩:=hI;have hvl:(eS (cnd mode q.At.Row) q.L i).length=ks.length:=v.len;simp only [bd,bsm,bS];rw [af (by simp [hvl,hi]),eW hi (by omega)];by_cases hc:cnd mode q.At.Row i=true
        · rw [af (show (mode==2 || mode==0 && decide ((i:Int) > q.At.Row) || mode==1 && decide ((i:Int) < q.At.Row))=true from hc)]
          have ha:=GO v hi 3 0 0;rw [show (⟨eS (cnd mode q.At.Row) q.L i,⟨q.At.Row,q.At.Col,q.At.Pending⟩,q.Auto⟩:ae)=⟨eS (cnd mode q.At.Row) q.L i,q.At,q.Auto⟩ from rfl,ha];refine .inl ⟨_,rfl,?_,s'.sr ks[i] (ac ((eS (cnd mode q.At.Row) q.L i).getD i dl).Cells ((eS (cnd mode q.At.Row) q.L i).getD i dl).Wrap 3 0 0),?_⟩
          · simp only [eS]
            rw [af hc]
          · simp only [eS]
            rw [af hc];exact v.ac hi 3 0 0
        · rw [ab (show ¬(mode==2 || mode==0 && decide ((i:Int) > q.At.Row) || mode==1 && decide ((i:Int) < q.At.Row))=true from hc)]
          refine .inl ⟨_,rfl,?_,s',?_⟩
          · simp only [eS]
            rw [ab hc]
          · simp only [eS]
            rw [ab hc];exact v)
      (fun st hI=>by
        obtain ⟨rfl,s',v⟩:=hI;have hvl:(eS (cnd mode q.At.Row) q.L ks.length).length=ks.length:=v.len;refine ⟨_,?_,rfl⟩;simp only [bd,bsm];rw [ab (by simp [hvl])])
      ⟨rfl,s,h⟩ (by omega)
    rw [h1,h2]
  · rw [ab hk]
    have hf:(kind==4)=false:=by simpa using hk
    rw [show ((q.L.length:Int) - 0).toNat+1=q.L.length+1 by omega];simp only [cV,hf,bd,GU,bsm,am,aU]
theorem Ez (h:Pv C s k g W q ks) {i:Nat} (hi:i < ks.length) {c:List aa} {done:Bool} {r:bm} (hc:c=r.cells) (hd:done=true→r.wrap=false) (hn:done=false→r=⟨(q.L.getD i dl).Cells,(q.L.getD i dl).Wrap⟩) {z:ae} (hz:z=q):
    (if done=true then (cy z i ⟨c,false⟩).bind fun x_172=>(some (x_172.L,x_172.At.Row,x_172.At.Col,x_172.At.Pending,x_172.Auto):Option ((List aq)×Int×Int×Bool×Bool))
     else (some (z.L,z.At.Row,z.At.Col,z.At.Pending,z.Auto):Option ((List aq)×Int×Int×Bool×Bool)))=some (q.L.set i (lt r),q.At.Row,q.At.Col,q.At.Pending,q.Auto):=by
  subst hz hc;have hl:=h.len
  cases done with
  | true=>
    rw [af rfl,sO h hi];simp only [bsm];unfold lt;rw [hd rfl]
  | false=>
    rw [ab (by simp),hn rfl];unfold lt;rw [gdl (show i < z.L.length by omega),Ka]
theorem FL {l:List aa} {w:Bool} {a b:Int}:(mvs a b l.length=true→(ish l w a b).wrap=false)∧(mvs a b l.length=false→ish l w a b=⟨l,w⟩):=by
  unfold ish;refine ⟨fun h=>by rw [af h],fun h=>by rw [ab (by rw [h]; simp)]⟩
theorem F9 {l:List aa} {w:Bool} {a b:Int}:(mvs a b l.length=true→(dsh l w a b).wrap=false)∧(mvs a b l.length=false→dsh l w a b=⟨l,w⟩):=by
  unfold dsh;refine ⟨fun h=>by rw [af h],fun h=>by rw [ab (by rw [h]; simp)]⟩
theorem CP (h:Pv C s k g W q ks) {i:Nat} (hi:i < ks.length) (hr:q.At.Row=(i:Int)) (kind:Int) {mode:Int} (hm:0≤mode∧mode≤2):∃L1,L1=q.L.set i (lt (ac (q.L.getD i dl).Cells (q.L.getD i dl).Wrap (md mode) q.At.Col 0))∧
    jO q kind mode=some ⟨if kind=4 then eS (cnd mode q.At.Row) L1 ks.length else L1,q.At,q.Auto⟩:=by
  refine ⟨_,rfl,?_⟩;unfold jO;have hidx:idx ([2,1,3]:List Int) mode=some (md mode):=by
    have:mode=0∨mode=1∨mode=2:=by omega
    rcases this with e | e | e <;> rw [e] <;> rfl
  have v:=h.ac hi (md mode) q.At.Col 0;have e0:dw q q.At.Row (md mode) q.At.Col 0=some ⟨q.L.set i (lt (ac (q.L.getD i dl).Cells (q.L.getD i dl).Wrap (md mode) q.At.Col 0)),q.At,q.Auto⟩:=by
    rw [hr];exact GO h hi _ _ _
  rw [hidx];simp only [bsm];rw [e0];simp only [bsm];have:=BN v kind mode;simp only at this;rw [this];rfl
theorem Ih (h:Pv C s k g W q ks) (o:ba) (hw:w38 o=0):∃s' q' ks',oW s (some k) o=some (s',Er.nil)∧lf q o=some q'∧Pv C s' k g W q' ks'∧ks'.length=ks.length∧Hd q'.At W ks.length∧q'.At.Pending=false:=by
  have hh:=h.g.h2;have h1:=h.g.h1;have w1:=h.g.w1;have w2:=h.g.w2;have hkind:2≤o.Kind∧o.Kind≤12:=by
    unfold w38 at hw;split at hw
    · cases hw
    · omega
  have hmode:(o.Kind=3∨o.Kind=4)→0≤o.A∧o.A≤2:=fun e=>by
    unfold w38 at hw;rw [ab (by omega)] at hw;split at hw
    · cases hw
    · omega
  have hnil:e38 o=Er.nil:=by unfold e38; rw [hw]; rfl
  have hd0:=wy q.At w1 h1;have hv:Pv C (s.sp k ⟨some g,⟨(hc q.At W ks.length).Row,(hc q.At W ks.length).Col,false⟩,q.Auto⟩) k g W ⟨q.L,⟨(hc q.At W ks.length).Row,(hc q.At W ks.length).Col,false⟩,q.Auto⟩ ks:=h.set _ _;have hd:Hd ⟨(hc q.At W ks.length).Row,(hc q.At W ks.length).Col,false⟩ W ks.length:=⟨hd0.rr,hd0.cc,fun e=>by cases e⟩;unfold oW lf;rw [wF,hnil,qp h];simp only [bsm,Er.isNil,eK,am,aU,bO,db,h.p];rw [jE h.g,eL h.g];simp only [bsm];rw [tl _ w1 w2 h1 hh];simp only [bsm];rw [jc (cX h.p)];simp only [bsm];rw [jc (by simp [Sto.sp]; exact cX h.p),zR];simp only [bsm];generalize hc q.At W ks.length=c at *;obtain ⟨i,hi⟩:∃i:Nat,c.Row=(i:Int):=⟨c.Row.toNat,by have:=hd.rr; simp only at this; omega⟩;have hik:i < ks.length:=by have:=hd.rr; simp only at this; omega
  have hlen:=hv.len;simp only at hlen;obtain ⟨c1,c2,c3⟩:=c;simp only at hi hv hd;subst hi;simp only;rw [bz (show i < q.L.length by omega)];simp only [bsm];generalize s.sp k ⟨some g,⟨(i:Int),c2,false⟩,q.Auto⟩=s1 at *;obtain ⟨L,⟨_,_,_⟩,au⟩:=q;simp only at hv hlen⊢;obtain ⟨r1,r2,r3⟩:=hv.rw_ hik;simp only at r1 r2 r3;obtain ⟨kd_,A,B,bs⟩:=o;simp only at hkind hmode⊢;have hcell:L[i]'(by omega)=L.getD i dl:=(gdl (by omega)).symm;rw [hcell];have:kd_=2∨kd_=3∨kd_=4∨kd_=5∨kd_=6∨kd_=7∨kd_=8∨kd_=9∨kd_=10∨kd_=11∨kd_=12:=by omega
  have hcc:=hd.cc;simp only at hcc;rcases this with e | e | e | e | e | e | e | e | e | e | e <;> subst e <;> simp only [Int.reduceBEq,am,aU,bG,bsm]
  ·
    unfold fG;simp only [bsm,hv.p];rw [eZ hv.g hik];simp only [bsm,Int.reduceBEq,bG];rw [jE hv.g,eL hv.g];simp only [bsm];unfold kQ;rw [tl _ w1 w2 h1 hh,sP hv,hlen];simp only [bsm];rw [Ae _ w1 w2 h1 hh,jc (cX hv.p)];exact ⟨_,_,ks,rfl,rfl,hv.set (hc ⟨A,B,false⟩ W ks.length) au,rfl,wy _ w1 h1,by simp [hc]⟩
  ·
    have hm:=hmode (.inl rfl);obtain ⟨L1,e1,e2⟩:=CP hv hik rfl 3 hm;simp only at e1;rw [e2];unfold fG;simp only [bsm,hv.p];rw [eZ hv.g hik];simp only [bsm,Int.reduceBEq,am,aU,bG];rw [yq hv hik rfl A];refine ⟨_,_,ks,rfl,rfl,?_,rfl,hd,rfl⟩;have:=hv.ac hik (md A) c2 0;simp only at this;rw [ab (by decide),e1];exact this
  ·
    have hm:=hmode (.inr rfl);obtain ⟨L1,e1,e2⟩:=CP hv hik rfl 4 hm;simp only at e1;rw [e2];unfold fG;simp only [bsm,hv.p];rw [eZ hv.g hik];simp only [bsm,Int.reduceBEq,am,aU,bG];unfold mB;rw [yq hv hik rfl A];have hv2:=hv.ac hik (md A) c2 0;simp only at hv2;rw [←e1] at hv2;simp only [bsm,hv2.p];rw [eL hv2.g];simp only [bsm];obtain ⟨s',l1,l2⟩:=zW hv2 A rfl;rw [l1];exact ⟨_,_,ks,rfl,rfl,l2,rfl,hd,rfl⟩
  ·
    unfold fG;simp only [bsm,hv.p];rw [eZ hv.g hik];simp only [bsm,Int.reduceBEq,am,aU,bG];rw [AM r1 r2 (by omega),GO hv hik];exact ⟨_,_,ks,rfl,rfl,hv.ac hik 4 c2 A,rfl,hd,rfl⟩
  ·
    have hsn:=HT (w:=(L.getD i dl).Wrap) r2 c2 A;have hlw:=HU (l:=(L.getD i dl).Cells) (w:=(L.getD i dl).Wrap) c2 A;have hdn:=FL (l:=(L.getD i dl).Cells) (w:=(L.getD i dl).Wrap) (a:=c2) (b:=A);unfold fG;simp only [bsm,hv.p];rw [eZ hv.g hik];simp only [bsm,Int.reduceBEq,am,aU,bG];rw [Dm r1 r2 (by omega),Hr (by omega) _ _ (L.getD i dl).Wrap];simp only [bsm];have:=Ez hv hik (c:=(ish (L.getD i dl).Cells (L.getD i dl).Wrap c2 A).cells) (done:=mvs c2 A (L.getD i dl).Cells.length) (r:=ish (L.getD i dl).Cells (L.getD i dl).Wrap c2 A) rfl hdn.1 hdn.2 rfl;simp only at this;rw [this];exact ⟨_,_,ks,rfl,rfl,hv.row hik hsn (by rw [hlw]; exact r3),rfl,hd,rfl⟩
  ·
    have hsn:=Ik (w:=(L.getD i dl).Wrap) r2 c2 A;have hlw:=Il (l:=(L.getD i dl).Cells) (w:=(L.getD i dl).Wrap) c2 A;have hdn:=F9 (l:=(L.getD i dl).Cells) (w:=(L.getD i dl).Wrap) (a:=c2) (b:=A);unfold fG;simp only [bsm,hv.p];rw [eZ hv.g hik];simp only [bsm,Int.reduceBEq,am,aU,bG];rw [Dn r1 r2 (by omega),Hs (by omega) _ _ (L.getD i dl).Wrap];simp only [bsm];have:=Ez hv hik (c:=(dsh (L.getD i dl).Cells (L.getD i dl).Wrap c2 A).cells) (done:=mvs c2 A (L.getD i dl).Cells.length) (r:=dsh (L.getD i dl).Cells (L.getD i dl).Wrap c2 A) rfl hdn.1 hdn.2 rfl;simp only at this;rw [this];exact ⟨_,_,ks,rfl,rfl,hv.row hik hsn (by rw [hlw]; exact r3),rfl,hd,rfl⟩
  ·
    obtain ⟨s',ks',u1,⟨u2,u3,u4,u5⟩,u6,u7⟩:=AO hv.g hv.nd (i:Int) (ks.length:Int) A;have hm:=qo (W:=W) (L:=L) (by omega) w2 (fun x hx=>(hv.ok x hx).2) (i:Int) (ks.length:Int) A false;rw [hlen] at hm⊢;unfold iq;simp only [bsm,hv.p];rw [eL hv.g];simp only [bsm,Int.reduceBEq,am,aU,bG];rw [u1,hm];have hp:s'.place_Pen[k]? = some ⟨some g,⟨(i:Int),c2,false⟩,au⟩:=by rw [mz u6]; exact hv.p
    simp only [bsm,hp,dr];rw [jc (cX hp)];refine ⟨_,_,ks',rfl,rfl,⟨Bw (cX hp),u2.sp _ _,u3,?_,(sM u6).trans hv.o,(hv.f.step u7 (mz u6)).sp _⟩,u4,⟨hd.rr,by simp only; omega,fun e=>by cases e⟩,rfl⟩;exact u5.trans (by rw [hv.l])
  ·
    obtain ⟨s',ks',u1,⟨u2,u3,u4,u5⟩,u6,u7⟩:=Bq hv.g hv.nd (i:Int) (ks.length:Int) A;have hm:=qo (W:=W) (L:=L) (by omega) w2 (fun x hx=>(hv.ok x hx).2) (i:Int) (ks.length:Int) A true;rw [hlen] at hm⊢;unfold iq;simp only [bsm,hv.p];rw [eL hv.g];simp only [bsm,Int.reduceBEq,am,aU,bG];rw [u1,hm];have hp:s'.place_Pen[k]? = some ⟨some g,⟨(i:Int),c2,false⟩,au⟩:=by rw [mz u6]; exact hv.p
    simp only [bsm,hp,dr];rw [jc (cX hp)];refine ⟨_,_,ks',rfl,rfl,⟨Bw (cX hp),u2.sp _ _,u3,?_,(sM u6).trans hv.o,(hv.f.step u7 (mz u6)).sp _⟩,u4,⟨hd.rr,by simp only; omega,fun e=>by cases e⟩,rfl⟩;exact u5.trans (by rw [hv.l])
  ·
    obtain ⟨s',ks',u1,⟨u2,u3,u4,u5⟩,u6,u7⟩:=Bq hv.g hv.nd 0 (ks.length:Int) A;have hm:=qo (W:=W) (L:=L) (by omega) w2 (fun x hx=>(hv.ok x hx).2) 0 (ks.length:Int) A true;rw [hlen] at hm⊢;unfold iq;simp only [bsm,hv.p];rw [eL hv.g];simp only [bsm,Int.reduceBEq,am,aU,bG];rw [u1,hm];refine ⟨_,_,ks',rfl,rfl,⟨by rw [mz u6]; exact hv.p,u2,u3,?_,(sM u6).trans hv.o,hv.f.step u7 (mz u6)⟩,u4,hd,rfl⟩;exact u5.trans (by rw [hv.l])
  ·
    obtain ⟨s',ks',u1,⟨u2,u3,u4,u5⟩,u6,u7⟩:=AO hv.g hv.nd 0 (ks.length:Int) A;have hm:=qo (W:=W) (L:=L) (by omega) w2 (fun x hx=>(hv.ok x hx).2) 0 (ks.length:Int) A false;rw [hlen] at hm⊢;unfold iq;simp only [bsm,hv.p];rw [eL hv.g];simp only [bsm,Int.reduceBEq,am,aU,bG];rw [u1,hm];refine ⟨_,_,ks',rfl,rfl,⟨by rw [mz u6]; exact hv.p,u2,u3,?_,(sM u6).trans hv.o,hv.f.step u7 (mz u6)⟩,u4,hd,rfl⟩;exact u5.trans (by rw [hv.l])
  ·
    unfold fG;simp only [bsm,hv.p];rw [eZ hv.g hik];simp only [bsm,Int.reduceBEq,am,aU,bG];rw [jc (cX hv.p)];exact ⟨_,_,ks,rfl,rfl,hv.set ⟨(i:Int),c2,false⟩ (A != 0),rfl,hd,rfl⟩
end Go.Proofs.YtceciacilfhmjaaGreatDoor
namespace Go.Proofs.YtceciacilfhmjaaGreatDoor
open Go Go.Lt
variable {s C:Sto} {x f k g W H:Nat} {q P:ae} {ks:List Nat} {op:Option Nat}
structure Mo where
 P:ae
 G:List Int
 h:List Int
structure Sd (C s:Sto) (x f k:Nat) (m:Mo) (q:ae):Prop where
 sc:s.screen_Screen[x]? = some ⟨some f,some k⟩
 bt:Bts m.h
 fd:∃g W H ks op,Fd C s f k g W H m.P m.G m.h q ks op
def lay (P:ae) (G:List Int):Option ae:=fo vX P (cls pj pr G)
def mdo (m:Mo) (o:ba):Option Mo:=
 if o.Kind=0 then some ⟨m.P,m.G++(ii m.h o.Bytes).1,(ii m.h o.Bytes).2⟩
 else if o.Kind=1 then (lay m.P (m.G++(if m.h= [] then [] else [65533]))).map fun q=>⟨q,[],[]⟩
 else if o.Kind=13 then (lay m.P m.G).bind fun q=>(pu q o.A o.B).map fun q'=>⟨q',[],m.h⟩
 else if w38 o=0 then (lay m.P m.G).bind fun q=>(lf q o).map fun q'=>⟨q',[],m.h⟩
 else some m
def w40 (o:ba):Int:=if o.Kind=0∨o.Kind=1∨o.Kind=13 then 0 else w38 o
def e40 (o:ba):Er:=if o.Kind=0∨o.Kind=1∨o.Kind=13 then Er.nil else e38 o
theorem Gg (o:ba):nI (e40 o)=some (w40 o):=by
 unfold e40 w40;split
 ·rfl
 ·exact Gh o
theorem Fd.pen_work {h:List Int} (F:Fd C s f k g W H P [] h q ks none) {s':Sto} {g' W':Nat} {q':ae} {ks':List Nat} (v:Pv s s' k g' W' q' ks') (hh:Hd q'.At W' ks'.length):Fd C s' f k g' W' ks'.length q' [] h q' ks' none:=by
 obtain ⟨d,hd,hdv⟩:=F.d;refine ⟨v.self,F.fr.trans F.v.oG F.v.oR v.f,F.fz.oth v.o,rfl,hh,rfl,F.gv,⟨d,?_,hdv⟩,fun _=>rfl,fun e=>by cases e⟩;rw [po v.o];exact hd
def vw (q:ae):bU:=⟨(q.L.getD 0 dl).Cells.length,(q.L.length:Int),q.L,q.At,q.Auto⟩
theorem nT {m:Mo} (S:Sd C s x f k m q):di s (some x)=some (vw q):=by
 obtain ⟨g,W,H,ks,op,F⟩:=S.fd;unfold di vw;simp only [bO,am,aU,bsm,S.sc,F.v.p];rw [jE F.v.g,eL F.v.g,BT F.v.g,F.v.l];simp only [bsm];have hl:=F.v.len;have h1:=F.v.g.h1;rw [gdl (show 0 < q.L.length by omega),(F.v.ok _ (aF (show 0 < q.L.length by omega))).2,hl]
theorem zX {m:Mo} (S:Sd C s x f k m q):fM s (some x)=some (m.h.length:Int):=by
 obtain ⟨g,W,H,ks,op,F⟩:=S.fd;unfold fM;simp only [bO,am,aU,bsm,S.sc];rw [F5 F];rfl
theorem BB (s:Sto) (w h:Int):∃s',jg s w h=some (s',some s.screen_Screen.length)∧Sd s' s' s.screen_Screen.length s.feed_Feeder.length s.place_Pen.length ⟨⟨bls (sd w) (sd h),⟨0,0,false⟩,true⟩,[],[]⟩ ⟨bls (sd w) (sd h),⟨0,0,false⟩,true⟩:=by
 obtain ⟨s1,ks,h1,v1⟩:=DF (s:=s) w h;have hks:=v1.g.h1;have hW1:=v1.g.w1;obtain ⟨s2,h2,d2,e2⟩:=F6 v1.self ⟨by simp only; omega,by simp only; omega,fun e=>by cases e⟩;unfold jg;rw [h1];simp only [bsm];rw [h2];simp only [bsm];have es:s1.screen_Screen=s.screen_Screen:=BD (yO v1.o);have ef:s1.feed_Feeder=s.feed_Feeder:=po v1.o;have es2:s2.screen_Screen=s1.screen_Screen:=by rw [e2]; rfl
 rw [es2,es,ef];rw [ef] at d2;refine ⟨_,rfl,⟨?_,Bts.nil,⟨s.grid_Grid.length,sd w,ks.length,ks,none,?_⟩⟩⟩
 ·have:(s2.add_screen_Screen ⟨some s.feed_Feeder.length,some s.place_Pen.length⟩).screen_Screen=s2.screen_Screen++ [⟨some s.feed_Feeder.length,some s.place_Pen.length⟩]:=rfl;rw [this,es2,es];simp
 ·obtain ⟨d,hd,hdv⟩:=d2.d;refine ⟨⟨d2.v.p,⟨d2.v.g.g,d2.v.g.r,d2.v.g.h1,d2.v.g.h2,d2.v.g.w1,d2.v.g.w2⟩,d2.v.nd,d2.v.l,rfl,d2.v.f.rgp ⟨rfl,rfl,rfl⟩ ⟨rfl,rfl,rfl⟩⟩,d2.v.f.rgp ⟨rfl,rfl,rfl⟩ ⟨rfl,rfl,rfl⟩,Fz.self _ _ _ (fun y hy=>?_) (cX hd),rfl,d2.hd,rfl,fun y hy=>by simp at hy,⟨d,hd,hdv⟩,fun _=>rfl,fun e=>by cases e⟩;have hy':s2.feed_Feeder[s.feed_Feeder.length]? = some y:=hy;rw [hd] at hy';cases hy';rfl
end Go.Proofs.YtceciacilfhmjaaGreatDoor
namespace Go.Proofs.YtceciacilfhmjaaGreatDoor
open Go Go.Lt
theorem Ff {γ:Type} {x:Option (γ×Bool)} (h:x.map (fun q=>q.2)=some true):∃s,x=some (s,true):=by
 cases x with
 | none=>cases h
 | some q=>
  obtain ⟨a,b⟩:=q;simp only [jr,az] at h;subst h;exact ⟨a,rfl⟩
theorem Jm {f:Sto→Option (Sto×Bool)} {s:Sto} (h1:(f s).map (fun q=>q.2)=some true) (h2:((f s).bind fun q=>f q.1).map (fun q=>q.2)=some true):∃s1 s2,f s=some (s1,true)∧f s1=some (s2,true):=by
 obtain ⟨s1,e1⟩:=Ff h1;rw [e1] at h2;obtain ⟨s2,e2⟩:=Ff h2;exact ⟨s1,s2,e1,e2⟩
end Go.Proofs.YtceciacilfhmjaaGreatDoor
namespace Go.Proofs.YtceciacilfhmjaaGreatDoor
open Go Go.Lt
variable {s C:Sto} {x f k g W H:Nat} {q P:ae} {ks:List Nat} {op:Option Nat}
def cn (l:List aa):Nat:=(l.map fun c=>c.Text.length).sum
def lnn (L:List aq):Nat:=(L.map fun l=>cn l.Cells).sum
theorem KV {l:List aa} (h:Snd l):cn l≤16 * l.length:=by
  have key:∀l:List aa,(∀c∈l,c.Text.length≤16)→cn l≤16 * l.length:=by
    intro l
    induction l with
    | nil=>intro _; simp [cn]
    | cons c l ih=>
      intro h;have h1:=ih fun d hd=>h d (gL _ hd);have h2:=h c (by simp);simp only [cn,dL,jR,ak] at h1⊢;omega
  refine key l fun c hc=>?_;obtain ⟨i,hi,rfl⟩:=List.mem_iff_getElem.1 hc;have:=(h i hi).1;unfold rgt at this;split at this
  · have e:l[i].Text= []:=by simpa using this
    rw [e]; simp
  · simp at this; omega
theorem Fs {L:List aq} {W:Nat} (h:∀x∈L,Okl W x):lnn L≤L.length * (16 * W):=by
  induction L with
  | nil=>simp [lnn]
  | cons x L ih=>
    have h1:=ih fun d hd=>h d (gL _ hd);have h2:=h x (by simp);have h3:=KV h2.1;rw [h2.2] at h3;have e:lnn (x :: L)=cn x.Cells+lnn L:=by simp [lnn]
    rw [e,ak,fh];omega
theorem rC {α:Type} (f:α→Nat) {l:List α} {i:Nat} (h:i < l.length):((l.take (i+1)).map f).sum=((l.take i).map f).sum+f l[i]:=by
  rw [ay h,bb,js];simp
theorem uA {α:Type} (f:α→Nat) (l:List α) (i:Nat):((l.take i).map f).sum≤(l.map f).sum:=by
  conv=>rhs; rw [←iU i l]
  rw [bb,js];omega
theorem B0 {l:List aa} {n0:Nat} (hb:n0+cn l≤1000000000) (hl:l.length≤1000000):cV (σ:=Int×Int) (τ:=Int) (((l.length:Int) - 0).toNat+1) (fun b=>
 if (decide (b.2 < (l.length:Int)))=true then
 (idx l b.2).bind fun f=>
 some (.inl ((w64 (b.1+(f.Text.length:Int))),(w64 (b.2+1))))
 else
 some (.inr (b.1))) ((n0:Int),0)=some ((n0+cn l:Nat):Int):=by
  obtain ⟨t,h1,h2⟩:=eY (σ:=Int×Int) (τ:=Int) (n:=l.length) (fuel:=((l.length:Int) - 0).toNat+1) (s:=((n0:Int),0)) (fun i (s:Int×Int)=>s=(((n0+((l.take i).map fun c=>c.Text.length).sum:Nat):Int),(i:Int))) (fun t=>t=((n0+cn l:Nat):Int)) (step:=fun b=>
 if (decide (b.2 < (l.length:Int)))=true then
 (idx l b.2).bind fun f=>
 some (.inl ((w64 (b.1+(f.Text.length:Int))),(w64 (b.2+1))))
 else
 some (.inr (b.1)))
    (fun i s hi e=>by
      subst e;have e1:=rC (fun c:aa=>c.Text.length) hi;have e2:=uA (fun c:aa=>c.Text.length) l (i+1);have e3:cn l=(l.map fun c=>c.Text.length).sum:=rfl;simp only;rw [af (dlt hi),bz hi,eW hi (by omega)];simp only [bsm];rw [aL (by omega)];exact .inl ⟨_,rfl,by rw [e1]; congr 1; omega⟩)
    (fun s e=>by
      subst e;refine ⟨_,by simp only; rw [ab (by simp)],?_⟩;rw [aJ (ao _)];rfl)
    (by simp) (by omega)
  rw [h1,h2]
theorem G6 {L:List aq} {W:Nat} (h:∀x∈L,Okl W x) (hW:W≤1024) (hL:L.length≤1024) (v:bU) (hv:v.Lines=L):kC v=some (lnn L:Int):=by
  subst hv;have hle:=Fs h;have hb:v.Lines.length * (16 * W)≤1024 * (16 * 1024):=GQ hL (by omega);unfold kC;refine kv (n:=v.Lines.length) (fun i (s:Int×Int)=>s=(((((v.Lines.take i).map fun l=>cn l.Cells).sum:Nat):Int),(i:Int))) (fun u=>u=(lnn v.Lines:Int)) (fun i s hi e=>?_) (fun s e=>?_) (by simp) (by omega) (fun u hu=>by rw [hu])
  · subst e
    have e1:=rC (fun l:aq=>cn l.Cells) hi;have e2:=uA (fun l:aq=>cn l.Cells) v.Lines (i+1);have e3:lnn v.Lines=(v.Lines.map fun l=>cn l.Cells).sum:=rfl;have hx:=h _ (aF hi);simp only;rw [af (dlt hi),bz hi,eW hi (by omega)];simp only [bsm];rw [B0 (by omega) (by rw [hx.2]; omega)];exact .inl ⟨_,rfl,by rw [e1]⟩
  · subst e
    refine ⟨_,by simp only; rw [ab (by simp)],?_⟩;rw [aJ (ao _)];rfl
theorem HI {W H:Nat} (w1:1≤W) (w2:W≤1024) (h1:1≤H) (h2:H≤1024):kD W H=some ((W * H * 16:Nat):Int):=by
  have hb:W * H≤1024 * 1024:=GQ w2 h2;unfold kD lS;simp only [bsm,ik,eV];rw [show max (1:Int) (min (W:Int) 1024)=(W:Int) by omega,show max (1:Int) (min (H:Int) 1024)=(H:Int) by omega,show (W:Int) * (H:Int)=((W * H:Nat):Int) by simp,aL (n:=((W * H:Nat):Int)) (by omega),aL (n:=((W * H:Nat):Int) * 16) (by omega)];simp
end Go.Proofs.YtceciacilfhmjaaGreatDoor
namespace Go.Proofs.YtceciacilfhmjaaGreatDoor
open Go Go.Lt
theorem gg (s:ByteArray):mkS (blS s)=s:=by cases s; rfl
theorem dB (l:List UInt8):blS (mkS l)=l:=by simp [blS,mkS]
theorem vC {a b:ByteArray} (h:blS a=blS b):a=b:=by rw [←gg a,←gg b,h]
theorem jT (s:ByteArray):(blS s).length=s.size:=by
 show s.data.toList.length=s.data.size;exact xL
theorem eX (l:List UInt8):(mkS l).size=l.length:=by rw [←jT,dB]
theorem sK (s:ByteArray):bL s=((blS s).length:Int):=by rw [jT]; rfl
theorem sJ (l:List UInt8):bL (mkS l)=(l.length:Int):=by rw [sK,dB]
theorem nt (a b:ByteArray):eqS a b=true↔a=b:=by
 unfold eqS;rw [aA];exact ⟨fun h=>vC h,fun h=>by rw [h]⟩
theorem mS (a:ByteArray):eqS a a=true:=(nt a a).2 rfl
theorem wE {a b:ByteArray} (h:a≠b):eqS a b=false:=by
 rw [Bool.eq_false_iff];exact fun e=>h ((nt a b).1 e)
theorem qV {a b:List UInt8} (h:a.length+b.length≤1099511627776):rW (mkS a) (mkS b)=some (mkS (a++b)):=by
 unfold rW far;rw [eX,eX,af h]
 congr 1
theorem sI {a:List UInt8} {i j:Nat} (h:i≤j) (h2:j≤a.length):na (mkS a) i j=some (mkS ((a.drop i).take (j - i))):=by
 unfold na;rw [eX,af (by omega)]
 congr 1
 apply vC;rw [dB];show ((mkS a).extract _ _).data.toList=_;simp [mkS,ByteArray.data_extract]
theorem vo {a:List UInt8} {i:Nat} (h:i < a.length):nb (mkS a) i=some ((a[i].toNat:Nat):Int):=by
 unfold nb;have h2:i < (mkS a).size:=by rw [eX]; exact h
 rw [af (by omega),bp];have:(mkS a)[i]? = some a[i]:=by
  rw [ByteArray.getElem?_lt' _ _ h2];simp [mkS,ByteArray.getElem_eq_getElem_data];rfl
 rw [this];rfl
def cF (c:UInt8):List UInt8→List (List UInt8)
 | []=>[[]]
 | x :: t=>if x=c then [] :: cF c t else match cF c t with
  | []=>[[x]]
  | h :: r=>(x :: h) :: r
def ft (c:UInt8):List (List UInt8)→List UInt8
 | []=>[]
 | [x]=>x
 | x :: y :: r=>x++c :: ft c (y :: r)
theorem tK (c:UInt8):∀s,cF c s≠ []
 | []=>by simp [cF]
 | x :: t=>by
  unfold cF;split
  ·simp
  ·split <;> simp
theorem nu {c x:UInt8} (h:x≠c) (t:List UInt8):∃w r,cF c t=w :: r∧cF c (x :: t)=(x :: w) :: r:=by
 cases e:cF c t with
 | nil=>exact absurd e (tK c t)
 | cons w r=>exact ⟨w,r,rfl,by rw [cF,ab h,e]⟩
theorem BQ (c:UInt8) (x:List UInt8) {r:List (List UInt8)} (h:r≠ []):ft c (x :: r)=x++c :: ft c r:=by
 cases r with
 | nil=>exact absurd rfl h
 | cons y r=>rfl
theorem BP (c x:UInt8) (w:List UInt8) (r:List (List UInt8)):ft c ((x :: w) :: r)=x :: ft c (w :: r):=by
 cases r <;> rfl
theorem se (c:UInt8):∀s,ft c (cF c s)=s
 | []=>rfl
 | x :: t=>by
  by_cases h:x=c
  ·subst h;rw [cF,af rfl,BQ _ _ (tK _ _),se x t];rfl
  ·obtain ⟨w,r,e1,e2⟩:=nu h t;have:=se c t;rw [e1] at this;rw [e2,BP,this]
theorem tJ (c:UInt8):∀s,∀w∈cF c s,c∉w
 | [],w,hw=>by simp [cF] at hw; subst hw; simp
 | x :: t,w,hw=>by
  by_cases h:x=c
  ·rw [cF,af h] at hw;rcases List.mem_cons.1 hw with rfl | hw
   ·simp
   ·exact tJ c t w hw
  ·obtain ⟨v,r,e1,e2⟩:=nu h t;rw [e2] at hw;rcases List.mem_cons.1 hw with rfl | hw
   ·have:=tJ c t v (by rw [e1]; simp);simp only [cq,Jp];exact ⟨fun e=>h e.symm,this⟩
   ·exact tJ c t w (by rw [e1]; simp [hw])
theorem ll {c:UInt8}:∀{w:List UInt8} (_:c∉w) (t:List UInt8),cF c (w++c :: t)=w :: cF c t
 | [],_,t=>by rw [bq,cF,af rfl]
 | x :: w,h,t=>by
  have hx:x≠c:=fun e=>h (by simp [e]);have ih:=ll (c:=c) (w:=w) (fun e=>h (by simp [e])) t;rw [bD,cF,ab hx,ih]
theorem oH {c:UInt8}:∀{w:List UInt8} (_:c∉w),cF c w= [w]
 | [],_=>rfl
 | x :: w,h=>by
  have hx:x≠c:=fun e=>h (by simp [e]);have ih:=oH (c:=c) (w:=w) (fun e=>h (by simp [e]));rw [cF,ab hx,ih]
theorem mG (c:UInt8):∀s:List UInt8,(cF c s).length=s.count c+1
 | []=>rfl
 | x :: t=>by
  by_cases h:x=c
  ·subst h;rw [cF,af rfl,ak,mG x t,Lc]
  ·obtain ⟨w,r,e1,e2⟩:=nu h t;have:=mG c t;rw [e1] at this;rw [e2,ak,List.count_cons_of_ne h,←this];rfl
theorem AE {b c:UInt8} (h:b≠c) (l:List UInt8):(b :: l).idxOf c=l.idxOf c+1:=by
 rw [List.idxOf_cons];have:(b==c)=false:=by simpa using h
 rw [this];rfl
theorem yi (c:UInt8):∀s:List UInt8,Lib.index s [c]=if c∈s then ((s.idxOf c:Nat):Int) else -1
 | []=>rfl
 | b :: l=>by
  unfold Lib.index;by_cases h:b=c
  ·subst h;simp
  ·have hb:([c].isPrefixOf (b :: l))=false:=by
    have:(c==b)=false:=by simpa using fun e:c=b=>h e.symm
    simp [List.isPrefixOf,this]
   rw [hb,yi c l];simp only [am,aU,cq];by_cases hm:c∈l
   ·rw [af hm,af (Or.inr hm),AE h];have:((((l.idxOf c:Nat):Int))== -1)=false:=by rw [bN]; omega
    rw [this];simp
   ·have:¬(c=b∨c∈l):=fun q=>q.elim (fun e=>h e.symm) hm;rw [ab hm,ab this];rfl
theorem Bt {c:UInt8} {s:List UInt8} (h:c∈s):∃w t,s=w++c :: t∧c∉w∧s.idxOf c=w.length:=by
 induction s with
 | nil=>cases h
 | cons b l ih=>
  by_cases e:b=c
  ·subst e;exact ⟨[],l,rfl,by simp,by simp⟩
  ·rcases List.mem_cons.1 h with h | h
   ·exact absurd h.symm e
   ·obtain ⟨w,t,rfl,h1,h2⟩:=ih h;refine ⟨b :: w,t,rfl,?_,?_⟩
    ·simp only [cq,Jp];exact ⟨fun q=>e q.symm,h1⟩
    ·rw [AE e,h2];rfl
theorem Dk (c:UInt8):∀(k:Nat) (s:List UInt8),s.count c=k→Lib.splitK [c] 0 k s=cF c s:=by
 intro k
 induction k with
 | zero=>
  intro s h;rw [oH (by rw [←List.count_eq_zero]; exact h)];rfl
 | succ k ih=>
  intro s h;have hm:c∈s:=List.count_pos_iff.1 (by omega);obtain ⟨w,t,rfl,h1,h2⟩:=Bt hm;rw [ll h1];unfold Lib.splitK;rw [yi,af hm,h2];have:((w.length:Int)== -1)=false:=by rw [bN]; omega
  rw [this];simp only [am,aU];have hc:t.count c=k:=by
   rw [List.count_append,Lc,List.count_eq_zero.2 h1] at h;omega
  simp only [nN,bp,bi];rw [nO,show w++c :: t=(w++ [c])++t by simp,show w.length+1=(w++ [c]).length by simp,eJ,ih t hc]
theorem EK {p0:ByteArray} (c:UInt8) (h:p0.size < 4294967281):jx p0 ⟨#[c]⟩=some ((cF c (blS p0)).map mkS):=by
 have hs:(⟨#[c]⟩:ByteArray).size=1:=rfl;unfold jx;rw [af ⟨h,by rw [hs]; omega⟩]
 congr 1
 have hd:=Lib.splitB_data ⟨#[c]⟩ 0 (Lib.countB p0 ⟨#[c]⟩) p0;have hk:Lib.countB p0 ⟨#[c]⟩=(blS p0).count c:=by
  show Lib.count (blS p0) [c]=_;exact Lib.count_one c (blS p0)
 have h2:(Lib.splitB ⟨#[c]⟩ 0 (Lib.countB p0 ⟨#[c]⟩) p0).map blS=cF c (blS p0):=by
  refine hd.trans ?_;rw [hk];exact Dk c _ _ rfl
 rw [←h2,fR]
 conv=>lhs; rw [←np (Lib.splitB ⟨#[c]⟩ 0 (Lib.countB p0 ⟨#[c]⟩) p0)]
 exact dm fun s _=>(gg s).symm
theorem Ax (c:UInt8):∀ws:List (List UInt8),Lib.join ws [c]=ft c ws
 | []=>rfl
 | [x]=>Lib.join_one x [c]
 | x :: y :: r=>by
  rw [ft,←Ax c (y :: r),Lib.join_cons,Lib.join_cons];simp [Lib.joinTail]
theorem tc {ws:List (List UInt8)} (c:UInt8) (h:ws.length≤140737488355328) (h2:(ft c ws).length≤140737488355328):fJ (ws.map mkS) ⟨#[c]⟩=some (mkS (ft c ws)):=by
 unfold fJ;have e:(ws.map mkS).map blS=ws:=by
  rw [fR]
  conv=>rhs; rw [←np ws]
  exact dm fun l _=>dB l
 have e2:blS ⟨#[c]⟩= [c]:=rfl;rw [e,e2,Ax,aQ,af ⟨h,h2⟩]
def dig (b:UInt8):Bool:=decide (48≤b.toNat) && decide (b.toNat≤57)
theorem wG {n:Nat} (h:n < 10):Lib.digitVal (UInt8.ofNat (48+n))=some n:=by
 have:n=0∨n=1∨n=2∨n=3∨n=4∨n=5∨n=6∨n=7∨n=8∨n=9:=by omega
 rcases this with rfl | rfl | rfl | rfl | rfl | rfl | rfl | rfl | rfl | rfl <;> rfl
theorem C1 {b:UInt8} (h:dig b=true):Lib.digitVal b=some (b.toNat - 48)∧b.toNat - 48 < 10∧UInt8.ofNat (48+(b.toNat - 48))=b:=by
 unfold dig at h;simp only [an,ai] at h;unfold Lib.digitVal;rw [af h];refine ⟨rfl,by omega,?_⟩;rw [show 48+(b.toNat - 48)=b.toNat by omega];simp
theorem yv {b:UInt8} {n:Nat} (h:Lib.digitVal b=some n):dig b=true:=by
 unfold Lib.digitVal at h;split at h
 ·rename_i q
  unfold dig;simp [q.1,q.2]
 ·cases h
theorem pB (b:UInt8):∀(l:List UInt8) (acc:Nat),Lib.decFrom acc (l++ [b])=(Lib.decFrom acc l).bind fun n=>(Lib.digitVal b).map fun d=>n * 10+d
 | [],acc=>by
  simp only [bq,Lib.decFrom]
  cases Lib.digitVal b <;> rfl
 | x :: l,acc=>by
  simp only [bD,Lib.decFrom]
  cases Lib.digitVal x with
  | none=>rfl
  | some d=>exact pB b l _
theorem Gd (u:Nat):Lib.decDigits u≠ []:=by
 unfold Lib.decDigits;split <;> simp
theorem lU {u:Nat} (h:u < 10):Lib.decDigits u= [UInt8.ofNat (48+u)]:=Lib.decDigits_one h
theorem wJ {u:Nat} (h:¬u < 10):Lib.decDigits u=Lib.decDigits (u / 10)++ [UInt8.ofNat (48+u % 10)]:=by
 conv=>lhs; unfold Lib.decDigits
 rw [pY h]
theorem Lv:∀u:Nat,Lib.decFrom 0 (Lib.decDigits u)=some u:=by
 intro u
 induction u using Nat.strongRecOn with
 | ind u ih=>
  by_cases h:u < 10
  ·rw [lU h];simp only [Lib.decFrom,wG h];simp
  ·rw [wJ h,pB,ih (u / 10) (by omega)];rw [tF,wG (by omega)];simp only [jr,az];omega
theorem wI:∀u:Nat,∀b∈Lib.decDigits u,dig b=true:=by
 intro u
 induction u using Nat.strongRecOn with
 | ind u ih=>
  intro b hb;by_cases h:u < 10
  ·rw [lU h] at hb;simp only [eQ] at hb;subst hb;exact yv (wG h)
  ·rw [wJ h] at hb;rcases List.mem_append.1 hb with hb | hb
   ·exact ih (u / 10) (by omega) b hb
   ·simp only [eQ] at hb;subst hb;exact yv (wG (by omega))
theorem zc:∀(k u:Nat),u < 10 ^ (k+1)→(Lib.decDigits u).length≤k+1:=by
 intro k
 induction k with
 | zero=>intro u h; rw [lU (by simpa using h)]; simp
 | succ k ih=>
  intro u h;by_cases h10:u < 10
  ·rw [lU h10]; simp
  ·rw [wJ h10,ag,bi];have:=ih (u / 10) (by rw [J2] at h; omega);omega
theorem C2:∀u:Nat,(Lib.decDigits u).head? = some 48→u=0:=by
 intro u
 induction u using Nat.strongRecOn with
 | ind u ih=>
  intro hh;by_cases h:u < 10
  ·rw [lU h] at hh;simp only [L7,az] at hh;have:=wG h;rw [hh] at this;have e:Lib.digitVal 48=some 0:=rfl;rw [e] at this;simpa using this.symm
  ·rw [wJ h] at hh;rw [List.head?_append] at hh
   cases e:(Lib.decDigits (u / 10)).head? with
   | none=>
    have:=Gd (u / 10)
    cases e2:Lib.decDigits (u / 10) with
    | nil=>exact absurd e2 this
    | cons a l=>rw [e2] at e; cases e
   | some a=>
    rw [e] at hh;have:=ih (u / 10) (by omega) (by rw [e]; simpa using hh);omega
theorem KT:∀(l:List UInt8) (m:Nat),l≠ []→Lib.decFrom 0 l=some m→(l.head? = some 48→l.length=1)→Lib.decDigits m=l:=by
 suffices ∀(n:Nat) (l:List UInt8) (m:Nat),l.length=n→l≠ []→Lib.decFrom 0 l=some m→(l.head? = some 48→l.length=1)→Lib.decDigits m=l∧(1 < l.length→0 < m) from fun l m h1 h2 h3=>(this _ l m rfl h1 h2 h3).1
 intro n
 induction n with
 | zero=>intro l m hn h1; exact absurd (aW hn) h1
 | succ n ih=>
  intro l m hn h1 h2 h3;obtain ⟨l0,b,rfl⟩:∃l0 b,l=l0++ [b]:=⟨l.dropLast,l.getLast h1,(Ev h1).symm⟩;rw [pB] at h2;obtain ⟨m0,e1,e2⟩:=Option.bind_eq_some_iff.1 h2;obtain ⟨d,e3,rfl⟩:=Option.map_eq_some_iff.1 e2;have hdK:=C1 (yv e3);have hdd:d=b.toNat - 48:=by rw [hdK.1] at e3; exact (aH e3).symm
  have hd10:d < 10:=by omega
  have hb:UInt8.ofNat (48+d)=b:=by rw [hdd]; exact hdK.2.2
  cases l0 with
  | nil=>
   simp only [Lib.decFrom,az] at e1;subst e1;refine ⟨?_,fun h=>by simp at h⟩;rw [lU (by omega),show 48+(0 * 10+d)=48+d by omega,hb];rfl
  | cons x t=>
   have hx:x≠48:=fun e=>by
    subst e;have:=h3 rfl;simp at this
   have hlen:(x :: t).length=n:=by rw [ag] at hn; simpa using hn
   obtain ⟨i1,i2⟩:=ih (x :: t) m0 hlen (by simp) e1 (fun e=>by simp at e; exact absurd e hx);have hm0:0 < m0:=by
    by_cases ht:1 < (x :: t).length
    ·exact i2 ht
    ·have:t= []:=by
      cases t with
      | nil=>rfl
      | cons y s=>simp at ht
     subst this;rcases iR m0 with q | q
     ·subst q;rw [lU (by omega)] at i1;simp at i1;exact absurd i1.symm hx
     ·exact q
   refine ⟨?_,fun _=>by omega⟩;rw [wJ (by omega),show (m0 * 10+d) / 10=m0 by omega,show (m0 * 10+d) % 10=d by omega,i1,hb]
theorem uL:∀(l:List UInt8) (acc:Nat),(∀b∈l,dig b=true)→∃m,Lib.decFrom acc l=some m∧m+1≤(acc+1) * 10 ^ l.length
 | [],acc,_=>⟨acc,rfl,by simp⟩
 | x :: l,acc,h=>by
  have hx:=C1 (h x (by simp));obtain ⟨m,h1,h2⟩:=uL l (acc * 10+(x.toNat - 48)) (fun b hb=>h b (by simp [hb]));refine ⟨m,by simp only [Lib.decFrom,hx.1]; exact h1,cQ h2 ?_⟩;rw [ak,J2,J3 (10 ^ l.length) 10,←Nat.mul_assoc];exact jC _ (by omega)
def fm (n:Int):Prop:= -999999999≤n∧n≤999999999
theorem oP (n:Int):Lib.itoa n=if n < 0 then 45 :: Lib.decDigits n.natAbs else Lib.decDigits n.toNat:=rfl
theorem lE {n:Int} (h:fm n):(Lib.itoa n).length≤10:=by
 unfold fm at h;rw [oP];split
 ·have:=zc 8 n.natAbs (by omega);simp only [ak]; omega
 ·have:=zc 8 n.toNat (by omega);omega
theorem FJ (n:Int):∀b∈Lib.itoa n,dig b=true∨b=45:=by
 intro b hb;rw [oP] at hb;split at hb
 ·rcases List.mem_cons.1 hb with rfl | hb
  ·exact .inr rfl
  ·exact .inl (wI _ b hb)
 ·exact .inl (wI _ b hb)
theorem vu (n:Int) (c:UInt8) (h1:c≠45) (h2:dig c=false):c∉Lib.itoa n:=fun hb=>by
 rcases FJ n c hb with h | h
 ·rw [h2] at h; cases h
 ·exact h1 h
def rJ:List UInt8:=[48,49,50,51,52,53,54,55,56,57]
theorem AP (b:UInt8):rJ.contains b=dig b:=by
 have h:∀n:Fin 256,rJ.contains (UInt8.ofNat n)=dig (UInt8.ofNat n):=by decide +kernel
 have:=h ⟨b.toNat,b.toNat_lt⟩;simpa using this
theorem qB {p:UInt8→Bool}:∀{l:List UInt8},l.dropWhile p= []↔∀b∈l,p b=true
 | []=>by simp
 | x :: l=>by
  by_cases h:p x=true
  ·rw [GR h,qB];simp [h]
  ·rw [GS h];simp [h]
theorem xO (d:List UInt8):Lib.trimS d rJ= []↔∀b∈d,dig b=true:=by
 have e:∀l:List UInt8,l.dropWhile (rJ.contains ·)= []↔∀b∈l,dig b=true:=fun l=>by
  rw [qB];simp only [AP]
 constructor
 ·intro h b hb;unfold Lib.trimS Lib.trimLeftS at h;rw [e] at h;have h2:∀x∈Lib.trimRightS d rJ,dig x=true:=h;unfold Lib.trimRightS at h2;have key:∀l:List UInt8,(∀x∈l.dropWhile (rJ.contains ·),dig x=true)→∀x∈l,dig x=true:=by
   intro l
   induction l with
   | nil=>intro _ x hx; cases hx
   | cons y l ih=>
    intro hh x hx;by_cases hy:rJ.contains y=true
    ·rw [GR hy] at hh;rcases List.mem_cons.1 hx with rfl | hx
     ·rw [←AP]; exact hy
     ·exact ih hh x hx
    ·rw [GS hy] at hh;exact hh x hx
  exact key d.reverse (fun x hx=>h2 x (List.mem_reverse.2 hx)) b (List.mem_reverse.2 hb)
 ·intro h;have hr:Lib.trimRightS d rJ= []:=by
   unfold Lib.trimRightS;rw [(e d.reverse).2 (fun b hb=>h b (List.mem_reverse.1 hb))];rfl
  unfold Lib.trimS;rw [hr];rfl
theorem Hc {d:List UInt8} (h:d.length≤9223372036854775807):iI (mkS d) ⟨#[48,49,50,51,52,53,54,55,56,57]⟩=some (mkS (Lib.trimS d rJ)):=by
 unfold iI;rw [eX,dB,af ⟨h,by decide,by decide⟩];rfl
theorem Lw (s:List UInt8):fY (mkS s) ⟨#[45]⟩=some (match s with | []=>(mkS [],false) | x :: t=>if x=45 then (mkS t,true) else (mkS (x :: t),false)):=by
 unfold fY Lib.trimPrefix Lib.hasPrefix;rw [dB];show some _=some _
 congr 1
 cases s with
 | nil=>rfl
 | cons x t=>
  by_cases h:x=45
  ·subst h;rfl
  ·have:((45:UInt8)==x)=false:=by simpa using fun e:(45:UInt8)=x=>h e.symm
   show (mkS (if ([45]:List UInt8).isPrefixOf (x :: t)=true then _ else _),([45]:List UInt8).isPrefixOf (x :: t))=_;have e:([45]:List UInt8).isPrefixOf (x :: t)=false:=by simp [List.isPrefixOf,this]
   rw [e];show _=(if x=45 then (mkS t,true) else (mkS (x :: t),false));rw [ab h];rfl
theorem vR (s d:List UInt8) (minus:Bool) (hs:s.length≤9223372036854775807) (hdK:d.length≤s.length) {k:Bool→Option (Int×Bool)} {r:Option (Int×Bool)}
  (hbad:¬(d≠ []∧d.length≤9∧(d.head? = some 48→s.length≤1)∧∀b∈d,dig b=true)→k true=r) (hgood:d≠ []→d.length≤9→(d.head? = some 48→s.length≤1)→(∀b∈d,dig b=true)→k false=r):
  ((orE ((bL (mkS d))==0) (some (decide ((bL (mkS d)) > 9)))).bind fun c=>(orE c ((nb (mkS d) 0).bind fun g=>(bX (g==48) (some (decide ((bL (mkS s)) > 1)))).bind fun e=>some e)).bind fun dd=>
   (orE dd ((iI (mkS d) ⟨#[48,49,50,51,52,53,54,55,56,57]⟩).bind fun h=>some (!(eqS h (⟨#[]⟩:ByteArray))))).bind k)=r:=by
 rw [sJ,sJ,bS,bsm]
 cases d with
 | nil=>exact hbad (fun h=>h.1 rfl)
 | cons x t=>
  have e0:(((x :: t).length:Int)==0)=false:=by rw [bN]; simp only [ak]; omega
  rw [e0,kY];by_cases h9:(x :: t).length≤9
  ·rw [show decide (((x :: t).length:Int) > 9)=false by simp; simp at h9; omega,db];have hi:nb (mkS (x :: t)) 0=some ((x.toNat:Nat):Int):=vo (a:=x :: t) (i:=0) (by simp);rw [hi,bsm,bd,bsm,bsm];by_cases hz:(((x.toNat:Nat):Int)==48 && decide ((s.length:Int) > 1))=true
   ·rw [hz,ij,bsm];simp only [an,aA,ai] at hz;refine hbad (fun h=>?_);have hx:x=48:=UInt8.toNat_inj.1 (by have:=hz.1; show x.toNat=48; omega);have:=h.2.2.1 (by rw [hx]; rfl);omega
   ·rw [Bool.eq_false_iff.2 hz,db,Hc (by omega),bsm,bsm];have hz2:(x :: t).head? = some 48→s.length≤1:=fun e=>by
     simp only [L7,az] at e;subst e;simp only [an,aA,ai,Jq] at hz;have:=hz rfl;omega
    by_cases ha:∀b∈x :: t,dig b=true
    ·rw [(xO _).2 ha];exact hgood (by simp) h9 hz2 ha
    ·have:eqS (mkS (Lib.trimS (x :: t) rJ)) ⟨#[]⟩=false:=wE fun e=>ha ((xO _).1 (by
      have:=dG blS e;rw [dB] at this;exact this))
     rw [this];exact hbad (fun h=>ha h.2.2.2)
  ·rw [show decide (((x :: t).length:Int) > 9)=true by simp; simp at h9; omega,ij,bsm,ij,bsm];exact hbad (fun h=>h9 h.2.1)
theorem GG {d:List UInt8} {m:Nat} (h0:d≠ []) (h9:d.length≤9) (ha:∀b∈d,dig b=true) (hm:Lib.decFrom 0 d=some m):jX (mkS d)=some ((m:Int),Er.nil):=by
 unfold jX;rw [eX,af (by omega),dB]
 cases d with
 | nil=>exact absurd rfl h0
 | cons x t=>
  have hx:=ha x (by simp);unfold Lib.atoi;have h1:(x==45)=false:=by
   rw [bN];intro e;subst e;exact absurd hx (by decide)
  have h2:(x==43)=false:=by
   rw [bN];intro e;subst e;exact absurd hx (by decide)
  show Option.map _ (if (x==45)=true then _ else if (x==43)=true then _ else _)=_;rw [h1,h2];simp only [am,aU,Lib.decNat,LQ,hm];rfl
theorem Am (p0:ByteArray) (hs:p0.size≤9223372036854775807):(∃n,fm n∧blS p0=Lib.itoa n∧ek p0=some (n,true))∨((∀n,fm n→blS p0≠Lib.itoa n)∧ek p0=some (0,false)):=by
 obtain ⟨s,rfl⟩:∃s,p0=mkS s:=⟨blS p0,(gg p0).symm⟩;rw [eX] at hs;rw [dB];obtain ⟨d,minus,hc,hsd⟩:∃d minus,fY (mkS s) ⟨#[45]⟩=some (mkS d,minus)∧((minus=true∧s=45 :: d)∨(minus=false∧s=d∧s.head?≠some 45)):=by
  rw [Lw]
  cases s with
  | nil=>exact ⟨[],false,rfl,.inr ⟨rfl,rfl,by simp⟩⟩
  | cons x t=>
   by_cases h:x=45
   ·exact ⟨t,true,by simp [h],.inl ⟨rfl,by rw [h]⟩⟩
   ·exact ⟨x :: t,false,by simp [h],.inr ⟨rfl,rfl,by simpa using h⟩⟩
 have hdK:d.length≤s.length:=by rcases hsd with ⟨_,rfl⟩ | ⟨_,rfl,_⟩ <;> simp
 by_cases hg:d≠ []∧d.length≤9∧(d.head? = some 48→s.length≤1)∧∀b∈d,dig b=true
 ·left
  obtain ⟨m,hm,hm2⟩:=uL d 0 hg.2.2.2;have hpow:(10:Nat) ^ d.length≤10 ^ 9:=Nat.pow_le_pow_right (by omega) hg.2.1;have hdm:Lib.decDigits m=d:=KT d m hg.1 hm (fun e=>by
   have h1:=hg.2.2.1 e;have h2:d.length≠0:=fun e2=>hg.1 (aW e2);omega)
  have hat:=GG hg.1 hg.2.1 hg.2.2.2 hm;rcases hsd with ⟨rfl,rfl⟩ | ⟨rfl,rfl,h45⟩
  ·have hm0:0 < m:=by
    rcases iR m with q | q
    ·subst q;rw [lU (by omega)] at hdm;have:=hg.2.2.1 (by rw [←hdm]; rfl);rw [←hdm] at this;simp at this
    ·exact q
   refine ⟨-(m:Int),by unfold fm; omega,?_,?_⟩
   ·rw [oP,af (by omega),show (-(m:Int)).natAbs=m by omega,hdm]
   ·unfold ek;rw [hc,bsm];refine vR (45 :: d) d true hs hdK (fun h=>absurd hg h) fun _ _ _ _=>?_;rw [ab (by simp),hat,bsm,af rfl,bsm,aL (by omega)];show some ((0 - (m:Int)),true)=_
    congr 2
    omega
  ·refine ⟨(m:Int),by unfold fm; omega,?_,?_⟩
   ·rw [oP,ab (by omega),show ((m:Int)).toNat=m by omega,hdm]
   ·unfold ek;rw [hc,bsm];refine vR s s false hs hdK (fun h=>absurd hg h) fun _ _ _ _=>?_;rw [ab (by simp),hat,bsm,ab (by simp),bsm];rfl
 ·right
  constructor
  ·intro n hn e;apply hg;rw [oP] at e;unfold fm at hn;split at e
   ·rename_i hneg
    rcases hsd with ⟨_,e2⟩ | ⟨_,e2,h45⟩
    ·rw [e] at e2;have e3:Lib.decDigits n.natAbs=d:=by simpa using e2
     refine ⟨by rw [←e3]; exact Gd _,by rw [←e3]; exact zc 8 _ (by omega),fun h48=>?_,by rw [←e3]; exact wI _⟩;rw [←e3] at h48;have:=C2 _ h48;omega
    ·rw [e] at h45;exact absurd rfl h45
   ·rcases hsd with ⟨_,e2⟩ | ⟨_,e2,h45⟩
    ·rw [e2] at e;have:=wI n.toNat 45 (by rw [←e]; simp);exact absurd this (by decide)
    ·subst e2;refine ⟨by rw [e]; exact Gd _,by rw [e]; exact zc 8 _ (by omega),fun h48=>?_,by rw [e]; exact wI _⟩;rw [e] at h48;have:=C2 _ h48;rw [e,this,lU (by omega)];simp
  ·unfold ek;rw [hc,bsm];exact vR s d minus hs hdK (fun _=>by rw [af rfl]) fun h1 h2 h3 h4=>absurd ⟨h1,h2,h3,h4⟩ hg
theorem nX {n:Int} (h:fm n):bu n=some (mkS (Lib.itoa n)):=by
 unfold bu;unfold fm at h;rw [af (by omega)]
def F4:List UInt8:=[48,49,50,51,52,53,54,55,56,57,97,98,99,100,101,102]
abbrev Ex:ByteArray:=⟨#[48,49,50,51,52,53,54,55,56,57,97,98,99,100,101,102]⟩
def hd (n:Nat):UInt8:=F4.getD n 0
def uh (b:UInt8):Option Nat:=if F4.contains b then some (F4.idxOf b) else none
def bytes (l:List Int):Prop:=∀b∈l,0≤b∧b≤255
def qu:List Int→List UInt8
 | []=>[]
 | b :: l=>hd (b.toNat / 16) :: hd (b.toNat % 16) :: qu l
def hx (l:List Int):List UInt8:=if l= [] then [45] else qu l
theorem oT:∀l,(qu l).length=2 * l.length
 | []=>rfl
 | b :: l=>by simp only [qu,ak,oT l]; omega
theorem ww:∀l m,qu (l++m)=qu l++qu m
 | [],_=>rfl
 | b :: l,m=>by simp only [bD,qu,ww l m]
theorem IU:∀n:Fin 16,uh (hd n)=some n.val:=by decide +kernel
theorem IG:∀b:Fin 256,∀n,uh (UInt8.ofNat b)=some n→n < 16∧hd n=UInt8.ofNat b:=by
 have h:∀b:Fin 256,(match uh (UInt8.ofNat b) with | some n=>decide (n < 16) && decide (hd n=UInt8.ofNat b) | none=>true)=true:=by decide +kernel
 intro b n hn;have:=h b;rw [hn] at this;simpa using this
theorem IR:∀b:Fin 256,dR Ex (b.val:Int)=some (match uh (UInt8.ofNat b) with | some n=>(n:Int) | none=> -1):=by
 have h:∀b:Fin 256,(match dR Ex (b.val:Int) with | some x=>x==(match uh (UInt8.ofNat b) with | some n=>(n:Int) | none=> -1) | none=>false)=true:=by decide +kernel
 intro b;have:=h b;split at this
 ·rename_i x e
  rw [e];simpa using this
 ·cases this
theorem Jk:∀c d:Fin 16,IntKind.u8.wrap (gi .i64 (w64 ((c.val:Int) * 2 ^ 4)) (d.val:Int))=16 * (c.val:Int)+(d.val:Int):=by decide +kernel
theorem HY:∀b:Fin 256,nb Ex ((b.val:Int).fdiv (2 ^ 4))=some ((hd (b.val / 16)).toNat:Int)∧nb Ex (dM .u8 (b.val:Int) 15)=some ((hd (b.val % 16)).toNat:Int):=by decide +kernel
theorem A9 (l:List UInt8):uq (l.map fun b=>(b.toNat:Int))=mkS l:=by
 apply vC;rw [dB];show ((l.map fun b=>(b.toNat:Int)).map fun x=>UInt8.ofNat x.toNat)=l;rw [fR]
 conv=>rhs; rw [←np l]
 exact dm fun b _=>by simp
theorem JF {l:List Int} (h:bytes l) (hl:l.length≤1000000):lI l=some (mkS (hx l)):=by
 unfold lI hx;by_cases h0:l= []
 ·subst h0;rfl
 ·have hp:0 < l.length:=List.length_pos_iff.2 h0;rw [ab (by rw [aA]; omega),ab h0];refine kv (n:=l.length) (fun i (a:List Int×Int)=>a=((qu (l.take i)).map (fun b=>(b.toNat:Int)),(i:Int))) (fun t=>t=(qu l).map (fun b=>(b.toNat:Int))) (fun i a hi hI=>?_) (fun a hI=>?_) rfl (by omega) (fun t ht=>by rw [ht,A9])
  ·subst hI;simp only;rw [af (dlt hi),eW hi (by omega)];simp only [bz hi,bsm];have hb:=h l[i] (aF hi);have hd':=HY ⟨l[i].toNat,by omega⟩;rw [show (((⟨l[i].toNat,by omega⟩:Fin 256).val:Nat):Int)=l[i] by simp; omega] at hd';rw [hd'.1,bsm,hd'.2,bsm,du (by rw [aQ,oT,av]; simp only [ak,aB]; omega),bsm];refine .inl ⟨_,rfl,?_⟩;rw [ay hi,ww,bb];rfl
  ·subst hI;refine ⟨_,by simp only; rw [ab (by simp)],?_⟩;rw [cZ]
theorem CU:∀l:List Int,bytes l→∀b∈qu l,uh b≠none
 | [],_,b,hb=>by cases hb
 | x :: l,h,b,hb=>by
  have hx:=h x (by simp);simp only [qu,cq] at hb;rcases hb with rfl | rfl | hb
  ·rw [IU ⟨x.toNat / 16,by omega⟩]; simp
  ·rw [IU ⟨x.toNat % 16,by omega⟩]; simp
  ·exact CU l (fun y hy=>h y (by simp [hy])) b hb
theorem E6 (p0:ByteArray) (hs:p0.size≤1000000):(∃l,bytes l∧blS p0=hx l∧l.length≤p0.size∧kw p0=some (l,true))∨((∀l,bytes l→blS p0≠hx l)∧kw p0=some ([],false)):=by
 obtain ⟨s,rfl⟩:∃s,p0=mkS s:=⟨blS p0,(gg p0).symm⟩;rw [eX] at hs⊢;rw [dB];unfold kw;by_cases h45:s= [45]
 ·subst h45
  left
  exact ⟨[],(by intro b hb; cases hb),rfl,by simp,by rw [af (show eqS (mkS [45]) ⟨#[45]⟩=true from (nt _ _).2 rfl)]⟩
 ·rw [ab (by rw [nt]; intro e; exact h45 (by have:=dG blS e; rwa [dB] at this))];rw [sJ];simp only [bS,bsm];by_cases hbad:s.length=0∨s.length % 2≠0
  ·right
   refine ⟨fun l hl e=>?_,?_⟩
   ·unfold hx at e;split at e
    ·exact h45 e
    ·rename_i hne
     have:=dG List.length e;rw [oT] at this;have:0 < l.length:=List.length_pos_iff.2 hne;omega
   ·rw [af];rw [aC,aA,qQ];rcases hbad with h | h
    ·left; omega
    ·right
     have e:((s.length:Nat):Int).tmod 2=((s.length % 2:Nat):Int):=rfl;rw [e];omega
  ·have hpos:0 < s.length:=by omega
   have hev:s.length % 2=0:=by omega
   rw [ab (by
    rw [aC,aA,qQ];have e:((s.length:Nat):Int).tmod 2=((s.length % 2:Nat):Int):=rfl;rw [e];omega)]
   obtain ⟨m,hm⟩:∃m,s.length=2 * m:=⟨s.length / 2,by omega⟩;have key:∃t,cV (((s.length:Int) - 0).toNat+1) (fun (a:List Int×Int)=>
     if (decide (a.2 < (s.length:Int)))=true then
     (nb (mkS s) a.2).bind fun g=>
     (nb (mkS s) (w64 (a.2+1))).bind fun h=>
     (dR Ex g).bind fun c=>
     (dR Ex h).bind fun d=>
     (some (decide (c < 0) || decide (d < 0))).bind fun f=>
     if f=true then
     some (.inr (.inl (([]:List Int),false)))
     else
     (app a.1 ([(IntKind.u8.wrap (gi .i64 (w64 (c * 2 ^ 4)) d))]:List Int)).bind fun i=>
     some (.inl (i,(w64 (a.2+2))))
     else
     some (.inr (.inr (a.1)))) (([]:List Int),0)=some t∧((t=(Sum.inl (([]:List Int),false):((List Int)×Bool) ⊕ (List Int))∧∃b∈s,uh b=none)∨∃l,t= .inr l∧bytes l∧qu l=s):=by
    refine eY (n:=m) (fun i (a:List Int×Int)=>a.2=((2 * i:Nat):Int)∧bytes a.1∧a.1.length=i∧qu a.1=s.take (2 * i)) _ (fun i a hi hI=>?_) (fun a hI=>?_) ⟨rfl,(by intro b hb; cases hb),rfl,by simp [qu]⟩ (by omega)
    ·obtain ⟨l,j⟩:=a;obtain ⟨rfl,hb,hlen,hx⟩:=hI;simp only at hb hlen hx;have h1:2 * i < s.length:=by omega
     have h2:2 * i+1 < s.length:=by omega
     rw [af (by rw [ai]; simp only; omega)];simp only;have ew:w64 (((2 * i:Nat):Int)+1)=((2 * i+1:Nat):Int):=by rw [aL (by omega)]; omega
     have ew2:w64 (((2 * i:Nat):Int)+2)=((2 * (i+1):Nat):Int):=by rw [aL (by omega)]; omega
     rw [ew,ew2,vo h1,bsm,vo h2,bsm];have g1:=IR ⟨s[2 * i].toNat,s[2 * i].toNat_lt⟩;have g2:=IR ⟨s[2 * i+1].toNat,s[2 * i+1].toNat_lt⟩;have z1:=IG ⟨s[2 * i].toNat,s[2 * i].toNat_lt⟩;have z2:=IG ⟨s[2 * i+1].toNat,s[2 * i+1].toNat_lt⟩;simp only [UInt8.ofNat_toNat] at g1 g2 z1 z2;rw [g1,bsm,g2,bsm,bsm]
     cases e1:uh s[2 * i] with
     | none=>
      rw [af (by simp)];exact .inr ⟨_,rfl,.inl ⟨rfl,_,aF h1,e1⟩⟩
     | some c=>
      cases e2:uh s[2 * i+1] with
      | none=>
       rw [af (by simp)];exact .inr ⟨_,rfl,.inl ⟨rfl,_,aF h2,e2⟩⟩
      | some d=>
       obtain ⟨c16,hc⟩:=z1 c e1;obtain ⟨d16,hd'⟩:=z2 d e2;rw [ab (by simp only [aC,ai]; omega)];have ho:=Jk ⟨c,c16⟩ ⟨d,d16⟩;simp only at ho⊢;rw [ho,du (by simp only [bi]; omega),bsm];refine .inl ⟨_,rfl,rfl,?_,?_,?_⟩
       ·intro b hb';rcases List.mem_append.1 hb' with hb' | hb'
        ·exact hb b hb'
        ·simp only [eQ] at hb';omega
       ·rw [ag,bi,hlen]
       ·rw [ww,hx];have t1:(16 * (c:Int)+(d:Int)).toNat=16 * c+d:=by omega
        simp only [qu,t1];rw [show (16 * c+d) / 16=c by omega,show (16 * c+d) % 16=d by omega,hc,hd',show 2 * (i+1)=2 * i+1+1 by omega,ay h2,ay h1,aD];rfl
    ·obtain ⟨l,j⟩:=a;obtain ⟨rfl,hb,hlen,hx⟩:=hI;refine ⟨_,by simp only; rw [ab (by rw [ai]; omega)],.inr ⟨l,rfl,hb,?_⟩⟩;simp only at hx;rw [hx,←hm,cZ]
   obtain ⟨t,ht,hpost⟩:=key;rcases hpost with ⟨rfl,b,hb,hu⟩ | ⟨l,rfl,hb,hx'⟩
   ·right
    refine ⟨fun l hl e=>?_,kX ht rfl⟩;unfold hx at e;split at e
    ·exact h45 e
    ·exact CU l hl b (e▸ hb) hu
   ·left
    refine ⟨l,hb,?_,?_,kX ht rfl⟩
    ·unfold hx;rw [ab (by intro e; subst e; simp [qu] at hx'; subst hx'; simp at hpos)];exact hx'.symm
    ·have:=oT l;rw [hx'] at this;omega
def hw (k:Int):List ByteArray×Int:=match dq k with | some x=>x | none=>([],0)
theorem KD {α:Type} {P:α→Prop} {c:Prop} [Decidable c] {x y:α} (hx:P x) (hy:P y):P (if c then x else y):=by
  split <;> assumption
theorem vT (k:Int):∃z,dq k=some z∧z.1.length≤2:=by
  unfold dq
  repeat refine KD (P:=fun o=>∃z:List ByteArray×Int,o=some z∧z.1.length≤2) ⟨_,rfl,by simp⟩ ?_
  exact ⟨_,rfl,by simp⟩
theorem oM (k:Int):dq k=some (hw k):=by
  obtain ⟨x,hx,_⟩:=vT k;unfold hw;rw [hx]
theorem lA (n:Int):dg n=some (Er.fault n (Er.sent 6)):=rfl
def bgK:List ByteArray→List ByteArray→Nat
  | x :: l,y :: m=>if x=y then bgK l m+1 else 0
  | _,_=>0
theorem Ca:∀l m,bgK l m≤l.length∧bgK l m≤m.length
  | [],m=>by simp [bgK]
  | x :: l,[]=>by simp [bgK]
  | x :: l,y :: m=>by
    have:=Ca l m;unfold bgK;split <;> simp only [ak] <;> omega
theorem GB:∀(l m:List ByteArray) (i:Nat),i < bgK l m→l[i]? = m[i]?
  | [],m,i,h=>by simp [bgK] at h
  | x :: l,[],i,h=>by simp [bgK] at h
  | x :: l,y :: m,i,h=>by
    unfold bgK at h;split at h
    · rename_i e
      subst e
      cases i with
      | zero=>rfl
      | succ i=>simpa using GB l m i (by omega)
    · omega
theorem C9:∀(l m:List ByteArray),bgK l m < l.length→bgK l m < m.length→l[bgK l m]?≠m[bgK l m]?
  | [],m,h,_=>by simp at h
  | x :: l,[],_,h=>by simp at h
  | x :: l,y :: m,h1,h2=>by
    by_cases e:x=y
    · have eb:bgK (x :: l) (y :: m)=bgK l m+1:=by rw [bgK,af e]
      rw [eb] at h1 h2⊢;simp only [ak] at h1 h2;simpa using C9 l m (by omega) (by omega)
    · have eb:bgK (x :: l) (y :: m)=0:=by rw [bgK,ab e]
      rw [eb];simpa using e
theorem Iw {l m:List ByteArray} (h:bgK l m=m.length):∃r,l=m++r:=by
  induction m generalizing l with
  | nil=>exact ⟨l,rfl⟩
  | cons y m ih=>
    cases l with
    | nil=>simp [bgK] at h
    | cons x l=>
      unfold bgK at h;split at h
      · rename_i e
        obtain ⟨r,rfl⟩:=ih (by simpa using h);exact ⟨r,by rw [e]; rfl⟩
      · simp at h
theorem Cc (l m:List ByteArray) (hl:l.length≤10000000) (hm:m.length≤10000000):gX l m=some ((bgK l m:Nat):Int):=by
  unfold gX;have hb:=Ca l m;have key:∃t,cV (((m.length:Int) - 0).toNat+1) (fun (a:Int)=>
      (bX (decide (a < (m.length:Int))) (some (decide (a < (l.length:Int))))).bind fun b=>
      (bX b ((idx l a).bind fun d=>
      (idx m a).bind fun e=>
      some (eqS d e))).bind fun c=>
      if c=true then
      some (.inl ((w64 (a+1))))
      else
      some (.inr (a))) 0=some t∧t=((bgK l m:Nat):Int):=by
    refine lF (fun s:Int=>∃i:Nat,s=(i:Int)∧i≤bgK l m) (fun s:Int=>bgK l m - s.toNat) _ (fun s ⟨i,hs,hi⟩=>?_) _ _ ⟨0,rfl,cR _⟩ (by simp; omega);subst hs;rw [bd,bsm];by_cases hlt:i < bgK l m
    · left
      have e1:decide (((i:Nat):Int) < (m.length:Int))=true:=bA (by omega);have e2:decide (((i:Nat):Int) < (l.length:Int))=true:=bA (by omega);rw [e1,e2,IF,eO,bz (show i < l.length by omega),bsm,bz (show i < m.length by omega),bsm,bsm];have hg:=GB l m i hlt;rw [ah (show i < l.length by omega),ah (show i < m.length by omega)] at hg;rw [af (by rw [aH hg]; exact mS _),eW hlt (by omega)];exact ⟨_,rfl,⟨i+1,rfl,hlt⟩,by simp; omega⟩
    · right
      have hi':i=bgK l m:=by omega
      by_cases hc:i < m.length∧i < l.length
      · have e1:decide (((i:Nat):Int) < (m.length:Int))=true:=bA (by omega)
        have e2:decide (((i:Nat):Int) < (l.length:Int))=true:=bA (by omega);rw [e1,e2,IF,eO,bz hc.2,bsm,bz hc.1,bsm,bsm];have hg:=C9 l m (by omega) (by omega);rw [←hi',ah hc.2,ah hc.1] at hg;rw [ab (by rw [nt]; exact fun e=>hg (by rw [e]))];exact ⟨_,rfl,by rw [hi']⟩
      · have:(decide (((i:Nat):Int) < (m.length:Int)) && decide (((i:Nat):Int) < (l.length:Int)))=false:=by
          rw [Kd,dX,dX];omega
        rw [this,fq,bsm,ab (by simp)];exact ⟨_,rfl,by rw [hi']⟩
  obtain ⟨t,ht,rfl⟩:=key;rw [ht,bsm]
def yg (words:List ByteArray) (k:Int):Prop:=(hw k).1≠ []∧bgK words (hw k).1=(hw k).1.length
theorem BS (k:Int):(hw k).1.length≤2:=by
  obtain ⟨x,hx,h⟩:=vT k;rw [oM] at hx;rw [aH hx];exact h
theorem DO (words:List ByteArray) (hl:words.length≤10000000):(∃k:Int,1≤k∧k≤13∧yg words k∧jH words=some (k,((hw k).1.length:Int),true))∨
    ((∀k:Int,1≤k→k≤13→¬yg words k)∧∃b:Int,0≤b∧b≤words.length∧jH words=some (0,b,false)):=by
  unfold jH;have key:∃t,cV (((13:Int) - 1).toNat+2) (fun (a:Int×Int)=>
      if (decide (a.2≤13))=true then
      (dq a.2).bind fun c=>
      (gX words c.1).bind fun d=>
      (bX (decide ((c.1.length:Int) > 0)) (some (d==(c.1.length:Int)))).bind fun e=>
      if e=true then
      some (.inr (.inl (a.2,d,true)))
      else
      some (.inl ((aS a.1 d),(w64 (a.2+1))))
      else
      some (.inr (.inr (a.1)))) (0,1)=some t∧((∃k:Int,1≤k∧k≤13∧yg words k∧t=(Sum.inl (k,((hw k).1.length:Int),true):(Int×Int×Bool) ⊕ Int))∨((∀k:Int,1≤k→k≤13→¬yg words k)∧∃b:Int,0≤b∧b≤words.length∧t= .inr b)):=by
    refine eY (n:=13) (fun i (a:Int×Int)=>a.2=(i:Int)+1∧0≤a.1∧a.1≤words.length∧∀k:Int,1≤k→k≤i→¬yg words k) _ (fun i a hi hI=>?_) (fun a hI=>?_) ⟨rfl,by simp,by simp,fun k h1 h2=>by omega⟩ (by decide)
    · obtain ⟨b,k⟩:=a
      obtain ⟨rfl,h1,h2,h3⟩:=hI;simp only at h1 h2⊢;rw [af (bA (by omega)),oM,bsm,Cc _ _ hl (by have:=BS ((i:Int)+1); omega),bsm,bd,bsm];by_cases hp:yg words ((i:Int)+1)
      · right
        have hlen:0 < (hw ((i:Int)+1)).1.length:=List.length_pos_iff.2 hp.1;rw [af (by rw [hp.2,an,ai,aA]; exact ⟨by omega,rfl⟩)];exact ⟨_,rfl,.inl ⟨_,by omega,by omega,hp,by rw [hp.2]⟩⟩
      · left
        rw [ab (by
          rw [an,ai,aA];intro q;exact hp ⟨List.length_pos_iff.1 (by omega),by omega⟩)]
        have hbl:=Ca words (hw ((i:Int)+1)).1;refine ⟨_,rfl,?_,?_,?_,fun k q1 q2=>?_⟩
        · simp only; rw [aL (by omega)]; omega
        · simp only; rw [ik]; omega
        · simp only; rw [ik]; omega
        · by_cases e:k=(i:Int)+1
          · rw [e]; exact hp
          · exact h3 k q1 (by omega)
    · obtain ⟨b,k⟩:=a
      obtain ⟨rfl,h1,h2,h3⟩:=hI;exact ⟨_,by simp only; rw [ab (by rw [ai]; omega)],.inr ⟨fun k q1 q2=>h3 k q1 (by omega),b,h1,h2,rfl⟩⟩
  obtain ⟨t,ht,hp⟩:=key;rcases hp with ⟨k,h1,h2,h3,rfl⟩ | ⟨h1,b,h2,h3,rfl⟩
  · exact .inl ⟨k,h1,h2,h3,kX ht rfl⟩
  · exact .inr ⟨h1,b,h2,h3,kX ht rfl⟩
def nw (n:Int) (x y:Int):List ByteArray:=([mkS (Lib.itoa x),mkS (Lib.itoa y)]).take n.toNat
theorem Fh {n:Int} (h:0≤n∧n≤2) (x y:Int):((nw n x y).length:Int)=n:=by
  unfold nw;rw [av];simp only [ak,aB];omega
theorem yP (words:List ByteArray) (m n:Nat) (hn:n≤2) (hm:m≤words.length) (hl:words.length≤10000000) (hw:∀w∈words,w.size≤9223372036854775807):
    (∃x y,fm x∧fm y∧(n < 1→x=0)∧(n < 2→y=0)∧words.drop m=nw n x y∧gu words m n=some ((x,y),Er.nil))∨
    ((∀x y,fm x→fm y→words.drop m≠nw n x y)∧∃a:Int,0≤a∧a≤words.length∧gu words m n=some ((0,0),Er.fault a (Er.sent 6))):=by
  unfold gu;have f0:fm 0:=by unfold fm; omega
  have key:∃t,cV (((n:Int) - 0).toNat+1) (fun (a:Int×Int×Int)=>
      if (decide (a.1 < (n:Int)))=true then
      if (decide ((w64 ((m:Int)+a.1))≥(words.length:Int)))=true then
      (dg (words.length:Int)).bind fun e=>
      some (.inr (.inl ((0,0),e)))
      else
      (idx words (w64 ((m:Int)+a.1))).bind fun f=>
      (ek f).bind fun c=>
      if (!c.2)=true then
      (dg (w64 ((m:Int)+a.1))).bind fun g=>
      some (.inr (.inl ((0,0),g)))
      else
      (idx (a2 a.2) a.1).bind fun i=>
      (some (Da a.2 a.1 c.1)).bind fun d=>
      some (.inl ((w64 (a.1+1)),d.1,d.2))
      else
      some (.inr (.inr (a.2.1,a.2.2)))) (0,0,0)=some t∧
      ((∃a:Int,0≤a∧a≤words.length∧t=(Sum.inl ((0,0),Er.fault a (Er.sent 6)):((Int×Int)×Er) ⊕ (Int×Int))∧∀x y,fm x→fm y→words.drop m≠nw n x y)∨
       ∃x y,t= .inr (x,y)∧fm x∧fm y∧(n < 1→x=0)∧(n < 2→y=0)∧m+n≤words.length∧(words.drop m).take n=nw n x y):=by
    refine eY (n:=n) (fun i (a:Int×Int×Int)=>a.1=(i:Int)∧fm a.2.1∧fm a.2.2∧(i < 1→a.2.1=0)∧(i < 2→a.2.2=0)∧m+i≤words.length∧(words.drop m).take i=nw i a.2.1 a.2.2) _ (fun i a hi hI=>?_) (fun a hI=>?_) ⟨rfl,f0,f0,fun _=>rfl,fun _=>rfl,by omega,by simp [nw]⟩ (by omega)
    · obtain ⟨i',x,y⟩:=a
      obtain ⟨rfl,hx,hy,hx0,hy0,hmi,hd⟩:=hI;simp only at hx hy hx0 hy0 hd⊢;have e1:w64 ((m:Int)+(i:Int))=((m+i:Nat):Int):=by rw [aL (by omega)]; omega
      rw [af (bA (by omega)),e1];by_cases hlt:m+i < words.length
      · rw [ab (by rw [ai]; omega),bz hlt,bsm]
        rcases Am words[m+i] (hw _ (aF hlt)) with ⟨v,hv,ev,hnum⟩ | ⟨hno,hnum⟩
        · rw [hnum,bsm,ab (by simp)]
          have hw':words[m+i]=mkS (Lib.itoa v):=by rw [←ev,gg]
          have ht:(words.drop m).take (i+1)=(words.drop m).take i++ [mkS (Lib.itoa v)]:=by
            rw [ay (by rw [aN]; omega),List.getElem_drop,hw']
          left
          have hi2:i=0∨i=1:=by omega
          rcases hi2 with rfl | rfl
          · obtain rfl:=hx0 (by omega)
            obtain rfl:=hy0 (by omega);refine ⟨(w64 (((0:Nat):Int)+1),v,0),rfl,by simp only; rw [aL (by omega)]; omega,hv,f0,fun h=>by omega,fun _=>rfl,by omega,?_⟩;rw [ht,hd];rfl
          · obtain rfl:=hy0 (by omega)
            refine ⟨(w64 (((1:Nat):Int)+1),x,v),rfl,by simp only; rw [aL (by omega)]; omega,hx,hv,fun h=>by omega,fun h=>by omega,by omega,?_⟩;rw [ht,hd];rfl
        · rw [hnum,bsm,af (by simp),lA,bsm]
          right
          refine ⟨_,rfl,.inl ⟨_,by omega,by omega,rfl,fun x' y' hx' hy' e=>?_⟩⟩;have:(words.drop m)[i]? = (nw n x' y')[i]? :=by rw [e]
          rw [bH,ah hlt] at this;unfold nw at this;rw [aK,af (by omega)] at this;have hi2:i=0∨i=1:=by omega
          rcases hi2 with rfl | rfl
          · simp only [fj,az] at this
            exact hno x' hx' (by rw [this,dB])
          · simp only [fk,fj,az] at this
            exact hno y' hy' (by rw [this,dB])
      · rw [af (bA (by omega)),lA,bsm]
        right
        refine ⟨_,rfl,.inl ⟨_,by omega,by omega,rfl,fun x' y' _ _ e=>?_⟩⟩;have h1:=dG List.length e;have h2:=Fh (n:=(n:Int)) (by omega) x' y';rw [aN] at h1;omega
    · obtain ⟨i',x,y⟩:=a
      obtain ⟨rfl,hx,hy,hx0,hy0,hmi,hd⟩:=hI;exact ⟨_,by simp only; rw [ab (by simp)],.inr ⟨x,y,rfl,hx,hy,hx0,hy0,hmi,hd⟩⟩
  obtain ⟨t,ht,hp⟩:=key;rcases hp with ⟨a,h1,h2,rfl,h3⟩ | ⟨x,y,rfl,hx,hy,hx0,hy0,hmn,hd⟩
  · exact .inr ⟨h3,a,h1,h2,kX ht rfl⟩
  · have e1:w64 ((m:Int)+(n:Int))=((m+n:Nat):Int):=by rw [aL (by omega)]; omega
    by_cases hgt:words.length > m+n
    · right
      refine ⟨fun x' y' _ _ e=>?_,((m+n:Nat):Int),by omega,by omega,kX ht ?_⟩
      · have h1:=dG List.length e
        have h2:=Fh (n:=(n:Int)) (by omega) x' y';rw [aN] at h1;omega
      · simp only
        rw [e1,af (bA (by omega)),lA,bsm]
    · left
      refine ⟨x,y,hx,hy,hx0,hy0,?_,kX ht ?_⟩
      · rw [←hd,aJ (by rw [aN]; omega)]
      · simp only
        rw [e1,ab (by rw [ai]; omega)]
structure sw (o:ba):Prop where
 k0:0≤o.Kind
 k1:o.Kind≤13
 a:fm o.A
 b:fm o.B
 by_:o.Kind≠0→o.Bytes= []
 z:o.Kind=0∨o.Kind=1→o.A=0∧o.B=0
 o1:¬(o.Kind=0∨o.Kind=1∨o.Kind=2∨o.Kind=13)→o.B=0
 w:o.Kind=12→o.A=0∨o.A=1
def nOf (k:Int):Int:=if k=1 then 0 else if k=2∨k=13 then 2 else 1
abbrev Cr:ByteArray:=⟨#[102,101,101,100]⟩
abbrev Co:ByteArray:=⟨#[119,114,97,112]⟩
def kOK (k:Nat):Bool:= !(hw k).1.isEmpty && (hw k).1.all (fun w=> !w.data.toList.contains 32 && !w.data.toList.contains 10 && decide (w.size≤10)) && (hw k).2==nOf k &&
 (match (hw k).1[0]? with | some w=> !(w.data.toList==Cr.data.toList) && !(w.data.toList==Co.data.toList) | none=>false)
theorem HQ:((List.range 14).all fun k=>k==0 || k==12 || kOK k)=true:=by kernel_rfl
structure KOK (k:Int):Prop where
 ne:(hw k).1≠ []
 sp:∀w∈(hw k).1,(32:UInt8)∉blS w∧(10:UInt8)∉blS w∧w.size≤10
 n:(hw k).2=nOf k
 hd:∃w r,(hw k).1=w :: r∧w≠Cr∧w≠Co
theorem kok {k:Int} (h:1≤k∧k≤13) (h12:k≠12):KOK k:=by
 have hh:=List.all_eq_true.1 HQ k.toNat (List.mem_range.2 (by omega));rw [aC,aC,aA,aA] at hh;have hh:kOK k.toNat=true:=by rcases hh with (q | q) | q <;> first | (exfalso; omega) | exact q
 unfold kOK at hh;rw [show ((k.toNat:Nat):Int)=k by omega] at hh;simp only [an,dQ,mo,aA,ai] at hh;obtain ⟨⟨⟨h1,h2⟩,h3⟩,h4⟩:=hh;refine ⟨by rw [←GV]; exact h1,fun w hw'=>?_,h3,?_⟩
 ·obtain ⟨⟨q1,q2⟩,q3⟩:=h2 w hw';refine ⟨fun q=>?_,fun q=>?_,q3⟩
  ·have q:(32:UInt8)∈w.data.toList:=q;rw [List.contains_iff_mem.2 q] at q1; cases q1
  ·have q:(10:UInt8)∈w.data.toList:=q;rw [List.contains_iff_mem.2 q] at q2; cases q2
 ·cases e:(hw k).1 with
  | nil=>rw [e] at h1; simp at h1
  | cons w r=>
   rw [e] at h4;simp only [fj,an,dQ,bN] at h4;exact ⟨w,r,rfl,fun q=>h4.1 (by rw [q]),fun q=>h4.2 (by rw [q])⟩
theorem JE {k:Int} (h:k < 1∨13 < k∨k=12):hw k=([],0):=by
 have ne:∀c:Int,c∈([1,2,3,4,5,6,7,8,9,10,11,13]:List Int)→(k==c)=false:=fun c hc=>by
  rw [bN];simp only [cq,cC,ju] at hc;omega
 have e:=oM k;unfold dq at e;simp only [ne 1 (by simp),ne 2 (by simp),ne 3 (by simp),ne 4 (by simp),ne 5 (by simp),ne 6 (by simp),ne 7 (by simp),ne 8 (by simp),ne 9 (by simp),ne 10 (by simp),ne 11 (by simp),ne 13 (by simp),am,aU] at e;exact (aH e).symm
theorem Ig (l:List Int) (hl:l.length≤1000000):∃b,kM l=some b∧(b=true↔∀n∈l,fm n):=by
 unfold kM;have key:∃t,cV (((l.length:Int) - 0).toNat+1) (fun (b:Int)=>
   if (decide (b < (l.length:Int)))=true then
   (idx l b).bind fun c=>
   (orE (decide (c > 999999999)) (some (decide (c < (-999999999))))).bind fun d=>
   if d=true then
   some (.inr (.inl false))
   else
   some (.inl ((w64 (b+1))))
   else
   some (.inr (.inr ()))) 0=some t∧((t=(Sum.inl false:Bool ⊕ Unit)∧¬∀n∈l,fm n)∨(t= .inr ()∧∀n∈l,fm n)):=by
  refine eY (n:=l.length) (fun i (a:Int)=>a=(i:Int)∧∀n∈l.take i,fm n) _ (fun i a hi hI=>?_) (fun a hI=>?_) ⟨rfl,by simp⟩ (by omega)
  ·obtain ⟨rfl,h⟩:=hI;rw [af (dlt hi),bz hi,bsm,bS,bsm,eW hi (by omega)];by_cases hf:fm l[i]
   ·left
    refine ⟨_,by rw [ab (by unfold fm at hf; rw [aC,ai,ai]; omega)],rfl,fun n hn=>?_⟩;rw [ay hi] at hn;rcases List.mem_append.1 hn with hn | hn
    ·exact h n hn
    ·rw [List.mem_singleton.1 hn]; exact hf
   ·right
    refine ⟨_,by rw [af (by unfold fm at hf; rw [aC,ai,ai]; omega)],.inl ⟨rfl,fun q=>hf (q _ (aF hi))⟩⟩
  ·obtain ⟨rfl,h⟩:=hI;rw [cZ] at h;exact ⟨_,by rw [ab (by simp)],.inr ⟨rfl,h⟩⟩
 obtain ⟨t,ht,hp⟩:=key;rcases hp with ⟨rfl,h⟩ | ⟨rfl,h⟩
 ·exact ⟨false,kX ht rfl,by simp only [am,false_iff]; exact h⟩
 ·exact ⟨true,kX ht rfl,by simp only [true_iff]; exact h⟩
theorem E1 (o:ba):∃b,ke o=some b∧(b=true↔sw o):=by
 obtain ⟨fb,hfb,hfb2⟩:=Ig [o.A,o.B] (by simp);unfold ke;rw [oM,bsm];by_cases h0:o.Kind=0
 ·rw [af (by rw [aA]; exact h0),bd,bsm];refine ⟨_,rfl,?_⟩;rw [an,aA,aA];exact ⟨fun h=>⟨by omega,by omega,by unfold fm; omega,by unfold fm; omega,fun q=>absurd h0 q,fun _=>h,fun q=>by omega,fun q=>by omega⟩,fun h=>h.z (.inl h0)⟩
 ·rw [ab (by rw [aA]; exact h0)];have hby:((o.Bytes.length:Int)==0)=true↔o.Bytes= []:=by
   rw [aA]
   cases o.Bytes with
   | nil=>simp
   | cons x t=>simp <;> omega
  by_cases h12:o.Kind=12
  ·rw [af (by rw [aA]; exact h12),bS,bsm,bd,bsm,bd,bsm];refine ⟨_,rfl,?_⟩;rw [an,an,aC,aA,aA,aA,hby];exact ⟨fun h=>⟨by omega,by omega,by unfold fm; omega,by unfold fm; omega,fun _=>h.2,fun q=>by omega,fun _=>h.1.2,fun _=>h.1.1⟩,fun h=>⟨⟨h.w h12,h.o1 (by omega)⟩,h.by_ h0⟩⟩
  ·rw [ab (by rw [aA]; exact h12),bS,bsm];by_cases hr:1≤o.Kind∧o.Kind≤13
   ·have K:=kok hr h12;have e1:(hw o.Kind).1.isEmpty=false:=by rw [GV]; exact K.ne
    rw [e1,kY];by_cases hb:o.Bytes= []
    ·have e2:decide ((o.Bytes.length:Int) > 0)=false:=by rw [hb]; rfl
     rw [e2,db,hfb,bsm,bsm]
     cases fb with
     | false=>
      rw [af (by simp)];refine ⟨_,rfl,fun h=>(by cases h),fun h=>?_⟩;have:=hfb2.2 (fun n hn=>by
       simp only [cq,cC,ju] at hn;rcases hn with rfl | rfl
       ·exact h.a
       ·exact h.b)
      cases this
     | true=>
      have hf:=hfb2.1 rfl;have fa:=hf o.A (by simp);have fb:=hf o.B (by simp);rw [ab (by simp),bS,bsm,bd,bsm,bS,bsm];refine ⟨_,rfl,?_⟩;rw [aC,an,aC,aA,aA,aA,aA,K.n];unfold nOf;constructor
      ·intro h;refine ⟨by omega,by omega,fa,fb,fun _=>hb,fun q=>?_,fun q=>?_,fun q=>by omega⟩
       ·have:o.Kind=1:=by omega
        rw [af this] at h;omega
       ·rw [ab (by omega),ab (by omega)] at h;omega
      ·intro h;by_cases k1:o.Kind=1
       ·have:=h.z (.inr k1);rw [af k1];exact .inr ⟨this.2,.inr this.1⟩
       ·by_cases k2:o.Kind=2∨o.Kind=13
        ·rw [ab k1,af k2];exact .inl rfl
        ·rw [ab k1,ab k2];exact .inr ⟨h.o1 (by omega),.inl rfl⟩
    ·have e2:decide ((o.Bytes.length:Int) > 0)=true:=by
      rw [ai];have:=List.length_pos_iff.2 hb;omega
     rw [e2,ij,bsm,af rfl];exact ⟨_,rfl,fun h=>(by cases h),fun h=>absurd (h.by_ h0) hb⟩
   ·rw [JE (by omega)];show ∃b,((orE (true || _) _).bind _)=some b∧_;rw [Bool.true_or,ij,bsm,af rfl];exact ⟨_,rfl,fun h=>(by cases h),fun h=>by have:=h.k0; have:=h.k1; omega⟩
def rH (o:ba):List UInt8:=
 if o.Kind=0 then [102,101,101,100,32]++hx o.Bytes
 else if o.Kind=12 then (if o.A=1 then [119,114,97,112,32,111,110] else [119,114,97,112,32,111,102,102])
 else ft 32 ((hw o.Kind).1.map blS++([Lib.itoa o.A,Lib.itoa o.B]).take (nOf o.Kind).toNat)
theorem Js (l:List ByteArray):(l.map blS).map mkS=l:=by
 rw [fR]
 conv=>rhs; rw [←np l]
 exact dm fun s _=>gg s
theorem Fl (k:Int):0≤nOf k∧nOf k≤2:=by unfold nOf; split <;> (try split) <;> omega
theorem qX (c:UInt8) (n:Nat):∀ws:List (List UInt8),(∀w∈ws,w.length≤n)→(ft c ws).length≤ws.length * (n+1)
 | [],_=>by simp [ft]
 | [x],h=>by have:=h x (by simp); simp only [ft,bi]; omega
 | x :: y :: r,h=>by
  have h1:=h x (by simp);have h2:=qX c n (y :: r) (fun w hw=>h w (gL _ hw));rw [ft,ag,ak,ak (a:=x),fh,mg];omega
theorem zI {o:ba} (R:sw o) (K:KOK o.Kind):∀w∈(hw o.Kind).1.map blS++([Lib.itoa o.A,Lib.itoa o.B]).take (nOf o.Kind).toNat,(32:UInt8)∉w∧(10:UInt8)∉w∧w.length≤10:=by
 intro w hw';rcases List.mem_append.1 hw' with h | h
 ·obtain ⟨x,hx,rfl⟩:=List.mem_map.1 h;obtain ⟨h1,h2,h3⟩:=K.sp x hx;exact ⟨h1,h2,by rw [jT]; exact h3⟩
 ·have:=ej h;simp only [cq,cC,ju] at this;rcases this with rfl | rfl
  ·exact ⟨vu _ _ (by decide) (by decide),vu _ _ (by decide) (by decide),lE R.a⟩
  ·exact ⟨vu _ _ (by decide) (by decide),vu _ _ (by decide) (by decide),lE R.b⟩
theorem xM {o:ba}:((hw o.Kind).1.map blS++([Lib.itoa o.A,Lib.itoa o.B]).take (nOf o.Kind).toNat).length≤4:=by
 have h1:=BS o.Kind;rw [ag,aQ,av];simp only [ak,aB];omega
theorem DL {o:ba} (R:sw o):(rH o).length≤2 * o.Bytes.length+60:=by
 unfold rH;split
 ·unfold hx;split
  ·simp
  ·rw [ag,oT]; simp only [ak,aB]; omega
 ·split
  ·split <;> simp
  ·rename_i h0 h12
   have K:=kok (k:=o.Kind) (by have:=R.k0; have:=R.k1; omega) h12;have:=qX 32 10 _ (fun w hw'=>(zI R K w hw').2.2);have h4:=xM (o:=o);have:((hw o.Kind).1.map blS++([Lib.itoa o.A,Lib.itoa o.B]).take (nOf o.Kind).toNat).length * 11≤44:=by omega
   omega
theorem Fw {o:ba} (hb:bytes o.Bytes) (hl:o.Bytes.length≤300000):(sw o→iB o=some (mkS (rH o)))∧(¬sw o→iB o=some ⟨#[]⟩):=by
 obtain ⟨b,h1,h2⟩:=E1 o;unfold iB;rw [h1,bsm];constructor
 ·intro R;rw [h2.2 R,ab (by simp)];unfold rH;by_cases h0:o.Kind=0
  ·rw [af (by rw [aA]; exact h0),af h0,JF hb (by omega),bsm];have hl2:(hx o.Bytes).length≤1000000:=by
    unfold hx;split
    ·simp
    ·rw [oT]; omega
   have:=qV (a:=[102,101,101,100,32]) (b:=hx o.Bytes) (by simp only [ak,aB]; omega);rw [show (⟨#[102,101,101,100,32]⟩:ByteArray)=mkS [102,101,101,100,32] from rfl,this,bsm]
  ·rw [ab (by rw [aA]; exact h0),ab h0,bd,bsm];by_cases h12:o.Kind=12
   ·rw [af h12];by_cases hA:o.A=1
    ·rw [af (by rw [an,aA,aA]; exact ⟨h12,hA⟩),af hA];rfl
    ·rw [ab (by rw [an,aA,aA]; exact fun q=>hA q.2),af (by rw [aA]; exact h12),ab hA];rfl
   ·rw [ab (by rw [an,aA,aA]; exact fun q=>h12 q.1),ab (by rw [aA]; exact h12),ab h12,oM,bsm];have K:=kok (k:=o.Kind) (by have:=R.k0; have:=R.k1; omega) h12;have hn:=Fl o.Kind;rw [K.n];have hs:slc [o.A,o.B] 0 (nOf o.Kind)=some (([o.A,o.B]).take (nOf o.Kind).toNat):=by
     unfold slc;rw [af (by simp only [ak,aB]; omega)];simp
    rw [hs,bsm];have hf:∀n∈([o.A,o.B]).take (nOf o.Kind).toNat,fm n:=fun n hn=>by
     have:=ej hn;simp only [cq,cC,ju] at this;rcases this with rfl | rfl
     ·exact R.a
     ·exact R.b
    have ht:([Lib.itoa o.A,Lib.itoa o.B]).take (nOf o.Kind).toNat=(([o.A,o.B]).take (nOf o.Kind).toNat).map Lib.itoa:=by
     rw [List.map_take]; rfl
    rw [ht];have hlen:(([o.A,o.B]).take (nOf o.Kind).toNat).length≤2:=by rw [av]; simp only [ak,aB]; omega
    have hwl:=BS o.Kind;have hwords:=zI R K;rw [ht] at hwords;have hwl2:=xM (o:=o);rw [ht] at hwl2;generalize ([o.A,o.B]).take (nOf o.Kind).toNat=l at hf hlen hwords hwl2;refine kv (n:=l.length) (fun i (a:List ByteArray×Int)=>a=((hw o.Kind).1++((l.take i).map fun n=>mkS (Lib.itoa n)),(i:Int))) (fun t=>t=(hw o.Kind).1++(l.map fun n=>mkS (Lib.itoa n))) (fun i a hi hI=>?_) (fun a hI=>?_) (by simp) (by omega) (fun t ht=>?_)
    ·subst hI;simp only;rw [af (dlt hi),eW hi (by omega)];simp only [bz hi,bsm];rw [nX (hf _ (aF hi)),bsm,du (by rw [ag,aQ,av]; simp only [bi]; omega),bsm];refine .inl ⟨_,rfl,?_⟩;rw [ay hi,bb,aD];rfl
    ·subst hI;refine ⟨_,by simp only; rw [ab (by simp)],?_⟩;rw [cZ]
    ·subst ht;have e:(hw o.Kind).1++(l.map fun n=>mkS (Lib.itoa n))=((hw o.Kind).1.map blS++l.map Lib.itoa).map mkS:=by
      rw [bb,Js,fR];rfl
     have hj:=qX 32 10 _ (fun w hw'=>(hwords w hw').2.2);rw [e,tc 32 (by omega) (by omega),bsm]
 ·intro R;have:b=false:=by
   cases b with
   | false=>rfl
   | true=>exact absurd (h2.1 rfl) R
  rw [this,af (by simp)]
abbrev zop:ba:=⟨0,0,0,[]⟩
theorem HL (l:List (List UInt8)):(l.map mkS).map blS=l:=by
 rw [fR]
 conv=>rhs; rw [←np l]
 exact dm fun s _=>dB s
theorem BZ {α:Type} {l:List α} (h:l.length=2):∃a b,l= [a,b]:=by
 match l,h with
 | [a,b],_=>exact ⟨a,b,rfl⟩
theorem DY (ws:List (List UInt8)) (h2:ws.length≤2000000) (hs:∀w∈ws,w.length≤1000000):
  (∃l w0,bytes l∧ws= [w0,hx l]∧l.length≤(hx l).length∧jI (ws.map mkS)=some (⟨0,0,0,l⟩,Er.nil))∨∃a:Int,0≤a∧(ws≠ []→a≤ws.length)∧jI (ws.map mkS)=some (zop,Er.fault a (Er.sent 6)):=by
 unfold jI;rw [aQ];by_cases hl:ws.length < 2
 ·right
  rw [af (bA (by omega)),lA,bsm];exact ⟨1,by omega,fun h=>by have:=List.length_pos_iff.2 h; omega,rfl⟩
 ·rw [ab (by rw [ai]; omega)];have hi:1 < (ws.map mkS).length:=by rw [aQ]; omega
  have hw1:(ws.map mkS)[1]=mkS ws[1]:=dv ..;rw [show (1:Int)=((1:Nat):Int) from rfl,bz hi,bsm,hw1];have hsz:=hs ws[1] (aF (by omega));rcases E6 (mkS ws[1]) (by rw [eX]; exact hsz) with ⟨l,hb,e,hll,hr⟩ | ⟨_,hr⟩
  ·rw [hr,bsm,ab (by simp)];rw [dB] at e;by_cases h3:ws.length > 2
   ·right
    rw [af (bA (by omega)),lA,bsm];exact ⟨2,by omega,fun _=>by omega,rfl⟩
   ·left
    rw [ab (by rw [ai]; omega)];obtain ⟨a,b,rfl⟩:=BZ (l:=ws) (by omega);simp only [ux,uw] at e;subst e;rw [eX] at hll;exact ⟨l,a,hb,rfl,hll,rfl⟩
  ·right
   rw [hr,bsm,af (by simp),lA,bsm];exact ⟨1,by omega,fun _=>by omega,rfl⟩
abbrev GX:ByteArray:=⟨#[111,110]⟩
abbrev Cq:ByteArray:=⟨#[111,102,102]⟩
theorem De (ws:List (List UInt8)) (h2:ws.length≤2000000):
  (∃w0 x,ws= [w0,x]∧((x=blS GX∧iA (ws.map mkS)=some (⟨12,1,0,[]⟩,Er.nil))∨(x=blS Cq∧iA (ws.map mkS)=some (⟨12,0,0,[]⟩,Er.nil))))∨∃a:Int,0≤a∧(ws≠ []→a≤ws.length)∧iA (ws.map mkS)=some (zop,Er.fault a (Er.sent 6)):=by
 unfold iA;rw [aQ];by_cases hl:ws.length < 2
 ·right
  rw [show decide (((ws.length:Nat):Int) < 2)=true from bA (by omega),ij,bsm,af rfl,lA,bsm];exact ⟨1,by omega,fun h=>by have:=List.length_pos_iff.2 h; omega,rfl⟩
 ·rw [show decide (((ws.length:Nat):Int) < 2)=false by rw [dX]; omega,db];have hi:1 < (ws.map mkS).length:=by rw [aQ]; omega
  have hw1:(ws.map mkS)[1]=mkS ws[1]:=dv ..;have hx:idx (ws.map mkS) 1=some (mkS ws[1]):=by rw [show (1:Int)=((1:Nat):Int) from rfl,bz hi,hw1]
  simp only [hx,bsm,bd];by_cases hon:ws[1]=blS GX
  ·have e1:eqS (mkS ws[1]) GX=true:=by rw [hon,gg]; exact mS _
   rw [e1,ab (by simp)];by_cases h3:ws.length > 2
   ·right
    rw [af (bA (by omega)),lA,bsm];exact ⟨2,by omega,fun _=>by omega,rfl⟩
   ·left
    rw [ab (by rw [ai]; omega),af rfl];obtain ⟨a,b,rfl⟩:=BZ (l:=ws) (by omega);exact ⟨a,b,rfl,.inl ⟨hon,rfl⟩⟩
  ·have e1:eqS (mkS ws[1]) GX=false:=wE fun e=>hon (by rw [←e,dB]);rw [e1];by_cases hoff:ws[1]=blS Cq
   ·have e2:eqS (mkS ws[1]) Cq=true:=by rw [hoff,gg]; exact mS _
    rw [e2,ab (by simp)];by_cases h3:ws.length > 2
    ·right
     rw [af (bA (by omega)),lA,bsm];exact ⟨2,by omega,fun _=>by omega,rfl⟩
    ·left
     rw [ab (by rw [ai]; omega),ab (by simp)];obtain ⟨a,b,rfl⟩:=BZ (l:=ws) (by omega);exact ⟨a,b,rfl,.inr ⟨hoff,rfl⟩⟩
   ·have e2:eqS (mkS ws[1]) Cq=false:=wE fun e=>hoff (by rw [←e,dB])
    right
    rw [e2,af (by simp),lA,bsm];exact ⟨1,by omega,fun _=>by omega,rfl⟩
theorem Jo {n:Int} (x y:Int):(nw n x y).map blS=([Lib.itoa x,Lib.itoa y]).take n.toNat:=by
 unfold nw;rw [List.map_take];simp only [dL,Bn,dB]
theorem BL (p0:ByteArray) (hs:p0.size≤1000000):
  (∃o,sw o∧bytes o.Bytes∧o.Bytes.length≤p0.size∧blS p0=rH o∧fL p0=some (o,Er.nil))∨
  ∃a:Int,0≤a∧a≤(cF 32 (blS p0)).length∧fL p0=some (zop,Er.fault a (Er.sent 6)):=by
 have hj:=se 32 (blS p0);have hcnt:=mG 32 (blS p0);have hlen:(cF 32 (blS p0)).length≤p0.size+1:=by
  rw [hcnt,←jT];have:=xg (a:=(32:UInt8)) (l:=blS p0);omega
 have hwl:∀w∈cF 32 (blS p0),w.length≤p0.size:=by
  have:∀(ws:List (List UInt8)),∀w∈ws,w.length≤(ft 32 ws).length:=by
   intro ws
   induction ws with
   | nil=>intro w hw; cases hw
   | cons x r ih=>
    intro w hw
    cases r with
    | nil=>
     rw [List.mem_singleton.1 hw];exact ao _
    | cons y s=>
     rw [ft,ag,ak];rcases List.mem_cons.1 hw with rfl | hw
     ·omega
     ·have:=ih w hw;omega
  intro w hw;have:=this _ w hw;rw [hj,jT] at this;exact this
 have hne:=tK 32 (blS p0);unfold fL;rw [EK 32 (by omega),bsm];generalize cF 32 (blS p0)=ws at hj hlen hwl hne⊢;obtain ⟨w0,r,rfl⟩:∃w0 r,ws=w0 :: r:=by
  cases ws with
  | nil=>exact absurd rfl hne
  | cons a b=>exact ⟨a,b,rfl⟩
 have hi:idx ((w0 :: r).map mkS) 0=some (mkS w0):=rfl;rw [hi,bsm];by_cases hf:w0=blS Cr
 ·rw [af (by rw [hf,gg]; exact mS _)];rcases DY (w0 :: r) (by omega) (fun w hw=>by have:=hwl w hw; omega) with ⟨l,w1,hb,e,hll,hr⟩ | ⟨a,h1,h2,hr⟩
  ·left
   rw [hr,bsm];obtain ⟨rfl,rfl⟩:=List.cons.inj e;have h3:=hwl (hx l) (by simp);refine ⟨_,⟨by simp,by simp,by simp [fm],by simp [fm],fun h=>absurd rfl h,fun _=>⟨rfl,rfl⟩,fun h=>absurd (.inl rfl) h,fun h=>by simp at h⟩,hb,by simp only; omega,?_,rfl⟩;rw [←hj,hf];unfold rH;rw [af rfl];rfl
  ·right
   rw [hr,bsm];exact ⟨a,h1,h2 hne,rfl⟩
 ·rw [ab (by rw [nt]; exact fun e=>hf (by rw [show Cr=mkS w0 from e.symm,dB]))];by_cases hw':w0=blS Co
  ·rw [af (by rw [hw',gg]; exact mS _)];rcases De (w0 :: r) (by omega) with ⟨w1,x,e,hr⟩ | ⟨a,h1,h2,hr⟩
   ·left
    obtain ⟨rfl,rfl⟩:=List.cons.inj e;rcases hr with ⟨rfl,hr⟩ | ⟨rfl,hr⟩
    ·rw [hr,bsm];refine ⟨_,⟨by simp,by simp,by simp [fm],by simp [fm],fun _=>rfl,fun h=>by simp at h,fun _=>rfl,fun _=> .inr rfl⟩,(by intro b hb; cases hb),by simp,?_,rfl⟩;rw [←hj,hw'];rfl
    ·rw [hr,bsm];refine ⟨_,⟨by simp,by simp,by simp [fm],by simp [fm],fun _=>rfl,fun h=>by simp at h,fun _=>rfl,fun _=> .inl rfl⟩,(by intro b hb; cases hb),by simp,?_,rfl⟩;rw [←hj,hw'];rfl
   ·right
    rw [hr,bsm];exact ⟨a,h1,h2 hne,rfl⟩
  ·rw [ab (by rw [nt]; exact fun e=>hw' (by rw [show Co=mkS w0 from e.symm,dB]))];have hl2:((w0 :: r).map mkS).length≤10000000:=by rw [aQ]; omega
   rcases DO ((w0 :: r).map mkS) hl2 with ⟨k,k1,k13,hpre,hk⟩ | ⟨_,b,b0,b1,hk⟩
   ·rw [hk,bsm,ab (by simp),oM,bsm];have h12:k≠12:=fun e=>by
     rw [e] at hpre;exact hpre.1 rfl
    have K:=kok ⟨k1,k13⟩ h12;have hn:=Fl k;obtain ⟨rest,hrest⟩:=Iw hpre.2;rw [K.n];have hcast:(nOf k)=((nOf k).toNat:Int):=by omega
    have hm:(hw k).1.length≤((w0 :: r).map mkS).length:=by rw [hrest,ag]; omega
    have hns:=yP ((w0 :: r).map mkS) (hw k).1.length (nOf k).toNat (by omega) hm hl2 (fun w hw''=>by
     obtain ⟨v,hv,rfl⟩:=List.mem_map.1 hw'';rw [eX];have:=hwl v hv;omega)
    rw [←hcast] at hns;rcases hns with ⟨x,y,fx,fy,hx0,hy0,hd,hr⟩ | ⟨_,a,h1,h2,hr⟩
    ·left
     rw [hr,bsm,ab (by simp [Er.isNil])];refine ⟨⟨k,x,y,[]⟩,⟨by simp only; omega,k13,fx,fy,fun _=>rfl,fun h=>?_,fun h=>?_,fun h=>absurd h h12⟩,(by intro b hb; cases hb),by simp,?_,rfl⟩
     ·simp only at h⊢;have e:nOf k=0:=by unfold nOf; rw [af (by omega)]
      exact ⟨hx0 (by omega),hy0 (by omega)⟩
     ·simp only at h⊢;have e:nOf k=1:=by unfold nOf; rw [ab (by omega),ab (by omega)]
      exact hy0 (by omega)
     ·unfold rH;rw [ab (by simp only; omega),ab h12];have hws:(w0 :: r)=(hw k).1.map blS++([Lib.itoa x,Lib.itoa y]).take (nOf k).toNat:=by
       have:(w0 :: r).map mkS=(hw k).1++nw (nOf k) x y:=by
        rw [←hd,hrest,eJ]
       rw [←HL (w0 :: r),this,bb,Jo]
      rw [←hj,hws]
    ·right
     rw [hr,bsm,af (by simp [Er.isNil])];rw [aQ] at h2;exact ⟨a,h1,h2,rfl⟩
   ·right
    rw [hk,bsm,af (by simp),lA,bsm];rw [aQ] at b1;exact ⟨b,b0,b1,rfl⟩
end Go.Proofs.YtceciacilfhmjaaGreatDoor
namespace Go.Proofs.YtceciacilfhmjaaGreatDoor
open Go Go.Lt
def JP:List UInt8:=[48,49,50,51,52,53,54,55,56,57,97,98,99,100,101,102]
def hdN (n:Nat):UInt8:=JP.getD n 0
def uhN (b:UInt8):Option Nat:=if JP.contains b then some (JP.idxOf b) else none
theorem FS:∀n:Fin 16,uhN (hdN n)=some n.val:=by decide +kernel
def nd (B u:Nat):List UInt8:=if h:u < B∨B < 2 then [hdN u] else nd B (u / B)++ [hdN (u % B)]
termination_by u
decreasing_by exact L5 (by omega) (by omega)
def fig (B:Nat) (b:UInt8):Bool:=match uhN b with
 | some d=>decide (d < B)
 | none=>false
theorem Cw {B d:Nat} {b:UInt8} (h:uhN b=some d) (hdN:d < B):fig B b=true:=by
 unfold fig;rw [h];exact bA hdN
section
variable {B:Nat} (h2:2≤B) (h16:B≤16)
theorem qr {u:Nat} (h:u < B):nd B u= [hdN u]:=by
 unfold nd;rw [rK (.inl h)]
include h2 h16
omit h16 in
theorem yQ {u:Nat} (h:¬u < B):nd B u=nd B (u / B)++ [hdN (u % B)]:=by
 conv=>lhs; unfold nd
 rw [pY (by omega)]
theorem Ip {u:Nat} (h:¬u < B):u / B < u:=L5 (by omega) (by omega)
theorem Jr:∀u:Nat,∀b∈nd B u,fig B b=true:=by
 intro u
 induction u using Nat.strongRecOn with
 | ind u ih=>
  intro b hb;by_cases h:u < B
  ·rw [qr h,eQ] at hb;subst hb;exact Cw (FS ⟨u,by omega⟩) h
  ·have hm:u % B < B:=uv _ (by omega);rw [yQ h2 h] at hb;rcases List.mem_append.1 hb with hb | hb
   ·exact ih (u / B) (Ip h2 h16 h) b hb
   ·rw [eQ] at hb;subst hb;exact Cw (FS ⟨u % B,by omega⟩) hm
theorem Fj:∀(k u:Nat),u < B ^ (k+1)→(nd B u).length≤k+1:=by
 intro k
 induction k with
 | zero=>intro u h; rw [qr (by simpa using h)]; simp
 | succ k ih=>
  intro u h;by_cases h10:u < B
  ·rw [qr h10]; simp
  ·rw [yQ h2 h10,ag,bi];have:=ih (u / B) (by rw [J9 (by omega)]; rw [J2] at h; exact h);omega
end
end Go.Proofs.YtceciacilfhmjaaGreatDoor
namespace Go.Proofs.YtceciacilfhmjaaGreatDoor
open Go Go.Lt
theorem KU:∀u:Nat,Lib.decDigits u=nd 10 u:=by
 have hd10:∀d:Fin 10,UInt8.ofNat (48+d.val)=hdN d.val:=by decide
 intro u
 induction u using Nat.strongRecOn with
 | ind u ih=>
  by_cases h:u < 10
  ·rw [Lib.decDigits_one h,qr h,←hd10 ⟨u,h⟩]
  ·conv=>lhs; unfold Lib.decDigits
   rw [pY h,yQ (by omega) h,ih (u / 10) (by omega),hd10 ⟨u % 10,by omega⟩]
theorem vy {n:Int} (h0:0≤n) (h1:n≤1000000000):bu n=some (mkS (nd 10 n.toNat)):=by
 unfold bu;rw [af (by omega)]
 congr 2
 show (if n < 0 then 45 :: Lib.decDigits n.natAbs else Lib.decDigits n.toNat)=_;rw [ab (by omega),KU]
section
variable {B:Nat} (h2:2≤B) (h16:B≤16)
include h2 h16
end
end Go.Proofs.YtceciacilfhmjaaGreatDoor
namespace Go.Proofs.YtceciacilfhmjaaGreatDoor
open Go Go.Lt
abbrev D36:ByteArray:=⟨#[48,49,50,51,52,53,54,55,56,57,97,98,99,100,101,102,103,104,105,106,107,108,109,110,111,112,113,114,115,116,117,118,119,120,121,122]⟩
theorem B9 (l:List UInt8):uq (l.map fun b=>(b.toNat:Int))=mkS l:=by
 unfold uq mkS
 congr 2
 rw [fR]
 conv=>rhs; rw [←np l]
 exact dm fun b _=>by simp
theorem K7 (u:Nat) (h:u < 16777216):dM .u64 (u:Int) 15=((u % 16:Nat):Int):=by
 have e1:(BitVec.ofInt 64 (u:Int) &&& BitVec.ofInt 64 15).toNat=u % 16:=by
  have b1:(BitVec.ofInt 64 (u:Int)).toNat=u:=by rw [LH]; omega
  have b2:(BitVec.ofInt 64 15).toNat=15:=rfl;rw [L3,b1,b2];exact Ck u 4
 show IntKind.u64.wrap ((BitVec.ofInt 64 (u:Int) &&& BitVec.ofInt 64 15).toNat:Int)=_;rw [e1];have hm:u % 16 < 16:=uv _ (by omega);rw [LZ];omega
theorem Ge (d:Nat) (h:d < 16):nb D36 (d:Int)=some ((hdN d).toNat:Int):=by
 have key:∀d:Fin 16,nb D36 (d.val:Int)=some ((hdN d.val).toNat:Int):=by decide +kernel
 exact key ⟨d,h⟩
theorem D2 {l:List Int} {j:Nat} (x:Int) (h:j < l.length):(l.set j x).drop j=x :: l.drop (j+1):=by
 rw [mu (by rw [cf]; exact h),Kb,List.drop_set_of_lt (by omega)]
theorem CL {l:List Int} {ds:List UInt8} {i:Nat} (d:Nat) (hl:l.length=65) (hi:0 < i) (hi2:i≤65) (hd':l.drop i=ds.map fun b=>(b.toNat:Int)):
  ∃x l',xo 65 l (w64 ((i:Int) - 1))=some x∧mj l (w64 ((i:Int) - 1)) ((hdN d).toNat:Int)=some l'∧l'.length=65∧l'.drop (i - 1)=(hdN d :: ds).map fun b=>(b.toNat:Int):=by
 have e:w64 ((i:Int) - 1)=((i - 1:Nat):Int):=by rw [aL (by omega)]; omega
 have hlt:i - 1 < l.length:=by omega
 refine ⟨l[i - 1],l.set (i - 1) ((hdN d).toNat:Int),?_,?_,by rw [cf,hl],?_⟩
 ·unfold xo;rw [e,af (by omega),bz hlt]
 ·unfold mj;rw [e,af (by omega),bp]
 ·rw [D2 _ hlt,show i - 1+1=i by omega,hd'];rfl
theorem FX {n:Nat} (hn:n < 16777216):fZ (n:Int) 16=some (mkS (nd 16 n)):=by
 have e16:IntKind.u64.wrap 16=16:=by decide
 have e15:IntKind.u64.wrap ((16:Int) - 1)=15:=by decide
 have en:IntKind.u64.wrap (n:Int)=(n:Int):=by rw [LZ]; omega
 have hp:fE 16=some true:=by decide +kernel
 have ht:iu 16=some 4:=by decide +kernel
 have h4:shn (IntKind.u64.wrap 4)=some 4:=by decide +kernel
 unfold fZ gP;rw [ab (by decide),en];unfold gk;simp only [e16,e15,hp,ht,h4,bsm,bS];rw [ab (by decide),show decide ((n:Int) < 0)=false by simp];simp only [am,aU,bsm,bG];have key:∃t,cV (((n:Int) - 16).toNat+2) (fun (b:Int×List Int×Int)=>
   if (decide (b.1≥16))=true then
   (nb D36 (dM .u64 b.1 15)).bind fun s=>
   (xo 65 b.2.1 (w64 (b.2.2 - 1))).bind fun z=>
   (mj b.2.1 (w64 (b.2.2 - 1)) s).bind fun o=>
   some (.inl ((b.1.fdiv (2 ^ (min 4 64))),o,(w64 (b.2.2 - 1))))
   else
   some (.inr (b.1,b.2.1,b.2.2))) ((n:Int),(List.replicate 65 (0:Int)),65)=some t∧∃(u k:Nat) (l:List Int) (ds:List UInt8),t=((u:Int),l,((65 - k:Nat):Int))∧l.length=65∧l.drop (65 - k)=(ds.map fun b=>(b.toNat:Int))∧k≤5∧u < 16∧nd 16 n=nd 16 u++ds:=by
  refine lF (fun a:Int×List Int×Int=>∃(u k:Nat) (l:List Int) (ds:List UInt8),a=((u:Int),l,((65 - k:Nat):Int))∧l.length=65∧l.drop (65 - k)=(ds.map fun b=>(b.toNat:Int))∧k≤5∧u < 16 ^ (6 - k)∧u≤n∧nd 16 n=nd 16 u++ds) (fun a=>(a.1 - 16).toNat+(if a.1≥16 then 1 else 0)) _ (fun a hI=>?_) _ _ ⟨n,0,_,[],rfl,by simp,by simp,by omega,hn,ao _,by simp⟩ (by split <;> omega);obtain ⟨u,k,l,ds,rfl,hl,hd',hk,hu,hun,hnd⟩:=hI;simp only;by_cases hc:u < 16
  ·right
   rw [ab (by rw [ai]; omega)];exact ⟨_,rfl,u,k,l,ds,rfl,hl,hd',hk,hc,hnd⟩
  ·left
   have hk4:k≤4∧u / 16 < 16 ^ (6 - (k+1)):=by
    have:k=0∨k=1∨k=2∨k=3∨k=4∨k=5:=by omega
    rcases this with rfl | rfl | rfl | rfl | rfl | rfl <;> simp at hu⊢ <;> omega
   rw [af (bA (by omega)),K7 u (by omega),Ge _ (by omega),bsm];obtain ⟨x,l',h1,h2,h3,h5⟩:=CL (u % 16) hl (by omega) (by omega) hd';rw [h1,bsm,h2,bsm];have ef:(u:Int).fdiv (2 ^ (min 4 64))=((u / 16:Nat):Int):=by
    rw [show ((2:Int) ^ (min 4 64))=16 from rfl,qR _ (by decide)];rfl
   refine ⟨_,rfl,⟨u / 16,k+1,l',hdN (u % 16) :: ds,?_,h3,by rw [show 65 - (k+1)=65 - k - 1 by omega]; exact h5,by omega,hk4.2,by omega,?_⟩,?_⟩
   ·rw [ef]
    congr 2
    rw [aL (by omega)];omega
   ·rw [hnd,yQ (B:=16) (by omega) hc,aD];rfl
   ·simp only [ef];split <;> split <;> omega
 obtain ⟨t,ht',u,k,l,ds,rfl,hl,hd',hk,hu,hnd⟩:=key;rw [show (List.replicate 65 (0:Int))=List.replicate 65 0 from rfl] at ht';simp only [ht',bsm];rw [Ge u hu,bsm];obtain ⟨x,l',h1,h2,h3,h5⟩:=CL u hl (i:=65 - k) (by omega) (by omega) hd';rw [h1,bsm,h2,bsm,bsm];have e:w64 (((65 - k:Nat):Int) - 1)=((65 - k - 1:Nat):Int):=by rw [aL (by omega)]; omega
 have hsl:slc l' (w64 (((65 - k:Nat):Int) - 1)) (l'.length:Int)=some ((hdN u :: ds).map fun b=>(b.toNat:Int)):=by
  unfold slc;rw [e,af (by omega),bp,h5]
  congr 1
  refine aJ ?_;have:=dG List.length h5;rw [aN] at this;omega
 simp only [hsl,bsm,B9];rw [hnd,qr hu];rfl
abbrev JC (ns:List Nat):List Int:=List.map (fun (n:Nat)=>(n:Int)) ns
def ya (ns:List Nat):List UInt8:=ft 43 (ns.map (nd 16))
theorem An (c b:UInt8):∀l:List (List UInt8),b∈ft c l→b=c∨∃w∈l,b∈w
 | [],h=>by cases h
 | [y],h=> .inr ⟨y,by simp,h⟩
 | y :: z :: r,h=>by
  rcases List.mem_append.1 h with h | h
  ·exact .inr ⟨y,by simp,h⟩
  ·rcases List.mem_cons.1 h with h | h
   ·exact .inl h
   ·rcases An c b (z :: r) h with h | ⟨w,h1,h2⟩
    ·exact .inl h
    ·exact .inr ⟨w,gL _ h1,h2⟩
theorem wh (c:UInt8) (k:Nat):∀l:List (List UInt8),(∀w∈l,w.length≤k)→(ft c l).length≤(k+1) * l.length
 | [],_=>by simp [ft]
 | [y],h=>by have:=h y (by simp); simp only [ft,bi]; omega
 | y :: z :: r,h=>by
  have h1:=h y (by simp);have h2:=wh c k (z :: r) (fun w hw=>h w (gL _ hw));rw [ft,ag,ak,ak,Nat.mul_add];omega
theorem Ks {ns:List Nat} {b:UInt8} (h:b∈ya ns):b=43∨fig 16 b=true:=by
 rcases An _ _ _ h with h | ⟨w,h1,h2⟩
 ·exact .inl h
 ·obtain ⟨n,_,rfl⟩:=List.mem_map.1 h1;exact .inr (Jr (by omega) (by omega) n b h2)
theorem Ag {ns:List Nat} (h:∀n∈ns,n < 16777216):(ya ns).length≤7 * ns.length:=by
 have:=wh 43 6 (ns.map (nd 16)) (fun w hw=>by
  obtain ⟨n,hn,rfl⟩:=List.mem_map.1 hw;exact Fj (by omega) (by omega) 5 n (h n hn))
 rw [aQ] at this;exact this
def uM (c:aa):List UInt8:=if c.Kind=0 then [46] else if c.Kind=3 then [61] else if c.Kind=2 then 62 :: ya (c.Text.map Int.toNat) else ya (c.Text.map Int.toNat)
theorem Ct {r:Int} (h:vld r=true):0≤r∧r≤1114111:=by
 unfold vld at h;simp only [an,ai] at h;exact ⟨h.1.1,h.1.2⟩
theorem Fk {t:List Int} (h:∀r∈t,vld r=true):JC (t.map Int.toNat)=t:=by
 show (t.map _).map _=t;rw [fR]
 conv=>rhs; rw [←np t]
 exact dm fun r hr=>by
  have:=Ct (h r hr);show ((r.toNat:Nat):Int)=r;omega
theorem tR {c:aa} (h:rgt c=true):(c=⟨0,[]⟩∧uM c= [46])∨(c=⟨3,[]⟩∧uM c= [61])∨∃(k:Int) (ns:List Nat),(k=1∨k=2)∧c=⟨k,JC ns⟩∧ns≠ []∧ns.length≤16∧(∀n∈ns,n≤1114111)∧uM c=if k=2 then 62 :: ya ns else ya ns:=by
 obtain ⟨k,t⟩:=c;unfold rgt at h;simp only at h;by_cases h0:k=0
 ·subst h0;simp at h;subst h;exact .inl ⟨rfl,rfl⟩
 ·by_cases h3:k=3
  ·subst h3;simp at h;subst h;exact .inr (.inl ⟨rfl,rfl⟩)
  ·right; right
   rw [ab (by omega),an,an,an,aC,ai,ai,ai,ai,mo] at h;obtain ⟨⟨⟨hk,a⟩,b⟩,h2⟩:=h;have h1:=And.intro a b;refine ⟨k,t.map Int.toNat,hk,by rw [Fk h2],?_,by rw [aQ]; exact h1.2,?_,?_⟩
   ·intro e;have:=dG List.length e;rw [aQ,aB] at this;omega
   ·intro n hn;obtain ⟨r,hr,rfl⟩:=List.mem_map.1 hn;have:=Ct (h2 r hr);omega
   ·unfold uM;simp only [ab h0,ab h3]
theorem Hf {c:aa} (h:rgt c=true):lu c=some (mkS (uM c)):=by
 rcases tR h with ⟨rfl,e⟩ | ⟨rfl,e⟩ | ⟨k,ns,hk,rfl,hne,hl,hns,e⟩
 ·rw [e]; rfl
 ·rw [e]; rfl
 ·rw [e];have hb:=Ag (ns:=ns) (fun n hn=>by have:=hns n hn; omega);unfold lu;simp only;rw [ab (by rw [aA]; omega),ab (by rw [aA]; omega)];refine kv (n:=ns.length) (fun i (a:List ByteArray×Int)=>a=((ns.take i).map (fun n=>mkS (nd 16 n)),(i:Int))) (fun t=>t=ns.map (fun n=>mkS (nd 16 n))) (fun i a hi hI=>?_) (fun a hI=>?_) rfl (by rw [aQ]; omega) (fun t ht=>?_)
  ·subst hI
   left
   have hm:=hns _ (aF hi);simp only;rw [af (by rw [ai,aQ]; omega),bz (by rw [aQ]; exact hi),bsm,dv,aL (n:=((ns[i]:Nat):Int)) (by omega),FX (by omega),bsm,du (by rw [aQ,av,bi]; omega),bsm];refine ⟨_,rfl,?_⟩;rw [ay hi,bb,aL (by omega)];rfl
  ·subst hI;refine ⟨_,by simp only; rw [ab (by rw [ai,aQ]; omega)],?_⟩;rw [cZ]
  ·subst ht;have e1:ns.map (fun n=>mkS (nd 16 n))=(ns.map (nd 16)).map mkS:=by rw [fR]; rfl
   rw [e1,tc 43 (by rw [aQ]; omega) (by
    have:(ft 43 (ns.map (nd 16))).length≤7 * ns.length:=hb;omega),bsm]
   rcases hk with rfl | rfl
   ·rw [ab (by decide),ab (by decide)];rfl
   ·rw [af (by decide),af rfl,show (⟨#[62]⟩:ByteArray)=mkS [62] from rfl,qV (by
     have:(ft 43 (ns.map (nd 16))).length≤7 * ns.length:=hb;simp only [bi]; omega),bsm]
    rfl
def J7 (c:aj) (W H:Int):Prop:=(0≤c.Row∧c.Row < H)∧(0≤c.Col∧c.Col < W)∧(c.Pending=true→c.Col=W - 1)
theorem JS (c:aj) {W H:Int} (hW:1≤W∧W≤1024) (hH:1≤H∧H≤1024):∃b,ki c W H=some b∧(b=true↔J7 c W H):=by
 have sW:aS 1 (aM W 1024)=W:=by unfold aS aM; omega
 have sH:aS 1 (aM H 1024)=H:=by unfold aS aM; omega
 unfold ki ed fH jK;simp only [bsm,sW,sH,bd];refine ⟨_,rfl,?_⟩;rw [aL (n:=H - 1) (by omega),aL (n:=W - 1) (by omega)];simp only [an,aA,tD];unfold J7 aS aM
 cases c.Pending with
 | true=>
  constructor
  ·rintro ⟨a,b,d⟩;have d':c.Col=W - 1:=by simpa using d.symm
   omega
  ·intro h;have:=h.2.2 rfl;exact ⟨by omega,by omega,by simp [this]⟩
 | false=>
  constructor
  ·rintro ⟨a,b,_⟩;exact ⟨by omega,by omega,fun q=>by cases q⟩
  ·intro h;exact ⟨by omega,by omega,by simp⟩
structure VwP (v:bU):Prop where
 high:v.High=(v.Lines.length:Int)
 h1:1≤v.High
 h2:v.High≤1024
 w1:1≤v.Wide
 w2:v.Wide≤1024
 cur:J7 v.At v.Wide v.High
 lines:∀l∈v.Lines,(l.Cells.length:Int)=v.Wide∧Snd l.Cells
def VwL (v:bU):Prop:=v.Lines.length≤9223372036854775807∧∀l∈v.Lines,l.Cells.length≤9223372036854775807
theorem yD (v:bU) (hv:VwL v):∃b,lH v=some b∧(b=true↔VwP v):=by
 unfold lH;simp only [bS,bsm]
 cases hg:((((v.High != (v.Lines.length:Int) || decide (v.High < 1)) || decide (v.High > 1024)) || decide (v.Wide < 1)) || decide (v.Wide > 1024)) with
 | true=>
  rw [ij,bsm,af rfl];refine ⟨_,rfl,fun q=>(by cases q),fun q=>?_⟩;simp only [aC,qQ,ai] at hg;obtain ⟨a1,a2,a3,a4,a5,_,_⟩:=q;omega
 | false=>
  simp only [xh,bne_eq_false_iff_eq,dX] at hg;obtain ⟨⟨⟨⟨a1,a2⟩,a3⟩,a4⟩,a5⟩:=hg;obtain ⟨b,b1,b2⟩:=JS v.At (W:=v.Wide) (H:=v.High) (by omega) (by omega);rw [b1,bsm,db,bsm]
  cases b with
  | false=>
   rw [af (by decide)];exact ⟨_,rfl,fun q=>(by cases q),fun q=>b2.2 q.cur⟩
  | true=>
   rw [ab (by simp)];refine tX (n:=v.Lines.length) (p:=fun b=>(b=true↔VwP v)) (fun i (a:Int)=>a=(i:Int)∧∀l∈v.Lines.take i,(l.Cells.length:Int)=v.Wide∧Snd l.Cells) (fun t=>(t= .inl false∧¬∀l∈v.Lines,(l.Cells.length:Int)=v.Wide∧Snd l.Cells)∨(t= .inr ()∧∀l∈v.Lines,(l.Cells.length:Int)=v.Wide∧Snd l.Cells)) (fun i a hi hI=>?_) (fun a hI=>?_) ⟨rfl,by simp⟩ (by omega) (fun t ht=>?_)
   ·obtain ⟨rfl,h⟩:=hI;have hm:=aF hi;have hl:=hv.1;obtain ⟨z,z1,z2⟩:=wM v.Lines[i].Cells (hv.2 _ hm);rw [af (dlt hi),bz hi,bsm,z1,bsm];by_cases hc:(v.Lines[i].Cells.length:Int)=v.Wide∧Snd v.Lines[i].Cells
    ·left
     rw [show ((v.Lines[i].Cells.length:Int) != v.Wide)=false by simpa using hc.1,z2.2 hc.2,db,bsm,ab (by simp),eW hi (by omega)];refine ⟨_,rfl,rfl,fun l hlm=>?_⟩;rw [ay hi] at hlm;rcases List.mem_append.1 hlm with q | q
     ·exact h l q
     ·rw [List.mem_singleton.1 q]; exact hc
    ·right
     have:orE ((v.Lines[i].Cells.length:Int) != v.Wide) (some (!z))=some true:=by
      rw [bS]
      congr 1
      cases z with
      | false=>simp
      | true=>
       have:¬(v.Lines[i].Cells.length:Int)=v.Wide:=fun q=>hc ⟨q,z2.1 rfl⟩;simpa using this
     rw [this,bsm,af rfl];exact ⟨_,rfl,.inl ⟨rfl,fun q=>hc (q _ hm)⟩⟩
   ·obtain ⟨rfl,h⟩:=hI;rw [cZ] at h;exact ⟨_,by rw [ab (by simp)],.inr ⟨rfl,h⟩⟩
   ·rcases ht with ⟨rfl,h⟩ | ⟨rfl,h⟩
    ·exact ⟨_,rfl,fun q=>(by cases q),fun q=>absurd q.lines h⟩
    ·exact ⟨_,rfl,fun _=>⟨a1,by omega,by omega,by omega,by omega,b2.1 rfl,h⟩,fun _=>rfl⟩
def oO (ws:List (List UInt8)):List UInt8:=ft 32 ws++ [10]
def xi (l:aq):List (List UInt8):=[if l.Wrap then 43 else 45] :: l.Cells.map uM
def kZ:List aq→List UInt8
 | []=>[]
 | l :: r=>oO (xi l)++kZ r
def Cp:List UInt8:=[115,99,114,101,101,110]
def zJ:List UInt8:=[112,101,110,100,105,110,103]
def Kg:List UInt8:=[97,117,116,111]
def wOn:List UInt8:=[111,110]
def IW:List UInt8:=[111,102,102]
def yj (W H:Int):List (List UInt8):=[Cp,nd 10 W.toNat,nd 10 H.toNat]
def wx (c:aj):List (List UInt8):=[[97,116],nd 10 c.Row.toNat,nd 10 c.Col.toNat]++(if c.Pending then [zJ] else [])
def AH (a:Bool):List (List UInt8):=[Kg,if a then wOn else IW]
def Cu (v:bU):List UInt8:=oO (yj v.Wide v.High)++(oO (wx v.At)++(oO (AH v.Auto)++kZ v.Lines))
theorem vV:∀a b:List aq,kZ (a++b)=kZ a++kZ b
 | [],_=>rfl
 | l :: r,b=>by rw [bD,kZ,kZ,vV r b,aD]
theorem BO (l:aq):kZ [l]=oO (xi l):=by rw [kZ,kZ,eP]
theorem D7 {c:aa} (h:rgt c=true):(uM c).length≤113:=by
 rcases tR h with ⟨_,e⟩ | ⟨_,e⟩ | ⟨k,ns,hk,rfl,hne,hl,hns,e⟩
 ·rw [e]; decide
 ·rw [e]; decide
 ·have:=Ag (ns:=ns) (fun n hn=>by have:=hns n hn; omega);rw [e];split
  ·simp only [ak]; omega
  ·omega
theorem yC {l:List aa} (h:Snd l):∀c∈l,rgt c=true:=fun c hc=>by
 obtain ⟨i,hi,rfl⟩:=List.mem_iff_getElem.1 hc;exact (h i hi).1
theorem Ad {l:aq} (h:∀c∈l.Cells,rgt c=true) (hl:l.Cells.length≤1024):(oO (xi l)).length≤116851∧(ft 32 (xi l)).length≤116850:=by
 have:=wh 32 113 (xi l) (fun w hw=>by
  rcases List.mem_cons.1 hw with rfl | hw
  ·simp
  ·obtain ⟨c,hc,rfl⟩:=List.mem_map.1 hw;exact D7 (h c hc))
 unfold xi at this;rw [ak,aQ] at this;unfold oO;rw [ag,bi];unfold xi;omega
theorem pq:∀ls:List aq,(∀l∈ls,(∀c∈l.Cells,rgt c=true)∧l.Cells.length≤1024)→(kZ ls).length≤116851 * ls.length
 | [],_=>by simp [kZ]
 | l :: r,h=>by
  have h1:=(Ad (h l (by simp)).1 (h l (by simp)).2).1;have h2:=pq r (fun x hx=>h x (gL _ hx));rw [kZ,ag,ak];omega
theorem vt {ws:List (List UInt8)} (h1:ws.length≤1000000) (h2:(ft 32 ws).length≤1000000):iX (ws.map mkS)=some (mkS (oO ws)):=by
 unfold iX;rw [tc 32 (by omega) (by omega),bsm,show (⟨#[10]⟩:ByteArray)=mkS [10] from rfl,qV (by simp only [bi]; omega),bsm];rfl
theorem sU {n:Int} (h:0≤n) (h2:n≤1024):(nd 10 n.toNat).length≤4:=Fj (by omega) (by omega) 3 _ (by omega)
theorem vD {a b:List UInt8} (h:a.length+b.length≤1000000000):Ba a (mkS b)=some (a++b):=by
 unfold Ba;rw [eX,dB,af (by omega)]
theorem AG {v:bU} (h:VwP v):(ft 32 (yj v.Wide v.High)).length≤50∧(ft 32 (wx v.At)).length≤50∧(ft 32 (AH v.Auto)).length≤50:=by
 have a1:=h.h1; have a2:=h.h2; have a3:=h.w1; have a4:=h.w2; have c:=h.cur;have l1:=sU (n:=v.Wide) (by omega) (by omega);have l2:=sU (n:=v.High) (by omega) (by omega);have l3:=sU (n:=v.At.Row) c.1.1 (by have:=c.1.2; omega);have l4:=sU (n:=v.At.Col) c.2.1.1 (by have:=c.2.1.2; omega);refine ⟨?_,?_,?_⟩
 ·simp only [yj,ft,Cp,ag,ak,aB]; omega
 ·unfold wx;cases v.At.Pending
  ·simp only [am,aU,eP,ft,ag,ak,aB]; omega
  ·simp only [bG,bD,bq,ft,zJ,ag,ak,aB]; omega
 ·cases v.Auto <;> decide
theorem lC (ws:List (List UInt8)):(oO ws).length=(ft 32 ws).length+1:=by
 unfold oO;rw [ag,bi]
theorem Hg {v:bU} (h:VwP v) (hv:VwL v):jY v=some (mkS (Cu v)):=by
 obtain ⟨b,b1,b2⟩:=yD v hv;have a1:=h.h1; have a2:=h.h2; have a3:=h.w1; have a4:=h.w2; have c:=h.cur;obtain ⟨l0,l1,l2⟩:=AG h;have hln:∀l∈v.Lines,(∀c∈l.Cells,rgt c=true)∧l.Cells.length≤1024:=fun l hl=>by
  obtain ⟨q1,q2⟩:=h.lines l hl;exact ⟨yC q2,by omega⟩
 have hhi:=h.high;unfold jY;rw [b1,b2.2 h,bsm,ab (by decide),vy (by omega) (by omega),bsm,vy (by omega) (by omega),bsm];rw [show ([(⟨#[115,99,114,101,101,110]⟩:ByteArray),mkS (nd 10 v.Wide.toNat),mkS (nd 10 v.High.toNat)]:List ByteArray)=(yj v.Wide v.High).map mkS from rfl,vt (by simp [yj]) (by omega),bsm,vD (by rw [lC]; simp only [aB]; omega),bsm,
  vy c.1.1 (by have:=c.1.2; omega),bsm,vy c.2.1.1 (by have:=c.2.1.2; omega),bsm]
 have hx:(if v.At.Pending=true then
   (app ([(⟨#[97,116]⟩:ByteArray),mkS (nd 10 v.At.Row.toNat),mkS (nd 10 v.At.Col.toNat)]:List ByteArray) ([(⟨#[112,101,110,100,105,110,103]⟩:ByteArray)]:List ByteArray)).bind fun l=>some (l)
   else some (([(⟨#[97,116]⟩:ByteArray),mkS (nd 10 v.At.Row.toNat),mkS (nd 10 v.At.Col.toNat)]:List ByteArray)))=some ((wx v.At).map mkS):=by
  unfold wx
  cases v.At.Pending with
  | true=>rw [af rfl,du (by simp),bsm]; rfl
  | false=>rw [ab (by decide)]; rfl
 rw [hx,bsm,vt (by unfold wx; cases v.At.Pending <;> simp) (by omega),bsm,vD (by rw [bq,lC,lC]; omega),bsm];have hp:iW v.Auto (⟨#[111,110]⟩:ByteArray) (⟨#[111,102,102]⟩:ByteArray)=some (mkS (if v.Auto then wOn else IW)):=by
  unfold iW
  cases v.Auto <;> rfl
 rw [hp,bsm,show ([(⟨#[97,117,116,111]⟩:ByteArray),mkS (if v.Auto then wOn else IW)]:List ByteArray)=(AH v.Auto).map mkS from rfl,vt (by simp [AH]) (by omega),bsm,
  vD (by rw [bq,ag,lC,lC,lC]; omega),bsm]
 have hall:=pq v.Lines hln;refine kv (n:=v.Lines.length) (fun i (a:Int×List UInt8)=>a=((i:Int),([]++oO (yj v.Wide v.High)++oO (wx v.At)++oO (AH v.Auto))++kZ (v.Lines.take i))) (fun t=>t=Cu v) (fun i a hi hI=>?_) (fun a hI=>?_) (by simp [kZ]) (by omega) (fun t ht=>by rw [ht])
 ·subst hI
  left
  have hm:=aF hi;obtain ⟨r1,r2⟩:=hln _ hm;obtain ⟨y1,y2⟩:=Ad r1 r2;have htk:=pq (v.Lines.take i) (fun l hl=>hln l (ej hl));rw [av,cH (by omega)] at htk;simp only;rw [af (dlt hi),bz hi,bsm];have hpw:iW v.Lines[i].Wrap (⟨#[43]⟩:ByteArray) (⟨#[45]⟩:ByteArray)=some (mkS [if v.Lines[i].Wrap then 43 else 45]):=by
   unfold iW
   cases v.Lines[i].Wrap <;> rfl
  rw [hpw,bsm];have hin:∃t,cV (((v.Lines[i].Cells.length:Int) - 0).toNat+1) (fun (b:List ByteArray×Int)=>
    if (decide (b.2 < (v.Lines[i].Cells.length:Int)))=true then
    (idx v.Lines[i].Cells b.2).bind fun s=>
    (lu s).bind fun t=>
    (app b.1 ([t]:List ByteArray)).bind fun u=>
    some (.inl (u,(w64 (b.2+1))))
    else
    some (.inr (b.1))) (([mkS [if v.Lines[i].Wrap then 43 else 45]]:List ByteArray),0)=some t∧t=(xi v.Lines[i]).map mkS:=by
   refine eY (n:=v.Lines[i].Cells.length) (fun j (a:List ByteArray×Int)=>a=(mkS [if v.Lines[i].Wrap then 43 else 45] :: (v.Lines[i].Cells.take j).map (fun c=>mkS (uM c)),(j:Int))) _ (fun j a hj hJ=>?_) (fun a hJ=>?_) rfl (by omega)
   ·subst hJ
    left
    simp only;rw [af (dlt hj),bz hj,bsm,Hf (r1 _ (aF hj)),bsm,du (by rw [ak,aQ,av,bi]; omega),bsm,aL (by omega)];refine ⟨_,rfl,?_⟩;rw [ay hj,bb];rfl
   ·subst hJ;refine ⟨_,by simp only; rw [ab (by simp)],?_⟩;rw [cZ];unfold xi;rw [dL,fR];rfl
  obtain ⟨t,ht,rfl⟩:=hin;rw [ht,bsm,vt (by unfold xi; rw [ak,aQ]; omega) (by omega),bsm,vD (by
   simp only [ag,aB,lC];rw [lC] at y1;omega),bsm,aL (by omega)]
  refine ⟨_,rfl,?_⟩;rw [ay hi,vV,BO];simp only [aD];rfl
 ·subst hI;refine ⟨_,by simp only; rw [ab (by simp)],?_⟩;rw [cZ];unfold Cu;simp only [bq,aD]
def txt (c:aa):List Int:=if c.Kind=0 then [32] else if c.Kind=1∨c.Kind=2 then c.Text else []
def flat (l:List aa):List Int:=l.flatMap txt
def qP (l:List aa):Nat:=(l.map fun c=>c.Text.length+1).sum
theorem I3 (c:aa):(txt c).length≤c.Text.length+1:=by
 unfold txt;split
 ·simp
 ·split
  ·omega
  ·simp
theorem CY (l:List aa):(flat l).length≤qP l:=by
 unfold flat qP
 induction l with
 | nil=>simp
 | cons c l ih=>
  rw [Bo,ag,dL,jR];have:=I3 c;omega
theorem yn {l:List aa} {i:Nat} (h:i < l.length):flat (l.take (i+1))=flat (l.take i)++txt l[i]:=by
 unfold flat;rw [ay h,Lj];simp
theorem ra (l:List aa) (i:Nat):qP (l.take i)≤qP l:=by
 unfold qP
 conv=>rhs; rw [←iU i l]
 rw [bb,js];omega
theorem CJ (l:List aa) (hb:qP l≤1000000000):gY l=some (flat l):=by
 have hl:l.length≤qP l:=by
  unfold qP
  induction l with
  | nil=>simp
  | cons c l ih=>
   simp only [dL,jR,ak];have:qP l≤1000000000:=by
    unfold qP at hb⊢;simp only [dL,jR] at hb;omega
   have:=ih this;omega
 unfold gY;refine kv (n:=l.length) (fun i (a:List Int×Int)=>a=(flat (l.take i),(i:Int))) (fun u=>u=flat l) (fun i a hi e=>?_) (fun a e=>?_) rfl (by omega) (fun u e=>by rw [e])
 ·left
  subst e;simp only;rw [af (dlt hi),bz hi,bsm,eW hi (by omega)];have h1:=CY (l.take (i+1));have h2:=ra l (i+1);rw [yn hi] at h1;rw [ag] at h1;refine ⟨_,?_,rfl⟩;rw [yn hi];have ht:txt l[i]=if l[i].Kind=0 then [32] else if l[i].Kind=1∨l[i].Kind=2 then l[i].Text else []:=rfl;by_cases k0:l[i].Kind=0
  ·rw [af k0] at ht;rw [ht] at h1⊢;rw [af (by rw [k0]; rfl),du (by simp only [ak,aB] at h1⊢; omega)];rfl
  ·rw [ab k0] at ht;rw [ab (by rw [aA]; exact k0)];by_cases k1:l[i].Kind=1∨l[i].Kind=2
   ·rw [af k1] at ht;rw [ht] at h1⊢;have:(if (l[i].Kind==1)=true then some (l[i].Kind==1) else some (l[i].Kind==2))=some true:=by
     rcases k1 with h | h <;> rw [h] <;> rfl
    rw [this,bsm,af rfl,du (by omega)];rfl
   ·rw [ab k1] at ht;rw [ht];have:(if (l[i].Kind==1)=true then some (l[i].Kind==1) else some (l[i].Kind==2))=some false:=by
     have a:¬l[i].Kind=1:=fun h=>k1 (.inl h);have b:¬l[i].Kind=2:=fun h=>k1 (.inr h);rw [ab (by rw [aA]; exact a),beq_eq_false_iff_ne.2 b]
    rw [this,bsm,ab (by simp),bsm,eP]
 ·subst e;exact ⟨_,by simp only; rw [ab (by simp)],by rw [cZ]⟩
end Go.Proofs.YtceciacilfhmjaaGreatDoor
namespace Go.Proofs.YtceciacilfhmjaaGreatDoor
open Go Go.Lt
def mJ (d:Bool) (l:List aa):Nat→Nat
  | 0=>0
  | n+1=>match l[n]? with
    | some c=>if c.Kind≠0∨(d=true∧n+1 < l.length) then n+1 else mJ d l n
    | none=>mJ d l n
variable {d:Bool} {l:List aa} {i n:Nat}
theorem sa (hi:i < l.length):mJ d l (i+1)=if l[i].Kind≠0∨(d=true∧i+1 < l.length) then i+1 else mJ d l i:=by
  show (match l[i]? with | some c=>if c.Kind≠0∨(d=true∧i+1 < l.length) then i+1 else mJ d l i | none=>mJ d l i)=_;rw [ah hi]
theorem Aw:∀n,mJ d l n≤n
  | 0=>ao 0
  | n+1=>by
    have:=Aw n;show (match l[n]? with | some c=>if c.Kind≠0∨(d=true∧n+1 < l.length) then n+1 else mJ d l n | none=>mJ d l n)≤_;split
    · split
      · exact ao _
      · exact nM this
    · exact nM this
theorem FG (h:n < l.length):mJ true l n=n:=by
  cases n with
  | zero=>rfl
  | succ i=>rw [sa (by omega),af (.inr ⟨rfl,h⟩)]
def sk (d:Bool) (l:List aa):List aa:=l.take (mJ d l l.length)
theorem vI {α:Type} {xs:List α} {k:Nat} (h:k≤xs.length):slc xs 0 (k:Int)=some (xs.take k):=by
  unfold slc;rw [af (by omega)];simp
theorem FR (hl:l.length≤1000000000):iN l=some (sk true l):=by
  unfold iN sk
  cases hn:l.length with
  | zero=>
    rw [show decide (w64 (((0:Nat):Int) - 1)≥0)=false by rw [aL (by omega)]; rfl,fq,bsm,ab (by simp)];rw [aW hn];rfl
  | succ n=>
    have hi:n < l.length:=by omega
    have hw:w64 (((n+1:Nat):Int) - 1)=(n:Int):=by rw [aL (by omega)]; omega
    rw [hw,show decide ((n:Int)≥0)=true by rw [ai]; omega,eO,bz hi,bsm,bsm,sa hi,FG hi];by_cases k0:l[n].Kind=0
    · rw [af (by rw [k0]; rfl),vI (by omega),bsm,ab (by rw [hn]; rintro (h | h); exact h k0; omega)]
    · rw [ab (by rw [aA]; exact k0),af (.inl k0),aJ (by omega)]
theorem Fa (hl:l.length≤1000000000):iM l=some (sk false l):=by
  unfold iM sk
  suffices h:∃t,cV (σ:=Int) (τ:=Int) (((l.length:Int) - 0).toNat+1) (fun a=>
 (bX (decide (a > 0)) ((idx l (w64 (a - 1))).bind fun c=>
 some (c.Kind==0))).bind fun b=>
 if b=true then
 some (.inl ((w64 (a - 1))))
 else
 some (.inr (a))) ((l.length:Int))=some t∧t=(mJ false l l.length:Int) by
    obtain ⟨t,h1,h2⟩:=h;rw [h1,bsm,h2,vI (Aw _),bsm]
  refine lF (fun a=>∃k:Nat,a=(k:Int)∧k≤l.length∧mJ false l k=mJ false l l.length) (fun a=>a.toNat) (fun t=>t=(mJ false l l.length:Int)) (fun a hI=>?_) _ _ ⟨l.length,rfl,ao _,rfl⟩ (by omega);obtain ⟨k,rfl,hk,he⟩:=hI
  cases k with
  | zero=>
    right
    rw [show decide (((0:Nat):Int) > 0)=false by simp,fq,bsm,ab (by simp)];exact ⟨_,rfl,by rw [←he]; rfl⟩
  | succ n=>
    have hi:n < l.length:=by omega
    have hw:w64 (((n+1:Nat):Int) - 1)=(n:Int):=by rw [aL (by omega)]; omega
    rw [show decide (((n+1:Nat):Int) > 0)=true by rw [ai]; omega,eO,hw,bz hi,bsm,bsm];rw [sa hi] at he;by_cases k0:l[n].Kind=0
    · left
      rw [af (by rw [k0]; rfl)];rw [ab (by rintro (h | h); exact h k0; simp at h)] at he;exact ⟨_,rfl,⟨n,rfl,by omega,he⟩,by omega⟩
    · right
      rw [ab (by rw [aA]; exact k0)];rw [af (.inl k0)] at he;exact ⟨_,rfl,by rw [←he]⟩
end Go.Proofs.YtceciacilfhmjaaGreatDoor
namespace Go.Proofs.YtceciacilfhmjaaGreatDoor
open Go Go.Lt
def wr (L:List aq) (i:Nat):Bool:=match L[i]? with
 | some l=>l.Wrap && decide (i+1 < L.length)
 | none=>false
def stL (L:List aq):Nat→List (List Int)×List Int
 | 0=>([],[])
 | i+1=>match L[i]? with
  | some l=>if wr L i=true then ((stL L i).1,(stL L i).2++flat (sk true l.Cells)) else ((stL L i).1++ [(stL L i).2++flat (sk false l.Cells)],[])
  | none=>stL L i
def rR (L:List aq):Nat:=(L.map fun l=>qP l.Cells).sum
variable {L:List aq} {i:Nat}
theorem Ke (hi:i < L.length):wr L i=(L[i].Wrap && decide (i+1 < L.length)):=by
 unfold wr;rw [ah hi]
theorem EJ (hi:i < L.length) (h:wr L i=true):stL L (i+1)=((stL L i).1,(stL L i).2++flat (sk true L[i].Cells)):=by
 show (match L[i]? with | some l=>if wr L i=true then ((stL L i).1,(stL L i).2++flat (sk true l.Cells)) else ((stL L i).1++ [(stL L i).2++flat (sk false l.Cells)],[]) | none=>stL L i)=_;rw [ah hi];simp only [h,bG]
theorem Cz (hi:i < L.length) (h:wr L i=false):stL L (i+1)=((stL L i).1++ [(stL L i).2++flat (sk false L[i].Cells)],[]):=by
 show (match L[i]? with | some l=>if wr L i=true then ((stL L i).1,(stL L i).2++flat (sk true l.Cells)) else ((stL L i).1++ [(stL L i).2++flat (sk false l.Cells)],[]) | none=>stL L i)=_;rw [ah hi];simp only [h,am,aU]
theorem xa (hi:i < L.length):rR (L.take (i+1))=rR (L.take i)+qP L[i].Cells:=by
 unfold rR;rw [ay hi,bb,js];simp
theorem B8 (L:List aq) (i:Nat):rR (L.take i)≤rR L:=by
 unfold rR
 conv=>rhs; rw [←iU i L]
 rw [bb,js];omega
theorem Fy (l:List aa):l.length≤qP l:=by
 unfold qP
 induction l with
 | nil=>simp
 | cons c l ih=>
  simp only [dL,jR,ak];omega
theorem zd (d:Bool) (l:List aa):(flat (sk d l)).length≤qP l:=cQ (CY _) (ra l _)
theorem Bv:∀i,i≤L.length→(stL L i).1.length≤i∧(stL L i).2.length+((stL L i).1.map List.length).sum≤rR (L.take i)
 | 0,_=>⟨ao 0,ao 0⟩
 | i+1,h=>by
  obtain ⟨h1,h2⟩:=Bv i (by omega);have hi:i < L.length:=by omega
  rw [xa hi];have c1:=zd true L[i].Cells;have c2:=zd false L[i].Cells
  cases hw:wr L i with
  | true=>
   rw [EJ hi hw];refine ⟨nM h1,?_⟩;simp only [ag];omega
  | false=>
   rw [Cz hi hw];refine ⟨by simp only [ag,ak,aB]; omega,?_⟩;simp only [aB,bb,js,dL,Bn,jR,List.sum_nil,ag];omega
theorem Fv (v:bU) (hn:v.Lines.length≤1000000) (hb:rR v.Lines≤100000000):gx v=some (stL v.Lines v.Lines.length).1:=by
 unfold gx;refine kv (n:=v.Lines.length) (fun i (a:List (List Int)×List Int×Int)=>a=((stL v.Lines i).1,(stL v.Lines i).2,(i:Int))) (fun u=>u=(stL v.Lines v.Lines.length).1) (fun i a hi e=>?_) (fun a e=>?_) rfl (by omega) (fun u e=>by rw [e])
 ·left
  subst e;simp only;have hB:=B8 v.Lines (i+1);rw [xa hi] at hB;obtain ⟨g1,g2⟩:=Bv (L:=v.Lines) i (by omega);have c1:=zd true v.Lines[i].Cells;have c2:=zd false v.Lines[i].Cells;have b1:=ra v.Lines[i].Cells (mJ true v.Lines[i].Cells v.Lines[i].Cells.length);have b2:=ra v.Lines[i].Cells (mJ false v.Lines[i].Cells v.Lines[i].Cells.length);have lb:=Fy v.Lines[i].Cells;have hw:w64 ((v.Lines.length:Int) - 1)=((v.Lines.length - 1:Nat):Int):=by rw [aL (by omega)]; omega
  rw [af (dlt hi),bz hi,bsm,hw,bd,bsm,eW hi (by omega)];have hd:(v.Lines[i].Wrap && decide ((i:Int) < ((v.Lines.length - 1:Nat):Int)))=wr v.Lines i:=by
   rw [Ke hi]
   congr 1
   rw [LU];omega
  rw [hd];refine ⟨_,?_,rfl⟩
  cases h:wr v.Lines i with
  | true=>
   rw [af rfl,FR (by omega),bsm,CJ _ (by unfold sk; omega),bsm,du (by omega),bsm,bsm,EJ hi h]
  | false=>
   rw [ab (by simp),Fa (by omega),bsm,CJ _ (by unfold sk; omega),bsm,du (by omega),bsm,du (by simp only [ak,aB]; omega),bsm,bsm,Cz hi h]
 ·subst e;exact ⟨_,by simp only; rw [ab (by simp)],rfl⟩
end Go.Proofs.YtceciacilfhmjaaGreatDoor
namespace Go.Proofs.YtceciacilfhmjaaGreatDoor
open Go Go.Lt
def oF (l:List (List Int)):Nat→Nat
 | 0=>0
 | n+1=>match l[n]? with
  | some x=>if x.length > 0 then n+1 else oF l n
  | none=>oF l n
theorem Dh {l:List (List Int)} {i:Nat} (hi:i < l.length):oF l (i+1)=if l[i].length > 0 then i+1 else oF l i:=by
 show (match l[i]? with | some x=>if x.length > 0 then i+1 else oF l i | none=>oF l i)=_;rw [ah hi]
theorem yy {l:List (List Int)}:∀n,oF l n≤n
 | 0=>ao 0
 | n+1=>by
  have:=yy (l:=l) n;show (match l[n]? with | some x=>if x.length > 0 then n+1 else oF l n | none=>oF l n)≤_;split
  ·split
   ·exact ao _
   ·exact nM this
  ·exact nM this
def mq (l:List (List Int)):Nat→List Int
 | 0=>[]
 | n+1=>(if n > 0 then mq l n++ [10] else mq l n)++(l.getD n [])
theorem wj {l:List (List Int)}:∀n,n≤l.length→(mq l n).length≤n+((l.take n).map List.length).sum
 | 0,_=>cR _
 | n+1,h=>by
  have:=wj (l:=l) n (by omega);have hn:n < l.length:=by omega
  rw [ay hn,bb,js];show ((if n > 0 then mq l n++ [10] else mq l n)++(l.getD n [])).length≤_;rw [aw,ah hn];simp only [LV,ag,dL,Bn,jR,List.sum_nil];split
  ·rw [ag,ak,aB];omega
  ·omega
end Go.Proofs.YtceciacilfhmjaaGreatDoor
namespace Go.Proofs.YtceciacilfhmjaaGreatDoor
open Go Go.Lt
variable {l:List (List Int)}
theorem sj {n:Nat} (h:n < l.length):mq l (n+1)=(if n > 0 then mq l n++ [10] else mq l n)++l[n]:=by
 show (if n > 0 then mq l n++ [10] else mq l n)++(l.getD n [])=_;rw [aw,ah h];rfl
theorem wi {t:Nat} (ht:t≤l.length):∀i,i≤t→mq (l.take t) i=mq l i
 | 0,_=>rfl
 | i+1,h=>by
  rw [sj (by rw [av]; omega),sj (by omega),wi ht i (by omega),LR]
def vH (l:List (List Int)):List Int:=mq l (oF l l.length)
def okL (l:List (List Int)):Prop:=l.length≤1000∧(l.map List.length).sum≤100000000
theorem tH (l:List (List Int)) (i:Nat):((l.take i).map List.length).sum≤(l.map List.length).sum:=by
 conv=>rhs; rw [←iU i l]
 rw [bb,js];omega
theorem DQ {i:Nat} (h:okL l) (hi:i < l.length):((if (decide ((i:Int) > 0))=true then (app (mq l i) ([10]:List Int)).bind fun j=>some j else some (mq l i)).bind fun x=>app x l[i])=some (mq l (i+1)):=by
 have h1:=wj (l:=l) (i+1) (by omega);have h2:=tH l (i+1);have h3:=h.2;have h4:=h.1;rw [sj hi] at h1⊢;by_cases h0:i > 0
 ·rw [af h0] at h1⊢;simp only [ag,ak,aB] at h1;rw [af (by rw [ai]; omega),du (by simp only [ak,aB]; omega),bsm,bsm,du (by simp only [ag,ak,aB]; omega)]
 ·rw [ab h0] at h1⊢;simp only [ag] at h1;rw [ab (by rw [ai]; omega),bsm,du (by omega)]
theorem DA (v:bU) {out:List (List Int)} (h:gx v=some out) (ho:okL out):gZ v=some (vH out):=by
 unfold gZ;rw [h,bsm];have key:∀{x:Option (List (List Int))} {k:List (List Int)→Option (List Int)},(∃t,x=some t∧t=out.take (oF out out.length))→k (out.take (oF out out.length))=some (vH out)→x.bind k=some (vH out):=fun ⟨t,h1,h2⟩ h3=>by rw [h1,bsm,h2,h3]
 have hl:=ho.1;refine key (lF (fun b=>∃k:Nat,b=out.take k∧k≤out.length∧oF out k=oF out out.length) (fun b=>b.length) (fun t=>t=out.take (oF out out.length)) (fun b hI=>?_) _ _ ⟨out.length,by rw [cZ],ao _,rfl⟩ (by omega)) ?_
 ·obtain ⟨k,rfl,hk,he⟩:=hI;have hkl:(out.take k).length=k:=by rw [av]; omega
  rw [hkl]
  cases k with
  | zero=>
   right
   rw [show decide (((0:Nat):Int) > 0)=false by simp,fq,bsm,ab (by simp)];exact ⟨_,rfl,by rw [←he]; rfl⟩
  | succ n=>
   have hi:n < out.length:=by omega
   have hw:w64 (((n+1:Nat):Int) - 1)=(n:Int):=by rw [aL (by omega)]; omega
   rw [show decide (((n+1:Nat):Int) > 0)=true by rw [ai]; omega,eO,hw,bz (by rw [hkl]; omega),bsm,bsm,LR];rw [Dh hi] at he;by_cases h0:out[n].length > 0
   ·right
    rw [af h0] at he;rw [ab (by rw [aA]; omega)];exact ⟨_,rfl,by rw [he]⟩
   ·left
    rw [ab h0] at he;rw [af (by rw [aA]; omega),vI (by rw [hkl]; omega),bsm,iS,cH (by omega)];exact ⟨_,rfl,⟨n,rfl,by omega,he⟩,by rw [av]; omega⟩
 ·have ht:=yy (l:=out) out.length;have hcl:(out.take (oF out out.length)).length=oF out out.length:=by rw [av]; omega
  unfold vH;generalize oF out out.length=t at *;have hg:okL (out.take t):=⟨by rw [hcl]; omega,cQ (tH out t) ho.2⟩;refine kv (n:=(out.take t).length) (fun i (a:List Int×Int)=>a=(mq (out.take t) i,(i:Int))) (fun u=>u=mq out t) (fun i a hi e=>?_) (fun a e=>?_) rfl (by omega) (fun u e=>by rw [e])
  ·left
   subst e;simp only;have hs:=DQ hg hi;rw [af (dlt hi),bz hi,eW hi (by omega)];simp only [bsm];rw [←Bl,hs,bsm];exact ⟨_,rfl,rfl⟩
  ·subst e;exact ⟨_,by simp only; rw [ab (by simp)],by rw [hcl,wi ht t (ao _)]⟩
end Go.Proofs.YtceciacilfhmjaaGreatDoor
namespace Go.Proofs.YtceciacilfhmjaaGreatDoor
open Go Go.Lt
theorem K6 (u:Nat) (h:u < 2000000):dM .i32 (u:Int) 63=((u % 64:Nat):Int):=by
 have e1:(BitVec.ofInt 32 (u:Int) &&& BitVec.ofInt 32 63).toNat=u % 64:=by
  have b1:(BitVec.ofInt 32 (u:Int)).toNat=u:=by rw [LH]; omega
  have b2:(BitVec.ofInt 32 63).toNat=63:=rfl;rw [L3,b1,b2];exact Ck u 6
 show IntKind.i32.wrap ((BitVec.ofInt 32 (u:Int) &&& BitVec.ofInt 32 63).toNat:Int)=_;rw [e1];exact yu (by omega)
theorem KB:∀y:Fin 64,gi .u8 128 (IntKind.u8.wrap (y.val:Int))=128+(y.val:Int):=by decide +kernel
theorem KA:∀y:Fin 32,gi .u8 192 (IntKind.u8.wrap (y.val:Int))=192+(y.val:Int):=by decide +kernel
theorem Kz:∀y:Fin 16,gi .u8 224 (IntKind.u8.wrap (y.val:Int))=224+(y.val:Int):=by decide +kernel
theorem Ky:∀y:Fin 8,gi .u8 240 (IntKind.u8.wrap (y.val:Int))=240+(y.val:Int):=by decide +kernel
theorem or0:∀y:Fin 128,gi .u8 0 (IntKind.u8.wrap (y.val:Int))=(y.val:Int):=by decide +kernel
def frm (r:Int):List Int:=if r < 128 then [r] else if r < 2048 then [192+r / 64,128+r % 64] else if r < 65536 then [224+r / 4096,128+r / 64 % 64,128+r % 64] else [240+r / 262144,128+r / 4096 % 64,128+r / 64 % 64,128+r % 64]
def szf (r:Int):Int:=if r < 128 then 1 else if r < 2048 then 2 else if r < 65536 then 3 else 4
theorem Cs {r:Int} (h:vld r=true):0≤r∧r≤1114111:=by
 unfold vld at h;simp only [an,ai] at h;omega
theorem yZ (r:Int):(frm r).length≤4:=by
 unfold frm
 repeat' split
 all_goals simp
theorem ET {r:Int} (h:vld r=true):kN r=some (szf r):=by
 unfold kN szf;rw [oI,h];simp only [bsm,eK,am,aU,ai]
 repeat' split
 all_goals rfl
theorem DZ (u:Nat):(u:Int).fdiv (2 ^ 6)=((u / 64:Nat):Int):=by
 rw [qR _ (by decide)];rfl
theorem DI {u:Nat} (h:u < 2000000):gi .u8 128 (IntKind.u8.wrap (dM .i32 (u:Int) 63))=128+((u % 64:Nat):Int):=by
 rw [K6 u h];exact KB ⟨u % 64,uv _ (by decide)⟩
theorem EU {r:Int} (h:vld r=true):kO r=some (frm r):=by
 obtain ⟨r0,r9⟩:=Cs h;unfold kO;rw [ET h,bsm];obtain ⟨u,rfl⟩:∃u:Nat,r=(u:Int):=⟨r.toNat,by omega⟩;unfold szf frm;by_cases h1:(u:Int) < 128
 ·rw [af h1,af h1];refine GT (b:=some [gi .u8 0 (IntKind.u8.wrap (u:Int))]) rfl ?_;rw [or0 ⟨u,by omega⟩]
 ·rw [ab h1,ab h1];by_cases h2:(u:Int) < 2048
  ·rw [af h2,af h2];refine GT (b:=some [gi .u8 192 (IntKind.u8.wrap ((u:Int).fdiv (2 ^ 6))),gi .u8 128 (IntKind.u8.wrap (dM .i32 (u:Int) 63))]) rfl ?_;rw [DI (by omega),DZ,KA ⟨u / 64,by omega⟩];rfl
  ·rw [ab h2,ab h2];by_cases h3:(u:Int) < 65536
   ·rw [af h3,af h3];refine GT (b:=some [gi .u8 224 (IntKind.u8.wrap (((u:Int).fdiv (2 ^ 6)).fdiv (2 ^ 6))),gi .u8 128 (IntKind.u8.wrap (dM .i32 ((u:Int).fdiv (2 ^ 6)) 63)),gi .u8 128 (IntKind.u8.wrap (dM .i32 (u:Int) 63))]) rfl ?_;rw [DZ,DZ,DI (by omega),DI (by omega),Kz ⟨u / 64 / 64,by omega⟩];simp only [az,Ew,tD];refine ⟨?_,?_,?_⟩ <;> omega
   ·rw [ab h3,ab h3];refine GT (b:=some [gi .u8 240 (IntKind.u8.wrap ((((u:Int).fdiv (2 ^ 6)).fdiv (2 ^ 6)).fdiv (2 ^ 6))),gi .u8 128 (IntKind.u8.wrap (dM .i32 (((u:Int).fdiv (2 ^ 6)).fdiv (2 ^ 6)) 63)),gi .u8 128 (IntKind.u8.wrap (dM .i32 ((u:Int).fdiv (2 ^ 6)) 63)),gi .u8 128 (IntKind.u8.wrap (dM .i32 (u:Int) 63))]) rfl ?_;rw [DZ,DZ,DZ,DI (by omega),DI (by omega),DI (by omega),Ky ⟨u / 64 / 64 / 64,by omega⟩];simp only [az,Ew,tD];refine ⟨?_,?_,?_,?_⟩ <;> omega
theorem FY (l:List Int):(l.flatMap frm).length≤4 * l.length:=by
 induction l with
 | nil=>simp
 | cons x l ih=>
  rw [Bo,ag,ak];have:=yZ x;omega
theorem DW {l:List Int} {i:Nat} (h:i < l.length):(l.take (i+1)).flatMap frm=(l.take i).flatMap frm++frm l[i]:=by
 rw [ay h,Lj];simp
theorem FZ {l:List Int} (hl:l.length≤1000000) {i:Nat} (h:i < l.length):app ((l.take i).flatMap frm) (frm l[i])=some ((l.take (i+1)).flatMap frm):=by
 have h1:=FY (l.take i);have h2:=yZ l[i];rw [av] at h1;rw [du (by omega),DW h]
theorem Hl {l:List Int} (hv:∀x∈l,vld x=true) (hl:l.length≤1000000):lJ l=some (l.flatMap frm,Er.nil):=by
 unfold lJ;refine kv (n:=l.length) (fun i a=>a=((l.take i).flatMap frm,(i:Int))) (fun u=>u= .inr (l.flatMap frm)) (fun i a hi e=>?_) (fun a e=>?_) rfl (by omega) (fun u e=>by rw [e])
 ·left
  subst e;have hx:=hv _ (aF hi);simp only;rw [af (dlt hi),bz hi,bsm,oI,hx,bsm,ab (by simp),EU hx,bsm,FZ hl hi,bsm,eW hi (by omega)];exact ⟨_,rfl,rfl⟩
 ·subst e;exact ⟨_,by simp only; rw [ab (by simp)],by rw [cZ]⟩
theorem BI {v:bU} {t:List Int} (h:gZ v=some t) (hl:t.length≤1000000):gy v=some ((t.map fc).flatMap frm):=by
 unfold gy;rw [h,bsm,uC t hl,bsm,Hl (fun x hx=>?_) (by simpa using hl),bsm];obtain ⟨y,_,rfl⟩:=List.mem_map.1 hx;exact vG y
end Go.Proofs.YtceciacilfhmjaaGreatDoor
namespace Go.Proofs.YtceciacilfhmjaaGreatDoor
open Go Go.Lt
theorem wK {n:Nat} (hn:n≤100000000) (ws:List (List UInt8)) (h:ws.length≤3) (hl:∀w∈ws,w.length≤n):∃r,cp (ws.map mkS)=some r∧r.size≤3 * (n+1)+1:=by
  have hj:=qX 32 n ws hl;have hj2:(ft 32 ws).length≤3 * (n+1):=cQ hj (jC _ h);unfold cp;rw [tc 32 (by omega) (by omega)];simp only [bsm];rw [show (⟨#[10]⟩:ByteArray)=mkS [10] from rfl,qV (by simp only [bi]; omega)];simp only [bsm];exact ⟨_,rfl,by rw [eX]; simp only [ag,bi]; omega⟩
theorem I1 {a:Int} (h0:0≤a) (h1:a≤1000000) (e:Er):∃r,eD (Er.fault a e)=some r∧r.size≤1000:=by
  have hf:fm a:=by unfold fm; omega
  unfold eD;rw [show qz (Er.fault a e)=some true from rfl];simp only [bsm,eK,am,aU];rw [show flt (Er.fault a e)=some (a,e) from rfl];simp only [bsm];rw [nX hf];simp only [bsm];obtain ⟨r,h,h2⟩:=wK (n:=10) (by omega) [[63],Lib.itoa a] (by simp) (fun w hw=>by
    simp only [cq,cC,ju] at hw;rcases hw with rfl | rfl
    · simp
    · exact lE hf)
  rw [show ([(⟨#[63]⟩:ByteArray),mkS (Lib.itoa a)]:List ByteArray)= [[63],Lib.itoa a].map mkS from rfl,h];exact ⟨r,rfl,by omega⟩
variable {C s:Sto} {x f k:Nat} {q:ae}
structure SW (C s:Sto) (x f k:Nat) (m:Mo) (q:ae):Prop where
  sc:s.screen_Screen[x]? = some ⟨some f,some k⟩
  bt:Bts m.h
  fd:∃g ks op,Fd C s f k g 80 24 m.P m.G m.h q ks op
variable {m:Mo}
theorem SW.sd (S:SW C s x f k m q):Sd C s x f k m q∧m.h.length≤4:=by
  obtain ⟨g,ks,op,F⟩:=S.fd;refine ⟨⟨S.sc,S.bt,g,80,24,ks,op,F⟩,?_⟩;obtain ⟨d,_,hd⟩:=F.d;exact cQ hd.1.len (by decide)
theorem SW.lay (S:SW C s x f k m q):lay m.P m.G=some q:=by
  obtain ⟨g,ks,op,F⟩:=S.fd;exact F.l
theorem SW.ok (S:SW C s x f k m q):q.L.length=24∧(∀l∈q.L,Okl 80 l)∧Hd q.At 80 24:=by
  obtain ⟨g,ks,op,F⟩:=S.fd;have h1:=F.v.len;have h2:=F.n;exact ⟨by omega,F.v.ok,F.hd⟩
theorem SW.wide (S:SW C s x f k m q):(vw q).Wide=80∧(vw q).High=24:=by
  obtain ⟨h1,h2,_⟩:=S.ok;unfold vw;refine ⟨?_,by simp only; omega⟩;simp only;rw [gdl (show 0 < q.L.length by omega),(h2 _ (aF (show 0 < q.L.length by omega))).2];rfl
theorem SW.vwp (S:SW C s x f k m q):VwP (vw q)∧VwL (vw q):=by
  obtain ⟨h1,h2,h3⟩:=S.ok;obtain ⟨w1,w2⟩:=S.wide;have hL:∀l∈(vw q).Lines,Okl 80 l:=h2;refine ⟨⟨rfl,by omega,by omega,by omega,by omega,?_,fun l hl=>⟨by rw [(hL l hl).2,w1]; rfl,(hL l hl).1⟩⟩,?_,fun l hl=>by rw [(hL l hl).2]; decide⟩
  · rw [w1,w2]
    refine ⟨h3.rr,h3.cc,fun hp=>?_⟩;have:=h3.pp hp;exact this
  · show q.L.length≤_
    omega
theorem SW.con (S:SW C s x f k m q):s.rsC=C.rsC:=by
  obtain ⟨g,ks,op,F⟩:=S.fd;exact F.fz.sc
theorem SW.dob (S:SW C s x f k m q) (o:ba) (hb:Bts o.Bytes) (hl:o.Bytes.length≤9223372036854775807) (h13:o.Kind≠13):∃s' m' q',gH s (some x) o=some (s',e40 o)∧mdo m o=some m'∧SW C s' x f k m' q':=by
  obtain ⟨g,ks,op,F⟩:=S.fd;have hC:C.screen_Screen[x]? = some ⟨some f,some k⟩:=by rw [←BD F.fz.sc]; exact S.sc
  have hs:∀{s':Sto} {g W H:Nat} {P:ae} {G h:List Int} {q:ae} {ks:List Nat} {op:Option Nat},Fd C s' f k g W H P G h q ks op→s'.screen_Screen[x]? = some ⟨some f,some k⟩:=fun F'=>by rw [BD F'.fz.sc]; exact hC
  unfold gH mdo e40;simp only [bO,am,aU,bsm,aA,S.sc];by_cases k0:o.Kind=0
  · obtain ⟨s',q',ks',op',b1,b2⟩:=D0 F S.bt hl hb
    rw [af k0,af k0,af (.inl k0),b1];exact ⟨s',_,q',rfl,rfl,hs b2,xX S.bt hb,_,_,_,b2⟩
  rw [ab k0,ab k0];by_cases k1:o.Kind=1
  · obtain ⟨s',q',ks',b1,b2,b3⟩:=DX F
    rw [af k1,af k1,af (.inr (.inl k1)),b1];unfold Go.Proofs.YtceciacilfhmjaaGreatDoor.lay;rw [b3];exact ⟨s',_,q',rfl,rfl,hs b2,Bts.nil,_,_,_,b2⟩
  rw [ab k1,ab k1,ab h13,ab h13,ab (by omega),wF];simp only [bsm,Ij];by_cases hw:w38 o=0
  · rw [ab (by simp [hw]),af hw]
    obtain ⟨s2,b1,b2⟩:=yo F;obtain ⟨s',q',ks',c1,c2,c3,c4,c5,_⟩:=Ih b2.v o hw;rw [b1];have hl2:=S.lay;simp only [bsm,hs b2,hl2];rw [c1,c2];have he:e38 o=Er.nil:=by unfold e38; rw [hw]; rfl
    have F2:=b2.pen_work c3 (by rw [c4]; exact c5);have h24:ks'.length=24:=by rw [c4]; exact F.n
    rw [h24] at F2;exact ⟨s',_,q',by rw [he]; rfl,rfl,hs F2,S.bt,_,_,_,F2⟩
  · rw [af (by simpa using hw),ab hw]
    exact ⟨s,m,q,rfl,rfl,S⟩
theorem Iv {l:List aa} (h:∀c∈l,rgt c=true):qP l≤17 * l.length:=by
  unfold qP
  induction l with
  | nil=>simp
  | cons c l ih=>
    have h1:=ih fun y hy=>h y (by simp [hy]);have h2:c.Text.length≤16:=by
      rcases tR (h c (by simp)) with ⟨rfl,_⟩ | ⟨rfl,_⟩ | ⟨k,ns,_,rfl,_,hl,_⟩
      · simp
      · simp
      · simpa [JC] using hl
    simp only [dL,jR,ak];omega
theorem Gx {L:List aq} (h:∀l∈L,Okl 80 l):rR L≤1360 * L.length:=by
  unfold rR
  induction L with
  | nil=>simp
  | cons l L ih=>
    have h1:=ih fun y hy=>h y (by simp [hy]);have h2:=Iv (yC (h l (by simp)).1);rw [(h l (by simp)).2] at h2;simp only [dL,jR,ak];omega
theorem DV {r:Int} (h:vld r=true):∀b∈frm r,0≤b∧b≤255:=by
  obtain ⟨h1,h2⟩:=Cs h;unfold frm;intro b hb
  repeat' split at hb
  all_goals simp only [cq,cC,ju] at hb
  all_goals omega
theorem Ic (r:Int):vld (fc r)=true:=by
  unfold fc;split
  · assumption
  · decide
theorem JO (t:List Int):(t.flatMap frm).length≤4 * t.length:=by
  induction t with
  | nil=>simp
  | cons r t ih=>
    have:=yZ r;rw [Bo,ag,ak];omega
def txR (v:bU):Option ByteArray:=
 (gy v).bind fun g=>
 (iB (⟨0,0,0,g⟩:ba)).bind fun a=>
 (dD a (⟨#[102,101,101,100,32]⟩:ByteArray)).bind fun b=>
 (cp ([b]:List ByteArray)).bind fun c=>
 some c
def cuR (c:aj):Option ByteArray:=
 (bu c.Row).bind fun a=>
 (bu c.Col).bind fun b=>
 (if c.Pending=true then
 (app ([a,b]:List ByteArray) ([(⟨#[112,101,110,100,105,110,103]⟩:ByteArray)]:List ByteArray)).bind fun d=>
 some (d)
 else
 some (([a,b]:List ByteArray))).bind fun f=>
 (cp f).bind fun e=>
 some e
def heR (d:Int):Option ByteArray:=
 (bu d).bind fun e=>
 (cp ([e]:List ByteArray)).bind fun a=>
 some a
def usR (a:bU):Option ByteArray:=
 (kC a).bind fun b=>
 (bu b).bind fun c=>
 (kD a.Wide a.High).bind fun d=>
 (bu d).bind fun e=>
 (cp ([c,e]:List ByteArray)).bind fun f=>
 some f
theorem Jd {a b:Sto} (h:a.rsC=b.rsC):a.console_console=b.console_console:=(Db (show (a.screen_Screen,a.console_console)=(b.screen_Screen,b.console_console) from h)).2
theorem Hb (a b:ByteArray) (ha:a.size≤100000000):∃r,dD a b=some r∧r.size≤a.size:=by
  unfold dD eC dk;by_cases h:bL a≥bL b
  · have hb:b.size≤a.size:=by unfold bL at h; omega
    rw [show decide (bL a≥bL b)=true by simpa using h];have e1:na a 0 (bL b)=some (a.extract 0 b.size):=by
      unfold na bL;rw [af ⟨by omega,by omega,by omega⟩];rfl
    have e2:na a (bL b) (bL a)=some (a.extract b.size a.size):=by
      unfold na bL;rw [af ⟨by omega,by omega,by omega⟩];rfl
    rw [eO,e1];simp only [bsm,e2];split
    · exact ⟨_,rfl,by rw [ByteArray.size_extract]; omega⟩
    · exact ⟨_,rfl,ao _⟩
  · rw [show decide (bL a≥bL b)=false by simpa using h,fq]
    simp only [bsm,am,aU];exact ⟨_,rfl,ao _⟩
section
variable {kc:Nat}
theorem Hk (S:SW C s x f k m q) (hc:s.console_console[kc]? = some ⟨some x⟩):∃r,eG s (some kc)=some r∧jY (vw q)=some r∧r.size≤10000000:=by
  have hm:=S.sd.1;obtain ⟨v1,v2⟩:=S.vwp;obtain ⟨g1,g2,g3⟩:=AG v1;have hl:=pq (vw q).Lines fun l hl=>⟨yC (v1.lines l hl).2,by have:=(v1.lines l hl).1; have:=v1.w2; omega⟩;have h24:(vw q).Lines.length=24:=S.ok.1;unfold eG;simp only [bsm,hc];rw [nT hm];simp only [bsm];rw [Hg v1 v2];refine ⟨_,rfl,rfl,?_⟩;rw [eX];unfold Cu;simp only [ag,lC];omega
theorem He (S:SW C s x f k m q) (hc:s.console_console[kc]? = some ⟨some x⟩):∃r,eF s (some kc)=some r∧txR (vw q)=some r∧r.size≤10000000:=by
  have hm:=S.sd.1;obtain ⟨h1,h2,h3⟩:=S.ok;have hL:(vw q).Lines=q.L:=rfl;have hB:=Gx h2;have hs:=Bv (L:=(vw q).Lines) (vw q).Lines.length (ao _);rw [cZ,hL] at hs;have hR:=Fv (vw q) (by rw [hL]; omega) (by rw [hL]; omega);rw [hL] at hR;have hok:okL (stL q.L q.L.length).1:=⟨by omega,by omega⟩;have hT:=DA _ hR hok;have htl:(vH (stL q.L q.L.length).1).length≤40000:=by
    have ht:=yy (l:=(stL q.L q.L.length).1) (stL q.L q.L.length).1.length;have:=wj (l:=(stL q.L q.L.length).1) (oF (stL q.L q.L.length).1 (stL q.L q.L.length).1.length) ht;have h5:=tH (stL q.L q.L.length).1 (oF (stL q.L q.L.length).1 (stL q.L q.L.length).1.length);unfold vH;omega
  unfold eF;simp only [bsm,hc];rw [nT hm];simp only [bsm]
  suffices h:∃r,txR (vw q)=some r∧r.size≤10000000 by
    obtain ⟨r,h1,h2⟩:=h;exact ⟨r,h1,h1,h2⟩
  unfold txR;rw [BI hT (by omega)];generalize vH (stL q.L q.L.length).1=t at htl;simp only [bsm];have hbl:=JO (t.map fc);rw [aQ] at hbl;have hby:bytes ((t.map fc).flatMap frm):=fun b hb=>by
    obtain ⟨r,hr,hb⟩:=List.mem_flatMap.1 hb;obtain ⟨r',_,rfl⟩:=List.mem_map.1 hr;exact DV (Ic r') b hb
  generalize (t.map fc).flatMap frm=bs at hbl hby;have R:sw ⟨0,0,0,bs⟩:=⟨(by decide:(0:Int)≤0),(by decide:(0:Int)≤13),(by decide: -999999999≤(0:Int)∧(0:Int)≤999999999),(by decide: -999999999≤(0:Int)∧(0:Int)≤999999999),fun h=>absurd rfl h,fun _=>⟨rfl,rfl⟩,fun _=>rfl,fun h=>by cases h⟩;have hll:=DL R;rw [(Fw (o:=⟨0,0,0,bs⟩) hby (by simp only; omega)).1 R];simp only [bsm];obtain ⟨r,t1,t2⟩:=Hb (mkS (rH ⟨0,0,0,bs⟩)) ⟨#[102,101,101,100,32]⟩ (by rw [eX]; simp only at hll; omega);rw [eX] at t2;rw [t1];simp only [bsm];obtain ⟨r2,u1,u2⟩:=wK (n:=1000000) (by omega) [blS r] (by simp) (fun w hw=>by
    rw [eQ] at hw;subst hw;rw [jT];simp only at hll;omega)
  rw [show ([r]:List ByteArray)= [blS r].map mkS by rw [dL,gg]; rfl,u1];exact ⟨r2,rfl,by omega⟩
theorem JR (S:SW C s x f k m q) (hc:s.console_console[kc]? = some ⟨some x⟩):∃r,ee s (some kc)=some r∧cuR q.At=some r∧r.size≤10000000:=by
  have hm:=S.sd.1;obtain ⟨h1,h2,h3⟩:=S.ok;have hr:=h3.rr;have hcc:=h3.cc;have f1:fm q.At.Row:=by unfold fm; omega
  have f2:fm q.At.Col:=by unfold fm; omega
  unfold ee;simp only [bsm,hc];rw [nT hm];simp only [bsm]
  suffices h:∃r,cuR q.At=some r∧r.size≤10000000 by
    obtain ⟨r,h1,h2⟩:=h;exact ⟨r,h1,h1,h2⟩
  unfold cuR;rw [nX f1,nX f2];simp only [bsm];have l1:=lE f1;have l2:=lE f2
  cases q.At.Pending with
  | true=>
    rw [af rfl,du (by simp)];simp only [bsm];obtain ⟨r,u1,u2⟩:=wK (n:=10) (by omega) [Lib.itoa q.At.Row,Lib.itoa q.At.Col,[112,101,110,100,105,110,103]] (by simp) (fun w hw=>by
      simp only [cq,cC,ju] at hw;rcases hw with rfl | rfl | rfl
      · exact l1
      · exact l2
      · simp)
    rw [show ([mkS (Lib.itoa q.At.Row),mkS (Lib.itoa q.At.Col)]++ [(⟨#[112,101,110,100,105,110,103]⟩:ByteArray)]:List ByteArray)= [Lib.itoa q.At.Row,Lib.itoa q.At.Col,[112,101,110,100,105,110,103]].map mkS from rfl,u1];exact ⟨r,rfl,by omega⟩
  | false=>
    rw [ab (by decide)];simp only [bsm];obtain ⟨r,u1,u2⟩:=wK (n:=10) (by omega) [Lib.itoa q.At.Row,Lib.itoa q.At.Col] (by simp) (fun w hw=>by
      simp only [cq,cC,ju] at hw;rcases hw with rfl | rfl
      · exact l1
      · exact l2)
    rw [show ([mkS (Lib.itoa q.At.Row),mkS (Lib.itoa q.At.Col)]:List ByteArray)= [Lib.itoa q.At.Row,Lib.itoa q.At.Col].map mkS from rfl,u1];exact ⟨r,rfl,by omega⟩
theorem HZ (S:SW C s x f k m q) (hc:s.console_console[kc]? = some ⟨some x⟩):∃r,eI s (some kc)=some r∧heR (m.h.length:Int)=some r∧r.size≤10000000:=by
  obtain ⟨hm,h4⟩:=S.sd;have f1:fm (m.h.length:Int):=by unfold fm; omega
  unfold eI;simp only [bsm,hc];rw [zX hm];simp only [bsm]
  suffices h:∃r,heR (m.h.length:Int)=some r∧r.size≤10000000 by
    obtain ⟨r,h1,h2⟩:=h;exact ⟨r,h1,h1,h2⟩
  unfold heR;rw [nX f1];simp only [bsm];obtain ⟨r,u1,u2⟩:=wK (n:=10) (by omega) [Lib.itoa (m.h.length:Int)] (by simp) (fun w hw=>by
    rw [eQ] at hw;subst hw;exact lE f1)
  rw [show ([mkS (Lib.itoa (m.h.length:Int))]:List ByteArray)= [Lib.itoa (m.h.length:Int)].map mkS from rfl,u1];exact ⟨r,rfl,by omega⟩
theorem G5 (S:SW C s x f k m q) (hc:s.console_console[kc]? = some ⟨some x⟩):∃r,eE s (some kc)=some r∧usR (vw q)=some r∧r.size≤10000000:=by
  have hm:=S.sd.1;obtain ⟨h1,h2,h3⟩:=S.ok;obtain ⟨w1,w2⟩:=S.wide;have hle:=Fs h2;rw [h1] at hle;have f1:fm (lnn q.L:Int):=by unfold fm; omega
  have f2:fm ((80 * 24 * 16:Nat):Int):=by unfold fm; omega
  unfold eE;simp only [bsm,hc];rw [nT hm];simp only [bsm]
  suffices h:∃r,usR (vw q)=some r∧r.size≤10000000 by
    obtain ⟨r,h1,h2⟩:=h;exact ⟨r,h1,h1,h2⟩
  unfold usR;rw [G6 h2 (by omega) (by omega) (vw q) rfl,w1,w2];simp only [bsm];rw [nX f1];simp only [bsm];have hmost:=HI (W:=80) (H:=24) (by decide) (by decide) (by decide) (by decide);rw [show ((80:Nat):Int)=80 from rfl,show ((24:Nat):Int)=24 from rfl] at hmost;rw [hmost];simp only [bsm];rw [nX f2];simp only [bsm];obtain ⟨r,u1,u2⟩:=wK (n:=10) (by omega) [Lib.itoa (lnn q.L:Int),Lib.itoa ((80 * 24 * 16:Nat):Int)] (by simp) (fun w hw=>by
    simp only [cq,cC,ju] at hw;rcases hw with rfl | rfl
    · exact lE f1
    · exact lE f2)
  rw [show ([mkS (Lib.itoa (lnn q.L:Int)),mkS (Lib.itoa ((80 * 24 * 16:Nat):Int))]:List ByteArray)= [Lib.itoa (lnn q.L:Int),Lib.itoa ((80 * 24 * 16:Nat):Int)].map mkS from rfl,u1];exact ⟨r,rfl,by omega⟩
end
end Go.Proofs.YtceciacilfhmjaaGreatDoor
