/- Parts of the proofs of RenderDraws, RenderAgain: the walk through the code, and plain Lean. No condition. -/
import Derived.Test.YtclmdpamofdoiaaGreatDoorRwE
import Derived.Test.YtclmdpamofdoiaaGreatDoorRwB
import Derived.Test.YtclmdpamofdoiaaGreatDoorRwD
import Derived.Test.YtclmdpamofdoiaaGreatDoorRwA
import Derived.Test.YtclmdpamofdoiaaGreatDoorRwC
import Derived.KernelRfl
import Derived.Test.YtclmdpamofdoiaaGreatDoorProg
set_option linter.unusedVariables false
set_option linter.unusedSimpArgs false
namespace Go.Proofs.YtclmdpamofdoiaaGreatDoor
open Go Go.Lt
variable {s C:Sto} {g k W:Nat} {ks:List Nat} {q:ag} {l:List aa}
def rzc (l:List aa) (w j:Nat):aa:=if j < l.length∧(j+1 < w∨kd l j≠2) then l.getD j bl else bl
def rz (l:List aa) (w:Nat):List aa:=(List.range w).map (rzc l w)
theorem tn (l:List aa) (w:Nat):(rz l w).length=w:=by simp [rz]
theorem xg {w j:Nat} (h:j < w):(rz l w)[j]? = some (rzc l w j):=by simp [rz,h]
theorem FF {w j:Nat} (h:j < w):kd (rz l w) j=(rzc l w j).Kind:=by simp [kd,xg h]
theorem xf (l:List aa) (w j:Nat):(rzc l w j).Kind=if j < l.length∧(j+1 < w∨kd l j≠2) then kd l j else 0:=by
 unfold rzc;split
 ·exact lH l j
 ·rfl
theorem CA (hs:Snd l) (w:Nat):Snd (rz l w):=fun j hj=>by
 have hjw:j < w:=by rw [tn] at hj; exact hj
 have e:(rz l w)[j]=rzc l w j:=by
  have:=xg (l:=l) hjw;rw [af hj] at this;exact bi this
 rw [e];refine ⟨?_,fun h2=>?_,fun h3=>?_⟩
 ·unfold rzc;split
  ·rename_i h; exact hs.rg h.1
  ·rfl
 ·rw [xf] at h2;split at h2
  ·rename_i h
   have h4:=hs.two h2;have h5:j+1 < l.length:=sv (by rw [h4]; decide);have h6:j+1 < w:=by omega
   rw [FF h6,xf,ae ⟨h5,.inr (by rw [h4]; decide)⟩,h4]
  ·cases h2
 ·rw [xf] at h3;split at h3
  ·rename_i h
   obtain ⟨h4,h5⟩:=hs.three h3;have h6:j - 1 < l.length:=by omega
   refine ⟨h4,?_⟩;rw [FF (by omega),xf,ae ⟨h6,.inl (by omega)⟩,h5]
  ·cases h3
theorem Gb (w:Nat):rz [] w=List.replicate w bl:=by
 refine be fun j=>?_;rcases aG j w with h | h
 ·rw [xg h,iD,ae h];unfold rzc;rw [ab (by simp)]
 ·rw [aA (by rw [tn]; exact h),aA (by simpa using h)]
theorem EX {n:Nat} (hn:n≤l.length) (hl:l.length≤1024):oD l n=some (if 0 < n∧kd l (n - 1)=2 then (l.take n).set (n - 1) bl else l.take n):=by
 unfold oD;rw [show (0:Int)=((0:Nat):Int) from rfl,rC (dp _) hn,nH,zj];simp only [bsm];by_cases h0:0 < n
 ·have e:w64 ((n:Int) - 1)=((n - 1:Nat):Int):=by rw [aJ (by omega)]; omega
  have hlt:n - 1 < (l.take n).length:=by simp; omega
  have hk:(l.take n)[n - 1].Kind=kd l (n - 1):=by rw [List.getElem_take,iU (by omega)]
  rw [show decide ((n:Int) > ((0:Nat):Int))=true by simpa using h0,e,aW hlt];simp only [gH,bsm,hk];by_cases h2:kd l (n - 1)=2
  ·rw [ae (by simpa using h2),ae ⟨h0,h2⟩,jV hlt];rfl
  ·rw [ab (by simpa using h2),ab (fun h=>h2 h.2)];rfl
 ·rw [show decide ((n:Int) > ((0:Nat):Int))=false by simpa using h0,ab (fun h=>h0 h.1)];simp only [iS,bsm,ak,aU]
theorem GQ (hs:Snd l) {w n:Nat} (hn:n=min w l.length) (w1:1≤w) (l1:1≤l.length):(if 0 < n∧kd l (n - 1)=2 then (l.take n).set (n - 1) bl else l.take n)++List.replicate (w - n) bl=rz l w:=by
 have hlen:(if 0 < n∧kd l (n - 1)=2 then (l.take n).set (n - 1) bl else l.take n).length=n:=by split <;> simp <;> omega
 refine be fun j=>?_;rcases aG j w with h | h
 ·rw [xg h];rcases aG j n with hj | hj
  ·rw [aB (by omega)];have hjl:j < l.length:=by omega
   have g:l.getD j bl=l[j]:=by rw [ao,af hjl]; rfl
   unfold rzc;split
   ·rename_i h2
    rw [lF];by_cases e:n - 1=j
    ·subst e;rw [ae rfl,ae (by simp; omega),ab];rintro ⟨_,h5 | h5⟩
     ·have:=hs.two h2.2;have:=sv (l:=l) (j:=n - 1+1) (by omega);omega
     ·exact h5 h2.2
    ·rw [ab e,aN,ae hj,af hjl,ae ⟨hjl,by omega⟩,g]
   ·rename_i h2
    rw [aN,ae hj,af hjl,ae,g];refine ⟨hjl,?_⟩;by_cases e:j+1 < w
    ·exact .inl e
    ·right
     intro h3;exact h2 ⟨by omega,by rw [show n - 1=j by omega]; exact h3⟩
  ·rw [aY (by omega),hlen,iD,ae (by omega)];unfold rzc;rw [ab (by omega)]
 ·rw [aA (by rw [av,hlen,lx]; omega),aA (by rw [tn]; exact h)]
theorem zQ {wr:Bool} (h:s.row_Row[k]? = some ⟨l,wr⟩) (hs:Snd l) (l1:1≤l.length) (l2:l.length≤1024) {w:Nat} (w1:1≤w) (w2:w≤1024):
  jt s (some k) w=some (s.add_row_Row ⟨rz l w,false⟩,some s.row_Row.length):=by
 have e1:bb 1 (aO (w:Int) 1024)=(w:Int):=by rw [dW,gZ]; omega
 unfold jt;rw [e1];simp only [bI,ak,aU,qL h (by omega) hs.sht,iZ h,bsm];obtain ⟨n,hn⟩:∃n,n=min w l.length:=⟨_,rfl⟩;rw [show aO (w:Int) (l.length:Int)=(n:Int) by rw [dW]; omega,EX (by omega) l2];have hlen:(if 0 < n∧kd l (n - 1)=2 then (l.take n).set (n - 1) bl else l.take n).length=n:=by split <;> simp <;> omega
 have hcr:=GQ hs hn w1 l1;generalize (if 0 < n∧kd l (n - 1)=2 then (l.take n).set (n - 1) bl else l.take n)=c at *;simp only [bsm];rw [hlen,aJ (by omega),tN];simp only [bsm];rw [show (max 0 (min ((w:Int) - (n:Int)) 1024)).toNat=w - n by omega,eP (by simp; omega),hcr];simp only [bsm];unfold sF;rw [Gd (by rw [tn]; exact w1) (by rw [tn]; exact w2) (CA hs w)];rfl
theorem zC (l:List aa) (hl:l.length≤1000000) {w:Nat} (w1:1≤w) (w2:w≤1024):gu l w=some (rz l w):=by
 have e1:bb 1 (aO (w:Int) 1024)=(w:Int):=by rw [dW,gZ]; omega
 unfold gu;rw [e1,oZ _ (by omega),show (⟨0,[]⟩:aa)=bl from rfl,bT];simp only [bsm];obtain ⟨t,h3,h4⟩:=eG (σ:=(List aa)×Int) (τ:=(List aa)) (n:=min w l.length) (fuel:=((w:Int) - 0).toNat+1) (s:=(List.replicate w bl,0))
  (fun i q=>q=((List.range w).map (fun j=>if j < i then rzc l w j else bl),(i:Int))) (fun t=>t=rz l w)
  (step:=fun s_14=>
 (bD (decide (s_14.2 < (w:Int))) (some (decide (s_14.2 < (l.length:Int))))).bind fun d_18=>
 if d_18=true then
 ((orE (decide ((w64 (s_14.2+1)) < (w:Int))) ((idx l s_14.2).bind fun x_34=>
 some (x_34.Kind != 2))).bind fun d_30=>
 if d_30=true then
 (idx l s_14.2).bind fun x_43=>
 (idx s_14.1 s_14.2).bind fun x_45=>
 (nT s_14.1 s_14.2 x_43).bind fun w_46=>
 (some (w_46):Option ((List aa)))
 else
 (some (s_14.1):Option ((List aa)))).bind fun z_25=>
 some (.inl (z_25,(w64 (s_14.2+1))))
 else
 some (.inr (s_14.1)))
  (fun i q hi e=>by
   subst e;refine .inl ⟨_,?_,rfl⟩;have e5:w64 ((i:Int)+1)=((i+1:Nat):Int):=by rw [aJ (by omega)]; simp
   have hil:i < l.length:=by omega
   have hd:(decide ((i:Int) < (w:Int)) && decide ((i:Int) < (l.length:Int)))=true:=by simp; omega
   have hlt:i < ((List.range w).map (fun j=>if j < i then rzc l w j else bl)).length:=by simp; omega
   have ho:(orE (decide (((i+1:Nat):Int) < (w:Int))) ((idx l (i:Int)).bind fun x_34=>some (x_34.Kind != 2)))=some (decide (i+1 < w∨kd l i≠2)):=by
    rw [aW hil];simp only [bsm,br,←iU hil,aK];rw [cg];simp only [aC,an,jQ];omega
   simp only [ba,bsm,hd,bw,e5];rw [ho];simp only [bsm];have hnext:∀c:aa,c=rzc l w i→((List.range w).map (fun j=>if j < i then rzc l w j else bl)).set i c=(List.range w).map (fun j=>if j < i+1 then rzc l w j else bl):=fun c hc=>by
    refine be fun j=>?_;rw [lF];by_cases e:i=j
    ·subst e;rw [ae rfl,ae hlt,bz,dq (by omega),hc];simp
    ·rw [ab e,bz,bz];rcases aG j w with hj | hj
     ·rw [dq hj];simp only [gi,aK];by_cases h5:j < i
      ·rw [ae h5,ae (by omega)]
      ·rw [ab h5,ab (by omega)]
     ·rw [aA (by simpa using hj)];rfl
   by_cases hc:i+1 < w∨kd l i≠2
   ·rw [ae (by simpa using hc),aW hil,aW hlt];simp only [bsm];rw [jV hlt,hnext l[i] (by
     unfold rzc;rw [ae ⟨hil,hc⟩,ao,af hil];rfl)]
    rfl
   ·rw [ab (by simpa using hc)];simp only [bsm];have hb:rzc l w i=bl:=by
     unfold rzc;rw [ab (fun h=>hc h.2)]
    have:=hnext bl hb.symm;rw [←this]
    congr 3
    refine (be fun j=>?_).symm;rw [lF];by_cases e:i=j
    ·subst e;rw [ae rfl,ae hlt,bz,dq (by omega)];simp
    ·rw [ab e])
  (fun q e=>⟨q.1,by
   subst e;have hd:(decide (((min w l.length:Nat):Int) < (w:Int)) && decide (((min w l.length:Nat):Int) < (l.length:Int)))=false:=by
    rw [zl];simp only [wJ,aq,an];omega
   simp only [ba,bsm,hd,ak,aU],by
   subst e;simp only;unfold rz;refine cX fun j hj=>?_;rw [List.mem_range] at hj;by_cases h5:j < min w l.length
   ·rw [ae h5]
   ·rw [ab h5];unfold rzc;rw [ab (by omega)]⟩)
  (by
   simp only [uf,aU,fM];refine ⟨?_,rfl⟩;rw [Jo,ru]) (by omega)
 subst h4;rw [h3];rfl
def cs (L:List ah) (n:Nat):List aa:=(L.getD n ⟨[],false⟩).Cells
def rs (L:List ah) (top w h:Nat):List ah:=(List.range h).map fun m=>⟨rz (cs L (top+m)) w,false⟩
def rsi (L:List ah) (top w h i:Nat):List ah:=(List.range h).map fun m=>if m < i then ⟨rz (cs L (top+m)) w,false⟩ else ⟨List.replicate w bl,false⟩
theorem zS {L:List ah} {n:Nat} (h:L.length≤n):cs L n= []:=by
 unfold cs;rw [ao,aA h];rfl
theorem Dw {L:List ah} {n:Nat} (h:n < L.length):cs L n=L[n].Cells:=by
 unfold cs;rw [ao,af h];rfl
theorem An (L:List ah) (top w:Nat) {h i:Nat} (hi:i < h):(rsi L top w h i).set i ⟨rz (cs L (top+i)) w,false⟩=rsi L top w h (i+1):=by
 unfold rsi;refine be fun j=>?_;rw [lF,cM,ru];by_cases e:i=j
 ·subst e;rw [ae rfl,ae hi,bz,dq hi];simp
 ·rw [ab e,bz,bz];rcases aG j h with hj | hj
  ·rw [dq hj];simp only [gi,aK];by_cases h5:j < i
   ·rw [ae h5,ae (by omega)]
   ·rw [ab h5,ab (by omega)]
  ·rw [aA (by simpa using hj)];rfl
theorem CF (L:List ah) {top w h i:Nat} (ho:L.length≤top+i) (hi:i < h):rsi L top w h (i+1)=rsi L top w h i:=by
 rw [←An L top w hi,zS ho,Gb];refine be fun j=>?_;rw [lF];by_cases e:i=j
 ·subst e;unfold rsi;rw [ae rfl,ae (by simp; exact hi),bz,dq hi];simp
 ·rw [ab e]
theorem Eu (L:List ah) (top w h:Nat):rsi L top w h h=rs L top w h:=by
 unfold rsi rs;refine cX fun m hm=>?_;rw [List.mem_range] at hm;rw [ae hm]
theorem CE (L:List ah) (top w h:Nat):rsi L top w h 0=bls w h:=by
 unfold rsi bls;simp only [uf,aU];rw [Jo,ru]
theorem Gu {xs:List Nat} (nd:xs.Nodup) {x i:Nat} (hx:x∉xs):(xs.set i x).Nodup:=by
 rw [List.Nodup,List.pairwise_iff_getElem] at *;intro a b ha hb hab;rw [cp] at ha hb;rw [Je,Je];split
 ·split
  ·omega
  ·exact fun e=>hx (e▸ ax hb)
 ·split
  ·exact fun e=>hx (e▸ ax ha)
  ·exact nd a b ha hb hab
theorem Gw.sgo {g2:Nat} (h:Gw s g ks W) (hne:g2≠g) (x:bX):Gw (s.sg g2 x) g ks W:=
 ⟨by rw [←h.g]; simp [Sto.sg,aQ hne],h.r,h.h1,h.h2,h.w1,h.w2⟩
theorem Gw.addg (h:Gw s g ks W) (x:bX):Gw (s.add_grid_Grid x) g ks W:=
 ⟨by rw [←h.g]; simp only [Sto.add_grid_Grid]; exact aB (cK h.g),h.r,h.h1,h.h2,h.w1,h.w2⟩
theorem Rf.more {s':Sto} {g2:Nat} {ks':List Nat} (h:Rf s s' g ks g2 ks') (hg2:s.grid_Grid.length≤g2) (xs:List bp) (x:bX) (i:Nat):Rf s ((s'.addr xs).sg g2 x) g ks g2 (ks'.set i s'.row_Row.length):=by
 have e:((s'.addr xs).sg g2 x).row_Row=s'.row_Row++xs:=rfl;have e2:((s'.addr xs).sg g2 x).grid_Grid=s'.grid_Grid.set g2 x:=rfl;have hr:=h.rl;refine ⟨by rw [e2,cp]; exact h.gl,by rw [e,av]; omega,fun j a b=>by rw [e2,aQ (by omega)]; exact h.gr j a b,fun j a b=>by rw [e,aB (by omega)]; exact h.rw j a b,h.ng,fun r hr=>?_⟩;rcases D8 hr with q | rfl
 ·exact h.nr r q
 ·exact .inr h.rl
theorem Rf.begun (xs:List bp) (x:bX) {g2:Nat} (hg2:g2=s.grid_Grid.length) (m:Nat):Rf s ((s.addr xs).add_grid_Grid x) g ks g2 (List.range' s.row_Row.length m):=by
 subst hg2;refine ⟨by simp [Sto.add_grid_Grid,Sto.addr],by simp [Sto.add_grid_Grid,Sto.addr],fun j hj _=>?_,fun j hj _=>?_,.inr (ay _),fun r hr=> .inr (List.mem_range'_1.1 hr).1⟩
 ·simp only [Sto.add_grid_Grid,Sto.addr]; exact aB hj
 ·simp only [Sto.add_grid_Grid,Sto.addr]; exact aB hj
theorem Be (h:Pv C s k g W q ks) {w hh top:Nat} (w1:1≤w) (w2:w≤1024) (h1:1≤hh) (h2:hh≤1024) (ht:top≤1024) {g2:Nat} (hg2:g2=s.grid_Grid.length):
  ∃s' ks',cv (σ:=Int×Sto) (τ:=Sto) (((hh:Int) - 0).toNat+1) (fun s_54=>
 if (decide (s_54.1 < (hh:Int)))=true then
 ((s_54.2.place_Pen[k]?).bind fun o_64=>
 (bv s_54.2 o_64.G (w64 ((top:Int)+s_54.1))).bind fun x_68=>
 if (!x_68.isNone)=true then
 (jt s_54.2 x_68 (w:Int)).bind fun x_78=>
 (ez x_78.1 (some g2) s_54.1 x_78.2).bind fun x_79=>
 (some (x_79.1):Option (Sto))
 else
 (some (s_54.2):Option (Sto))).bind fun z_57=>
 some (.inl ((w64 (s_54.1+1)),z_57))
 else
 some (.inr (s_54.2))) (0,(s.addr ((bls w hh).map lr)).add_grid_Grid ⟨(List.range' s.row_Row.length hh).map some⟩)=some s'∧
  Gw s' g2 ks' w∧ks'.Nodup∧ks'.map (ln s')=rs q.L top w hh∧s'.rst=s.rst∧Rf s s' g ks g2 ks':=by
 have hb:(bls w hh).length=hh:=by simp [bls]
 have h0:((bls w hh)[0]'(by omega)).Cells.length=w:=by simp [bls]
 obtain ⟨b1,b2⟩:=FK (s:=s) (L:=bls w hh) (by omega) (by omega) (DH w1 w2 h1);rw [h0,←hg2] at b1;rw [hb] at b1 b2;have hgl:=cK h.g.g;obtain ⟨t,e1,e2⟩:=eG (σ:=Int×Sto) (τ:=Sto) (n:=hh) (fuel:=((hh:Int) - 0).toNat+1) (s:=(0,(s.addr ((bls w hh).map lr)).add_grid_Grid ⟨(List.range' s.row_Row.length hh).map some⟩))
  (fun i q2=>q2.1=(i:Int)∧q2.2.rst=s.rst∧Gw q2.2 g ks W∧ks.map (ln q2.2)=q.L∧∃ks',Gw q2.2 g2 ks' w∧ks'.Nodup∧ks'.length=hh∧ks'.map (ln q2.2)=rsi q.L top w hh i∧Rf s q2.2 g ks g2 ks')
  (fun t=>t.rst=s.rst∧∃ks',Gw t g2 ks' w∧ks'.Nodup∧ks'.map (ln t)=rs q.L top w hh∧Rf s t g ks g2 ks')
  (step:=fun s_54=>
 if (decide (s_54.1 < (hh:Int)))=true then
 ((s_54.2.place_Pen[k]?).bind fun o_64=>
 (bv s_54.2 o_64.G (w64 ((top:Int)+s_54.1))).bind fun x_68=>
 if (!x_68.isNone)=true then
 (jt s_54.2 x_68 (w:Int)).bind fun x_78=>
 (ez x_78.1 (some g2) s_54.1 x_78.2).bind fun x_79=>
 (some (x_79.1):Option (Sto))
 else
 (some (s_54.2):Option (Sto))).bind fun z_57=>
 some (.inl ((w64 (s_54.1+1)),z_57))
 else
 some (.inr (s_54.2)))
  (fun i q2 hi ⟨e,hp,hg,hl,ks',c1,c2,c3,c4,c5⟩=>by
   obtain ⟨j,st⟩:=q2;simp only at e hp hg hl c1 c2 c3 c4 c5;subst e;have e5:w64 ((i:Int)+1)=((i+1:Nat):Int):=by rw [aJ (by omega)]; simp
   have e6:w64 ((top:Int)+(i:Int))=((top+i:Nat):Int):=by rw [aJ (by omega)]; simp
   have hd:decide ((i:Int) < (hh:Int))=true:=by simp; exact hi
   simp only [hd,bw,kx hp,h.p,bsm,e5,e6];have hlen:=h.len;by_cases ho:top+i < ks.length
   ·rw [eW hg ho];simp only [bsm,bI,fb,bw];obtain ⟨r,r1,r2,r3⟩:=hg.at ho;have hr:=zQ (l:=r.cells) (wr:=r.wrap) r1 r2 (by rw [r3]; exact hg.w1) (by rw [r3]; exact hg.w2) w1 w2;rw [hr];simp only [bsm];have ea:st.add_row_Row ⟨rz r.cells w,false⟩=st.addr [⟨rz r.cells w,false⟩]:=by simp [Sto.add_row_Row,Sto.addr]
    rw [ea];have c1':=c1.addr (xs:=[⟨rz r.cells w,false⟩]);have hg':=hg.addr (xs:=[⟨rz r.cells w,false⟩]);have hnew:(st.addr [⟨rz r.cells w,false⟩]).row_Row[st.row_Row.length]? = some ⟨rz r.cells w,false⟩:=by simp [Sto.addr]
    have hrw:Rw (st.addr [⟨rz r.cells w,false⟩]) w st.row_Row.length:=⟨_,hnew,CA r2 w,tn _ _⟩;rw [yC c1' (show i < ks'.length by omega) hrw];simp only [bsm];have hL:cs q.L (top+i)=r.cells:=by
     rw [Dw (by rw [←hl]; simpa using ho)];have:q.L[top+i]? = (ks.map (ln st))[top+i]? :=by rw [hl]
     rw [af (by rw [←hl]; simpa using ho),bz,af ho,gi,nt r1] at this;rw [bi this]
    refine .inl ⟨_,rfl,rfl,hp,hg'.sgo (by omega) _,?_,ks'.set i st.row_Row.length,c1'.set hrw,Gu c2 fun hm=>absurd (c1.r _ hm).lt (Nat.lt_irrefl _),by rw [cp]; exact c3,?_,c5.more (by omega) _ _ _⟩
    ·rw [←hl];refine cX fun x hx=>?_;rw [yv];exact uV (hg.r x hx).lt
    ·rw [←An _ _ _ hi,←c4,hL,List.map_set,yv,nt hnew]
     congr 1
     refine cX fun x hx=>?_;rw [yv];exact uV (c1.r x hx).lt
   ·rw [sE hg (.inr (by omega))];simp only [bsm,Option.isNone_none,cm,ak,aU];exact .inl ⟨_,rfl,rfl,hp,hg,hl,ks',c1,c2,c3,by rw [CF _ (by omega) hi]; exact c4,c5⟩)
  (fun q2 ⟨e,hp,_,_,ks',c1,c2,_,c4,c5⟩=>⟨q2.2,by
   have hd:decide (q2.1 < (hh:Int))=false:=by rw [e]; simp
   simp only [hd,ak,aU],hp,ks',c1,c2,by rw [c4,Eu],c5⟩)
  ⟨rfl,rfl,(h.g.addr (xs:=(bls w hh).map lr)).addg _,by
   rw [←h.l];refine cX fun x hx=>?_;exact uV (h.g.r x hx).lt,_,b1,I6,by simp,by rw [CE]; exact b2,Rf.begun _ _ hg2 _⟩ (by omega)
 obtain ⟨p1,ks',p2,p3,p4,p5⟩:=e2;exact ⟨t,ks',e1,p2,p3,p4,p1,p5⟩
def tp (c:ai) (h:Nat):Nat:=(c.Row - h+1).toNat
theorem Hv (h:Pv C s k g W q ks) (a b:Int):gq q a b=some ⟨rs q.L (tp (hc q.At W ks.length) (sd b)) (sd a) (sd b),⟨(hc q.At W ks.length).Row - tp (hc q.At W ks.length) (sd b),min (hc q.At W ks.length).Col ((sd a:Int) - 1),false⟩,q.Auto⟩:=by
 have hd:=sx q.At h.g.w1 h.g.h1;have hl:=h.len;have hh2:=h.g.h2;have ha:=uJ a;have hb:=uJ b;have side:∀n:Int,bf n=some (sd n:Int):=fun n=>by
  unfold bf;by_cases h1:n < 1
  ·rw [ae (by simpa using h1)]
   congr 1
   unfold sd;omega
  ·rw [ab (by simpa using h1)];by_cases h2:n > 1024
   ·rw [ae (by simpa using h2)]
    congr 1
    unfold sd;omega
   ·rw [ab (by simpa using h2)]
    congr 1
    unfold sd;omega
 unfold gq;rw [oy h];generalize hc q.At W ks.length=c at *;have hr:=hd.rr;simp only [bsm,side];obtain ⟨t,e1,e2⟩:=eG (σ:=(List ah)×Int) (τ:=((List ah)×Int)) (n:=tp c (sd b)) (fuel:=(c.Row - (sd b:Int)).toNat+2) (s:=(q.L,c.Row))
  (fun i q2=>q2=(q.L.drop i,c.Row - i)) (fun t=>t=(q.L.drop (tp c (sd b)),c.Row - tp c (sd b)))
  (step:=fun s_25=>
 if (decide (s_25.2≥(sd b:Int)))=true then
 (slc s_25.1 1 s_25.1.length).bind fun x_32=>
 some (.inl (x_32,(w64 (s_25.2 - 1))))
 else
 some (.inr (s_25.1,s_25.2)))
  (fun i q2 hi e=>by
   subst e;refine .inl ⟨_,?_,rfl⟩;unfold tp at hi;have hd:decide (c.Row - (i:Int)≥(sd b:Int))=true:=by simp; omega
   simp only [hd,bw];rw [show (1:Int)=((1:Nat):Int) from rfl,rC (by simp; omega) (ay _),aJ (by omega)];simp only [bsm,de];rw [aH (by simp; omega)]
   congr 3
   omega)
  (fun q2 e=>⟨q2,by
   subst e;have hd:decide (c.Row - (tp c (sd b):Int)≥(sd b:Int))=false:=by
    unfold tp;simp;omega
   simp only [hd,ak,aU],e⟩)
  (by simp) (by unfold tp; omega)
 subst e2;rw [e1];simp only [bsm];obtain ⟨t,e3,e4⟩:=eG (σ:=(List ah)×Int) (τ:=(List ah)) (n:=sd b) (fuel:=((sd b:Int) - 0).toNat+1) (s:=(([]:List ah),0))
  (fun i q2=>q2=((rs q.L (tp c (sd b)) (sd a) (sd b)).take i,(i:Int))) (fun t=>t=rs q.L (tp c (sd b)) (sd a) (sd b))
  (step:=fun s_45=>
 if (decide (s_45.2 < (sd b:Int)))=true then
 (if (decide (s_45.2 < ((q.L.drop (tp c (sd b))).length:Int)))=true then
 (idx (q.L.drop (tp c (sd b))) s_45.2).bind fun x_60=>
 (some (x_60.Cells):Option ((List aa)))
 else
 (some (([]:List aa)):Option ((List aa)))).bind fun z_52=>
 (gu z_52 (sd a:Int)).bind fun x_68=>
 (app s_45.1 ([(⟨x_68,false⟩:ah)]:List ah)).bind fun x_71=>
 some (.inl (x_71,(w64 (s_45.2+1))))
 else
 some (.inr (s_45.1)))
  (fun i q2 hi e=>by
   subst e;refine .inl ⟨_,?_,rfl⟩;have e5:w64 ((i:Int)+1)=((i+1:Nat):Int):=by rw [aJ (by omega)]; simp
   have hd:decide ((i:Int) < (sd b:Int))=true:=by simp; exact hi
   have hz:(if (decide ((i:Int) < ((q.L.drop (tp c (sd b))).length:Int)))=true then (idx (q.L.drop (tp c (sd b))) (i:Int)).bind fun x_60=>(some (x_60.Cells):Option ((List aa))) else (some (([]:List aa)):Option ((List aa))))=some (cs q.L (tp c (sd b)+i)):=by
    by_cases ho:i < (q.L.drop (tp c (sd b))).length
    ·rw [ae (by simpa using ho),aW ho];have ho2:tp c (sd b)+i < q.L.length:=by simp at ho; omega
     rw [Dw ho2];simp only [bsm,I8]
    ·rw [ab (by simpa using ho),zS (by simp at ho; omega)]
   simp only [hd,bw,e5];rw [hz];simp only [bsm];have hcl:(cs q.L (tp c (sd b)+i)).length≤1000000:=by
    by_cases ho:tp c (sd b)+i < q.L.length
    ·rw [Dw ho,(h.ok _ (ax ho)).2];have:=h.g.w2;omega
    ·rw [zS (by omega)];simp
   rw [zC _ hcl ha.1 ha.2];simp only [bsm];have hlt:i < (rs q.L (tp c (sd b)) (sd a) (sd b)).length:=by simp [rs]; exact hi
   rw [eP (by simp; omega),aj hlt];simp [rs])
  (fun q2 e=>⟨q2.1,by subst e; simp,by subst e; simp only; rw [aH (by simp [rs])]⟩)
  (by simp) (by omega)
 subst e4;rw [e3];simp only [bsm];rw [aJ (by omega),dW]
theorem Eg (h:Pv C s k g W q ks) (a b:Int):∃s' q' g' ks',kQ s (some k) a b=some s'∧gq q a b=some q'∧Pv C s' k g' (sd a) q' ks'∧q'.L=rs q.L (tp (hc q.At W ks.length) (sd b)) (sd a) (sd b)∧Hd q'.At (sd a) (sd b):=by
 have hd:=sx q.At h.g.w1 h.g.h1;have hh2:=h.g.h2;have ha:=uJ a;have hb:=uJ b;have sdd:∀n:Int,bb 1 (aO n 1024)=(sd n:Int):=fun n=>by
  rw [dW,gZ];unfold sd;omega
 have hc1:=oL q.At h.g.w1 h.g.w2 h.g.h1 h.g.h2;have h39:=Hv h a b;generalize hc q.At W ks.length=c at *;have hr:=hd.rr;have hcc:=hd.cc;have etp:bb 0 (w64 ((w64 (c.Row - (sd b:Int)))+1))=(tp c (sd b):Int):=by
  rw [aJ (n:=c.Row - (sd b:Int)) (by omega),aJ (by omega),gZ];unfold tp;omega
 obtain ⟨s',ks',e1,g1,g2,g3,g4,g5⟩:=Be h ha.1 ha.2 hb.1 hb.2 (top:=tp c (sd b)) (by unfold tp; omega) rfl;have hgn:=yD (s:=s) (sd a:Int) (sd b:Int);rw [ww ha.1 ha.2,ww hb.1 hb.2] at hgn;have hp':s'.place_Pen[k]? = some ⟨some g,q.At,q.Auto⟩:=by rw [kx g4]; exact h.p
 have hmv:iR (c.Row - (tp c (sd b):Int)) c.Col (sd a:Int) (sd b:Int)=some ⟨c.Row - tp c (sd b),min c.Col ((sd a:Int) - 1),false⟩:=by
  unfold iR;rw [oL _ ha.1 ha.2 hb.1 hb.2];simp only [bsm,hc,aK,ai.mk.injEq,gY,oT];unfold tp;omega
 refine ⟨(s'.sp k ⟨some s.grid_Grid.length,q.At,q.Auto⟩).sp k ⟨some s.grid_Grid.length,⟨c.Row - tp c (sd b),min c.Col ((sd a:Int) - 1),false⟩,q.Auto⟩,_,s.grid_Grid.length,ks',?_,h39,?_,rfl,⟨by simp only; unfold tp; omega,by simp only; omega,fun e=>by cases e⟩⟩
 ·unfold kQ;simp only [bI,cW,bsm,h.p,ak,aU];rw [jc h.g,eH h.g];simp only [bsm,sdd];rw [hc1];simp only [bsm];rw [hgn];simp only [bsm,etp];rw [e1];simp only [bsm,hp'];rw [iH (cK hp')];simp only [bsm];rw [aJ (by unfold tp; omega),hmv];simp only [bsm];rw [iH (by simp [Sto.sp]; exact cK hp')];rfl
 ·rw [wt];exact ⟨xb (cK hp'),g1.sp _ _,g2,g3,(qK g4).trans h.o,(h.f.step g5 (kx g4)).sp _⟩
end Go.Proofs.YtclmdpamofdoiaaGreatDoor
namespace Go.Proofs.YtclmdpamofdoiaaGreatDoor
open Go Go.Lt
variable {s C:Sto} {x f k g W H:Nat} {q P:ag} {ks:List Nat} {op:Option Nat}
structure Mo where
 P:ag
 G:List Int
 h:List Int
structure Sd (C s:Sto) (x f k:Nat) (m:Mo) (q:ag):Prop where
 sc:s.screen_Screen[x]? = some ⟨some f,some k⟩
 bt:Bts m.h
 fd:∃g W H ks op,Fd C s f k g W H m.P m.G m.h q ks op
def lay (P:ag) (G:List Int):Option ag:=fo tD P (cls pj pr G)
def mdo (m:Mo) (o:aM):Option Mo:=
 if o.Kind=0 then some ⟨m.P,m.G++(eV m.h o.Bytes).1,(eV m.h o.Bytes).2⟩
 else if o.Kind=1 then (lay m.P (m.G++(if m.h= [] then [] else [65533]))).map fun q=>⟨q,[],[]⟩
 else if o.Kind=13 then (lay m.P m.G).bind fun q=>(gq q o.A o.B).map fun q'=>⟨q',[],m.h⟩
 else if w38 o=0 then (lay m.P m.G).bind fun q=>(eD q o).map fun q'=>⟨q',[],m.h⟩
 else some m
def w40 (o:aM):Int:=if o.Kind=0∨o.Kind=1∨o.Kind=13 then 0 else w38 o
def e40 (o:aM):Er:=if o.Kind=0∨o.Kind=1∨o.Kind=13 then Er.nil else e38 o
theorem Fd.pen_work {h:List Int} (F:Fd C s f k g W H P [] h q ks none) {s':Sto} {g' W':Nat} {q':ag} {ks':List Nat} (v:Pv s s' k g' W' q' ks') (hh:Hd q'.At W' ks'.length):Fd C s' f k g' W' ks'.length q' [] h q' ks' none:=by
 obtain ⟨d,hd,hdv⟩:=F.d;refine ⟨v.self,F.fr.trans F.v.oG F.v.oR v.f,F.fz.oth v.o,rfl,hh,rfl,F.gv,⟨d,?_,hdv⟩,fun _=>rfl,fun e=>by cases e⟩;rw [pa v.o];exact hd
theorem Bk {m:Mo} (S:Sd C s x f k m q) (o:aM) (hb:Bts o.Bytes) (hl:o.Bytes.length≤9223372036854775807):∃s' m' q',gL s (some x) o=some (s',e40 o)∧mdo m o=some m'∧Sd C s' x f k m' q':=by
 obtain ⟨g,W,H,ks,op,F⟩:=S.fd;have hC:C.screen_Screen[x]? = some ⟨some f,some k⟩:=by rw [←F.fz.sc]; exact S.sc
 have hs:∀{s':Sto} {g W H:Nat} {P:ag} {G h:List Int} {q:ag} {ks:List Nat} {op:Option Nat},Fd C s' f k g W H P G h q ks op→s'.screen_Screen[x]? = some ⟨some f,some k⟩:=fun F'=>by rw [F'.fz.sc]; exact hC
 unfold gL mdo e40;simp only [bI,ak,aU,bsm,aS,S.sc];by_cases k0:o.Kind=0
 ·obtain ⟨s',q',ks',op',b1,b2⟩:=BS F S.bt hl hb;rw [ae k0,ae k0,ae (.inl k0),b1];exact ⟨s',_,q',rfl,rfl,hs b2,wB S.bt hb,⟨_,_,_,_,_,b2⟩⟩
 rw [ab k0,ab k0];by_cases k1:o.Kind=1
 ·obtain ⟨s',q',ks',b1,b2,b3⟩:=BQ F;rw [ae k1,ae k1,ae (.inr (.inl k1)),b1];unfold lay;rw [b3];exact ⟨s',_,q',rfl,rfl,hs b2,Bts.nil,⟨_,_,_,_,_,b2⟩⟩
 rw [ab k1,ab k1];by_cases k13:o.Kind=13
 ·obtain ⟨s2,b1,b2⟩:=tF F;obtain ⟨s',q',g',ks',c1,c2,c3,c4,c5⟩:=Eg b2.v o.A o.B;have hkl:ks'.length=sd o.B:=by rw [←c3.len,c4]; simp [rs]
  rw [ae k13,ae k13,ae (.inr (.inr k13)),b1];have hl2:lay m.P m.G=some q:=F.l;simp only [bsm,hs b2,hl2];rw [c1,c2];have F2:=b2.pen_work c3 (by rw [hkl]; exact c5);exact ⟨s',_,q',rfl,rfl,hs F2,S.bt,⟨_,_,_,_,_,F2⟩⟩
 rw [ab k13,ab k13,ab (by omega),vj];simp only [bsm,AV];by_cases hw:w38 o=0
 ·rw [ab (by simp [hw]),ae hw];obtain ⟨s2,b1,b2⟩:=tF F;obtain ⟨s',q',ks',c1,c2,c3,c4,c5,_⟩:=EZ b2.v o hw;rw [b1];have hl2:lay m.P m.G=some q:=F.l;simp only [bsm,hs b2,hl2];rw [c1,c2];have he:e38 o=Er.nil:=by unfold e38; rw [hw]; rfl
  have F2:=b2.pen_work c3 (by rw [c4]; exact c5);exact ⟨s',_,q',by rw [he]; rfl,rfl,hs F2,S.bt,⟨_,_,_,_,_,F2⟩⟩
 ·rw [ae (by simpa using hw),ab hw];exact ⟨s,m,q,rfl,rfl,S⟩
def vw (q:ag):aE:=⟨(q.L.getD 0 dl).Cells.length,(q.L.length:Int),q.L,q.At,q.Auto⟩
theorem xZ {m:Mo} (S:Sd C s x f k m q):dI s (some x)=some (vw q):=by
 obtain ⟨g,W,H,ks,op,F⟩:=S.fd;unfold dI vw;simp only [bI,ak,aU,bsm,S.sc,F.v.p];rw [jc F.v.g,eH F.v.g,zN F.v.g,F.v.l];simp only [bsm];have hl:=F.v.len;have h1:=F.v.g.h1;rw [gdl (show 0 < q.L.length by omega),(F.v.ok _ (ax (show 0 < q.L.length by omega))).2,hl]
theorem zu (s:Sto) (w h:Int):∃s',jp s w h=some (s',some s.screen_Screen.length)∧Sd s' s' s.screen_Screen.length s.feed_Feeder.length s.place_Pen.length ⟨⟨bls (sd w) (sd h),⟨0,0,false⟩,true⟩,[],[]⟩ ⟨bls (sd w) (sd h),⟨0,0,false⟩,true⟩:=by
 obtain ⟨s1,ks,h1,v1⟩:=BD (s:=s) w h;have hks:=v1.g.h1;have hW1:=v1.g.w1;obtain ⟨s2,h2,d2,e2⟩:=Di v1.self ⟨by simp only; omega,by simp only; omega,fun e=>by cases e⟩;unfold jp;rw [h1];simp only [bsm];rw [h2];simp only [bsm];have es:s1.screen_Screen=s.screen_Screen:=xn v1.o;have ef:s1.feed_Feeder=s.feed_Feeder:=pa v1.o;have es2:s2.screen_Screen=s1.screen_Screen:=by rw [e2]; rfl
 rw [es2,es,ef];rw [ef] at d2;refine ⟨_,rfl,⟨?_,Bts.nil,⟨s.grid_Grid.length,sd w,ks.length,ks,none,?_⟩⟩⟩
 ·have:(s2.add_screen_Screen ⟨some s.feed_Feeder.length,some s.place_Pen.length⟩).screen_Screen=s2.screen_Screen++ [⟨some s.feed_Feeder.length,some s.place_Pen.length⟩]:=rfl;rw [this,es2,es];simp
 ·obtain ⟨d,hd,hdv⟩:=d2.d;refine ⟨⟨d2.v.p,⟨d2.v.g.g,d2.v.g.r,d2.v.g.h1,d2.v.g.h2,d2.v.g.w1,d2.v.g.w2⟩,d2.v.nd,d2.v.l,rfl,d2.v.f.rgp ⟨rfl,rfl,rfl⟩ ⟨rfl,rfl,rfl⟩⟩,d2.v.f.rgp ⟨rfl,rfl,rfl⟩ ⟨rfl,rfl,rfl⟩,Fz.self _ _ _ (fun y hy=>?_) (cK hd),rfl,d2.hd,rfl,fun y hy=>by simp at hy,⟨d,hd,hdv⟩,fun _=>rfl,fun e=>by cases e⟩;have hy':s2.feed_Feeder[s.feed_Feeder.length]? = some y:=hy;rw [hd] at hy';cases hy';rfl
def Obs (l:List aM):Prop:=∀o∈l,Bts o.Bytes∧o.Bytes.length≤9223372036854775807
end Go.Proofs.YtclmdpamofdoiaaGreatDoor
namespace Go.Proofs.YtclmdpamofdoiaaGreatDoor
open Go Go.Lt
variable {s C:Sto} {x f k:Nat} {q q':ag} {m m':Mo}
def mr (m:Mo) (l:List aM):Option Mo:=l.foldl (fun a o=>a.bind fun m=>mdo m o) (some m)
theorem EI (m:Mo) {l:List aM} {i:Nat} (h:i < l.length):mr m (l.take (i+1))=(mr m (l.take i)).bind fun m=>mdo m l[i]:=by
 rw [aj h];unfold mr;rw [jH];rfl
def Non (l:List aM) (n:Nat):Prop:=∀j o,j < n→l[j]? = some o→w40 o=0
def Fst (l:List aM) (n j:Nat) (o:aM):Prop:=j < n∧l[j]? = some o∧w40 o≠0∧Non l j
def Fe (l:List aM) (n:Nat) (e:Er):Prop:=(e= .nil∧Non l n)∨∃j o,Fst l n j o∧e= .fault (j:Int) (e40 o)
theorem Non.zero (l:List aM):Non l 0:=fun j o h=>by omega
theorem Non.succ {l:List aM} {i:Nat} (h:Non l i) (hi:i < l.length) (hw:w40 l[i]=0):Non l (i+1):=fun j o hj ho=>by
 by_cases e:j=i
 ·subst e;rw [af hi] at ho;cases ho;exact hw
 ·exact h j o (by omega) ho
theorem Fst.succ {l:List aM} {i j:Nat} {o:aM} (h:Fst l i j o):Fst l (i+1) j o:=⟨I4 h.1,h.2⟩
theorem Fst.new {l:List aM} {i:Nat} (h:Non l i) (hi:i < l.length) (hw:w40 l[i]≠0):Fst l (i+1) i l[i]:=⟨Jd i,af hi,hw,h⟩
theorem E2 (o:aM):(e40 o).isNil=(w40 o==0):=by
 unfold e40 w40;split
 ·rfl
 ·exact AV o
theorem zt (S:Sd C s x f k m q) (l:List aM) (hl:l.length≤9223372036854775807) (hb:Obs l):
  ∃s' e m' q',dw s (some x) l=some (s',e)∧mr m l=some m'∧Sd C s' x f k m' q'∧Fe l l.length e:=by
 suffices h:∃r,dw s (some x) l=some r∧(∃m' q',mr m l=some m'∧Sd C r.1 x f k m' q'∧Fe l l.length r.2) by
  obtain ⟨r,h1,m',q',h2,h3,h4⟩:=h;exact ⟨r.1,r.2,m',q',h1,h2,h3,h4⟩
 unfold dw;refine ga (n:=l.length) (fun i (a:Er×Int×Sto)=>a.2.1=(i:Int)∧∃m' q',mr m (l.take i)=some m'∧Sd C a.2.2 x f k m' q'∧Fe l i a.1)
  (fun (u:Er×Sto)=>∃m' q',mr m l=some m'∧Sd C u.2 x f k m' q'∧Fe l l.length u.1) (fun i a hi hI=>?_) (fun a hI=>?_) ⟨rfl,m,q,rfl,S,.inl ⟨rfl,Non.zero l⟩⟩ (by omega) (fun u hu=>⟨_,rfl,hu⟩)
 ·obtain ⟨e,i',st⟩:=a;obtain ⟨e1,m1,q1,hm,S1,hF⟩:=hI;simp only at e1 S1 hF;subst e1;simp only;rw [ae (dlt hi),ci hi hl];obtain ⟨hb1,hb2⟩:=hb _ (ax hi);obtain ⟨s',m2,q2,a1,a2,a3⟩:=Bk S1 l[i] hb1 hb2;simp only [aW hi,bsm];rw [a1];simp only [bsm,ba,E2];have hm2:mr m (l.take (i+1))=some m2:=by rw [EI m hi,hm]; exact a2
  rcases hF with ⟨rfl,hn⟩ | ⟨j,o,h1,rfl⟩
  ·by_cases hw:w40 l[i]=0
   ·rw [ab (by simp [hw])];exact .inl ⟨_,rfl,rfl,m2,q2,hm2,a3,.inl ⟨rfl,hn.succ hi hw⟩⟩
   ·rw [ae (by simp [hw,Er.isNil])];exact .inl ⟨_,rfl,rfl,m2,q2,hm2,a3,.inr ⟨i,l[i],Fst.new hn hi hw,rfl⟩⟩
  ·rw [ab (by simp [Er.isNil])];exact .inl ⟨_,rfl,rfl,m2,q2,hm2,a3,.inr ⟨j,o,h1.succ,rfl⟩⟩
 ·obtain ⟨e,i',st⟩:=a;obtain ⟨e1,m1,q1,hm,S1,hF⟩:=hI;simp only at e1 S1 hF;subst e1;refine ⟨_,by simp only; rw [ab (by simp)],m1,q1,?_,S1,hF⟩;rw [←hm,bU]
end Go.Proofs.YtclmdpamofdoiaaGreatDoor
namespace Go.Proofs.YtclmdpamofdoiaaGreatDoor
open Go Go.Lt
structure Fl (L:List ah) (W n:Nat):Prop where
 len:L.length=n
 wd:∀l∈L,l.Cells.length=W
 w1:1≤W
 w2:W≤1024
 n1:1≤n
 n2:n≤1024
variable {L:List ah} {W n:Nat}
theorem Fl.wide (h:Fl L W n) (c:ai) (a:Bool):cU ⟨L,c,a⟩=some (W:Int):=by
 have h1:=h.len;have h2:=h.n1;unfold cU;rw [show (0:Int)=((0:Nat):Int) from rfl,aW (show 0 < L.length by omega),bsm,h.wd _ (ax _)]
theorem Fl.hold (h:Fl L W n) (c:ai) (a:Bool):bZ ⟨L,c,a⟩=some ⟨L,hc c W n,a⟩:=by
 unfold bZ;rw [h.wide,bsm];simp only;rw [h.len,sm c h.w1 h.w2 h.n1 h.n2,bsm]
theorem FH {c:ai} (h1:1≤n):∃i:Nat,(hc c W n).Row=(i:Int)∧i < n:=by
 refine ⟨(max 0 (min c.Row ((n:Int) - 1))).toNat,?_,by omega⟩;simp only [hc];omega
theorem FJ {r k:Nat} (hr:r < n) (hk:k < W):hc ⟨(r:Int),(k:Int),false⟩ W n=⟨(r:Int),(k:Int),false⟩:=
 FI ⟨by simp only; omega,by simp only; omega,fun e=>by cases e⟩
theorem E7 (h:Fl L W n) (c:ai) (a:Bool) {r k:Nat} (hr:r < n) (hk:k < W):eD ⟨L,c,a⟩ ⟨2,(r:Int),(k:Int),[]⟩=some ⟨L,⟨(r:Int),(k:Int),false⟩,a⟩:=by
 obtain ⟨i,e,hi⟩:=FH (c:=c) (W:=W) h.n1;have hl:=h.len;have hh:fS ⟨(r:Int),(k:Int),false⟩ (W:Int) (L.length:Int)=some ⟨(r:Int),(k:Int),false⟩:=by
  rw [hl,sm _ h.w1 h.w2 h.n1 h.n2,FJ hr hk]
 unfold eD;rw [h.hold,bsm];simp only;rw [e,aW (show i < L.length by omega),bsm,ae (by rfl),h.wide,bsm,hh,bsm,bsm,ab (by simp),bsm]
theorem E8 (h:Fl L W n) (c:ai) (a:Bool) (x:Int):∃c',eD ⟨L,c,a⟩ ⟨12,x,0,[]⟩=some ⟨L,c',x != 0⟩:=by
 obtain ⟨i,e,hi⟩:=FH (c:=c) (W:=W) h.n1;have hl:=h.len;unfold eD;rw [h.hold,bsm];simp only;rw [e,aW (show i < L.length by omega),bsm];exact ⟨_,rfl⟩
theorem EB (h:Fl L W n) {i k d:Nat} (hi:i < n) (hd:d=1∨d=2) (hk:k+d≤W) {t:List Int} (ht:t.length≤16) (hv:t.all vld=true) (hw:∀q:i < L.length,L[i].Wrap=false) (q:i < L.length):
  ∃c' z,aT ⟨L,⟨(i:Int),(k:Int),false⟩,false⟩ (d:Int) t=some (⟨L.set i ⟨pl L[i].Cells k (dm (d:Int) t),false⟩,c',false⟩,z):=by
 have hl:=h.len;have w1:=h.w1;have w2:=h.w2;have hc2:cl2 (d:Int) t W=(d,t):=by
  unfold cl2;rw [ab (by omega)]
  congr 1
  omega
 have hfx:fx t=t:=by
  unfold fx;rw [aH ht]
  conv=>rhs; rw [←List.map_id t]
  apply cX;intro x hx;unfold gj;rw [ae (List.all_eq_true.1 hv x hx)];rfl
 unfold aT;rw [h.hold,bsm,FJ hi (by omega),h.wide,bsm,zU,bsm,hc2,ab (by simp),bsm];simp only;have hq:(bD (((d:Nat):Int)==2) (some ((k:Int)==w64 ((W:Int) - 1))))=some false:=by
  rw [ba,aJ (by omega)]
  congr 1
  rw [ly];by_cases e:d=2
  ·right; simp; omega
  ·left; simp; omega
 rw [hq,bsm,ab (by simp),bsm,zD _ _ (by omega),hfx,bsm];simp only;have hpaint:bW ⟨L,⟨(i:Int),(k:Int),false⟩,false⟩ (i:Int) (k:Int) (dm (d:Int) t)=some ⟨L.set i ⟨pl L[i].Cells k (dm (d:Int) t),false⟩,⟨(i:Int),(k:Int),false⟩,false⟩:=by
  unfold bW;rw [aW q,bsm,bsm,qM _ _ _ _ (by rw [h.wd _ (ax q)]; omega) (by omega) (by rw [nc d hd]; omega),bsm];unfold cq;have h2:=h.n2;rw [ma _ _ (by simp; omega),bN,bsm,aW q,bsm,jV q,bsm,bsm];simp only [hw q,pw,gY]
 rw [hpaint,bsm];simp only;rw [tv _ hd w1 w2 (by simp only; omega),bsm];exact ⟨_,_,rfl⟩
def dr (l:List aa) (k:Nat):List aa:=(List.range l.length).map fun j=>if j < k∨(j=k∧kd l j=3) then l.getD j bl else bl
theorem mW (l:List aa) (k:Nat):(dr l k).length=l.length:=by simp [dr]
theorem sG {l:List aa} {k j:Nat} (h:j < l.length):(dr l k)[j]? = some (if j < k∨(j=k∧kd l j=3) then l.getD j bl else bl):=by simp [dr,h]
theorem FG {l:List aa} {k j:Nat}:kd (dr l k) j=if j < k∨(j=k∧kd l j=3) then kd l j else 0:=by
 rcases aG j l.length with h | h
 ·have e:(dr l k).getD j bl=if j < k∨(j=k∧kd l j=3) then l.getD j bl else bl:=by simp [List.getD,sG h]
  rw [←lH (dr l k),e];split
  ·exact lH l j
  ·rfl
 ·rw [kK (by rw [mW]; exact h),kK h];split <;> rfl
theorem GN {l:List aa}:dr l l.length=l:=by
 apply be;intro j;rcases aG j l.length with h | h
 ·rw [sG h,ae (.inl h)];simp [List.getD,af h]
 ·rw [aA (by rw [mW]; exact h),aA h]
theorem AW {l:List aa} (hs:Snd l):dr l 0=List.replicate l.length bl:=by
 apply be;intro j;rcases aG j l.length with h | h
 ·rw [sG h,ab,iD,ae h];rintro (q | ⟨rfl,q⟩)
  ·omega
  ·have:=(hs.three q).1; omega
 ·rw [aA (by rw [mW]; exact h),aA (by simpa using h)]
theorem E6 {l:List aa} (hs:Snd l) {k:Nat} (hk:k < l.length) (ht:l[k].Text.length=0):dr l (k+1)=dr l k:=by
 have hr:=(hs k hk).1;have hK:l[k].Kind=0∨l[k].Kind=3:=by
  rcases mC hr with ⟨a,_⟩ | ⟨a,_⟩ | ⟨_,a,_⟩
  ·exact .inl a
  ·exact .inr a
  ·omega
 have hTx:l[k].Text= []:=ck ht;apply be;intro j;rcases aG j l.length with h | h
 ·rw [sG h,sG h]
  congr 1
  by_cases e1:j < k
  ·rw [ae (.inl (by omega)),ae (.inl e1)]
  ·by_cases e2:j=k
   ·subst e2;rw [ae (.inl (by omega))];split
    ·rfl
    ·rename_i hn
     have:l[j].Kind=0:=by
      rcases hK with a | a
      ·exact a
      ·exact absurd (.inr ⟨rfl,by rw [iU h]; exact a⟩) hn
     simp only [List.getD,af h,Jb];have e:l[j]=⟨l[j].Kind,l[j].Text⟩:=rfl;rw [e,this,hTx];rfl
   ·rw [ab (show ¬(j < k∨(j=k∧kd l j=3)) by omega),ab];rintro (q | ⟨rfl,q⟩)
    ·omega
    ·have:=(hs.three q).2;rw [show k+1 - 1=k by omega,iU hk] at this;omega
 ·rw [aA (by rw [mW]; exact h),aA (by rw [mW]; exact h)]
theorem Do {l:List aa} (hs:Snd l) {k:Nat} (hk:k < l.length) (ht:1≤l[k].Text.length):pl (dr l k) k (dm l[k].Kind l[k].Text)=dr l (k+1)∧(l[k].Kind=1∨(l[k].Kind=2∧k+2≤l.length)):=by
 have hr:=(hs k hk).1;have hne:l[k].Text≠ []:=by intro e; rw [e] at ht; simp at ht
 have hK:l[k].Kind=1∨l[k].Kind=2:=by
  rcases mC hr with ⟨_,a⟩ | ⟨_,a⟩ | ⟨a,_⟩
  ·exact absurd a hne
  ·exact absurd a hne
  ·exact a
 have n3:kd l k≠3:=by rw [iU hk]; omega
 have np:∀j,j+1=k→kd l j≠2:=fun j e q=>n3 (by have:=hs.two q; rw [e] at this; exact this);have nn:kd l (k+1)=3→l[k].Kind=2:=fun q=>by
  have:=(hs.three q).2;rw [show k+1 - 1=k by omega,iU hk] at this;exact this
 have gD:∀{m:List aa} {j:Nat} (h:j < m.length),m.getD j bl=m[j]:=fun h=>by simp [List.getD,af h]
 have hgk:l.getD k bl=⟨l[k].Kind,l[k].Text⟩:=gD hk;rcases hK with h1 | h2
 ·refine ⟨?_,.inl h1⟩;have hst:dm l[k].Kind l[k].Text= [⟨1,l[k].Text⟩]:=by rw [h1]; unfold dm; rw [ab hne,ab (by decide)]
  rw [hst];apply be;intro j;rcases aG j l.length with h | h
  ·rw [qm (by rw [mW]; exact h),sG h]
   congr 1
   unfold pc;simp only [aI,bd];by_cases e:j=k
   ·subst e;rw [ae (by omega),ae (.inl (by omega)),hgk,h1];simp
   ·rw [ab (by omega),ab]
    ·have:(dr l k).getD j bl=if j < k∨(j=k∧kd l j=3) then l.getD j bl else bl:=by simp [List.getD,sG h]
     rw [this];by_cases e2:j < k
     ·rw [ae (.inl e2),ae (.inl (by omega))]
     ·rw [ab (by omega),ab];rintro (q | ⟨q,q2⟩)
      ·omega
      ·subst q; have:=nn q2; omega
    ·unfold tch;simp only [aC,aq,an,FG];rintro ((q | ⟨⟨q1,q2⟩,q3⟩) | ⟨⟨q1,q2⟩,q3⟩)
     ·omega
     ·have:=np j (by omega);split at q1
      ·exact this q1
      ·cases q1
     ·rw [ab (by omega)] at q1;cases q1
  ·rw [aA (by rw [iN,mW]; exact h),aA (by rw [mW]; exact h)]
 ·have h3:kd l (k+1)=3:=(hs k hk).2.1 h2;have hk1:k+1 < l.length:=sv (by rw [h3]; decide);refine ⟨?_,.inr ⟨h2,by omega⟩⟩;have hst:dm l[k].Kind l[k].Text= [⟨2,l[k].Text⟩,⟨3,[]⟩]:=by rw [h2]; unfold dm; rw [ab hne,ae (by decide)]
  have hg1:l.getD (k+1) bl=⟨3,[]⟩:=by
   rw [gD hk1];have hk3:l[k+1].Kind=3:=by rw [←iU hk1]; exact h3
   have hx:l[k+1].Text= []:=by
    rcases mC (hs (k+1) hk1).1 with ⟨_,a⟩ | ⟨_,a⟩ | ⟨a,_⟩
    ·exact a
    ·exact a
    ·omega
   have e:l[k+1]=⟨l[k+1].Kind,l[k+1].Text⟩:=rfl;rw [e,hk3,hx]
  rw [hst];apply be;intro j;rcases aG j l.length with h | h
  ·rw [qm (by rw [mW]; exact h),sG h]
   congr 1
   unfold pc;simp only [aI,bd];by_cases e:j=k
   ·subst e;rw [ae (by omega),ae (.inl (by omega)),hgk,h2];simp
   ·by_cases e1:j=k+1
    ·subst e1;rw [ae (by omega),ae (.inr ⟨rfl,h3⟩),hg1];simp
    ·rw [ab (by omega),ab]
     ·have:(dr l k).getD j bl=if j < k∨(j=k∧kd l j=3) then l.getD j bl else bl:=by simp [List.getD,sG h]
      rw [this];by_cases e2:j < k
      ·rw [ae (.inl e2),ae (.inl (by omega))]
      ·rw [ab (by omega),ab (by omega)]
     ·unfold tch;simp only [aC,aq,an,FG];rintro ((q | ⟨⟨q1,q2⟩,q3⟩) | ⟨⟨q1,q2⟩,q3⟩)
      ·omega
      ·have:=np j (by omega);split at q1
       ·exact this q1
       ·cases q1
      ·rw [ab (by omega)] at q1;cases q1
  ·rw [aA (by rw [iN,mW]; exact h),aA (by rw [mW]; exact h)]
end Go.Proofs.YtclmdpamofdoiaaGreatDoor
namespace Go.Proofs.YtclmdpamofdoiaaGreatDoor
open Go Go.Lt
theorem HV {a:Int} (h:ld a=1):eV [] [a]=([a],[]):=by
  simp [eV,fZ,rs0,h]
theorem HU {a b:Int} (h:ld a=2) (hb:slo a≤b∧b≤shi a):eV [] [a,b]=([(a - 192) * 64+(b - 128)],[]):=by
  have e0:fZ [] a=([],[a]):=by simp [fZ,rs0,h]
  have e1:bg [a,b]=2:=by simp only [bg]; rw [ae ⟨by omega,hb⟩,h]
  have e2:fZ [a] b=([(a - 192) * 64+(b - 128)],[]):=by
    unfold fZ;rw [ab (by simp),un,e1,ab (by simp),ae (by decide)];simp [vl,b0,h]
  simp [eV,e0,e2]
theorem HT {a b c:Int} (h:ld a=3) (hb:slo a≤b∧b≤shi a) (hc:128≤c∧c≤191):eV [] [a,b,c]=([((a - 224) * 64+(b - 128)) * 64+(c - 128)],[]):=by
  have e0:fZ [] a=([],[a]):=by simp [fZ,rs0,h]
  have e1:bg [a,b]=3:=by simp only [bg]; rw [ae ⟨by omega,hb⟩,h]
  have e2:fZ [a] b=([],[a,b]):=by
    unfold fZ;rw [ab (by simp),un,e1,ae (by simp)]
  have e3:bg [a,b,c]=3:=by simp only [bg]; rw [ae ⟨by omega,hb.1,hb.2,hc⟩,h]
  have e4:fZ [a,b] c=([((a - 224) * 64+(b - 128)) * 64+(c - 128)],[]):=by
    unfold fZ;rw [ab (by simp),show [a,b]++ [c]= [a,b,c] from rfl,e3,ab (by simp),ae (by decide)];simp [vl,b0,h]
  simp [eV,e0,e2,e4]
theorem HS {a b c d:Int} (h:ld a=4) (hb:slo a≤b∧b≤shi a) (hc:128≤c∧c≤191) (hd:128≤d∧d≤191):eV [] [a,b,c,d]=([(((a - 240) * 64+(b - 128)) * 64+(c - 128)) * 64+(d - 128)],[]):=by
  have e0:fZ [] a=([],[a]):=by simp [fZ,rs0,h]
  have e1:bg [a,b]=4:=by simp only [bg]; rw [ae ⟨by omega,hb⟩,h]
  have e2:fZ [a] b=([],[a,b]):=by
    unfold fZ;rw [ab (by simp),un,e1,ae (by simp)]
  have e3:bg [a,b,c]=4:=by simp only [bg]; rw [ae ⟨by omega,hb.1,hb.2,hc⟩,h]
  have e4:fZ [a,b] c=([],[a,b,c]):=by
    unfold fZ;rw [ab (by simp),show [a,b]++ [c]= [a,b,c] from rfl,e3,ae (by simp)]
  have e5:bg [a,b,c,d]=4:=by simp only [bg]; rw [ae ⟨h,hb.1,hb.2,hc.1,hc.2,hd⟩]
  have e6:fZ [a,b,c] d=([(((a - 240) * 64+(b - 128)) * 64+(c - 128)) * 64+(d - 128)],[]):=by
    unfold fZ;rw [ab (by simp),show [a,b,c]++ [d]= [a,b,c,d] from rfl,e5,ab (by simp),ae (by decide)];simp [vl,b0,h]
  simp [eV,e0,e2,e4,e6]
theorem Dj {r:Int} (h:vld r=true):eV [] (frm r)=([r],[]):=by
  obtain ⟨h0,h1⟩:=wW h;have hs:r < 55296∨57343 < r:=by
    unfold vld at h;simp only [aq,aC,an] at h;exact h.2
  unfold frm;split
  · rename_i q
    rw [HV (by unfold ld; rw [ae q])]
  · split
    · rename_i q1 q2
      rw [HU (by unfold ld; rw [ab (by omega),ae (by omega)]) (by unfold slo shi; rw [ab (by omega),ab (by omega),ab (by omega),ab (by omega)]; omega)]
      congr 2
      omega
    · split
      · rename_i q1 q2 q3
        rw [HT (by unfold ld; rw [ab (by omega),ab (by omega),ae (by omega)]) (by unfold slo shi; (repeat' split) <;> omega) (by omega)]
        congr 2
        omega
      · rename_i q1 q2 q3
        rw [HS (by unfold ld; rw [ab (by omega),ab (by omega),ab (by omega),ae (by omega)]) (by unfold slo shi; (repeat' split) <;> omega) (by omega) (by omega)]
        congr 2
        omega
theorem wP:∀{t:List Int},(∀x∈t,vld x=true)→eV [] (t.flatMap frm)=(t,[])
  | [],_=>rfl
  | r :: t,h=>by
    rw [ry,wC,Dj (h r xM),wP fun x hx=>h x (oU _ hx)];rfl
theorem EV {r:Int} (h:vld r=true):∀x∈frm r,0≤x∧x≤255:=by
  obtain ⟨h0,h1⟩:=wW h;intro x hx;unfold frm at hx;split at hx
  · simp at hx; omega
  · split at hx
    · simp at hx; omega
    · split at hx
      · simp at hx; omega
      · simp at hx; omega
end Go.Proofs.YtclmdpamofdoiaaGreatDoor
namespace Go.Proofs.YtclmdpamofdoiaaGreatDoor
open Go Go.Lt
variable {L:List ah} {W n:Nat} {m:Mo}
theorem EJ (l:List aM):l.foldl (fun a o=>a.bind fun m=>mdo m o) (none:Option Mo)=none:=by
 induction l with
 | nil=>rfl
 | cons a t ih=>exact ih
theorem uT (m:Mo) (a b:List aM):mr m (a++b)=(mr m a).bind fun m=>mr m b:=by
 unfold mr;rw [jH]
 cases List.foldl (fun a o=>a.bind fun m=>mdo m o) (some m) a with
 | none=>exact EJ b
 | some x=>rfl
theorem qO (m:Mo) (o:aM) (l:List aM):mr m (o :: l)=(mdo m o).bind fun m=>mr m l:=uT m [o] l
theorem zL (m:Mo):mr m []=some m:=rfl
def Dn (m:Mo) (L:List ah) (au:Bool):Prop:=m.h= []∧∃c,lay m.P m.G=some ⟨L,c,au⟩
theorem xw (h:Fl L W n) {au:Bool} (D:Dn m L au) {r k:Nat} (hr:r < n) (hk:k < W):mdo m ⟨2,(r:Int),(k:Int),[]⟩=some ⟨⟨L,⟨(r:Int),(k:Int),false⟩,au⟩,[],[]⟩:=by
 obtain ⟨c,hc⟩:=D.2;unfold mdo;rw [ab (by simp),ab (by simp),ab (by simp),ae (by rfl),hc,bsm,E7 h c au hr hk,D.1];rfl
theorem AY (h:Fl L W n) {au:Bool} (D:Dn m L au) (x:Int):∃m',mdo m ⟨12,x,0,[]⟩=some m'∧Dn m' L (x != 0):=by
 obtain ⟨c,hc⟩:=D.2;obtain ⟨c',e⟩:=E8 h c au x;unfold mdo;rw [ab (by simp),ab (by simp),ab (by simp),ae (by rfl),hc,bsm,e,D.1];exact ⟨_,rfl,rfl,c',rfl⟩
theorem EL {P:ag} {t:List Int} (hc:cls pj pr t= [t]) (hs:sil (t.headD 0)=false) (ht:t.length≤16):lay P t=(aT P (w16 t) t).map (·.1):=by
 unfold lay;rw [hc];show (tD P t).bind (fun b=>some b)=_;unfold tD;rw [ab (by rw [hs]; simp),aH ht]
 cases (aT P (w16 t) t) <;> rfl
set_option maxRecDepth 100000 in
theorem A5:cls pj pr [65533]= [[65533]]∧w16 [65533]=1:=⟨by kernel_rfl,by kernel_rfl⟩
theorem E5 {c:aa} (h:drw c=true) (hr:rgt c=true) (ht:1≤c.Text.length):cls pj pr c.Text= [c.Text]∧sil (c.Text.headD 0)=false∧w16 c.Text=c.Kind∧c.Text.length≤16∧c.Text.all vld=true:=by
 rcases mC hr with ⟨_,e⟩ | ⟨_,e⟩ | ⟨hK,_,h2,h3⟩
 ·rw [e] at ht; simp at ht
 ·rw [e] at ht; simp at ht
 have n0:(c.Kind==0)=false:=by simp; omega
 have n3:(c.Kind==3)=false:=by simp; omega
 unfold drw at h;rw [n0,n3,di,di] at h;rcases aC _ _▸ h with q | q
 ·simp only [aq,aS,an] at q;obtain ⟨q1,q2⟩:=q;rw [q2,q1];exact ⟨A5.1,rfl,A5.2,by simp,rfl⟩
 ·simp only [aq,cw,aS] at q;obtain ⟨q1,q2,q3⟩:=q;have hone:cls pj pr c.Text= [c.Text]:=by
   obtain ⟨f,_,_⟩:=oN (pj:=pj) (pr:=pr) c.Text
   match hcl:cls pj pr c.Text,q2 with
   | [x],_=>
    rw [hcl] at f;simp at f;rw [f]
  refine ⟨hone,?_,?_,h2,h3⟩
  ·match hx:c.Text,ht with
   | a :: t,_=>
    rw [hx] at q1;simp only [List.any_cons,jI] at q1;exact q1.1
  ·unfold w16;rw [aH h2];exact q3
theorem GO (h:Fl L W n) (D:Dn m L false) {l:List aa} (hs:Snd l) (hl:l.length=W) {i k:Nat} (hi:i < n) (q:i < L.length) (hL:L[i]=⟨dr l k,false⟩) (hk:k < l.length) (hd:drw l[k]=true):
  ∃m',mr m (cop (i:Int) (k:Int) l[k])=some m'∧Dn m' (L.set i ⟨dr l (k+1),false⟩) false:=by
 unfold cop;by_cases ht:l[k].Text.length=0
 ·rw [ae ht,E6 hs hk ht,←hL,uq];exact ⟨m,rfl,D⟩
 ·rw [ab ht];obtain ⟨o1,o2,o3,o4,o5⟩:=E5 hd (hs k hk).1 (by omega);obtain ⟨p1,p2⟩:=Do hs hk (by omega);rw [qO,xw h D hi (by omega),bsm,qO];have hf:mdo ⟨⟨L,⟨(i:Int),(k:Int),false⟩,false⟩,[],[]⟩ ⟨0,0,0,l[k].Text.flatMap frm⟩=some ⟨⟨L,⟨(i:Int),(k:Int),false⟩,false⟩,l[k].Text,[]⟩:=by
   unfold mdo;rw [ae rfl];simp only [wP (fun x hx=>List.all_eq_true.1 o5 x hx),bN]
  rw [hf,bsm,zL];refine ⟨_,rfl,rfl,?_⟩;obtain ⟨d,e,hdd,hdk⟩:∃d:Nat,l[k].Kind=(d:Int)∧(d=1∨d=2)∧k+d≤W:=by
   rcases p2 with a | ⟨a,b⟩
   ·exact ⟨1,a,.inl rfl,by omega⟩
   ·exact ⟨2,a,.inr rfl,by omega⟩
  obtain ⟨c',z,hp⟩:=EB h hi hdd hdk o4 o5 (fun _=>by rw [hL]) q;simp only;rw [EL o1 o2 o4,o3,e,hp];refine ⟨c',?_⟩;rw [hL];simp only;rw [←e,p1];rfl
def DL (ls:List ah) (W i k:Nat):List ah:=(List.range ls.length).map fun j=>⟨if j < i then (ls.getD j dl).Cells else if j=i then dr (ls.getD j dl).Cells k else List.replicate W bl,false⟩
variable {ls:List ah}
theorem om (i k:Nat):(DL ls W i k).length=ls.length:=by simp [DL]
theorem td {i k j:Nat} (h:j < ls.length):(DL ls W i k)[j]? = some ⟨if j < i then (ls.getD j dl).Cells else if j=i then dr (ls.getD j dl).Cells k else List.replicate W bl,false⟩:=by simp [DL,h]
theorem pg {j:Nat} (h:j < ls.length):ls.getD j dl=ls[j]:=by simp [List.getD,af h]
structure Lns (ls:List ah) (W:Nat):Prop where
 ok:∀l∈ls,l.Cells.length=W∧Snd l.Cells∧∀c∈l.Cells,drw c=true
 w1:1≤W
 w2:W≤1024
 n1:1≤ls.length
 n2:ls.length≤1024
theorem Lns.fl (h:Lns ls W) (i k:Nat):Fl (DL ls W i k) W ls.length:=by
 refine ⟨om i k,fun l hl=>?_,h.w1,h.w2,h.n1,h.n2⟩;obtain ⟨j,hj,rfl⟩:=List.mem_iff_getElem.1 hl;have hj':j < ls.length:=by rw [om] at hj; exact hj
 have e:=td (W:=W) (i:=i) (k:=k) hj';rw [af hj] at e;rw [bi e];have hw:=(h.ok _ (ax hj')).1;simp only [pg hj'];split
 ·exact hw
 ·split
  ·rw [mW]; exact hw
  ·simp
theorem G8 {i k:Nat} (hi:i < ls.length):(DL ls W i k).set i ⟨dr ls[i].Cells (k+1),false⟩=DL ls W i (k+1):=by
 apply be;intro j;by_cases e:i=j
 ·subst e;rw [bh (by rw [om]; exact hi),td hi,pg hi,ab (by omega),ae rfl]
 ·rw [aQ e];rcases aG j ls.length with hj | hj
  ·rw [td hj,td hj,ab (show ¬j=i by omega),ab (show ¬j=i by omega)]
  ·rw [aA (by rw [om]; exact hj),aA (by rw [om]; exact hj)]
theorem Fu (h:Lns ls W) {i:Nat} (hi:i < ls.length):DL ls W i ls[i].Cells.length=DL ls W (i+1) 0:=by
 apply be;intro j;rcases aG j ls.length with hj | hj
 ·rw [td hj,td hj]
  congr 2
  by_cases e1:j < i
  ·rw [ae e1,ae (by omega)]
  ·by_cases e2:j=i
   ·subst e2;rw [ab (by omega),ae rfl,ae (by omega),pg hj,GN]
   ·rw [ab e1,ab e2,ab (by omega)];split
    ·obtain ⟨a,b,_⟩:=h.ok _ (ax hj);rw [pg hj,AW b,a]
    ·rfl
 ·rw [aA (by rw [om]; exact hj),aA (by rw [om]; exact hj)]
theorem Ft (h:Lns ls W):DL ls W 0 0=bls W ls.length:=by
 apply be;intro j;rcases aG j ls.length with hj | hj
 ·obtain ⟨a,b,_⟩:=h.ok _ (ax hj);unfold bls;rw [td hj,iD,ae hj,ab (by omega)]
  congr 2
  split
  ·rw [pg hj,AW b,a]
  ·rfl
 ·rw [aA (by rw [om]; exact hj),aA (by simpa [bls] using hj)]
theorem G9:DL ls W ls.length 0=ls.map fun l=>⟨l.Cells,false⟩:=by
 apply be;intro j;rcases aG j ls.length with hj | hj
 ·rw [td hj,ae hj,pg hj];simp [af hj]
 ·rw [aA (by rw [om]; exact hj),aA (by simpa using hj)]
theorem AX (h:Lns ls W) {i:Nat} (hi:i < ls.length) (D:Dn m (DL ls W i 0) false):∀k,k≤ls[i].Cells.length→∃m',mr m (lop (i:Int) ls[i].Cells k)=some m'∧Dn m' (DL ls W i k) false
 | 0,_=>⟨m,rfl,D⟩
 | k+1,hk=>by
  obtain ⟨m1,h1,D1⟩:=AX h hi D k (by omega);obtain ⟨a,b,c⟩:=h.ok _ (ax hi);have hq:i < (DL ls W i k).length:=by rw [om]; exact hi
  have hL:(DL ls W i k)[i]=⟨dr ls[i].Cells k,false⟩:=by
   have e:=td (W:=W) (i:=i) (k:=k) hi;rw [af hq] at e;rw [bi e,ab (by omega),ae rfl,pg hi]
  obtain ⟨m2,h2,D2⟩:=GO (h.fl i k) D1 b a hi hq hL (show k < ls[i].Cells.length by omega) (c _ (ax _));rw [G8 hi] at D2;refine ⟨m2,?_,D2⟩;rw [uU _ (show k < ls[i].Cells.length by omega),uT,h1,bsm,h2]
theorem yL (h:Lns ls W) (D:Dn m (DL ls W 0 0) false):∀i,i≤ls.length→∃m',mr m (tB ls i)=some m'∧Dn m' (DL ls W i 0) false
 | 0,_=>⟨m,rfl,D⟩
 | i+1,hi=>by
  obtain ⟨m1,h1,D1⟩:=yL h D i (by omega);obtain ⟨m2,h2,D2⟩:=AX h (show i < ls.length by omega) D1 _ (ay _);rw [Fu h (show i < ls.length by omega)] at D2;refine ⟨m2,?_,D2⟩;rw [tA (show i < ls.length by omega),uT,h1,bsm,h2]
theorem HY {v:aE} {r k:Nat} (h:Lns v.Lines W) (hr:v.At.Row=(r:Int)) (hk:v.At.Col=(k:Int)) (hr2:r < v.Lines.length) (hk2:k < W):
  mr ⟨⟨bls W v.Lines.length,⟨0,0,false⟩,true⟩,[],[]⟩ (nq v)=some ⟨⟨v.Lines.map fun l=>⟨l.Cells,false⟩,⟨v.At.Row,v.At.Col,false⟩,v.Auto⟩,[],[]⟩:=by
 have D0:Dn ⟨⟨bls W v.Lines.length,⟨0,0,false⟩,true⟩,[],[]⟩ (DL v.Lines W 0 0) true:=⟨rfl,⟨0,0,false⟩,by rw [Ft h]; rfl⟩;obtain ⟨m1,h1,D1⟩:=AY (h.fl 0 0) D0 0;obtain ⟨m2,h2,D2⟩:=yL h D1 _ (ay _);have hF:=h.fl v.Lines.length 0;rw [G9] at D2 hF;unfold nq;rw [uT,uT,qO,h1,bsm,h2,bsm]
 cases v.Auto with
 | false=>
  rw [ab (by simp),zL,bsm,qO,hr,hk,xw hF D2 hr2 hk2];rfl
 | true=>
  obtain ⟨m3,h3,D3⟩:=AY hF D2 1;rw [ae rfl,qO,h3,bsm,zL,bsm,qO,hr,hk,xw hF D3 hr2 hk2];rfl
end Go.Proofs.YtclmdpamofdoiaaGreatDoor
namespace Go.Proofs.YtclmdpamofdoiaaGreatDoor
open Go Go.Lt
theorem VwR.bare {v:aE} (h:VwR v):VwR (bare v):=by
 refine ⟨by simpa [Go.Proofs.YtclmdpamofdoiaaGreatDoor.bare] using h.1,fun l hl=>?_⟩;obtain ⟨x,hx,rfl⟩:=List.mem_map.1 hl;exact h.2 x hx
def Dop (o:aM):Prop:=w40 o=0∧Bts o.Bytes∧o.Bytes.length≤9223372036854775807
theorem qR (k a b:Int) (h:k=2∨k=12):Dop ⟨k,a,b,[]⟩:=by
 refine ⟨?_,fun x hx=>(by cases hx),by simp⟩;unfold w40 w38;simp only;rw [ab (by omega),ab (by omega),ab (by omega)]
theorem Dp {t:List Int} (h1:t.length≤16) (h2:t.all vld=true):Dop ⟨0,0,0,t.flatMap frm⟩:=by
 refine ⟨by unfold w40; rw [ae (.inl rfl)],fun x hx=>?_,?_⟩
 ·obtain ⟨r,hr,hx⟩:=List.mem_flatMap.1 hx;have:=EV (List.all_eq_true.1 h2 r hr) x hx;exact this
 ·have:=yH t;simp only;omega
theorem Fc {r k:Int} {c:aa} (h:rgt c=true):∀o∈cop r k c,Dop o:=fun o ho=>by
 unfold cop at ho;split at ho
 ·cases ho
 ·rename_i q
  rcases mC h with ⟨_,e⟩ | ⟨_,e⟩ | ⟨_,_,h2,h3⟩
  ·exact absurd (by rw [e]; rfl) q
  ·exact absurd (by rw [e]; rfl) q
  ·rcases List.mem_cons.1 ho with e | ho
   ·subst e; exact qR _ _ _ (.inl rfl)
   ·rw [List.mem_singleton.1 ho];exact Dp h2 h3
theorem CZ {ls:List ah} (h:∀l∈ls,Snd l.Cells) (n:Nat):∀o∈tB ls n,Dop o:=fun o ho=>by
 unfold tB at ho;obtain ⟨i,_,ho⟩:=List.mem_flatMap.1 ho;split at ho
 ·rename_i l hl
  have hm:=vM hl;unfold lop at ho;obtain ⟨j,_,ho⟩:=List.mem_flatMap.1 ho;split at ho
  ·rename_i c hc
   exact Fc (ut (h l hm) c (vM hc)) o ho
  ·cases ho
 ·cases ho
theorem EH {v:aE} (h:∀l∈v.Lines,Snd l.Cells):∀o∈nq v,Dop o:=fun o ho=>by
 unfold nq at ho;rcases List.mem_append.1 ho with ho | ho
 ·rcases List.mem_append.1 ho with ho | ho
  ·rcases List.mem_cons.1 ho with e | ho
   ·subst e; exact qR _ _ _ (.inr rfl)
   ·exact CZ h _ o ho
  ·split at ho
   ·rw [List.mem_singleton.1 ho]; exact qR _ _ _ (.inr rfl)
   ·cases ho
 ·rw [List.mem_singleton.1 ho]; exact qR _ _ _ (.inl rfl)
theorem wA {v:aE} (P:tQ v) (hL:v.Lines.length≤100) (hc:∀l∈v.Lines,l.Cells.length≤400) (s:Sto):
  ∃s1 x s2,jp s v.Wide v.High=some (s1,x)∧dw s1 x (nq v)=some (s2,Er.nil)∧dI s2 x=some (bare v):=by
 have Q:=P.1;obtain ⟨W,hW⟩:∃W:Nat,v.Wide=(W:Int):=⟨v.Wide.toNat,by have:=Q.w1; omega⟩;obtain ⟨r,hr⟩:∃r:Nat,v.At.Row=(r:Int):=⟨v.At.Row.toNat,by have:=Q.cur.1.1; omega⟩;obtain ⟨k,hk⟩:∃k:Nat,v.At.Col=(k:Int):=⟨v.At.Col.toNat,by have:=Q.cur.2.1.1; omega⟩;have w1:=Q.w1; have w2:=Q.w2; have h1:=Q.h1; have h2:=Q.h2; have hh:=Q.high;have c1:=Q.cur.1.2; have c2:=Q.cur.2.1.2;have ln:Lns v.Lines W:=⟨fun l hl=>⟨by have:=(Q.lines l hl).1; omega,(Q.lines l hl).2,P.2 l hl⟩,by omega,by omega,by omega,by omega⟩;obtain ⟨s1,n1,S1⟩:=zu s v.Wide v.High;have e1:sd v.Wide=W:=by rw [hW]; exact ww (by omega) (by omega)
 have e2:sd v.High=v.Lines.length:=by rw [hh]; exact ww (by omega) (by omega)
 rw [e1,e2] at S1;have hd:=EH (v:=v) fun l hl=>(Q.lines l hl).2;have hlen:=xo (v:=v);have hcn:=ph v.Lines hc v.Lines.length (ay _);obtain ⟨s2,e,m',q',r1,r2,S2,F⟩:=zt S1 (nq v) (by omega) fun o ho=>⟨(hd o ho).2.1,(hd o ho).2.2⟩;rw [HY ln hr hk (by omega) (by omega)] at r2;obtain rfl:=bi r2;have he:e=Er.nil:=by
  rcases F with ⟨q,_⟩ | ⟨j,o,q,_⟩
  ·exact q
  ·exact absurd ((hd o (vM q.2.1)).1) q.2.2.1
 subst he;have hq:q'=⟨v.Lines.map fun l=>⟨l.Cells,false⟩,⟨v.At.Row,v.At.Col,false⟩,v.Auto⟩:=by
  obtain ⟨g,W',H,ks,op,Fd'⟩:=S2.fd;have:=Fd'.l;exact (bi this).symm
 have hv:=xZ S2;refine ⟨s1,_,s2,n1,r1,?_⟩;rw [hv,hq]
 congr 1
 unfold vw bare;have h0:0 < v.Lines.length:=by omega
 have hw:=(ln.ok _ (ax h0)).1;simp only [cM];rw [←hh]
 congr 1
 rw [hW];simp [List.getD,af h0,hw]
theorem tq (v:aE) (h:VwR v):∃st,dD ⟨[],[],[],[],[],[]⟩ v=some (st,true):=by
 obtain ⟨g,g1,g2⟩:=AN v h;unfold dD;rw [Ai,bsm,cm,cW,g1,bsm,bsm]
 cases g with
 | true=>
  rw [ae rfl,bsm];exact ⟨_,rfl⟩
 | false=>
  rw [ab (by simp)];obtain ⟨hL,hN⟩:=g2 rfl;have hc:∀l∈v.Lines,l.Cells.length≤400:=fun l hl=>by have:=wT hl; omega
  obtain ⟨b,b1,b2⟩:=zV v hL hc;obtain ⟨d,d1,d2⟩:=wF v hL hc;have hb1:=Fo v (by omega) fun l hl=>⟨by have:=hc l hl; omega,(h.2 l hl).2⟩;have hb2:=zE v (by omega);have hsm:=El h.bare;by_cases P:tQ v
  ·obtain rfl:=b2.2 P;obtain rfl:=d2.2 P;rw [zJ P hL hc,bsm,b1,bsm,d1,bsm,bsm];simp only [kr,cm,cW,bsm,hb1,hb2,hsm];rw [ab (by simp),ab (by simp)];obtain ⟨s1,x,s2,r1,r2,r3⟩:=wA P hL hc ⟨[],[],[],[],[],[]⟩;rw [r1,bsm];simp only;rw [r2,bsm];simp only [Er.isNil,gH,r3,bsm,hsm];rw [zT v hL hc];have hlen:=xo (v:=v);have hcn:=ph v.Lines hc v.Lines.length (ay _);simp only [bsm];rw [aJ (n:=2 * (sK v.Lines v.Lines.length:Int)) (by omega),aJ (by omega),show decide (((nq v).length:Int)≤3+2 * (sK v.Lines v.Lines.length:Int))=true by simp; omega];exact ⟨_,rfl⟩
  ·have hb:b=false:=by
    cases b with
    | false=>rfl
    | true=>exact absurd (b2.1 rfl) P
   have hd:d=false:=by
    cases d with
    | false=>rfl
    | true=>exact absurd (d2.1 rfl) P
   subst hb;subst hd;rw [Gt P hL hc,bsm,b1,bsm,d1,bsm,bsm];simp only [kr,cm,cW,bsm,hb1,hb2,hsm];rw [ab (by simp),ae (by simp)];exact ⟨_,rfl⟩
theorem tQ.bare {v:aE} (h:tQ v):tQ (bare v):=by
 have Q:=h.1;refine ⟨⟨?_,Q.h1,Q.h2,Q.w1,Q.w2,⟨Q.cur.1,Q.cur.2.1,fun e=>by cases e⟩,fun l hl=>?_⟩,fun l hl=>?_⟩
 ·show v.High=((v.Lines.map _).length:Int);rw [cM];exact Q.high
 ·obtain ⟨x,hx,rfl⟩:=List.mem_map.1 hl;exact Q.lines x hx
 ·obtain ⟨x,hx,rfl⟩:=List.mem_map.1 hl;exact h.2 x hx
theorem BI (ls:List ah) (n:Nat):tB (ls.map fun l=>(⟨l.Cells,false⟩:ah)) n=tB ls n:=by
 unfold tB
 congr 1
 funext i
 rw [bz]
 cases ls[i]? <;> rfl
theorem CR (v:aE):nq (bare v)=nq v:=by
 unfold nq bare;simp only [BI,cM]
theorem Dk (a:ByteArray):eqS a a=true:=by simp [eqS]
theorem tu (v:aE) (h:VwR v):∃st,dE ⟨[],[],[],[],[],[]⟩ v=some (st,true):=by
 obtain ⟨g,g1,g2⟩:=AN v h;unfold dE;rw [Ai,bsm,cm,cW,g1,bsm,bsm]
 cases g with
 | true=>
  rw [sq,bsm,ae rfl,bsm];exact ⟨_,rfl⟩
 | false=>
  obtain ⟨hL,hN⟩:=g2 rfl;have hc:∀l∈v.Lines,l.Cells.length≤400:=fun l hl=>by have:=wT hl; omega
  obtain ⟨d,d1,d2⟩:=wF v hL hc;rw [cW,d1,bsm,bsm]
  cases d with
  | false=>
   rw [ae (by decide),bsm];exact ⟨_,rfl⟩
  | true=>
   have P:=d2.1 rfl;rw [ab (by simp),zJ P hL hc,bsm];obtain ⟨s1,x,s2,r1,r2,r3⟩:=wA P hL hc ⟨[],[],[],[],[],[]⟩;have hL':(bare v).Lines.length≤100:=by simpa [bare] using hL
   have hc':∀l∈(bare v).Lines,l.Cells.length≤400:=fun l hl=>by
    obtain ⟨y,hy,rfl⟩:=List.mem_map.1 hl;exact hc y hy
   rw [r1,bsm];simp only;rw [r2,bsm];simp only;rw [r3,bsm,zJ P.bare hL' hc',bsm,CR];simp only [cm,cW,yZ,bsm];rw [ab (by simp)];have hlen:=xo (v:=v);have hcn:=ph v.Lines hc v.Lines.length (ay _)
   suffices hh:∃r:Sto×Bool,_=some r∧r.2=true by
    obtain ⟨⟨st,b⟩,e1,e2⟩:=hh;simp only at e2;subst e2;exact ⟨st,e1⟩
   refine ga (n:=(nq v).length) (fun i (a:Int)=>a=(i:Int)) (fun t=>t= .inr ()) (fun i a hi e=>?_) (fun a e=>?_) rfl (by omega) (fun t e=>?_)
   ·left
    subst e;refine ⟨_,?_,rfl⟩;simp only [dlt hi,bw,aW hi,bsm,yZ,cW,Dk,cm,ak,aU,ci hi (by omega)]
   ·subst e;exact ⟨_,by rw [ab (by simp)],rfl⟩
   ·subst e;exact ⟨_,rfl,rfl⟩
end Go.Proofs.YtclmdpamofdoiaaGreatDoor
