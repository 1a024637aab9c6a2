/- Parts of the proofs of TopReflows: the walk through the code, and plain Lean. No condition. -/
import Derived.Test.YtidapncdmjppeaaGreatDoorTrD
import Derived.Test.YtidapncdmjppeaaGreatDoorTrE
import Derived.Test.YtidapncdmjppeaaGreatDoorTrB
import Derived.Test.YtidapncdmjppeaaGreatDoorTrC
import Derived.Test.YtidapncdmjppeaaGreatDoorTrA
import Derived.KernelRfl
set_option linter.unusedVariables false
set_option linter.unusedSimpArgs false
namespace Go.Proofs.YtidapncdmjppeaaGreatDoor
open Go Go.Lt
variable {s C:Sto} {g k W:Nat} {ks:List Nat} {q:ae} {l:List aa}
def rzc (l:List aa) (w j:Nat):aa:=if j < l.length∧(j+1 < w∨kd l j≠2) then l.getD j bl else bl
def rz (l:List aa) (w:Nat):List aa:=(List.range w).map (rzc l w)
theorem sH (l:List aa) (w:Nat):(rz l w).length=w:=by simp [rz]
theorem wS {w j:Nat} (h:j < w):(rz l w)[j]? = some (rzc l w j):=by simp [rz,h]
theorem E4 {w j:Nat} (h:j < w):kd (rz l w) j=(rzc l w j).Kind:=by simp [kd,wS h]
theorem wR (l:List aa) (w j:Nat):(rzc l w j).Kind=if j < l.length∧(j+1 < w∨kd l j≠2) then kd l j else 0:=by
 unfold rzc;split
 ·exact mz l j
 ·rfl
theorem Ci (hs:Snd l) (w:Nat):Snd (rz l w):=fun j hj=>by
 have hjw:j < w:=by rw [sH] at hj; exact hj
 have e:(rz l w)[j]=rzc l w j:=by
  have:=wS (l:=l) hjw;rw [ab hj] at this;exact aq this
 rw [e];refine ⟨?_,fun h2=>?_,fun h3=>?_⟩
 ·unfold rzc;split
  ·rename_i h; exact hs.rg h.1
  ·rfl
 ·rw [wR] at h2;split at h2
  ·rename_i h
   have h4:=hs.two h2;have h5:j+1 < l.length:=tH (by rw [h4]; decide);have h6:j+1 < w:=by omega
   rw [E4 h6,wR,af ⟨h5,.inr (by rw [h4]; decide)⟩,h4]
  ·cases h2
 ·rw [wR] at h3;split at h3
  ·rename_i h
   obtain ⟨h4,h5⟩:=hs.three h3;have h6:j - 1 < l.length:=by omega
   refine ⟨h4,?_⟩;rw [E4 (by omega),wR,af ⟨h6,.inl (by omega)⟩,h5]
  ·cases h3
theorem Fx (w:Nat):rz [] w=List.replicate w bl:=by
 refine bZ fun j=>?_;rcases aL j w with h | h
 ·rw [wS h,mx,af h];unfold rzc;rw [ag (by simp)]
 ·rw [aR (by rw [sH]; exact h),aR (by simpa using h)]
theorem EE {n:Nat} (hn:n≤l.length) (hl:l.length≤1024):nU l n=some (if 0 < n∧kd l (n - 1)=2 then (l.take n).set (n - 1) bl else l.take n):=by
 unfold nU;rw [show (0:Int)=((0:Nat):Int) from rfl,sx (db _) hn,mZ,zo];simp only [bsm];by_cases h0:0 < n
 ·have e:w64 ((n:Int) - 1)=((n - 1:Nat):Int):=by rw [aN (by omega)]; omega
  have hlt:n - 1 < (l.take n).length:=by simp; omega
  have hk:(l.take n)[n - 1].Kind=kd l (n - 1):=by rw [List.getElem_take,iP (by omega)]
  rw [show decide ((n:Int) > ((0:Nat):Int))=true by simpa using h0,e,bp hlt];simp only [je,bsm,hk];by_cases h2:kd l (n - 1)=2
  ·rw [af (by simpa using h2),af ⟨h0,h2⟩,ib hlt];rfl
  ·rw [ag (by simpa using h2),ag (fun h=>h2 h.2)];rfl
 ·rw [show decide ((n:Int) > ((0:Nat):Int))=false by simpa using h0,ag (fun h=>h0 h.1)];simp only [fW,bsm,ak,aY]
theorem Gd (hs:Snd l) {w n:Nat} (hn:n=min w l.length) (w1:1≤w) (l1:1≤l.length):(if 0 < n∧kd l (n - 1)=2 then (l.take n).set (n - 1) bl else l.take n)++List.replicate (w - n) bl=rz l w:=by
 have hlen:(if 0 < n∧kd l (n - 1)=2 then (l.take n).set (n - 1) bl else l.take n).length=n:=by split <;> simp <;> omega
 refine bZ fun j=>?_;rcases aL j w with h | h
 ·rw [wS h];rcases aL j n with hj | hj
  ·rw [aB (by omega)];have hjl:j < l.length:=by omega
   have g:l.getD j bl=l[j]:=by rw [av,ab hjl]; rfl
   unfold rzc;split
   ·rename_i h2
    rw [kJ];by_cases e:n - 1=j
    ·subst e;rw [af rfl,af (by simp; omega),ag];rintro ⟨_,h5 | h5⟩
     ·have:=hs.two h2.2;have:=tH (l:=l) (j:=n - 1+1) (by omega);omega
     ·exact h5 h2.2
    ·rw [ag e,aP,af hj,ab hjl,af ⟨hjl,by omega⟩,g]
   ·rename_i h2
    rw [aP,af hj,ab hjl,af,g];refine ⟨hjl,?_⟩;by_cases e:j+1 < w
    ·exact .inl e
    ·right
     intro h3;exact h2 ⟨by omega,by rw [show n - 1=j by omega]; exact h3⟩
  ·rw [aG (by omega),hlen,mx,af (by omega)];unfold rzc;rw [ag (by omega)]
 ·rw [aR (by rw [aj,hlen,er]; omega),aR (by rw [sH]; exact h)]
theorem zO {wr:Bool} (h:s.row_Row[k]? = some ⟨l,wr⟩) (hs:Snd l) (l1:1≤l.length) (l2:l.length≤1024) {w:Nat} (w1:1≤w) (w2:w≤1024):
  iM s (some k) w=some (s.add_row_Row ⟨rz l w,false⟩,some s.row_Row.length):=by
 have e1:aW 1 (aO (w:Int) 1024)=(w:Int):=by rw [dF,fw]; omega
 unfold iM;rw [e1];simp only [bG,ak,aY,qf h (by omega) hs.sht,ig h,bsm];obtain ⟨n,hn⟩:∃n,n=min w l.length:=⟨_,rfl⟩;rw [show aO (w:Int) (l.length:Int)=(n:Int) by rw [dF]; omega,EE (by omega) l2];have hlen:(if 0 < n∧kd l (n - 1)=2 then (l.take n).set (n - 1) bl else l.take n).length=n:=by split <;> simp <;> omega
 have hcr:=Gd hs hn w1 l1;generalize (if 0 < n∧kd l (n - 1)=2 then (l.take n).set (n - 1) bl else l.take n)=c at *;simp only [bsm];rw [hlen,aN (by omega),rd];simp only [bsm];rw [show (max 0 (min ((w:Int) - (n:Int)) 1024)).toNat=w - n by omega,cY (by simp; omega),hcr];simp only [bsm];unfold rR;rw [Fy (by rw [sH]; exact w1) (by rw [sH]; exact w2) (Ci hs w)];rfl
theorem zF (l:List aa) (hl:l.length≤1000000) {w:Nat} (w1:1≤w) (w2:w≤1024):fB l w=some (rz l w):=by
 have e1:aW 1 (aO (w:Int) 1024)=(w:Int):=by rw [dF,fw]; omega
 unfold fB;rw [e1,ox _ (by omega),show (⟨0,[]⟩:aa)=bl from rfl,aZ];simp only [bsm];obtain ⟨t,h3,h4⟩:=dY (σ:=(List aa)×Int) (τ:=(List aa)) (n:=min w l.length) (fuel:=((w:Int) - 0).toNat+1) (s:=(List.replicate w bl,0))
  (fun i q=>q=((List.range w).map (fun j=>if j < i then rzc l w j else bl),(i:Int))) (fun t=>t=rz l w)
  (step:=fun s_14=>
 (bL (decide (s_14.2 < (w:Int))) (some (decide (s_14.2 < (l.length:Int))))).bind fun d_18=>
 if d_18=true then
 ((orE (decide ((w64 (s_14.2+1)) < (w:Int))) ((idx l s_14.2).bind fun x_34=>
 some (x_34.Kind != 2))).bind fun d_30=>
 if d_30=true then
 (idx l s_14.2).bind fun x_43=>
 (idx s_14.1 s_14.2).bind fun x_45=>
 (jp s_14.1 s_14.2 x_43).bind fun w_46=>
 (some (w_46):Option ((List aa)))
 else
 (some (s_14.1):Option ((List aa)))).bind fun z_25=>
 some (.inl (z_25,(w64 (s_14.2+1))))
 else
 some (.inr (s_14.1)))
  (fun i q hi e=>by
   subst e;refine .inl ⟨_,?_,rfl⟩;have e5:w64 ((i:Int)+1)=((i+1:Nat):Int):=by rw [aN (by omega)]; simp
   have hil:i < l.length:=by omega
   have hd:(decide ((i:Int) < (w:Int)) && decide ((i:Int) < (l.length:Int)))=true:=by simp; omega
   have hlt:i < ((List.range w).map (fun j=>if j < i then rzc l w j else bl)).length:=by simp; omega
   have ho:(orE (decide (((i+1:Nat):Int) < (w:Int))) ((idx l (i:Int)).bind fun x_34=>some (x_34.Kind != 2)))=some (decide (i+1 < w∨kd l i≠2)):=by
    rw [bp hil];simp only [bsm,bQ,←iP hil,aM];rw [cG];simp only [aF,an,nH];omega
   simp only [aV,bsm,hd,bF,e5];rw [ho];simp only [bsm];have hnext:∀c:aa,c=rzc l w i→((List.range w).map (fun j=>if j < i then rzc l w j else bl)).set i c=(List.range w).map (fun j=>if j < i+1 then rzc l w j else bl):=fun c hc=>by
    refine bZ fun j=>?_;rw [kJ];by_cases e:i=j
    ·subst e;rw [af rfl,af hlt,bm,dh (by omega),hc];simp
    ·rw [ag e,bm,bm];rcases aL j w with hj | hj
     ·rw [dh hj];simp only [fk,aM];by_cases h5:j < i
      ·rw [af h5,af (by omega)]
      ·rw [ag h5,ag (by omega)]
     ·rw [aR (by simpa using hj)];rfl
   by_cases hc:i+1 < w∨kd l i≠2
   ·rw [af (by simpa using hc),bp hil,bp hlt];simp only [bsm];rw [ib hlt,hnext l[i] (by
     unfold rzc;rw [af ⟨hil,hc⟩,av,ab hil];rfl)]
    rfl
   ·rw [ag (by simpa using hc)];simp only [bsm];have hb:rzc l w i=bl:=by
     unfold rzc;rw [ag (fun h=>hc h.2)]
    have:=hnext bl hb.symm;rw [←this]
    congr 3
    refine (bZ fun j=>?_).symm;rw [kJ];by_cases e:i=j
    ·subst e;rw [af rfl,af hlt,bm,dh (by omega)];simp
    ·rw [ag e])
  (fun q e=>⟨q.1,by
   subst e;have hd:(decide (((min w l.length:Nat):Int) < (w:Int)) && decide (((min w l.length:Nat):Int) < (l.length:Int)))=false:=by
    rw [Bool.eq_false_iff];simp only [CI,aw,an];omega
   simp only [aV,bsm,hd,ak,aY],by
   subst e;simp only;unfold rz;refine ek fun j hj=>?_;rw [List.mem_range] at hj;by_cases h5:j < min w l.length
   ·rw [af h5]
   ·rw [ag h5];unfold rzc;rw [ag (by omega)]⟩)
  (by
   simp only [BZ,aY,jl];refine ⟨?_,rfl⟩;rw [Ic,qN]) (by omega)
 subst h4;rw [h3];rfl
def cs (L:List ah) (n:Nat):List aa:=(L.getD n ⟨[],false⟩).Cells
def rs (L:List ah) (top w h:Nat):List ah:=(List.range h).map fun m=>⟨rz (cs L (top+m)) w,false⟩
def rsi (L:List ah) (top w h i:Nat):List ah:=(List.range h).map fun m=>if m < i then ⟨rz (cs L (top+m)) w,false⟩ else ⟨List.replicate w bl,false⟩
theorem zQ {L:List ah} {n:Nat} (h:L.length≤n):cs L n= []:=by
 unfold cs;rw [av,aR h];rfl
theorem Dg {L:List ah} {n:Nat} (h:n < L.length):cs L n=L[n].Cells:=by
 unfold cs;rw [av,ab h];rfl
theorem Aq (L:List ah) (top w:Nat) {h i:Nat} (hi:i < h):(rsi L top w h i).set i ⟨rz (cs L (top+i)) w,false⟩=rsi L top w h (i+1):=by
 unfold rsi;refine bZ fun j=>?_;rw [kJ,eF,qN];by_cases e:i=j
 ·subst e;rw [af rfl,af hi,bm,dh hi];simp
 ·rw [ag e,bm,bm];rcases aL j h with hj | hj
  ·rw [dh hj];simp only [fk,aM];by_cases h5:j < i
   ·rw [af h5,af (by omega)]
   ·rw [ag h5,ag (by omega)]
  ·rw [aR (by simpa using hj)];rfl
theorem Co (L:List ah) {top w h i:Nat} (ho:L.length≤top+i) (hi:i < h):rsi L top w h (i+1)=rsi L top w h i:=by
 rw [←Aq L top w hi,zQ ho,Fx];refine bZ fun j=>?_;rw [kJ];by_cases e:i=j
 ·subst e;unfold rsi;rw [af rfl,af (by simp; exact hi),bm,dh hi];simp
 ·rw [ag e]
theorem DY (L:List ah) (top w h:Nat):rsi L top w h h=rs L top w h:=by
 unfold rsi rs;refine ek fun m hm=>?_;rw [List.mem_range] at hm;rw [af hm]
theorem Cn (L:List ah) (top w h:Nat):rsi L top w h 0=bls w h:=by
 unfold rsi bls;simp only [BZ,aY];rw [Ic,qN]
theorem FL {xs:List Nat} (nd:xs.Nodup) {x i:Nat} (hx:x∉xs):(xs.set i x).Nodup:=by
 rw [List.Nodup,List.pairwise_iff_getElem] at *;intro a b ha hb hab;rw [cf] at ha hb;rw [HY,HY];split
 ·split
  ·omega
  ·exact fun e=>hx (e▸ aJ hb)
 ·split
  ·exact fun e=>hx (e▸ aJ ha)
  ·exact nd a b ha hb hab
theorem Gw.sgo {g2:Nat} (h:Gw s g ks W) (hne:g2≠g) (x:bR):Gw (s.sg g2 x) g ks W:=
 ⟨by rw [←h.g]; simp [Sto.sg,aU hne],h.r,h.h1,h.h2,h.w1,h.w2⟩
theorem Gw.addg (h:Gw s g ks W) (x:bR):Gw (s.add_grid_Grid x) g ks W:=
 ⟨by rw [←h.g]; simp only [Sto.add_grid_Grid]; exact aB (cD h.g),h.r,h.h1,h.h2,h.w1,h.w2⟩
theorem Rf.more {s':Sto} {g2:Nat} {ks':List Nat} (h:Rf s s' g ks g2 ks') (hg2:s.grid_Grid.length≤g2) (xs:List bc) (x:bR) (i:Nat):Rf s ((s'.addr xs).sg g2 x) g ks g2 (ks'.set i s'.row_Row.length):=by
 have e:((s'.addr xs).sg g2 x).row_Row=s'.row_Row++xs:=rfl;have e2:((s'.addr xs).sg g2 x).grid_Grid=s'.grid_Grid.set g2 x:=rfl;have hr:=h.rl;refine ⟨by rw [e2,cf]; exact h.gl,by rw [e,aj]; omega,fun j a b=>by rw [e2,aU (by omega)]; exact h.gr j a b,fun j a b=>by rw [e,aB (by omega)]; exact h.rw j a b,h.ng,fun r hr=>?_⟩;rcases DL hr with q | rfl
 ·exact h.nr r q
 ·exact .inr h.rl
theorem Rf.begun (xs:List bc) (x:bR) {g2:Nat} (hg2:g2=s.grid_Grid.length) (m:Nat):Rf s ((s.addr xs).add_grid_Grid x) g ks g2 (List.range' s.row_Row.length m):=by
 subst hg2;refine ⟨by simp [Sto.add_grid_Grid,Sto.addr],by simp [Sto.add_grid_Grid,Sto.addr],fun j hj _=>?_,fun j hj _=>?_,.inr (ao _),fun r hr=> .inr (List.mem_range'_1.1 hr).1⟩
 ·simp only [Sto.add_grid_Grid,Sto.addr]; exact aB hj
 ·simp only [Sto.add_grid_Grid,Sto.addr]; exact aB hj
theorem A3 (h:Pv C s k g W q ks) {w hh top:Nat} (w1:1≤w) (w2:w≤1024) (h1:1≤hh) (h2:hh≤1024) (ht:top≤1024) {g2:Nat} (hg2:g2=s.grid_Grid.length):
  ∃s' ks',cO (σ:=Int×Sto) (τ:=Sto) (((hh:Int) - 0).toNat+1) (fun s_54=>
 if (decide (s_54.1 < (hh:Int)))=true then
 ((s_54.2.place_Pen[k]?).bind fun o_64=>
 (bq s_54.2 o_64.G (w64 ((top:Int)+s_54.1))).bind fun x_68=>
 if (!x_68.isNone)=true then
 (iM s_54.2 x_68 (w:Int)).bind fun x_78=>
 (dR x_78.1 (some g2) s_54.1 x_78.2).bind fun x_79=>
 (some (x_79.1):Option (Sto))
 else
 (some (s_54.2):Option (Sto))).bind fun z_57=>
 some (.inl ((w64 (s_54.1+1)),z_57))
 else
 some (.inr (s_54.2))) (0,(s.addr ((bls w hh).map lr)).add_grid_Grid ⟨(List.range' s.row_Row.length hh).map some⟩)=some s'∧
  Gw s' g2 ks' w∧ks'.Nodup∧ks'.map (ln s')=rs q.L top w hh∧s'.rst=s.rst∧Rf s s' g ks g2 ks':=by
 have hb:(bls w hh).length=hh:=by simp [bls]
 have h0:((bls w hh)[0]'(by omega)).Cells.length=w:=by simp [bls]
 obtain ⟨b1,b2⟩:=E6 (s:=s) (L:=bls w hh) (by omega) (by omega) (Du w1 w2 h1);rw [h0,←hg2] at b1;rw [hb] at b1 b2;have hgl:=cD h.g.g;obtain ⟨t,e1,e2⟩:=dY (σ:=Int×Sto) (τ:=Sto) (n:=hh) (fuel:=((hh:Int) - 0).toNat+1) (s:=(0,(s.addr ((bls w hh).map lr)).add_grid_Grid ⟨(List.range' s.row_Row.length hh).map some⟩))
  (fun i q2=>q2.1=(i:Int)∧q2.2.rst=s.rst∧Gw q2.2 g ks W∧ks.map (ln q2.2)=q.L∧∃ks',Gw q2.2 g2 ks' w∧ks'.Nodup∧ks'.length=hh∧ks'.map (ln q2.2)=rsi q.L top w hh i∧Rf s q2.2 g ks g2 ks')
  (fun t=>t.rst=s.rst∧∃ks',Gw t g2 ks' w∧ks'.Nodup∧ks'.map (ln t)=rs q.L top w hh∧Rf s t g ks g2 ks')
  (step:=fun s_54=>
 if (decide (s_54.1 < (hh:Int)))=true then
 ((s_54.2.place_Pen[k]?).bind fun o_64=>
 (bq s_54.2 o_64.G (w64 ((top:Int)+s_54.1))).bind fun x_68=>
 if (!x_68.isNone)=true then
 (iM s_54.2 x_68 (w:Int)).bind fun x_78=>
 (dR x_78.1 (some g2) s_54.1 x_78.2).bind fun x_79=>
 (some (x_79.1):Option (Sto))
 else
 (some (s_54.2):Option (Sto))).bind fun z_57=>
 some (.inl ((w64 (s_54.1+1)),z_57))
 else
 some (.inr (s_54.2)))
  (fun i q2 hi ⟨e,hp,hg,hl,ks',c1,c2,c3,c4,c5⟩=>by
   obtain ⟨j,st⟩:=q2;simp only at e hp hg hl c1 c2 c3 c4 c5;subst e;have e5:w64 ((i:Int)+1)=((i+1:Nat):Int):=by rw [aN (by omega)]; simp
   have e6:w64 ((top:Int)+(i:Int))=((top+i:Nat):Int):=by rw [aN (by omega)]; simp
   have hd:decide ((i:Int) < (hh:Int))=true:=by simp; exact hi
   simp only [hd,bF,jM hp,h.p,bsm,e5,e6];have hlen:=h.len;by_cases ho:top+i < ks.length
   ·rw [eu hg ho];simp only [bsm,bG,iD,bF];obtain ⟨r,r1,r2,r3⟩:=hg.at ho;have hr:=zO (l:=r.cells) (wr:=r.wrap) r1 r2 (by rw [r3]; exact hg.w1) (by rw [r3]; exact hg.w2) w1 w2;rw [hr];simp only [bsm];have ea:st.add_row_Row ⟨rz r.cells w,false⟩=st.addr [⟨rz r.cells w,false⟩]:=by simp [Sto.add_row_Row,Sto.addr]
    rw [ea];have c1':=c1.addr (xs:=[⟨rz r.cells w,false⟩]);have hg':=hg.addr (xs:=[⟨rz r.cells w,false⟩]);have hnew:(st.addr [⟨rz r.cells w,false⟩]).row_Row[st.row_Row.length]? = some ⟨rz r.cells w,false⟩:=by simp [Sto.addr]
    have hrw:Rw (st.addr [⟨rz r.cells w,false⟩]) w st.row_Row.length:=⟨_,hnew,Ci r2 w,sH _ _⟩;rw [yB c1' (show i < ks'.length by omega) hrw];simp only [bsm];have hL:cs q.L (top+i)=r.cells:=by
     rw [Dg (by rw [←hl]; simpa using ho)];have:q.L[top+i]? = (ks.map (ln st))[top+i]? :=by rw [hl]
     rw [ab (by rw [←hl]; simpa using ho),bm,ab ho,fk,mG r1] at this;rw [aq this]
    refine .inl ⟨_,rfl,rfl,hp,hg'.sgo (by omega) _,?_,ks'.set i st.row_Row.length,c1'.set hrw,FL c2 fun hm=>absurd (c1.r _ hm).lt (Nat.lt_irrefl _),by rw [cf]; exact c3,?_,c5.more (by omega) _ _ _⟩
    ·rw [←hl];refine ek fun x hx=>?_;rw [yp];exact uH (hg.r x hx).lt
    ·rw [←Aq _ _ _ hi,←c4,hL,List.map_set,yp,mG hnew]
     congr 1
     refine ek fun x hx=>?_;rw [yp];exact uH (c1.r x hx).lt
   ·rw [rQ hg (.inr (by omega))];simp only [bsm,Option.isNone_none,cW,ak,aY];exact .inl ⟨_,rfl,rfl,hp,hg,hl,ks',c1,c2,c3,by rw [Co _ (by omega) hi]; exact c4,c5⟩)
  (fun q2 ⟨e,hp,_,_,ks',c1,c2,_,c4,c5⟩=>⟨q2.2,by
   have hd:decide (q2.1 < (hh:Int))=false:=by rw [e]; simp
   simp only [hd,ak,aY],hp,ks',c1,c2,by rw [c4,DY],c5⟩)
  ⟨rfl,rfl,(h.g.addr (xs:=(bls w hh).map lr)).addg _,by
   rw [←h.l];refine ek fun x hx=>?_;exact uH (h.g.r x hx).lt,_,b1,HU,by simp,by rw [Cn]; exact b2,Rf.begun _ _ hg2 _⟩ (by omega)
 obtain ⟨p1,ks',p2,p3,p4,p5⟩:=e2;exact ⟨t,ks',e1,p2,p3,p4,p1,p5⟩
def tp (c:ai) (h:Nat):Nat:=(c.Row - h+1).toNat
theorem GK (h:Pv C s k g W q ks) (a b:Int):fy q a b=some ⟨rs q.L (tp (hc q.At W ks.length) (sd b)) (sd a) (sd b),⟨(hc q.At W ks.length).Row - tp (hc q.At W ks.length) (sd b),min (hc q.At W ks.length).Col ((sd a:Int) - 1),false⟩,q.Auto⟩:=by
 have hd:=rN q.At h.g.w1 h.g.h1;have hl:=h.len;have hh2:=h.g.h2;have ha:=uz a;have hb:=uz b;have side:∀n:Int,ci n=some (sd n:Int):=fun n=>by
  unfold ci;by_cases h1:n < 1
  ·rw [af (by simpa using h1)]
   congr 1
   unfold sd;omega
  ·rw [ag (by simpa using h1)];by_cases h2:n > 1024
   ·rw [af (by simpa using h2)]
    congr 1
    unfold sd;omega
   ·rw [ag (by simpa using h2)]
    congr 1
    unfold sd;omega
 unfold fy;rw [nN h];generalize hc q.At W ks.length=c at *;have hr:=hd.rr;simp only [bsm,side];obtain ⟨t,e1,e2⟩:=dY (σ:=(List ah)×Int) (τ:=((List ah)×Int)) (n:=tp c (sd b)) (fuel:=(c.Row - (sd b:Int)).toNat+2) (s:=(q.L,c.Row))
  (fun i q2=>q2=(q.L.drop i,c.Row - i)) (fun t=>t=(q.L.drop (tp c (sd b)),c.Row - tp c (sd b)))
  (step:=fun s_25=>
 if (decide (s_25.2≥(sd b:Int)))=true then
 (slc s_25.1 1 s_25.1.length).bind fun x_32=>
 some (.inl (x_32,(w64 (s_25.2 - 1))))
 else
 some (.inr (s_25.1,s_25.2)))
  (fun i q2 hi e=>by
   subst e;refine .inl ⟨_,?_,rfl⟩;unfold tp at hi;have hd:decide (c.Row - (i:Int)≥(sd b:Int))=true:=by simp; omega
   simp only [hd,bF];rw [show (1:Int)=((1:Nat):Int) from rfl,sx (by simp; omega) (ao _),aN (by omega)];simp only [bsm,dk];rw [aT (by simp; omega)]
   congr 3
   omega)
  (fun q2 e=>⟨q2,by
   subst e;have hd:decide (c.Row - (tp c (sd b):Int)≥(sd b:Int))=false:=by
    unfold tp;simp;omega
   simp only [hd,ak,aY],e⟩)
  (by simp) (by unfold tp; omega)
 subst e2;rw [e1];simp only [bsm];obtain ⟨t,e3,e4⟩:=dY (σ:=(List ah)×Int) (τ:=(List ah)) (n:=sd b) (fuel:=((sd b:Int) - 0).toNat+1) (s:=(([]:List ah),0))
  (fun i q2=>q2=((rs q.L (tp c (sd b)) (sd a) (sd b)).take i,(i:Int))) (fun t=>t=rs q.L (tp c (sd b)) (sd a) (sd b))
  (step:=fun s_45=>
 if (decide (s_45.2 < (sd b:Int)))=true then
 (if (decide (s_45.2 < ((q.L.drop (tp c (sd b))).length:Int)))=true then
 (idx (q.L.drop (tp c (sd b))) s_45.2).bind fun x_60=>
 (some (x_60.Cells):Option ((List aa)))
 else
 (some (([]:List aa)):Option ((List aa)))).bind fun z_52=>
 (fB z_52 (sd a:Int)).bind fun x_68=>
 (app s_45.1 ([(⟨x_68,false⟩:ah)]:List ah)).bind fun x_71=>
 some (.inl (x_71,(w64 (s_45.2+1))))
 else
 some (.inr (s_45.1)))
  (fun i q2 hi e=>by
   subst e;refine .inl ⟨_,?_,rfl⟩;have e5:w64 ((i:Int)+1)=((i+1:Nat):Int):=by rw [aN (by omega)]; simp
   have hd:decide ((i:Int) < (sd b:Int))=true:=by simp; exact hi
   have hz:(if (decide ((i:Int) < ((q.L.drop (tp c (sd b))).length:Int)))=true then (idx (q.L.drop (tp c (sd b))) (i:Int)).bind fun x_60=>(some (x_60.Cells):Option ((List aa))) else (some (([]:List aa)):Option ((List aa))))=some (cs q.L (tp c (sd b)+i)):=by
    by_cases ho:i < (q.L.drop (tp c (sd b))).length
    ·rw [af (by simpa using ho),bp ho];have ho2:tp c (sd b)+i < q.L.length:=by simp at ho; omega
     rw [Dg ho2];simp only [bsm,List.getElem_drop]
    ·rw [ag (by simpa using ho),zQ (by simp at ho; omega)]
   simp only [hd,bF,e5];rw [hz];simp only [bsm];have hcl:(cs q.L (tp c (sd b)+i)).length≤1000000:=by
    by_cases ho:tp c (sd b)+i < q.L.length
    ·rw [Dg ho,(h.ok _ (aJ ho)).2];have:=h.g.w2;omega
    ·rw [zQ (by omega)];simp
   rw [zF _ hcl ha.1 ha.2];simp only [bsm];have hlt:i < (rs q.L (tp c (sd b)) (sd a) (sd b)).length:=by simp [rs]; exact hi
   rw [cY (by simp; omega),ax hlt];simp [rs])
  (fun q2 e=>⟨q2.1,by subst e; simp,by subst e; simp only; rw [aT (by simp [rs])]⟩)
  (by simp) (by omega)
 subst e4;rw [e3];simp only [bsm];rw [aN (by omega),dF]
theorem DS (h:Pv C s k g W q ks) (a b:Int):∃s' q' g' ks',jY s (some k) a b=some s'∧fy q a b=some q'∧Pv C s' k g' (sd a) q' ks'∧q'.L=rs q.L (tp (hc q.At W ks.length) (sd b)) (sd a) (sd b)∧Hd q'.At (sd a) (sd b):=by
 have hd:=rN q.At h.g.w1 h.g.h1;have hh2:=h.g.h2;have ha:=uz a;have hb:=uz b;have sdd:∀n:Int,aW 1 (aO n 1024)=(sd n:Int):=fun n=>by
  rw [dF,fw];unfold sd;omega
 have hc1:=oe q.At h.g.w1 h.g.w2 h.g.h1 h.g.h2;have h39:=GK h a b;generalize hc q.At W ks.length=c at *;have hr:=hd.rr;have hcc:=hd.cc;have etp:aW 0 (w64 ((w64 (c.Row - (sd b:Int)))+1))=(tp c (sd b):Int):=by
  rw [aN (n:=c.Row - (sd b:Int)) (by omega),aN (by omega),fw];unfold tp;omega
 obtain ⟨s',ks',e1,g1,g2,g3,g4,g5⟩:=A3 h ha.1 ha.2 hb.1 hb.2 (top:=tp c (sd b)) (by unfold tp; omega) rfl;have hgn:=yC (s:=s) (sd a:Int) (sd b:Int);rw [Ap ha.1 ha.2,Ap hb.1 hb.2] at hgn;have hp':s'.place_Pen[k]? = some ⟨some g,q.At,q.Auto⟩:=by rw [jM g4]; exact h.p
 have hmv:gN (c.Row - (tp c (sd b):Int)) c.Col (sd a:Int) (sd b:Int)=some ⟨c.Row - tp c (sd b),min c.Col ((sd a:Int) - 1),false⟩:=by
  unfold gN;rw [oe _ ha.1 ha.2 hb.1 hb.2];simp only [bsm,hc,aM,ai.mk.injEq,lv,zj];unfold tp;omega
 refine ⟨(s'.sp k ⟨some s.grid_Grid.length,q.At,q.Auto⟩).sp k ⟨some s.grid_Grid.length,⟨c.Row - tp c (sd b),min c.Col ((sd a:Int) - 1),false⟩,q.Auto⟩,_,s.grid_Grid.length,ks',?_,h39,?_,rfl,⟨by simp only; unfold tp; omega,by simp only; omega,fun e=>by cases e⟩⟩
 ·unfold jY;simp only [bG,fM,bsm,h.p,ak,aY];rw [ii h.g,dZ h.g];simp only [bsm,sdd];rw [hc1];simp only [bsm];rw [hgn];simp only [bsm,etp];rw [e1];simp only [bsm,hp'];rw [gF (cD hp')];simp only [bsm];rw [aN (by unfold tp; omega),hmv];simp only [bsm];rw [gF (by simp [Sto.sp]; exact cD hp')];rfl
 ·rw [wh];exact ⟨wN (cD hp'),g1.sp _ _,g2,g3,(qe g4).trans h.o,(h.f.step g5 (jM g4)).sp _⟩
end Go.Proofs.YtidapncdmjppeaaGreatDoor
namespace Go.Proofs.YtidapncdmjppeaaGreatDoor
open Go Go.Lt
variable {s C:Sto} {x f k g W H:Nat} {q P:ae} {ks:List Nat} {op:Option Nat}
structure Mo where
 P:ae
 G:List Int
 h:List Int
structure Sd (C s:Sto) (x f k:Nat) (m:Mo) (q:ae):Prop where
 sc:s.screen_Screen[x]? = some ⟨some f,some k⟩
 bt:Bts m.h
 fd:∃g W H ks op,Fd C s f k g W H m.P m.G m.h q ks op
def lay (P:ae) (G:List Int):Option ae:=fo uK P (cls pj pr G)
def mdo (m:Mo) (o:bv):Option Mo:=
 if o.Kind=0 then some ⟨m.P,m.G++(gG m.h o.Bytes).1,(gG m.h o.Bytes).2⟩
 else if o.Kind=1 then (lay m.P (m.G++(if m.h= [] then [] else [65533]))).map fun q=>⟨q,[],[]⟩
 else if o.Kind=13 then (lay m.P m.G).bind fun q=>(fy q o.A o.B).map fun q'=>⟨q',[],m.h⟩
 else if w38 o=0 then (lay m.P m.G).bind fun q=>(kv q o).map fun q'=>⟨q',[],m.h⟩
 else some m
def w40 (o:bv):Int:=if o.Kind=0∨o.Kind=1∨o.Kind=13 then 0 else w38 o
def e40 (o:bv):Er:=if o.Kind=0∨o.Kind=1∨o.Kind=13 then Er.nil else e38 o
theorem Fd.pen_work {h:List Int} (F:Fd C s f k g W H P [] h q ks none) {s':Sto} {g' W':Nat} {q':ae} {ks':List Nat} (v:Pv s s' k g' W' q' ks') (hh:Hd q'.At W' ks'.length):Fd C s' f k g' W' ks'.length q' [] h q' ks' none:=by
 obtain ⟨d,hd,hdv⟩:=F.d;refine ⟨v.self,F.fr.trans F.v.oG F.v.oR v.f,F.fz.oth v.o,rfl,hh,rfl,F.gv,⟨d,?_,hdv⟩,fun _=>rfl,fun e=>by cases e⟩;rw [oz v.o];exact hd
theorem A7 {m:Mo} (S:Sd C s x f k m q) (o:bv) (hb:Bts o.Bytes) (hl:o.Bytes.length≤9223372036854775807):∃s' m' q',fS s (some x) o=some (s',e40 o)∧mdo m o=some m'∧Sd C s' x f k m' q':=by
 obtain ⟨g,W,H,ks,op,F⟩:=S.fd;have hC:C.screen_Screen[x]? = some ⟨some f,some k⟩:=by rw [←F.fz.sc]; exact S.sc
 have hs:∀{s':Sto} {g W H:Nat} {P:ae} {G h:List Int} {q:ae} {ks:List Nat} {op:Option Nat},Fd C s' f k g W H P G h q ks op→s'.screen_Screen[x]? = some ⟨some f,some k⟩:=fun F'=>by rw [F'.fz.sc]; exact hC
 unfold fS mdo e40;simp only [bG,ak,aY,bsm,aX,S.sc];by_cases k0:o.Kind=0
 ·obtain ⟨s',q',ks',op',b1,b2⟩:=BB F S.bt hl hb;rw [af k0,af k0,af (.inl k0),b1];exact ⟨s',_,q',rfl,rfl,hs b2,wo S.bt hb,⟨_,_,_,_,_,b2⟩⟩
 rw [ag k0,ag k0];by_cases k1:o.Kind=1
 ·obtain ⟨s',q',ks',b1,b2,b3⟩:=BA F;rw [af k1,af k1,af (.inr (.inl k1)),b1];unfold lay;rw [b3];exact ⟨s',_,q',rfl,rfl,hs b2,Bts.nil,⟨_,_,_,_,_,b2⟩⟩
 rw [ag k1,ag k1];by_cases k13:o.Kind=13
 ·obtain ⟨s2,b1,b2⟩:=sP F;obtain ⟨s',q',g',ks',c1,c2,c3,c4,c5⟩:=DS b2.v o.A o.B;have hkl:ks'.length=sd o.B:=by rw [←c3.len,c4]; simp [rs]
  rw [af k13,af k13,af (.inr (.inr k13)),b1];have hl2:lay m.P m.G=some q:=F.l;simp only [bsm,hs b2,hl2];rw [c1,c2];have F2:=b2.pen_work c3 (by rw [hkl]; exact c5);exact ⟨s',_,q',rfl,rfl,hs F2,S.bt,⟨_,_,_,_,_,F2⟩⟩
 rw [ag k13,ag k13,ag (by omega),uZ];simp only [bsm,AL];by_cases hw:w38 o=0
 ·rw [ag (by simp [hw]),af hw];obtain ⟨s2,b1,b2⟩:=sP F;obtain ⟨s',q',ks',c1,c2,c3,c4,c5,_⟩:=EF b2.v o hw;rw [b1];have hl2:lay m.P m.G=some q:=F.l;simp only [bsm,hs b2,hl2];rw [c1,c2];have he:e38 o=Er.nil:=by unfold e38; rw [hw]; rfl
  have F2:=b2.pen_work c3 (by rw [c4]; exact c5);exact ⟨s',_,q',by rw [he]; rfl,rfl,hs F2,S.bt,⟨_,_,_,_,_,F2⟩⟩
 ·rw [af (by simpa using hw),ag hw];exact ⟨s,m,q,rfl,rfl,S⟩
def vw (q:ae):bh:=⟨(q.L.getD 0 dl).Cells.length,(q.L.length:Int),q.L,q.At,q.Auto⟩
theorem xY {m:Mo} (S:Sd C s x f k m q):dw s (some x)=some (vw q):=by
 obtain ⟨g,W,H,ks,op,F⟩:=S.fd;unfold dw vw;simp only [bG,ak,aY,bsm,S.sc,F.v.p];rw [ii F.v.g,dZ F.v.g,zK F.v.g,F.v.l];simp only [bsm];have hl:=F.v.len;have h1:=F.v.g.h1;rw [gdl (show 0 < q.L.length by omega),(F.v.ok _ (aJ (show 0 < q.L.length by omega))).2,hl]
theorem Sd.ok {m:Mo} (S:Sd C s x f k m q):∃W:Nat,1≤W∧W≤1024∧1≤q.L.length∧q.L.length≤1024∧(∀l∈q.L,Okl W l)∧(vw q).Wide=(W:Int)∧Hd q.At W q.L.length:=by
 obtain ⟨g,W,H,ks,op,F⟩:=S.fd;have hl:=F.v.len;have h1:=F.v.g.h1;have h2:=F.v.g.h2;refine ⟨W,F.v.g.w1,F.v.g.w2,by omega,by omega,F.v.ok,?_,by rw [hl,F.n]; exact F.hd⟩;unfold vw;rw [gdl (show 0 < q.L.length by omega),(F.v.ok _ (aJ (show 0 < q.L.length by omega))).2]
theorem zz (s:Sto) (w h:Int):∃s',jN s w h=some (s',some s.screen_Screen.length)∧Sd s' s' s.screen_Screen.length s.feed_Feeder.length s.place_Pen.length ⟨⟨bls (sd w) (sd h),⟨0,0,false⟩,true⟩,[],[]⟩ ⟨bls (sd w) (sd h),⟨0,0,false⟩,true⟩:=by
 obtain ⟨s1,ks,h1,v1⟩:=Bm (s:=s) w h;have hks:=v1.g.h1;have hW1:=v1.g.w1;obtain ⟨s2,h2,d2,e2⟩:=C9 v1.self ⟨by simp only; omega,by simp only; omega,fun e=>by cases e⟩;unfold jN;rw [h1];simp only [bsm];rw [h2];simp only [bsm];have es:s1.screen_Screen=s.screen_Screen:=wZ v1.o;have ef:s1.feed_Feeder=s.feed_Feeder:=oz v1.o;have es2:s2.screen_Screen=s1.screen_Screen:=by rw [e2]; rfl
 rw [es2,es,ef];rw [ef] at d2;refine ⟨_,rfl,⟨?_,Bts.nil,⟨s.grid_Grid.length,sd w,ks.length,ks,none,?_⟩⟩⟩
 ·have:(s2.add_screen_Screen ⟨some s.feed_Feeder.length,some s.place_Pen.length⟩).screen_Screen=s2.screen_Screen++ [⟨some s.feed_Feeder.length,some s.place_Pen.length⟩]:=rfl;rw [this,es2,es];simp
 ·obtain ⟨d,hd,hdv⟩:=d2.d;refine ⟨⟨d2.v.p,⟨d2.v.g.g,d2.v.g.r,d2.v.g.h1,d2.v.g.h2,d2.v.g.w1,d2.v.g.w2⟩,d2.v.nd,d2.v.l,rfl,d2.v.f.rgp ⟨rfl,rfl,rfl⟩ ⟨rfl,rfl,rfl⟩⟩,d2.v.f.rgp ⟨rfl,rfl,rfl⟩ ⟨rfl,rfl,rfl⟩,Fz.self _ _ _ (fun y hy=>?_) (cD hd),rfl,d2.hd,rfl,fun y hy=>by simp at hy,⟨d,hd,hdv⟩,fun _=>rfl,fun e=>by cases e⟩;have hy':s2.feed_Feeder[s.feed_Feeder.length]? = some y:=hy;rw [hd] at hy';cases hy';rfl
end Go.Proofs.YtidapncdmjppeaaGreatDoor
namespace Go.Proofs.YtidapncdmjppeaaGreatDoor
open Go Go.Lt
theorem CF {γ:Type} {x:Option (γ×Bool)} (h:x.map (fun q=>q.2)=some true):∃s,x=some (s,true):=by
 cases x with
 | none=>cases h
 | some q=>
  obtain ⟨a,b⟩:=q;simp only [fk,aM] at h;subst h;exact ⟨a,rfl⟩
theorem FI {f:Sto→Option (Sto×Bool)} {s:Sto} (h1:(f s).map (fun q=>q.2)=some true) (h2:((f s).bind fun q=>f q.1).map (fun q=>q.2)=some true):∃s1 s2,f s=some (s1,true)∧f s1=some (s2,true):=by
 obtain ⟨s1,e1⟩:=CF h1;rw [e1] at h2;obtain ⟨s2,e2⟩:=CF h2;exact ⟨s1,s2,e1,e2⟩
theorem wf8 {n:Int} (h:(Lit.int .u8 n).wf=true):0≤n∧n≤255:=by
 simp only [Lit.wf,IntKind.min,IntKind.max,IntKind.signed,IntKind.bits,aw,an,ak,aY] at h;omega
end Go.Proofs.YtidapncdmjppeaaGreatDoor
namespace Go.Proofs.YtidapncdmjppeaaGreatDoor
open Go Go.Lt
variable {s C:Sto} {x f k g W H:Nat} {q P:ae} {ks:List Nat} {op:Option Nat}
def Obs (l:List bv):Prop:=∀o∈l,Bts o.Bytes∧o.Bytes.length≤9223372036854775807
theorem vH {α:Type} (f:α→Nat) {l:List α} {i:Nat} (h:i < l.length):((l.take (i+1)).map f).sum=((l.take i).map f).sum+f l[i]:=by
 rw [ax h,bA,oL];simp
end Go.Proofs.YtidapncdmjppeaaGreatDoor
namespace Go.Proofs.YtidapncdmjppeaaGreatDoor
open Go Go.Lt
variable {s C:Sto} {x f k:Nat} {q q':ae} {m m':Mo}
def zd (l:List bv):Nat:=(l.map fun o=>o.Bytes.length).sum
theorem Bz (l:List bv) (hl:l.length≤9223372036854775807) (hb:∀o∈l,o.Bytes.length≤4611686018427387904):∃t,eJ l=some t∧(t=false→l.length≤50∧zd l≤600):=by
 unfold eJ;refine kA (σ:=Int×Int) (τ:=Bool ⊕ Unit) (n:=min l.length 60) (fun i (s:Int×Int)=>s=((zd (l.take i):Int),(i:Int))∧zd (l.take i)≤600) (fun u=>match u with | .inl b=>b=true | .inr _=>zd (l.take (min l.length 60))≤600) (fun i s hi e=>?_) (fun s e=>?_) ⟨rfl,by simp [zd]⟩ (by omega) (fun u hu=>?_)
 ·obtain ⟨rfl,hs⟩:=e;have hil:i < l.length:=by omega
  have hbi:=hb _ (aJ hil);have e1:zd (l.take (i+1))=zd (l.take i)+l[i].Bytes.length:=vH (fun o:bv=>o.Bytes.length) hil;simp only [aV,bsm];rw [af (by simp; omega),bp hil];simp only [bsm,aV,bQ];rw [aN (n:=(zd (l.take i):Int)+(l[i].Bytes.length:Int)) (by omega),aN (n:=(i:Int)+1) (by omega)];split
  ·exact .inr ⟨_,rfl,rfl⟩
  ·rename_i hn
   simp only [aF,an,CH] at hn;exact .inl ⟨_,rfl,by rw [e1]; simp,by rw [e1]; omega⟩
 ·obtain ⟨rfl,hs⟩:=e;simp only [aV,bsm];rw [ag (by simp; omega)];exact ⟨_,rfl,hs⟩
 ·cases u with
  | inl b=>simp only at hu; exact ⟨b,rfl,fun h=>by rw [hu] at h; cases h⟩
  | inr u=>
   refine ⟨_,rfl,fun h=>?_⟩;have h1:l.length≤50:=by simp at h; omega
   rw [aT (by omega)] at hu;exact ⟨h1,hu⟩
def mr (m:Mo) (l:List bv):Option Mo:=l.foldl (fun a o=>a.bind fun m=>mdo m o) (some m)
theorem Ei (m:Mo) {l:List bv} {i:Nat} (h:i < l.length):mr m (l.take (i+1))=(mr m (l.take i)).bind fun m=>mdo m l[i]:=by
 rw [ax h];unfold mr;rw [gu];rfl
def Non (l:List bv) (n:Nat):Prop:=∀j o,j < n→l[j]? = some o→w40 o=0
def Fst (l:List bv) (n j:Nat) (o:bv):Prop:=j < n∧l[j]? = some o∧w40 o≠0∧Non l j
def Fe (l:List bv) (n:Nat) (e:Er):Prop:=(e= .nil∧Non l n)∨∃j o,Fst l n j o∧e= .fault (j:Int) (e40 o)
theorem Non.zero (l:List bv):Non l 0:=fun j o h=>by omega
theorem Non.succ {l:List bv} {i:Nat} (h:Non l i) (hi:i < l.length) (hw:w40 l[i]=0):Non l (i+1):=fun j o hj ho=>by
 by_cases e:j=i
 ·subst e;rw [ab hi] at ho;cases ho;exact hw
 ·exact h j o (by omega) ho
theorem Fst.succ {l:List bv} {i j:Nat} {o:bv} (h:Fst l i j o):Fst l (i+1) j o:=⟨HT h.1,h.2⟩
theorem Fst.new {l:List bv} {i:Nat} (h:Non l i) (hi:i < l.length) (hw:w40 l[i]≠0):Fst l (i+1) i l[i]:=⟨HX i,ab hi,hw,h⟩
theorem EH (o:bv):(e40 o).isNil=(w40 o==0):=by
 unfold e40 w40;split
 ·rfl
 ·exact AL o
theorem zy (S:Sd C s x f k m q) (l:List bv) (hl:l.length≤9223372036854775807) (hb:Obs l):
  ∃s' e m' q',eD s (some x) l=some (s',e)∧mr m l=some m'∧Sd C s' x f k m' q'∧Fe l l.length e:=by
 suffices h:∃r,eD s (some x) l=some r∧(∃m' q',mr m l=some m'∧Sd C r.1 x f k m' q'∧Fe l l.length r.2) by
  obtain ⟨r,h1,m',q',h2,h3,h4⟩:=h;exact ⟨r.1,r.2,m',q',h1,h2,h3,h4⟩
 unfold eD;refine kA (n:=l.length) (fun i (a:Er×Int×Sto)=>a.2.1=(i:Int)∧∃m' q',mr m (l.take i)=some m'∧Sd C a.2.2 x f k m' q'∧Fe l i a.1)
  (fun (u:Er×Sto)=>∃m' q',mr m l=some m'∧Sd C u.2 x f k m' q'∧Fe l l.length u.1) (fun i a hi hI=>?_) (fun a hI=>?_) ⟨rfl,m,q,rfl,S,.inl ⟨rfl,Non.zero l⟩⟩ (by omega) (fun u hu=>⟨_,rfl,hu⟩)
 ·obtain ⟨e,i',st⟩:=a;obtain ⟨e1,m1,q1,hm,S1,hF⟩:=hI;simp only at e1 S1 hF;subst e1;simp only;rw [af (dlt hi),dL hi hl];obtain ⟨hb1,hb2⟩:=hb _ (aJ hi);obtain ⟨s',m2,q2,a1,a2,a3⟩:=A7 S1 l[i] hb1 hb2;simp only [bp hi,bsm];rw [a1];simp only [bsm,aV,EH];have hm2:mr m (l.take (i+1))=some m2:=by rw [Ei m hi,hm]; exact a2
  rcases hF with ⟨rfl,hn⟩ | ⟨j,o,h1,rfl⟩
  ·by_cases hw:w40 l[i]=0
   ·rw [ag (by simp [hw])];exact .inl ⟨_,rfl,rfl,m2,q2,hm2,a3,.inl ⟨rfl,hn.succ hi hw⟩⟩
   ·rw [af (by simp [hw,Er.isNil])];exact .inl ⟨_,rfl,rfl,m2,q2,hm2,a3,.inr ⟨i,l[i],Fst.new hn hi hw,rfl⟩⟩
  ·rw [ag (by simp [Er.isNil])];exact .inl ⟨_,rfl,rfl,m2,q2,hm2,a3,.inr ⟨j,o,h1.succ,rfl⟩⟩
 ·obtain ⟨e,i',st⟩:=a;obtain ⟨e1,m1,q1,hm,S1,hF⟩:=hI;simp only at e1 S1 hF;subst e1;refine ⟨_,by simp only; rw [ag (by simp)],m1,q1,?_,S1,hF⟩;rw [←hm,dW]
end Go.Proofs.YtidapncdmjppeaaGreatDoor
namespace Go.Proofs.YtidapncdmjppeaaGreatDoor
open Go Go.Lt
theorem F3 (a:List (List Int)×List Int) (A B:List ah):gW a (A++B)=gW (gW a A) B:=by
 unfold gW;rw [gu]
structure Rfo (W:Nat) (long:List (List aD)) (i:Nat) (m:List ah):Prop where
 g:gW ([],[]) m=((long.take i).map bri,[])
 la:∀q:m≠ [],(m.getLast q).Wrap=false
 ok:∀l∈m,l.Cells.length≤W∧Rgs l.Cells
 n:m.length≤nit (long.take i)+i
theorem FK (l:List (List aD)) (i:Nat):nit (l.take i)≤nit l:=by
 conv=>rhs; rw [←iE i l,ul]
 omega
theorem Bf (s:Sto) {W:Nat} (hW:W≤1024) (hW2:2≤W) {w:Int} (hw:aW 1 (aO w 1024)=(W:Int)) {L:List ah} (h:∀l∈L,Snd l.Cells∧l.Cells.length≤60) (hn:L.length≤60):
  ∃s' m,ir s L w=some (s',m,Er.nil)∧gW ([],[]) m=((gB L L.length).1,[])∧(∀q:m≠ [],(m.getLast q).Wrap=false)∧(∀l∈m,l.Cells.length≤W∧Rgs l.Cells)∧m.length≤3660:=by
 obtain ⟨long,l1,l2,l3,l4,l5⟩:=Ek h hn
 suffices q:∃r,ir s L w=some r∧r.2.2=Er.nil∧Rfo W long long.length r.2.1 by
  obtain ⟨r,h1,h2,h3⟩:=q;have h4:=h3.g;have h5:=h3.n;rw [dW] at h4 h5;exact ⟨r.1,r.2.1,by rw [h1,←h2],by rw [h4,l2],h3.la,h3.ok,by omega⟩
 unfold ir;rw [l1,bsm];simp only [Er.isNil,cW,ak,aY];refine kA (n:=long.length) (fun i (a:List ah×Int×Sto)=>a.2.1=(i:Int)∧Rfo W long i a.1) (fun u=>∃m st,u= .inr (m,st)∧Rfo W long long.length m) (fun i a hi hI=>?_) (fun a hI=>?_) ⟨rfl,⟨rfl,fun q=>absurd rfl q,fun l h=>(by cases h),db _⟩⟩ (by omega) (fun u hu=>?_)
 ·obtain ⟨m,i',st⟩:=a;obtain ⟨e1,hR⟩:=hI;simp only at e1 hR;subst e1
  left
  have hx:=l3 _ (aJ hi);have hni:nit (long.take (i+1))=nit (long.take i)+long[i].length:=by rw [ax hi,ul,xa]
  have hnl:=FK long (i+1);have hRn:=hR.n;obtain ⟨s2,R,b1,b2,b3,b4⟩:=Dt st hW hW2 hw long[i] hx (by omega);simp only;rw [af (dlt hi),bp hi,bsm,b1,bsm];simp only [Er.isNil,cW,ak,aY];rw [cY (by omega),bsm,dL hi (by omega)];refine ⟨_,rfl,rfl,?_,fun q=>?_,fun l hl=>?_,?_⟩
  ·simp only;rw [F3,hR.g,FZ b2,ax hi,bA];rfl
  ·obtain ⟨A,z,rfl,_,hz⟩:=b2.ex;simp only at q⊢;have e:∀(X:List ah) (q:X≠ []),X=(m++A)++ [z]→(X.getLast q).Wrap=false:=by
    intro X q e;subst e;simpa using hz
   exact e _ q (aI ..).symm
  ·rcases List.mem_append.1 hl with q | q
   ·exact hR.ok l q
   ·exact b3 l q
  ·simp only [aj];omega
 ·obtain ⟨m,i',st⟩:=a;obtain ⟨e1,hR⟩:=hI;simp only at e1 hR;subst e1;exact ⟨_,by simp only; rw [ag (by simp)],m,st,rfl,hR⟩
 ·obtain ⟨m,st,rfl,hR⟩:=hu;exact ⟨_,rfl,rfl,hR⟩
theorem Ds {c:List aa} (h:Rgs c):oZ c≤17 * c.length:=by
 unfold oZ
 induction c with
 | nil=>simp
 | cons x c ih=>
  have h1:x.Text.length≤16:=by
   rcases lU (h x mj) with ⟨_,a⟩ | ⟨_,a⟩ | ⟨_,_,a,_⟩
   ·rw [a]; simp
   ·rw [a]; simp
   ·exact a
  have h2:=ih fun y hy=>h y (iW _ hy);simp only [eB,kk,az];omega
theorem wE {L:List ah} {W:Nat} (hW:W≤100) (h:∀l∈L,l.Cells.length≤W∧Rgs l.Cells):pW L≤1700 * L.length:=by
 unfold pW
 induction L with
 | nil=>simp
 | cons x L ih=>
  obtain ⟨h0,h1⟩:=h x mj;have h2:=Ds h1;have h3:=ih fun y hy=>h y (iW _ hy);simp only [eB,kk,az];omega
set_option maxRecDepth 100000 in
theorem Fp:(dV ⟨[],[],[],[],[],[],[],[],[]⟩).map (fun q=>q.2)=some true:=by kernel_rfl
set_option maxRecDepth 100000 in
theorem Fo:((dV ⟨[],[],[],[],[],[],[],[],[]⟩).bind fun q=>dV q.1).map (fun q=>q.2)=some true:=by kernel_rfl
theorem tR (d:dz) (l:List bv) (w:Int) (hl:l.length≤9223372036854775807) (hb:Obs l) (hs:∀o∈l,o.Bytes.length≤4611686018427387904):∃st,dM ⟨[],[],[],[],[],[],[],[],[]⟩ d l w=some (st,true):=by
 unfold dM;obtain ⟨s1,s2,h1,h2⟩:=FI Fp Fo;obtain ⟨t,ht,ht2⟩:=Bz l hl hs;rw [h1];simp only [bsm,cW,fM,ht];by_cases hg:t=true
 ·rw [af hg,h2];exact ⟨_,rfl⟩
 rw [ag hg];unfold gV;obtain ⟨s3,h3,S3⟩:=zz s1 (w64 (1+(w64 ((IntKind.u64.wrap d.W).tmod 10)))) (w64 (1+(w64 ((IntKind.u64.wrap d.H).tmod 6))));obtain ⟨s4,e,m1,q1,a1,a2,S4,a4⟩:=zy S3 l hl hb;rw [h3];simp only [bsm,a1,xY S4];obtain ⟨W0,w1,w2,n1,n2,hk,hwd,_⟩:=S4.ok;have hh:(vw q1).High=(q1.L.length:Int):=rfl;have hL0:(vw q1).Lines=q1.L:=rfl;generalize hv:vw q1=v at *;unfold gU;rw [aV,bsm,bsm,bQ,bsm];by_cases hsm:(!(decide (v.Wide≤60) && decide (v.High≤60)) || decide (v.Wide < 2))=true
 ·rw [af hsm];exact ⟨_,rfl⟩
 rw [ag hsm];simp only [aF,em,ug,gp,an,CH,Classical.not_not] at hsm;obtain ⟨⟨g1,g2⟩,g3⟩:=hsm;have hLn:v.Lines.length≤60:=by rw [hL0]; omega
 have hc:∀x∈v.Lines,Snd x.Cells∧x.Cells.length=W0:=fun x hx=>hk x (by rw [←hL0]; exact hx);refine wx (n:=v.Lines.length) (fun i a=>a=(i:Int)) (fun u=>u= .inl (s4,true)∨u= .inr ()) (fun i a hi hI=>?_) (fun a hI=>?_) rfl (by omega) (fun u hu=>?_)
 ·subst hI;have hx:=hc _ (aJ hi);obtain ⟨t,it1,it2⟩:∃t,cO (σ:=Int) (τ:=(Sto×Bool) ⊕ Unit) ((v.Wide - 0).toNat+1) (fun i_1=>
    if (decide (i_1 < v.Wide))=true then
    (idx v.Lines (i:Int)).bind fun u=>
    (idx u.Cells i_1).bind fun v_1=>
    (bL (v_1.Kind==0) ((idx v.Lines (i:Int)).bind fun w=>
    some w.Wrap)).bind fun r=>
    (bL r (some (decide ((w64 (i_1+1)) < v.Wide)))).bind fun s=>
    if s=true then
    some (.inr (.inl (s4,true)))
    else
    some (.inl ((w64 (i_1+1))))
    else
    some (.inr (.inr ()))) (0)=some t∧(t= .inl (s4,true)∨t= .inr ()):=by
   refine dY (n:=W0) (fun j b=>b=(j:Int)) _ (fun j b hj e=>?_) (fun b e=>?_) rfl (by rw [hwd]; omega)
   ·subst e;have hj2:j < v.Lines[i].Cells.length:=by omega
    rw [af (by rw [an,hwd]; omega),bp hi,bsm,bp hj2,bsm,bsm,aV,bsm,aV,bsm,dL hj (by omega)];split
    ·exact .inr ⟨_,rfl,.inl rfl⟩
    ·exact .inl ⟨_,rfl,rfl⟩
   ·subst e;exact ⟨_,by rw [ag (by rw [an,hwd]; omega)],.inr rfl⟩
  rw [af (dlt hi),it1,bsm];rcases it2 with rfl | rfl
  ·exact .inr ⟨_,rfl,.inl rfl⟩
  ·exact .inl ⟨_,rfl,dL hi (by omega)⟩
 ·subst hI;exact ⟨_,by rw [ag (by simp)],.inr rfl⟩
 rcases hu with rfl | rfl
 ·exact ⟨s4,rfl⟩
 simp only;obtain ⟨W,hW,hW1,hW2⟩:∃W:Nat,w64 (2+w64 ((IntKind.u64.wrap w).tmod 20))=(W:Int)∧2≤W∧W≤21:=by
  have hu:=Fg w;generalize IntKind.u64.wrap w=u at hu;rw [DK hu.1,aN (n:=u % 20) (by omega),aN (by omega)];exact ⟨(2+u % 20).toNat,by omega,by omega,by omega⟩
 rw [hW];obtain ⟨s5,m,r1,r2,r3,r4,r5⟩:=Bf s4 (W:=W) (by omega) hW1 (w:=(W:Int)) (by rw [dF,fw]; omega) (fun x hx=>⟨(hc x hx).1,by have:=(hc x hx).2; omega⟩) hLn;rw [r1,bsm];simp only [Er.isNil,cW,ak,aY];have hvr:∀x∈v.Lines,x.Cells.length≤W0∧Rgs x.Cells:=fun x hx=>⟨by have:=(hc x hx).2; omega,(hc x hx).1.rgs⟩;have hbv:=wE (W:=W0) (by omega) hvr;have hbm:=wE (W:=W) (by omega) r4;have hA:=CN v (by omega) (by omega);have hB:=Bh ⟨0,0,m,⟨0,0,false⟩,false⟩ (by simp only; omega) (by simp only; omega);simp only at hB;rw [hA,bsm,hB,bsm];have sA:=(zx (fun x hx=>(hvr x hx).2) v.Lines.length (ao _)).1;have sB:=(zx (fun x hx=>(r4 x hx).2) m.length (ao _)).1;rw [E7 r3 m.length (ao _),dW,r2] at sB;have hAB:(stL v.Lines v.Lines.length).1.map brt=(stL m m.length).1.map brt:=by rw [sA,sB]
 have lA:=uw (L:=v.Lines) v.Lines.length (ao _);have lB:=uw (L:=m) m.length (ao _);rw [dW] at lA lB;generalize (stL v.Lines v.Lines.length).1=A at *;generalize (stL m m.length).1=B at *;have hlen:A.length=B.length:=by
  have:=kW List.length hAB;simpa using this
 have hm:∀{Z:List (List Int)} {i:Nat} (hi:i < Z.length),Z[i].length≤(Z.map List.length).sum:=fun {Z i} hi=>by
  have hmm:Z[i].length∈Z.map List.length:=List.mem_map.2 ⟨_,aJ hi,rfl⟩;generalize Z.map List.length=Y at hmm
  induction Y with
  | nil=>cases hmm
  | cons x Y ih=>
   rw [kk];rcases List.mem_cons.1 hmm with q | q
   ·omega
   ·have:=ih q; omega
 rw [ag (by rw [hlen]; simp)];refine wx (n:=A.length) (fun i a=>a=(i:Int)) (fun u=>u= .inr ()) (fun i a hi hI=>?_) (fun a hI=>?_) rfl (by omega) (fun u hu=>?_)
 ·subst hI
  left
  have hi2:i < B.length:=by omega
  have h1:=hm hi;have h2:=hm hi2;have he:brt A[i]=brt B[i]:=by
   have:(A.map brt)[i]'(by simpa using hi)=(B.map brt)[i]'(by simpa using hi2):=by simp only [hAB]
   simpa using this
  rw [af (dlt hi),bp hi,bsm,bp hi2,bsm,AW _ (by omega),bsm,AW _ (by omega),bsm,he,ag (by simp [eqS]),dL hi (by omega)];exact ⟨_,rfl,rfl⟩
 ·subst hI;exact ⟨_,by rw [ag (by simp)],rfl⟩
 ·subst hu;exact ⟨_,rfl⟩
end Go.Proofs.YtidapncdmjppeaaGreatDoor
